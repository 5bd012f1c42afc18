/-
 Texts joined: XGe,XEu,XUt,XNb,XGf.
-/
import Derived.Test.YtjdjclecdfhciaaGreatDoorQg
import Derived.Test.YtjdjclecdfhciaaGreatDoorQh
import Derived.Test.YtjdjclecdfhciaaGreatDoorQf
namespace Go.Proofs.YtjdjclecdfhciaaGreatDoor
set_option maxRecDepth 100000
set_option maxHeartbeats 32000000
set_option linter.unusedSimpArgs false
set_option linter.unusedVariables false
open Go Go.RowKit Vm Go.Lib Tryz
open Vm renaming cond_bool→Ca,cond_bit→Cb
open And renaming intro→Ai
open List renaming length_map→Lm,not_mem_nil→Ln,map_nil→Lo,map_cons→Lc,mem_cons→Lk
open Bool renaming not_false→Bf,not_true→Bt
theorem and63 (y:Int):IntKind.u8.wrap ((BitVec.ofInt IntKind.u8.bits (IntKind.u8.wrap y) &&& BitVec.ofInt IntKind.u8.bits 63).toNat:Int)=y % 64:=by
 have key:∀ n:Fin 256,IntKind.u8.wrap ((BitVec.ofInt IntKind.u8.bits (n.val:Int) &&& BitVec.ofInt IntKind.u8.bits 63).toNat:Int)=(n.val:Int) % 64:=by decide +kernel
 have h:=key ⟨(y % 256).toNat,by omega⟩
 have e:((y % 256).toNat:Int)=y % 256:=by omega
 simp only[e]at h
 rw[IntKind.wrap_u8 y,h];omega
theorem orH {h n:Int}(hh:(h=128∧n<64)∨(h=192∧n<32)∨(h=224∧n<16)∨(h=240∧n<8))(h0:0≤n):IntKind.u8.wrap ((BitVec.ofInt IntKind.u8.bits h ||| BitVec.ofInt IntKind.u8.bits n).toNat:Int)=h+n:=by
 have k1:∀ n:Fin 64,IntKind.u8.wrap ((BitVec.ofInt IntKind.u8.bits 128 ||| BitVec.ofInt IntKind.u8.bits (n.val:Int)).toNat:Int)=128+(n.val:Int):=by decide +kernel
 have k2:∀ n:Fin 32,IntKind.u8.wrap ((BitVec.ofInt IntKind.u8.bits 192 ||| BitVec.ofInt IntKind.u8.bits (n.val:Int)).toNat:Int)=192+(n.val:Int):=by decide +kernel
 have k3:∀ n:Fin 16,IntKind.u8.wrap ((BitVec.ofInt IntKind.u8.bits 224 ||| BitVec.ofInt IntKind.u8.bits (n.val:Int)).toNat:Int)=224+(n.val:Int):=by decide +kernel
 have k4:∀ n:Fin 8,IntKind.u8.wrap ((BitVec.ofInt IntKind.u8.bits 240 ||| BitVec.ofInt IntKind.u8.bits (n.val:Int)).toNat:Int)=240+(n.val:Int):=by decide +kernel
 have e:(n.toNat:Int)=n:=by omega
 rcases hh with ⟨rfl,h1⟩|⟨rfl,h1⟩|⟨rfl,h1⟩|⟨rfl,h1⟩
 ·have:=k1 ⟨n.toNat,by omega⟩;simpa only[e] using this
 ·have:=k2 ⟨n.toNat,by omega⟩;simpa only[e] using this
 ·have:=k3 ⟨n.toNat,by omega⟩;simpa only[e] using this
 ·have:=k4 ⟨n.toNat,by omega⟩;simpa only[e] using this
theorem app_rows (bs:List UInt8)(z:Int)(rows:List (List V))(h:(encodeRune z).map byteRow=rows):bs.map byteRow++rows=(bs++encodeRune z).map byteRow:=by rw[← h,List.map_append]
theorem rK_def (bs:List UInt8):rK bs = @Blk.mk 1 (bs.map byteRow) (.typed 5):=rfl
theorem runeN_ev (z:Int)(hm:may z=true)(h0:128≤z)(y:Nat)(bs:List UInt8)(hbs:bs.length≤1000000)(M:Mem)(nm:Nat)(hy:M y=some (rK bs))(ho:∀ w,(M w).isSome=true→w∈[y])(hyn:y<nm):Ev cx 212 nm [.own y 0 bs.length,.int .i32 z] M (.own nm 0 (bs.length+(encodeRune z).length)) [(y,none),(nm,some (rK (bs++encodeRune z)))]:=by
 have hr:=may_range hm
 have hmz:=(may_iff z).1 hm
 have hw:IntKind.u32.wrap z=z:=IntWalk.u32_in _ (by omega)
 have s6:z.fdiv (2 ^ min 6 IntKind.i32.bits)=z / 64:=Int.fdiv_eq_ediv_of_nonneg z (b:=64) (by omega)
 have s12:z.fdiv (2 ^ min 12 IntKind.i32.bits)=z / 4096:=Int.fdiv_eq_ediv_of_nonneg z (b:=4096) (by omega)
 have s18:z.fdiv (2 ^ min 18 IntKind.i32.bits)=z / 262144:=Int.fdiv_eq_ediv_of_nonneg z (b:=262144) (by omega)
 have o1:=orH (h:=128) (n:=z % 64) (.inl ⟨rfl,by omega⟩) (by omega)
 have o2:=orH (h:=128) (n:=z / 64 % 64) (.inl ⟨rfl,by omega⟩) (by omega)
 have o3:=orH (h:=128) (n:=z / 4096 % 64) (.inl ⟨rfl,by omega⟩) (by omega)
 have a1:=and63 z
 have a2:=and63 (z / 64)
 have a3:=and63 (z / 4096)
 by_cases c1:z≤2047
 ·have d1:decide (z≤2047)=true:=decide_eq_true c1
  have w6:IntKind.u8.wrap (z / 64)=z / 64:=IntWalk.u8_in _ (by omega)
  have o4:=orH (h:=192) (n:=z / 64) (.inr (.inl ⟨rfl,by omega⟩)) (by omega)
  have he:=enc2 h0 c1
  have hl:(encodeRune z).length=2:=by simpa using congrArg List.length he
  have hrw:=app_rows bs z _ he
  rw[hl]
  refine ev_go rfl (fun cargs w=>call212 cargs w) func212 rfl mixed (by kernel_rfl) rfl ?_;intro b0 hb0
  have ly:y<b0:=below_of hb0 (by rw[hy];rfl)
  have y0:=lt_ne ly;have y1:=lt_ne_add ly;have y2:=lt_ne' ly;have y3:=lt_ne_add' ly
  repeat' first|simp only[fins,mems,results212,ntmps212,wks,hw,d1,s6,w6,a1,a2,a3,o1,o2,o3,o4,hy,hrw,rK_def,y0,y1,y2,y3,Lm,List.take_of_length_le,Nat.le_refl,tyT,if_true,blkT_some,one_bsI,Option.bind_some,vcs,seval,tys]|exact rfl|refine call_off (v:=.any) ?_|((first|apply Ca|apply Cb)<;>intro hb)|refine Ai (by omega) ?_|(apply Ai<;>intro hb)
  all_goals ((refine Fin.give [(b0+272,some 0)] [y] ?_ ?_ ?_ ?_ ?_ (fun q hq=>by have hqq:=ho q hq;first|(simp only[gives,tgt,Lc,Lo,Lk,Ln,or_false]at hqq ⊢;omega)|(simp only[gives,tgt,Lc,Lo,Lk,Ln,or_false]at hqq))<;>(try simp only[results212,ntmps212,wks,hw,hy,rK_def,ren_bytesI,renOk_bytesI,y0,y1,y2,y3,giv,vcs,seval,tys])<;>(try simp only[injs])<;>(try omega)))
 have d1:decide (z≤2047)=false:=decide_eq_false c1
 by_cases c2:z≤65535
 ·have d3:decide (z≤65535)=true:=decide_eq_true c2
  have w12:IntKind.u8.wrap (z / 4096)=z / 4096:=IntWalk.u8_in _ (by omega)
  have o4:=orH (h:=224) (n:=z / 4096) (.inr (.inr (.inl ⟨rfl,by omega⟩))) (by omega)
  have he:=enc3 (z:=z) (by omega)
  have hl:(encodeRune z).length=3:=by simpa using congrArg List.length he
  have hrw:=app_rows bs z _ he
  rw[hl]
  have hs:(decide (z<55296)=true)∨(decide (z<55296)=false∧decide (57343<z)=true):=by
   by_cases h:z<55296
   ·exact .inl (decide_eq_true h)
   ·exact .inr ⟨decide_eq_false h,decide_eq_true (by omega)⟩
  rcases hs with d4|⟨d4,d5⟩
  ·refine ev_go rfl (fun cargs w=>call212 cargs w) func212 rfl mixed (by kernel_rfl) rfl ?_;intro b0 hb0
   have ly:y<b0:=below_of hb0 (by rw[hy];rfl)
   have y0:=lt_ne ly;have y1:=lt_ne_add ly;have y2:=lt_ne' ly;have y3:=lt_ne_add' ly
   repeat' first|simp only[fins,mems,results212,ntmps212,wks,hw,d1,d3,d4,s6,s12,w12,a1,a2,a3,o1,o2,o3,o4,hy,hrw,rK_def,y0,y1,y2,y3,Lm,List.take_of_length_le,Nat.le_refl,tyT,if_true,blkT_some,one_bsI,Option.bind_some,vcs,seval,tys]|exact rfl|refine call_off (v:=.any) ?_|((first|apply Ca|apply Cb)<;>intro hb)|refine Ai (by omega) ?_|(apply Ai<;>intro hb)
   all_goals ((refine Fin.give [(b0+400,some 0)] [y] ?_ ?_ ?_ ?_ ?_ (fun q hq=>by have hqq:=ho q hq;first|(simp only[gives,tgt,Lc,Lo,Lk,Ln,or_false]at hqq ⊢;omega)|(simp only[gives,tgt,Lc,Lo,Lk,Ln,or_false]at hqq))<;>(try simp only[results212,ntmps212,wks,hw,hy,rK_def,ren_bytesI,renOk_bytesI,y0,y1,y2,y3,giv,vcs,seval,tys])<;>(try simp only[injs])<;>(try omega)))
  ·refine ev_go rfl (fun cargs w=>call212 cargs w) func212 rfl mixed (by kernel_rfl) rfl ?_;intro b0 hb0
   have ly:y<b0:=below_of hb0 (by rw[hy];rfl)
   have y0:=lt_ne ly;have y1:=lt_ne_add ly;have y2:=lt_ne' ly;have y3:=lt_ne_add' ly
   repeat' first|simp only[fins,mems,results212,ntmps212,wks,hw,d1,d3,d4,d5,s6,s12,w12,a1,a2,a3,o1,o2,o3,o4,hy,hrw,rK_def,y0,y1,y2,y3,Lm,List.take_of_length_le,Nat.le_refl,tyT,if_true,blkT_some,one_bsI,Option.bind_some,vcs,seval,tys]|exact rfl|refine call_off (v:=.any) ?_|((first|apply Ca|apply Cb)<;>intro hb)|refine Ai (by omega) ?_|(apply Ai<;>intro hb)
   all_goals ((refine Fin.give [(b0+512,some 0)] [y] ?_ ?_ ?_ ?_ ?_ (fun q hq=>by have hqq:=ho q hq;first|(simp only[gives,tgt,Lc,Lo,Lk,Ln,or_false]at hqq ⊢;omega)|(simp only[gives,tgt,Lc,Lo,Lk,Ln,or_false]at hqq))<;>(try simp only[results212,ntmps212,wks,hw,hy,rK_def,ren_bytesI,renOk_bytesI,y0,y1,y2,y3,giv,vcs,seval,tys])<;>(try simp only[injs])<;>(try omega)))
 ·have d3:decide (z≤65535)=false:=decide_eq_false c2
  have d4:decide (z<55296)=false:=decide_eq_false (by omega)
  have d5:decide (57343<z)=true:=decide_eq_true (by omega)
  have d6:decide (65535<z)=true:=decide_eq_true (by omega)
  have d7:decide (z≤1114111)=true:=decide_eq_true (by omega)
  have w18:IntKind.u8.wrap (z / 262144)=z / 262144:=IntWalk.u8_in _ (by omega)
  have o4:=orH (h:=240) (n:=z / 262144) (.inr (.inr (.inr ⟨rfl,by omega⟩))) (by omega)
  have he:=enc4 (z:=z) (by omega) (by omega)
  have hl:(encodeRune z).length=4:=by simpa using congrArg List.length he
  have hrw:=app_rows bs z _ he
  rw[hl]
  refine ev_go rfl (fun cargs w=>call212 cargs w) func212 rfl mixed (by kernel_rfl) rfl ?_;intro b0 hb0
  have ly:y<b0:=below_of hb0 (by rw[hy];rfl)
  have y0:=lt_ne ly;have y1:=lt_ne_add ly;have y2:=lt_ne' ly;have y3:=lt_ne_add' ly
  repeat' first|simp only[fins,mems,results212,ntmps212,wks,hw,d1,d3,d4,d5,d6,d7,s6,s12,s18,w18,a1,a2,a3,o1,o2,o3,o4,hy,hrw,rK_def,y0,y1,y2,y3,Lm,List.take_of_length_le,Nat.le_refl,tyT,if_true,blkT_some,one_bsI,Option.bind_some,vcs,seval,tys]|exact rfl|refine call_off (v:=.any) ?_|((first|apply Ca|apply Cb)<;>intro hb)|refine Ai (by omega) ?_|(apply Ai<;>intro hb)
  all_goals ((refine Fin.give [(b0+704,some 0)] [y] ?_ ?_ ?_ ?_ ?_ (fun q hq=>by have hqq:=ho q hq;first|(simp only[gives,tgt,Lc,Lo,Lk,Ln,or_false]at hqq ⊢;omega)|(simp only[gives,tgt,Lc,Lo,Lk,Ln,or_false]at hqq))<;>(try simp only[results212,ntmps212,wks,hw,hy,rK_def,ren_bytesI,renOk_bytesI,y0,y1,y2,y3,giv,vcs,seval,tys])<;>(try simp only[injs])<;>(try omega)))
theorem enc_len1 {z:Int}(h0:0≤z)(h1:z≤127):(encodeRune z).length=1:=by simpa using congrArg List.length (enc1 h0 h1)
theorem rune_ev (z:Int)(hm:may z=true)(y:Nat)(bs:List UInt8)(hbs:bs.length≤1000000)(M:Mem)(nm:Nat)(hy:M y=some (rK bs))(ho:∀ w,(M w).isSome=true→w∈[y])(hyn:y<nm):Ev cx 206 nm [.own y 0 bs.length,.int .i32 z] M (.own nm 0 (bs.length+(encodeRune z).length)) [(y,none),(nm,some (rK (bs++encodeRune z)))]:=by
 have hmz:=(may_iff z).1 hm
 have hr:=may_range hm
 have hw:IntKind.u32.wrap z=z:=IntWalk.u32_in _ (by omega)
 by_cases c1:z≤127
 ·have d1:decide (z≤127)=true:=decide_eq_true c1
  have w8:IntKind.u8.wrap z=z:=IntWalk.u8_in _ (by omega)
  have he:=enc1 hr.1 c1
  have hrw:=app_rows bs z _ he
  rw[enc_len1 hr.1 c1]
  refine ev_go rfl (fun cargs w=>call206 cargs w) func206 rfl mixed (by kernel_rfl) rfl ?_;intro b0 hb0
  have ly:y<b0:=below_of hb0 (by rw[hy];rfl)
  have y0:=lt_ne ly;have y1:=lt_ne_add ly;have y2:=lt_ne' ly;have y3:=lt_ne_add' ly
  repeat' first|simp only[fins,mems,results206,ntmps206,wks,hw,d1,w8,hy,hrw,rK_def,y0,y1,y2,y3,Lm,List.take_of_length_le,Nat.le_refl,tyT,if_true,blkT_some,one_bsI,Option.bind_some,vcs,seval,tys]|exact rfl|refine call_off (v:=.any) ?_|((first|apply Ca|apply Cb)<;>intro hb)|refine Ai (by omega) ?_|(apply Ai<;>intro hb)
  all_goals ((refine Fin.give [(b0+128,some 0)] [y] ?_ ?_ ?_ ?_ ?_ (fun q hq=>by have hqq:=ho q hq;first|(simp only[gives,tgt,Lc,Lo,Lk,Ln,or_false]at hqq ⊢;omega)|(simp only[gives,tgt,Lc,Lo,Lk,Ln,or_false]at hqq))<;>(try simp only[results206,ntmps206,wks,hw,hy,rK_def,ren_bytesI,renOk_bytesI,y0,y1,y2,y3,giv,vcs,seval,tys])<;>(try simp only[injs])<;>(try omega)))
 ·have d1:decide (z≤127)=false:=decide_eq_false c1
  refine ev_go rfl (fun cargs w=>call206 cargs w) func206 rfl mixed (by kernel_rfl) rfl ?_;intro b0 hb0
  have ly:y<b0:=below_of hb0 (by rw[hy];rfl)
  have y0:=lt_ne ly;have y1:=lt_ne_add ly;have y2:=lt_ne' ly;have y3:=lt_ne_add' ly
  repeat' first|simp only[fins,mems,results206,ntmps206,wks,hw,d1,hy,y0,y1,y2,y3,fresh_self,vcs,seval,tys]|exact rfl|refine call_off (v:=.any) ?_|(refine call_fn_full ?_ [y] (runeN_ev z hm (by omega) y bs hbs _ _ ?_ only_mem (by omega)) ?_ ?_)|((first|apply Ca|apply Cb)<;>intro hb)|refine Ai (by omega) ?_|(apply Ai<;>intro hb)
  all_goals ((refine Fin.give [(b0+96,some 0)] [y] ?_ ?_ ?_ ?_ ?_ (fun q hq=>by have hqq:=ho q hq;first|(simp only[gives,tgt,Lc,Lo,Lk,Ln,or_false]at hqq ⊢;omega)|(simp only[gives,tgt,Lc,Lo,Lk,Ln,or_false]at hqq))<;>(try simp only[results206,ntmps206,wks,hw,hy,rK_def,ren_bytesI,renOk_bytesI,y0,y1,y2,y3,giv,vcs,seval,tys])<;>(try simp only[injs])<;>(try omega)))
theorem idxStr_ev (s:List UInt8)(c:UInt8)(M:Mem)(nm:Nat):Ev cx 186 nm [.str s,.int .u8 c.toNat] M (.int .i64 (indexByte s c)) [] :=
 Ev.indexByte func186 (by kernel_rfl) (by kernel_rfl) (by kernel_rfl) (by kernel_rfl) s c M nm
theorem idxB_ev (s:List UInt8)(c:UInt8)(nm:Nat):Ev cx 168 nm [.str s,.int .u8 c.toNat] Mem.nil (.int .i64 (indexByte s c)) []:=by
 refine ev_go rfl (fun cargs w=>call168 cargs w) func168 rfl mixed (by kernel_rfl) rfl ?_;intro b0 hb0
 (repeat' first|simp only[fins,mems,results168,ntmps168,wks,vcs,seval,tys]|exact rfl|refine call_off (v:=.any) ?_|(first|(refine call_fn ?_ (idxStr_ev s c _ _) ?_)|(refine call_fn_g ?_ (fun _=>idxStr_ev s c _ _) ?_))|((first|apply Ca|apply Cb)<;>intro hb)|refine Ai (by omega) ?_|(apply Ai<;>intro hb)|refine Fin.pure ?_ ?_ ?_|simp only[injs])
theorem index1_ev (s:List UInt8)(d:UInt8)(nm:Nat):Ev cx 151 nm [.str s,.str [d]] Mem.nil (.int .i64 (indexByte s d)) []:=by
 by_cases h:[d]=s
 ·subst h
  have e:indexByte [d] d=0:=by simp[indexByte]
  have e1:([d]==[d])=true:=by simp
  refine ev_go rfl (fun cargs w=>call151 cargs w) func151 rfl mixed (by kernel_rfl) rfl ?_;intro b0 hb0
  (repeat' first|simp only[fins,mems,results151,ntmps151,wks,e,e1,vcs,seval,tys]|exact rfl|refine call_off (v:=.any) ?_|(first|(refine call_fn ?_ (idxB_ev [d] d _) ?_)|(refine call_fn_g ?_ (fun _=>idxB_ev [d] d _) ?_))|((first|apply Ca|apply Cb)<;>intro hb)|refine Ai (by omega) ?_|(apply Ai<;>intro hb)|refine Fin.pure ?_ ?_ ?_|simp only[injs])
 ·have e1:([d]==s)=false:=beq_false_of_ne h
  refine ev_go rfl (fun cargs w=>call151 cargs w) func151 rfl mixed (by kernel_rfl) rfl ?_;intro b0 hb0
  (repeat' first|simp only[fins,mems,results151,ntmps151,wks,e1,vcs,seval,tys]|exact rfl|refine call_off (v:=.any) ?_|(first|(refine call_fn ?_ (idxB_ev s d _) ?_)|(refine call_fn_g ?_ (fun _=>idxB_ev s d _) ?_))|((first|apply Ca|apply Cb)<;>intro hb)|refine Ai (by omega) ?_|(apply Ai<;>intro hb)|refine Fin.pure ?_ ?_ ?_|simp only[injs])
def cutV (d:UInt8)(s:List UInt8):V:=match cut1 d s with
 | none=>.tup [.str s,.str [],.bool false]
 | some (a,b)=>.tup [.str a,.str b,.bool true]
theorem cutS_ev (s:List UInt8)(d:UInt8)(hs:s.length≤lim)(nm:Nat):Ev cx 150 nm [.str s,.str [d]] Mem.nil (cutV d s) []:=by
 unfold lim at hs
 cases hc:cut1 d s with
 | none =>
  have e:indexByte s d = -1:=index1_none.2 hc
  have ev:cutV d s = .tup [.str s,.str [],.bool false]:=by unfold cutV;rw[hc]
  rw[ev]
  refine ev_go rfl (fun cargs w=>call150 cargs w) func150 rfl mixed (by kernel_rfl) rfl ?_;intro b0 hb0
  (repeat' first|simp only[fins,mems,results150,ntmps150,wks,vcs,seval,tys]|exact rfl|refine call_off (v:=.any) ?_|(first|(refine call_fn ?_ ((by have:=index1_ev s d;rw[e]at this;exact this _)) ?_)|(refine call_fn_g ?_ (fun _=>(by have:=index1_ev s d;rw[e]at this;exact this _)) ?_))|refine draw_end (by decide +kernel) ?_|((first|apply Ca|apply Cb)<;>intro hb)|refine Ai (by omega) ?_|(apply Ai<;>intro hb)|refine Fin.pure ?_ ?_ ?_|simp only[injs])
 | some p =>
  obtain⟨a,b⟩:=p
  obtain⟨e,e1,e2,e3⟩:=index1_some hc
  have ev:cutV d s = .tup [.str a,.str b,.bool true]:=by unfold cutV;rw[hc]
  have h1:(a.length:Int)≤s.length:=by omega
  have h2:IntKind.i64.wrap ((a.length:Int)+1)=((a.length+1:Nat):Int):=wrap_in (by omega) (by omega)
  have h3:((a.length+1:Nat):Int)≤s.length:=by omega
  have h4:a.length≤s.length:=by omega
  have h5:a.length+1≤s.length:=by omega
  rw[ev]
  refine ev_go rfl (fun cargs w=>call150 cargs w) func150 rfl mixed (by kernel_rfl) rfl ?_;intro b0 hb0
  (repeat' first|simp only[fins,mems,results150,ntmps150,wks,h1,h2,h3,h4,h5,e1,e2,vcs,seval,tys]|exact rfl|refine call_off (v:=.any) ?_|(first|(refine call_fn ?_ ((by have:=index1_ev s d;rw[e]at this;exact this _)) ?_)|(refine call_fn_g ?_ (fun _=>(by have:=index1_ev s d;rw[e]at this;exact this _)) ?_))|refine draw_end (by decide +kernel) ?_|((first|apply Ca|apply Cb)<;>intro hb)|refine Ai (by omega) ?_|(apply Ai<;>intro hb)|refine Fin.pure ?_ ?_ ?_|simp only[injs])
theorem cut_ev (s:List UInt8)(d:UInt8)(hs:s.length≤lim)(nm:Nat):Ev cx 119 nm [.str s,.str [d]] Mem.nil (cutV d s) []:=by
 have hev:=cutS_ev s d hs
 cases hc:cut1 d s with
 | none =>
  have ev:cutV d s = .tup [.str s,.str [],.bool false]:=by unfold cutV;rw[hc]
  rw[ev]at hev ⊢
  refine ev_go rfl (fun cargs w=>call119 cargs w) func119 rfl mixed (by kernel_rfl) rfl ?_;intro b0 hb0
  (repeat' first|simp only[fins,mems,results119,ntmps119,wks,vcs,seval,tys]|exact rfl|refine call_off (v:=.any) ?_|(first|(refine call_fn ?_ (hev _) ?_)|(refine call_fn_g ?_ (fun _=>hev _) ?_))|((first|apply Ca|apply Cb)<;>intro hb)|refine Ai (by omega) ?_|(apply Ai<;>intro hb)|refine Fin.pure ?_ ?_ ?_|simp only[injs])
 | some p =>
  have ev:cutV d s = .tup [.str p.1,.str p.2,.bool true]:=by unfold cutV;rw[hc]
  rw[ev]at hev ⊢
  refine ev_go rfl (fun cargs w=>call119 cargs w) func119 rfl mixed (by kernel_rfl) rfl ?_;intro b0 hb0
  (repeat' first|simp only[fins,mems,results119,ntmps119,wks,vcs,seval,tys]|exact rfl|refine call_off (v:=.any) ?_|(first|(refine call_fn ?_ (hev _) ?_)|(refine call_fn_g ?_ (fun _=>hev _) ?_))|((first|apply Ca|apply Cb)<;>intro hb)|refine Ai (by omega) ?_|(apply Ai<;>intro hb)|refine Fin.pure ?_ ?_ ?_|simp only[injs])
def inB (cs:List UInt8)(n:Nat):Bool:=cs.any fun c=>c.toNat==n
def asRow (cs:List UInt8):List V:=(List.range 256).map fun i=>.bool (inB cs i)
theorem asRow_length (cs:List UInt8):(asRow cs).length=256:=by simp[asRow]
theorem asRow_get (cs:List UInt8)(c:UInt8):(asRow cs)[c.toNat]? = some (.bool (inB cs c.toNat)):=by
 unfold asRow
 rw[List.getElem?_map,List.getElem?_range c.toNat_lt];rfl
theorem asRow_set (cs:List UInt8)(c:UInt8):(asRow cs).set c.toNat (.bool true)=asRow (cs++[c]):=by
 refine List.ext_getElem? fun i=>?_
 rw[List.getElem?_set]
 unfold asRow
 rw[Lm,List.length_range,List.getElem?_map,List.getElem?_map]
 by_cases hi:i<256
 ·rw[List.getElem?_range hi]
  by_cases e:c.toNat=i
  ·subst e;simp[inB,hi]
  ·simp[inB,e]
 ·rw[List.getElem?_eq_none (by simpa using hi)]
  by_cases e:c.toNat=i
  ·subst e;exact absurd c.toNat_lt hi
  ·simp[e]
theorem plain_as (cs:List UInt8):plainL (asRow cs)=true:=by
 rw[plainL_all,List.all_eq_true]
 intro v hv
 obtain⟨i,_,rfl⟩:=List.mem_map.1 hv
 rfl
theorem as_take (cs:List UInt8):(asRow cs).take 256=asRow cs:=List.take_of_length_le (by rw[asRow_length];omega)
theorem as_drop (cs:List UInt8):(asRow cs).drop 256=[]:=List.drop_of_length_le (by rw[asRow_length];omega)
theorem as_one (cs:List UInt8):(asRow cs).all V.one=true:=by
 rw[List.all_eq_true]
 intro v hv
 obtain⟨i,_,rfl⟩:=List.mem_map.1 hv
 rfl
theorem fin_as (σ:List (Nat×Nat))(M:Mem)(cs:List UInt8):finL σ M (asRow cs)=asRow cs:=(finL_plain σ M _ (plain_as cs)).1
theorem finOk_as (σ:List (Nat×Nat))(M:Mem)(cs:List UInt8):finLOk σ M (asRow cs)=True:=eq_true (finL_plain σ M _ (plain_as cs)).2
theorem leL_as (cs:List UInt8):leL (asRow cs) (asRow cs)=True:=eq_true (leL_refl _)
theorem plain_asL (cs:List UInt8):plainLL [asRow cs]=true:=by simp[plainLL,plain_as]
theorem as_lit:([V.bool false,V.bool false,V.bool false,V.bool false,V.bool false,V.bool false,V.bool false,V.bool false,V.bool false,V.bool false,V.bool false,V.bool false,V.bool false,V.bool false,V.bool false,V.bool false,V.bool false,V.bool false,V.bool false,V.bool false,V.bool false,V.bool false,V.bool false,V.bool false,V.bool false,V.bool false,V.bool false,V.bool false,V.bool false,V.bool false,V.bool false,V.bool false,V.bool false,V.bool false,V.bool false,V.bool false,V.bool false,V.bool false,V.bool false,V.bool false,V.bool false,V.bool false,V.bool false,V.bool false,V.bool false,V.bool false,V.bool false,V.bool false,V.bool false,V.bool false,V.bool false,V.bool false,V.bool false,V.bool false,V.bool false,V.bool false,V.bool false,V.bool false,V.bool false,V.bool false,V.bool false,V.bool false,V.bool false,V.bool false,V.bool false,V.bool false,V.bool false,V.bool false,V.bool false,V.bool false,V.bool false,V.bool false,V.bool false,V.bool false,V.bool false,V.bool false,V.bool false,V.bool false,V.bool false,V.bool false,V.bool false,V.bool false,V.bool false,V.bool false,V.bool false,V.bool false,V.bool false,V.bool false,V.bool false,V.bool false,V.bool false,V.bool false,V.bool false,V.bool false,V.bool false,V.bool false,V.bool false,V.bool false,V.bool false,V.bool false,V.bool false,V.bool false,V.bool false,V.bool false,V.bool false,V.bool false,V.bool false,V.bool false,V.bool false,V.bool false,V.bool false,V.bool false,V.bool false,V.bool false,V.bool false,V.bool false,V.bool false,V.bool false,V.bool false,V.bool false,V.bool false,V.bool false,V.bool false,V.bool false,V.bool false,V.bool false,V.bool false,V.bool false,V.bool false,V.bool false,V.bool false,V.bool false,V.bool false,V.bool false,V.bool false,V.bool false,V.bool false,V.bool false,V.bool false,V.bool false,V.bool false,V.bool false,V.bool false,V.bool false,V.bool false,V.bool false,V.bool false,V.bool false,V.bool false,V.bool false,V.bool false,V.bool false,V.bool false,V.bool false,V.bool false,V.bool false,V.bool false,V.bool false,V.bool false,V.bool false,V.bool false,V.bool false,V.bool false,V.bool false,V.bool false,V.bool false,V.bool false,V.bool false,V.bool false,V.bool false,V.bool false,V.bool false,V.bool false,V.bool false,V.bool false,V.bool false,V.bool false,V.bool false,V.bool false,V.bool false,V.bool false,V.bool false,V.bool false,V.bool false,V.bool false,V.bool false,V.bool false,V.bool false,V.bool false,V.bool false,V.bool false,V.bool false,V.bool false,V.bool false,V.bool false,V.bool false,V.bool false,V.bool false,V.bool false,V.bool false,V.bool false,V.bool false,V.bool false,V.bool false,V.bool false,V.bool false,V.bool false,V.bool false,V.bool false,V.bool false,V.bool false,V.bool false,V.bool false,V.bool false,V.bool false,V.bool false,V.bool false,V.bool false,V.bool false,V.bool false,V.bool false,V.bool false,V.bool false,V.bool false,V.bool false,V.bool false,V.bool false,V.bool false,V.bool false,V.bool false,V.bool false,V.bool false,V.bool false,V.bool false,V.bool false,V.bool false,V.bool false,V.bool false,V.bool false,V.bool false,V.bool false,V.bool false,V.bool false,V.bool false,V.bool false,V.bool false,V.bool false,V.bool false,V.bool false,V.bool false,V.bool false,V.bool false,V.bool false,V.bool false,V.bool false,V.bool false]:List V)=asRow []:=rfl
theorem ascii_ev (cs:List UInt8)(h:∀ c∈cs,c.toNat<128)(hl:cs.length≤100)(nm:Nat):Ev cx 136 nm [.str cs] Mem.nil (.tup [.agg (asRow cs),.bool true]) []:=by
 refine ev_go rfl (fun cargs w=>call136 cargs w) func136 rfl mixed (by kernel_rfl) rfl ?_;intro b0 hb0
 repeat' first|simp only[fins,mems,results136,ntmps136,wks,as_lit,asRow_length,vcs,seval,tys]|exact rfl|refine call_off (v:=.any) ?_|((first|apply Ca|apply Cb)<;>intro hb)|refine Ai (by omega) ?_|(apply Ai<;>intro hb)
 (refine loop_can2 cxG (fun x:Nat=>cs.length-x) (fun x=>x≤cs.length) (b0+16) (fun x=>[(0,.str cs),(2,.ptr b0 0 0),(4,.int .i64 x)]) (fun x=>[(b0,⟨256,[asRow (cs.take x)]⟩)]) (0) [some b0] ?_ ?_ ?_ ?_;rotate_left 1;(focus (show b0≤_;omega));(focus (refine⟨?_,?_⟩<;>(try simp only[cans,plain_as,plain_asL,as_lit,asRow_length,List.take_zero,vcs,seval,tys,injs])<;>(try omega)));rotate_left 1)
 ·exact Nat.zero_le _
 ·intro k hk
  by_cases hlt:k<cs.length
  ·obtain⟨c,hc⟩:∃ c,cs[k]? = some c:=⟨_,List.getElem?_eq_getElem hlt⟩
   have hd:decide (k<cs.length)=true:=decide_eq_true hlt
   have hwk:IntKind.i64.wrap ((k:Int)+1)=((k+1:Nat):Int):=wrap_in (by omega) (by omega)
   have h128:=h c (List.mem_of_getElem? hc)
   have hd2:decide ((128:Int)≤(c.toNat:Int))=false:=decide_eq_false (by omega)
   have h256:c.toNat<256:=c.toNat_lt
   have hset:=asRow_set (cs.take k) c
   have htk:cs.take k++[c]=cs.take (k+1):=by
    obtain⟨hk',rfl⟩:=List.getElem?_eq_some_iff.1 hc
    rw[List.take_succ_eq_append_getElem hk']
   rw[htk]at hset
   repeat' first|simp only[fins,mems,results136,ntmps136,wks,hc,hd,hd2,hlt,h256,hset,asRow_length,vcs,seval,tys]|exact rfl|refine call_off (v:=.any) ?_|((first|apply Ca|apply Cb)<;>intro hb)|refine Ai (by omega) ?_|(apply Ai<;>intro hb)
   all_goals ((refine again_can2 cxG (k+1) [some b0] ?_ ?_ ?_ ?_;rotate_left 2;(focus (show b0≤_;omega));(focus (refine⟨?_,?_⟩<;>(try simp only[cans,plain_as,plain_asL,hset,hwk,vcs,seval,tys,injs])<;>(try omega)))))
   all_goals (first|(show cs.length-(k+1)<cs.length-k;omega)|(show k+1≤cs.length;omega)|skip)
  ·have hke:k=cs.length:=by omega
   subst hke
   have hd:decide (cs.length<cs.length)=false:=decide_eq_false (by omega)
   have htk:cs.take cs.length=cs:=List.take_length
   (repeat' first|simp only[fins,mems,results136,ntmps136,wks,hd,htk,as_take,as_drop,as_one,fin_as,finOk_as,leL_as,asRow_length,plain_asL,plain_as,vcs,seval,tys]|exact rfl|refine call_off (v:=.any) ?_|((first|apply Ca|apply Cb)<;>intro hb)|refine Ai (by omega) ?_|(apply Ai<;>intro hb)|refine Fin.pure ?_ ?_ ?_|simp only[injs])
theorem asHas_ev (cs:List UInt8)(c:UInt8)(nm:Nat):Ev cx 160 nm [.rp (asRow cs),.int .u8 c.toNat] Mem.nil (.bool (inB cs c.toNat)) []:=by
 have h256:c.toNat<256:=c.toNat_lt
 have hg:(List.drop c.toNat (asRow cs))[0]? = some (.bool (inB cs c.toNat)):=by rw[List.getElem?_drop,Nat.add_zero];exact asRow_get cs c
 have hl:0<(List.drop c.toNat (asRow cs)).length:=by rw[List.length_drop,asRow_length];omega
 refine ev_go rfl (fun cargs w=>call160 cargs w) func160 rfl mixed (by kernel_rfl) rfl ?_;intro b0 hb0
 (repeat' first|simp only[fins,mems,results160,ntmps160,wks,h256,hg,hl,asRow_length,vcs,seval,tys]|exact rfl|refine call_off (v:=.any) ?_|((first|apply Ca|apply Cb)<;>intro hb)|refine Ai (by omega) ?_|(apply Ai<;>intro hb)|refine Fin.pure ?_ ?_ ?_|simp only[injs])
def trimL (cs:List UInt8):List UInt8→List UInt8
 | []=>[]
 | c::s=>if inB cs c.toNat=true then trimL cs s else c::s
def trimR (cs:List UInt8)(s:List UInt8):List UInt8:=(trimL cs s.reverse).reverse
theorem trimL_drop (cs:List UInt8):∀(s:List UInt8),∃ k,k≤s.length∧trimL cs s=s.drop k∧(∀ i c,i<k→s[i]? = some c→inB cs c.toNat=true)∧(∀ c,s[k]? = some c→inB cs c.toNat=false)
 | []=>⟨0,by simp,rfl,fun i c h=>by omega,fun c h=>by simp at h⟩
 | c::s=>by
  unfold trimL
  by_cases h:inB cs c.toNat=true
  ·rw[if_pos h]
   obtain⟨k,h1,h2,h3,h4⟩:=trimL_drop cs s
   refine⟨k+1,by simp;omega,by rw[h2];rfl,fun i d hi hd=>?_,fun d hd=>h4 d (by simpa using hd)⟩
   cases i with
   | zero=>simp at hd;subst hd;exact h
   | succ i=>exact h3 i d (by omega) (by simpa using hd)
  ·rw[if_neg h]
   refine⟨0,by simp,rfl,fun i d hi=>by omega,fun d hd=>?_⟩
   simp at hd;subst hd
   simpa using h
theorem trimL_nil {cs s:List UInt8} : trimL cs s=[]↔s.all (fun c=>inB cs c.toNat)=true:=by
 induction s with
 | nil=>simp[trimL]
 | cons c s ih =>
  unfold trimL
  by_cases h:inB cs c.toNat=true
  ·rw[if_pos h,ih];simp[h]
  ·rw[if_neg h];simp[h]
theorem trimL_length (cs s:List UInt8):(trimL cs s).length≤s.length:=by
 obtain⟨k,h1,h2,_⟩:=trimL_drop cs s
 rw[h2];simp
theorem trimR_length (cs s:List UInt8):(trimR cs s).length≤s.length:=by
 unfold trimR;have:=trimL_length cs s.reverse;simpa using this
theorem trimL_cons_in {cs:List UInt8}{c:UInt8}(s:List UInt8)(h:inB cs c.toNat=true):trimL cs (c::s)=trimL cs s:=by rw[trimL,if_pos h]
theorem trimL_cons_out {cs:List UInt8}{c:UInt8}(s:List UInt8)(h:inB cs c.toNat=false):trimL cs (c::s)=c::s:=by rw[trimL,if_neg (by simp[h])]
theorem trimR_snoc_in {cs:List UInt8}{c:UInt8}(s:List UInt8)(h:inB cs c.toNat=true):trimR cs (s++[c])=trimR cs s:=by unfold trimR;rw[List.reverse_append];simp only[List.reverse_cons,List.reverse_nil,List.nil_append,List.cons_append];rw[trimL_cons_in _ h]
theorem trimR_snoc_out {cs:List UInt8}{c:UInt8}(s:List UInt8)(h:inB cs c.toNat=false):trimR cs (s++[c])=s++[c]:=by unfold trimR;rw[List.reverse_append];simp only[List.reverse_cons,List.reverse_nil,List.nil_append,List.cons_append];rw[trimL_cons_out _ h];simp
theorem trim_nil {cs s:List UInt8} : trimL cs (trimR cs s)=[]↔s.all (fun c=>inB cs c.toNat)=true:=by
 constructor
 ·intro h
  have h1:=trimL_nil.1 h
  unfold trimR at h1
  obtain⟨k,hk,hd,hi,ho⟩:=trimL_drop cs s.reverse
  rw[List.all_reverse,hd]at h1
  rw[← List.all_reverse,List.all_eq_true]
  intro c hc
  obtain⟨i,hi2⟩:=List.mem_iff_getElem?.1 hc
  by_cases hik:i<k
  ·exact hi i c hik hi2
  ·refine List.all_eq_true.1 h1 c ?_
   refine List.mem_iff_getElem?.2 ⟨i-k,?_⟩
   rw[List.getElem?_drop,show k+(i-k)=i by omega];exact hi2
 ·intro h
  have:trimR cs s=[]:=by
   unfold trimR
   rw[trimL_nil.2 (by rw[List.all_reverse];exact h)];rfl
  rw[this];rfl
theorem trimLeft_ev (cs s:List UInt8)(hs:s.length≤lim)(nm:Nat):Ev cx 137 nm [.str s,.rp (asRow cs)] Mem.nil (.str (trimL cs s)) []:=by
 unfold lim at hs
 refine ev_go rfl (fun cargs w=>call137 cargs w) func137 rfl mixed (by kernel_rfl) rfl ?_;intro b0 hb0
 repeat' first|simp only[fins,mems,results137,ntmps137,wks,plain_as,vcs,seval,tys]|exact rfl|refine call_off (v:=.any) ?_|((first|apply Ca|apply Cb)<;>intro hb)|refine Ai (by omega) ?_|(apply Ai<;>intro hb)
 (refine loop_can2 cxG (fun x:List UInt8=>x.length) (fun x=>x.length≤s.length∧trimL cs s=trimL cs x) (b0+16) (fun x=>[(0,.str x),(1,.rp (asRow cs))]) (fun x=>[]) (s) [] ?_ ?_ ?_ ?_;rotate_left 1;(focus (show b0≤_;omega));(focus (refine⟨?_,?_⟩<;>(try simp only[cans,plain_as,vcs,seval,tys,injs])<;>(try omega)));rotate_left 1)
 ·exact⟨Nat.le_refl _,rfl⟩
 ·rintro x ⟨h1,h2⟩
  cases x with
  | nil =>
   have hz:trimL cs s=[]:=h2
   have hd:decide ((0:Int)<0)=false:=rfl
   (repeat' first|simp only[fins,mems,results137,ntmps137,wks,hz,hd,Nat.lt_irrefl,Int.lt_irrefl,vcs,seval,tys]|exact rfl|refine call_off (v:=.any) ?_|((first|apply Ca|apply Cb)<;>intro hb)|refine Ai (by omega) ?_|(apply Ai<;>intro hb)|refine Fin.pure ?_ ?_ ?_|simp only[injs])
  | cons c x =>
   have hd:decide ((0:Int)<(((c::x).length:Nat):Int))=true:=decide_eq_true (by simp only[List.length_cons];omega)
   have hl:0<(c::x).length:=by simp
   have h1':(1:Int)≤(((c::x).length:Nat):Int):=by simp only[List.length_cons];omega
   have h1'':1≤(c::x).length:=by simp
   have hh:=asHas_ev cs c
   simp only[List.length_cons]at hd hl h1' h1''
   cases hb:inB cs c.toNat with
   | true =>
    rw[hb]at hh
    repeat' first|simp only[fins,mems,results137,ntmps137,wks,plain_as,hd,hl,h1',h1'',Bt,vcs,seval,tys]|exact rfl|refine call_off (v:=.any) ?_|(first|(refine call_fn ?_ (hh _) ?_)|(refine call_fn_g ?_ (fun _=>hh _) ?_))|((first|apply Ca|apply Cb)<;>intro hb)|refine Ai (by omega) ?_|(apply Ai<;>intro hb)
    all_goals ((refine again_can2 cxG (x) [] ?_ ?_ ?_ ?_;rotate_left 2;(focus (show b0≤_;omega));(focus (refine⟨?_,?_⟩<;>(try simp only[cans,plain_as,vcs,seval,tys,injs])<;>(try omega)))))
    all_goals (first|(show x.length<(c::x).length;simp;done)|(refine⟨by simp at h1;omega,?_⟩;rw[h2,trimL_cons_in _ hb])|skip)
   | false =>
    rw[hb]at hh
    have hz:trimL cs s=c::x:=by rw[h2,trimL_cons_out _ hb]
    (repeat' first|simp only[fins,mems,results137,ntmps137,wks,plain_as,hd,hl,h1',h1'',hz,Bf,vcs,seval,tys]|exact rfl|refine call_off (v:=.any) ?_|(first|(refine call_fn ?_ (hh _) ?_)|(refine call_fn_g ?_ (fun _=>hh _) ?_))|((first|apply Ca|apply Cb)<;>intro hb)|refine Ai (by omega) ?_|(apply Ai<;>intro hb)|refine Fin.pure ?_ ?_ ?_|simp only[injs])
theorem trimRight_ev (cs s:List UInt8)(hs:s.length≤lim)(nm:Nat):Ev cx 138 nm [.str s,.rp (asRow cs)] Mem.nil (.str (trimR cs s)) []:=by
 unfold lim at hs
 refine ev_go rfl (fun cargs w=>call138 cargs w) func138 rfl mixed (by kernel_rfl) rfl ?_;intro b0 hb0
 repeat' first|simp only[fins,mems,results138,ntmps138,wks,plain_as,vcs,seval,tys]|exact rfl|refine call_off (v:=.any) ?_|((first|apply Ca|apply Cb)<;>intro hb)|refine Ai (by omega) ?_|(apply Ai<;>intro hb)
 (refine loop_can2 cxG (fun x:List UInt8=>x.length) (fun x=>x.length≤s.length∧trimR cs s=trimR cs x) (b0+16) (fun x=>[(0,.str x),(1,.rp (asRow cs))]) (fun x=>[]) (s) [] ?_ ?_ ?_ ?_;rotate_left 1;(focus (show b0≤_;omega));(focus (refine⟨?_,?_⟩<;>(try simp only[cans,plain_as,vcs,seval,tys,injs])<;>(try omega)));rotate_left 1)
 ·exact⟨Nat.le_refl _,rfl⟩
 ·rintro x ⟨h1,h2⟩
  by_cases hne:x=[]
  ·subst hne
   have hz:trimR cs s=[]:=h2
   (repeat' first|simp only[fins,mems,results138,ntmps138,wks,hz,Nat.lt_irrefl,Int.lt_irrefl,vcs,seval,tys]|exact rfl|refine call_off (v:=.any) ?_|((first|apply Ca|apply Cb)<;>intro hb)|refine Ai (by omega) ?_|(apply Ai<;>intro hb)|refine Fin.pure ?_ ?_ ?_|simp only[injs])
  ·obtain⟨y,c,rfl⟩:∃ y c,x=y++[c]:=⟨x.dropLast,x.getLast hne,(List.dropLast_concat_getLast hne).symm⟩
   have hlen:(y++[c]).length=y.length+1:=by simp
   have hd:decide ((0:Int)<((y.length+1:Nat):Int))=true:=decide_eq_true (by omega)
   have hw:IntKind.i64.wrap (((y.length+1:Nat):Int)-1)=(y.length:Int):=by rw[wrap_in (by simp at h1;omega) (by simp at h1;omega)];omega
   have hw2:IntKind.i64.wrap ((y.length:Int)+1-1)=(y.length:Int):=by rw[wrap_in (by simp at h1;omega) (by simp at h1;omega)];omega
   have hg:(y++[c])[y.length]? = some c:=by simp
   have hl1:y.length<y.length+1:=by omega
   have hl2:(y.length:Int)≤((y.length+1:Nat):Int):=by omega
   have hl3:y.length≤y.length+1:=by omega
   have htk:(y++[c]).take y.length=y:=by simp
   have hh:=asHas_ev cs c
   cases hb:inB cs c.toNat with
   | true =>
    rw[hb]at hh
    repeat' first|simp only[fins,mems,results138,ntmps138,wks,plain_as,hlen,hd,hw,hw2,hg,hl1,hl2,hl3,htk,Bt,vcs,seval,tys]|exact rfl|refine call_off (v:=.any) ?_|(first|(refine call_fn ?_ (hh _) ?_)|(refine call_fn_g ?_ (fun _=>hh _) ?_))|((first|apply Ca|apply Cb)<;>intro hb)|refine Ai (by omega) ?_|(apply Ai<;>intro hb)
    all_goals ((refine again_can2 cxG (y) [] ?_ ?_ ?_ ?_;rotate_left 2;(focus (show b0≤_;omega));(focus (refine⟨?_,?_⟩<;>(try simp only[cans,plain_as,htk,vcs,seval,tys,injs])<;>(try omega)))))
    all_goals (first|(show y.length<(y++[c]).length;simp only[List.length_append,List.length_singleton];omega)|omega|(refine⟨by simp at h1;omega,?_⟩;rw[h2,trimR_snoc_in _ hb])|skip)
   | false =>
    rw[hb]at hh
    have hz:trimR cs s=y++[c]:=by rw[h2,trimR_snoc_out _ hb]
    (repeat' first|simp only[fins,mems,results138,ntmps138,wks,plain_as,hlen,hd,hw,hw2,hg,hl1,hl2,hl3,hz,Bf,vcs,seval,tys]|exact rfl|refine call_off (v:=.any) ?_|(first|(refine call_fn ?_ (hh _) ?_)|(refine call_fn_g ?_ (fun _=>hh _) ?_))|((first|apply Ca|apply Cb)<;>intro hb)|refine Ai (by omega) ?_|(apply Ai<;>intro hb)|refine Fin.pure ?_ ?_ ?_|simp only[injs])
theorem trim_ev (cs s:List UInt8)(h:∀ c∈cs,c.toNat<128)(hl:cs.length≤100)(h2:2≤cs.length)(hs:s.length≤lim)(nm:Nat):Ev cx 109 nm [.str s,.str cs] Mem.nil (.str (trimL cs (trimR cs s))) []:=by
 have hcs:(cs==[])=false:=beq_false_of_ne (by intro e;subst e;simp at h2)
 by_cases h0:s=[]
 ·subst h0
  have e0:(([]:List UInt8)==[])=true:=rfl
  have e1:trimL cs (trimR cs [])=[]:=rfl
  refine ev_go rfl (fun cargs w=>call109 cargs w) func109 rfl mixed (by kernel_rfl) rfl ?_;intro b0 hb0
  (repeat' first|simp only[fins,mems,results109,ntmps109,wks,e0,e1,vcs,seval,tys]|exact rfl|refine call_off (v:=.any) ?_|refine draw_end (by decide +kernel) ?_|((first|apply Ca|apply Cb)<;>intro hb)|refine Ai (by omega) ?_|(apply Ai<;>intro hb)|refine Fin.pure ?_ ?_ ?_|simp only[injs])
 ·have e0:(s==[])=false:=beq_false_of_ne h0
  have e2:((cs.length:Int)==1)=false:=beq_false_of_ne (by omega)
  have hsr:(trimR cs s).length≤lim:=Nat.le_trans (trimR_length cs s) hs
  refine ev_go rfl (fun cargs w=>call109 cargs w) func109 rfl mixed (by kernel_rfl) rfl ?_;intro b0 hb0
  (repeat' first|simp only[fins,mems,results109,ntmps109,wks,e0,hcs,e2,as_lit,as_take,as_drop,as_one,fin_as,finOk_as,leL_as,asRow_length,plain_as,plain_asL,vcs,seval,tys]|exact rfl|refine call_off (v:=.any) ?_|(first|(refine call_fn ?_ (ascii_ev cs h hl _) ?_)|(refine call_fn_g ?_ (fun _=>ascii_ev cs h hl _) ?_))|((refine call_fn_vx (xs:=?_) [b0+320] ?_ ?_ ?_ rfl (trimRight_ev cs s hs _) ?_);rotate_left 1)|((refine call_fn_vx (xs:=?_) [b0+320] ?_ ?_ ?_ rfl (trimLeft_ev cs (trimR cs s) hsr _) ?_);rotate_left 1)|omega|refine draw_end (by decide +kernel) ?_|((first|apply Ca|apply Cb)<;>intro hb)|refine Ai (by omega) ?_|(apply Ai<;>intro hb)|refine Fin.pure ?_ ?_ ?_|simp only[injs])
def blanks4:List UInt8:=[32,9,10,13]
theorem blanks_in (c:UInt8):inB blanks4 c.toNat=blankB c:=by
 have key:∀ n:Fin 256,inB blanks4 n.val=blankB (UInt8.ofNat n.val):=by decide +kernel
 have:=key ⟨c.toNat,c.toNat_lt⟩
 simpa using this
theorem trim_skip:∀ s:List UInt8,trimL blanks4 s=s.dropWhile blankB
 | []=>rfl
 | c::s=>by
  rw[trimL,blanks_in,List.dropWhile_cons,trim_skip s]
theorem trimLeftW_ev (cs s:List UInt8)(h:∀ c∈cs,c.toNat<128)(hl:cs.length≤100)(h2:2≤cs.length)(hs:s.length≤lim)(nm:Nat):Ev cx 183 nm [.str s,.str cs] Mem.nil (.str (trimL cs s)) []:=by
 have hcs:(cs==[])=false:=beq_false_of_ne (by intro e;subst e;simp at h2)
 by_cases h0:s=[]
 ·subst h0
  have e0:(([]:List UInt8)==[])=true:=rfl
  have e1:trimL cs []=[]:=rfl
  refine ev_go rfl (fun cargs w=>call183 cargs w) func183 rfl mixed (by kernel_rfl) rfl ?_;intro b0 hb0
  (repeat' first|simp only[fins,mems,results183,ntmps183,wks,e0,e1,vcs,seval,tys]|exact rfl|refine call_off (v:=.any) ?_|((first|apply Ca|apply Cb)<;>intro hb)|refine Ai (by omega) ?_|(apply Ai<;>intro hb)|refine Fin.pure ?_ ?_ ?_|simp only[injs])
 ·have e0:(s==[])=false:=beq_false_of_ne h0
  have e2:((cs.length:Int)==1)=false:=beq_false_of_ne (by omega)
  refine ev_go rfl (fun cargs w=>call183 cargs w) func183 rfl mixed (by kernel_rfl) rfl ?_;intro b0 hb0
  (repeat' first|simp only[fins,mems,results183,ntmps183,wks,e0,hcs,e2,as_lit,as_take,as_drop,as_one,fin_as,finOk_as,leL_as,asRow_length,plain_as,plain_asL,vcs,seval,tys]|exact rfl|refine call_off (v:=.any) ?_|(first|(refine call_fn ?_ (ascii_ev cs h hl _) ?_)|(refine call_fn_g ?_ (fun _=>ascii_ev cs h hl _) ?_))|((refine call_fn_vx (xs:=?_) [b0+320] ?_ ?_ ?_ rfl (trimLeft_ev cs s hs _) ?_);rotate_left 1)|omega|((first|apply Ca|apply Cb)<;>intro hb)|refine Ai (by omega) ?_|(apply Ai<;>intro hb)|refine Fin.pure ?_ ?_ ?_|simp only[injs])
theorem idxSB_ev (s:List UInt8)(c:UInt8)(nm:Nat):Ev cx 144 nm [.str s,.int .u8 c.toNat] Mem.nil (.int .i64 (indexByte s c)) []:=by
 refine ev_go rfl (fun cargs w=>call144 cargs w) func144 rfl mixed (by kernel_rfl) rfl ?_;intro b0 hb0
 (repeat' first|simp only[fins,mems,results144,ntmps144,wks,vcs,seval,tys]|exact rfl|refine call_off (v:=.any) ?_|(first|(refine call_fn ?_ (idxB_ev s c _) ?_)|(refine call_fn_g ?_ (fun _=>idxB_ev s c _) ?_))|((first|apply Ca|apply Cb)<;>intro hb)|refine Ai (by omega) ?_|(apply Ai<;>intro hb)|refine Fin.pure ?_ ?_ ?_|simp only[injs])
theorem enc_last {z:Int}(h0:128≤z)(hm:may z=true):∃(l:List UInt8) (c:UInt8),(Utf8.encode z).data.toList=l++[c]∧128≤c.toNat∧1≤l.length∧l.length≤3:=by
 have hz:=(may_iff z).1 hm
 have hv:Utf8.valid z=true:=by unfold Utf8.valid;simp;omega
 have mm:∀ n:Nat,128≤(UInt8.ofNat (128+n % 64)).toNat:=fun n=>by simp;omega
 unfold Utf8.encode
 simp only[hv,if_true]
 rw[if_neg (by omega)]
 split
 ·exact⟨[_],_,rfl,mm _,by simp,by simp⟩
 ·split
  ·exact⟨[_,_],_,rfl,mm _,by simp,by simp⟩
  ·exact⟨[_,_,_],_,rfl,mm _,by simp,by simp⟩
theorem ascii4 {c:UInt8}(h:128≤c.toNat):∀ k,c ∉ blanks4.drop k:=by
 intro k hc
 have h1:=List.mem_of_mem_drop hc
 unfold blanks4 at h1
 simp only[Lk,Ln,or_false]at h1
 rcases h1 with rfl|rfl|rfl|rfl<;>exact absurd h (by decide)
theorem idx_none {d:UInt8}{s:List UInt8}(h:d ∉ s):indexByte s d = -1:=index1_none.2 (cut1_none.2 h)
def idxR (z:Int):Int:=if z<128 then indexByte blanks4 (UInt8.ofNat z.toNat) else -1
theorem idxRune_ev (z:Int)(hm:may z=true)(nm:Nat):Ev cx 181 nm [.str [32,9,10,13],.int .i32 z] Mem.nil (.int .i64 (idxR z)) []:=by
 have hz:=(may_iff z).1 hm
 have hr:=may_range hm
 have d0:decide (0≤z)=true:=decide_eq_true hr.1
 by_cases c1:z<128
 ·have d1:decide (z<128)=true:=decide_eq_true c1
  have hw:IntKind.u8.wrap z=((UInt8.ofNat z.toNat).toNat:Int):=by rw[IntWalk.u8_in _ (by omega)];simp;omega
  have hi:=idxSB_ev blanks4 (UInt8.ofNat z.toNat)
  have hx:idxR z=indexByte blanks4 (UInt8.ofNat z.toNat):=if_pos c1
  rw[hx]
  unfold blanks4 at hi ⊢
  generalize UInt8.ofNat z.toNat=g at hw hi
  refine ev_go rfl (fun cargs w=>call181 cargs w) func181 rfl mixed (by kernel_rfl) rfl ?_;intro b0 hb0
  (repeat' first|simp only[fins,mems,results181,ntmps181,wks,d0,d1,hw,vcs,seval,tys]|exact rfl|refine call_off (v:=.any) ?_|(first|(refine call_fn ?_ (hi _) ?_)|(refine call_fn_g ?_ (fun _=>hi _) ?_))|refine draw_end (by decide +kernel) ?_|((first|apply Ca|apply Cb)<;>intro hb)|refine Ai (by omega) ?_|(apply Ai<;>intro hb)|refine Fin.pure ?_ ?_ ?_|simp only[injs])
 have d1:decide (z<128)=false:=decide_eq_false c1
 have hx:idxR z = -1:=if_neg c1
 rw[hx]
 by_cases c2:z=65533
 ·subst c2
  refine ev_go rfl (fun cargs w=>call181 cargs w) func181 rfl mixed (by kernel_rfl) rfl ?_;intro b0 hb0
  repeat' first|simp only[fins,mems,results181,ntmps181,wks,d0,d1,vcs,seval,tys]|exact rfl|refine call_off (v:=.any) ?_|(refine ext_range (s:=?_) ?_ ?_ ?_;rotate_left 1;(iterate 2 (focus (simp only[results181,ntmps181,wks,d0,d1,vcs,seval,tys]<;>exact rfl))))|(refine extG_true ?_)|(refine extG_false ?_)|refine draw_end (by decide +kernel) ?_|((first|apply Ca|apply Cb)<;>intro hb)|refine Ai (by omega) ?_|(apply Ai<;>intro hb)
  (refine loop_can2 cxG (fun x:Nat=>4-x) (fun x=>x≤4) (b0+16) (fun x=>[(175,.ptr b0 0 0)]) (fun x=>[(b0,iterK [32,9,10,13] x)]) (0) [some (b0+192)] ?_ ?_ ?_ ?_;rotate_left 1;(focus (show b0≤_;omega));(focus (refine⟨?_,?_⟩<;>(try simp only[cans,ren_iter,renOk_iter,vcs,seval,tys,injs])<;>(try omega)));rotate_left 1)
  ·exact Nat.zero_le _
  ·intro p hp
   by_cases hlt:p<4
   ·have hd:p<([32,9,10,13]:List UInt8).length:=hlt
    have hrn:runeAt [32,9,10,13] p=((([32,9,10,13]:List UInt8)[p]?.getD 0).toNat,1)∧((([32,9,10,13]:List UInt8)[p]?.getD 0).toNat:Int)≠65533:=by
     rcases(show p=0∨p=1∨p=2∨p=3 by omega) with rfl|rfl|rfl|rfl<;>decide +kernel
    obtain⟨hr1,hr2⟩:=hrn
    have hr3:(runeAt [32,9,10,13] p).2=1:=by rw[hr1]
    have hq:(((runeAt [32,9,10,13] p).1:Int)==65533)=false:=by rw[hr1];exact beq_false_of_ne hr2
    repeat' first|simp only[fins,mems,results181,ntmps181,wks,hd,hlt,hq,hr3,List.length_cons,List.length_nil,vcs,seval,tys]|exact rfl|refine call_off (v:=.any) ?_|(refine ext_next (s:=?_) (y:=?_) (p:=?_) ?_ ?_ ?_ ?_;rotate_left 3;(iterate 2 (focus (simp only[results181,ntmps181,wks,hd,hlt,hq,hr3,List.length_cons,List.length_nil,vcs,seval,tys]<;>exact rfl)));(focus (simp only[results181,ntmps181,wks,hd,hlt,hq,hr3,List.length_cons,List.length_nil,vcs,seval,tys]<;>omega)))|(refine extG_true ?_)|(refine extG_false ?_)|refine draw_end (by decide +kernel) ?_|refine Ai (by omega) ?_
    all_goals ((refine again_can2 cxG (p+1) [some b0] ?_ ?_ ?_ ?_;rotate_left 2;(focus (show b0≤_;omega));(focus (refine⟨?_,?_⟩<;>(try simp only[cans,ren_iter,renOk_iter,hr3,vcs,seval,tys,injs])<;>(try omega)))))
    all_goals (first|(show 4-(p+1)<4-p;omega)|(show p+1≤4;omega)|skip)
   ·have hpe:p=4:=by omega
    subst hpe
    (repeat' first|simp only[fins,mems,results181,ntmps181,wks,List.length_cons,List.length_nil,vcs,seval,tys]|exact rfl|refine call_off (v:=.any) ?_|(refine ext_over (s:=?_) (y:=?_) (p:=?_) ?_ ?_ ?_ ?_;rotate_left 3;(iterate 2 (focus (simp only[results181,ntmps181,wks,List.length_cons,List.length_nil,vcs,seval,tys]<;>exact rfl)));(focus (simp only[results181,ntmps181,wks,List.length_cons,List.length_nil,vcs,seval,tys]<;>omega)))|(refine extG_true ?_)|(refine extG_false ?_)|refine draw_end (by decide +kernel) ?_|((first|apply Ca|apply Cb)<;>intro hb)|refine Ai (by omega) ?_|(apply Ai<;>intro hb)|refine Fin.pure ?_ ?_ ?_|simp only[injs])
 ·have d2:(z==65533)=false:=beq_false_of_ne c2
  have hv:validB z=true:=by
   unfold validB
   simp only[Bool.or_eq_true,Bool.and_eq_true,decide_eq_true_eq];omega
  have hve:=valid_ev z
  rw[hv]at hve
  obtain⟨l,c,h1,h2,h3,h4⟩:=enc_last (by omega) hm
  have hll:(l++[c]).length=l.length+1:=by simp
  have hgl:(l++[c])[l.length]? = some c:=by simp
  have hw1:IntKind.i64.wrap (((l.length+1:Nat):Int)-1)=(l.length:Int):=by rw[wrap_in (by omega) (by omega)];omega
  have hw2:IntKind.i64.wrap ((l.length:Int)+1-1)=(l.length:Int):=by rw[wrap_in (by omega) (by omega)];omega
  refine ev_go rfl (fun cargs w=>call181 cargs w) func181 rfl mixed (by kernel_rfl) rfl ?_;intro b0 hb0
  repeat' first|simp only[fins,mems,results181,ntmps181,wks,d0,d1,d2,h1,hll,hw1,hw2,Bt,vcs,seval,tys]|exact rfl|refine call_off (v:=.any) ?_|(first|(refine call_fn ?_ (hve _) ?_)|(refine call_fn_g ?_ (fun _=>hve _) ?_))|refine draw_end (by decide +kernel) ?_|((first|apply Ca|apply Cb)<;>intro hb)|refine Ai (by omega) ?_|(apply Ai<;>intro hb)
  (refine loop_can2 cxG (fun x:Nat=>x) (fun _=>True) (b0+16) (fun x=>[(0,.str [32,9,10,13]),(7,.str (l++[c])),(8,.int .i64 l.length),(9,.int .i64 l.length)]) (fun x=>[]) (0) [] ?_ ?_ ?_ ?_;rotate_left 1;(focus (show b0≤_;omega));(focus (refine⟨?_,?_⟩<;>(try simp only[cans,h1,vcs,seval,tys,injs])<;>(try omega)));rotate_left 1)
  ·trivial
  ·intro x _
   have hlt4:decide ((l.length:Int)<4)=true:=decide_eq_true (by omega)
   have hlt4':decide (l.length<4)=true:=decide_eq_true (by omega)
   have hl4:l.length<4:=by omega
   obtain⟨d,hd⟩:∃ d,([32,9,10,13]:List UInt8)[l.length]? = some d:=⟨_,List.getElem?_eq_getElem (by simp;omega)⟩
   have hdc:(!((d.toNat:Int)==(c.toNat:Int)))=true:=by
    have hda:d.toNat<128:=by
     have:=List.mem_of_getElem? hd
     simp only[Lk,Ln,or_false]at this
     rcases this with rfl|rfl|rfl|rfl<;>decide
    rw[beq_false_of_ne (by omega)];rfl
   have hdc':((d.toNat:Int) !=(c.toNat:Int))=true:=hdc
   have hw3:IntKind.i64.wrap ((l.length:Int)+1)=((l.length+1:Nat):Int):=wrap_in (by omega) (by omega)
   have hs1:((l.length+1:Nat):Int)≤4:=by omega
   have hs2:l.length+1≤4:=by omega
   have hs3:l.length<l.length+1:=by omega
   have hix:=idxSB_ev (([32,9,10,13]:List UInt8).drop (l.length+1)) c
   have hi0:indexByte (([32,9,10,13]:List UInt8).drop (l.length+1)) c = -1:=idx_none (ascii4 h2 (l.length+1))
   rw[hi0]at hix
   (repeat' first|simp only[fins,mems,results181,ntmps181,wks,hll,hgl,hlt4,hlt4',hl4,hd,hdc,hdc',hw3,hs1,hs2,hs3,List.length_cons,List.length_nil,vcs,seval,tys]|exact rfl|refine call_off (v:=.any) ?_|(first|(refine call_fn ?_ (hix _) ?_)|(refine call_fn_g ?_ (fun _=>hix _) ?_))|refine draw_end (by decide +kernel) ?_|refine Ai (by omega) ?_|refine Fin.pure ?_ ?_ ?_|simp only[injs])
def blankZ (z:Int):Bool:=decide (z=32∨z=9∨z=10∨z=13)
theorem idxR_blank {z:Int}(hm:may z=true):decide (0≤idxR z)=blankZ z:=by
 have hr:=may_range hm
 unfold idxR blankZ
 by_cases c1:z<128
 ·rw[if_pos c1]
  have key:∀ n:Fin 128,decide (0≤indexByte blanks4 (UInt8.ofNat n.val))=decide (n.val=32∨n.val=9∨n.val=10∨n.val=13):=by decide +kernel
  have:=key ⟨z.toNat,by omega⟩
  rw[this]
  rw[decide_eq_decide]
  simp only;omega
 ·rw[if_neg c1]
  rw[decide_eq_decide];omega
theorem hasRune_ev (z:Int)(hm:may z=true)(nm:Nat):Ev cx 162 nm [.str [32,9,10,13],.int .i32 z] Mem.nil (.bool (blankZ z)) []:=by
 have h:=idxR_blank hm
 refine ev_go rfl (fun cargs w=>call162 cargs w) func162 rfl mixed (by kernel_rfl) rfl ?_;intro b0 hb0
 (repeat' first|simp only[fins,mems,results162,ntmps162,wks,h,vcs,seval,tys]|exact rfl|refine call_off (v:=.any) ?_|(first|(refine call_fn ?_ (idxRune_ev z hm _) ?_)|(refine call_fn_g ?_ (fun _=>idxRune_ev z hm _) ?_))|((first|apply Ca|apply Cb)<;>intro hb)|refine Ai (by omega) ?_|(apply Ai<;>intro hb)|refine Fin.pure ?_ ?_ ?_|simp only[injs])
def flatZ (z:Int):Int:=if blankZ z=true then 32 else z
theorem flat_ev (z:Int)(hm:may z=true)(nm:Nat):Ev cx 185 nm [.int .i32 z] Mem.nil (.int .i32 (flatZ z)) []:=by
 have h:=hasRune_ev z hm
 unfold flatZ
 generalize blankZ z=b at h ⊢
 cases b<;>(
  refine ev_go rfl (fun cargs w=>call185 cargs w) func185 rfl mixed (by kernel_rfl) rfl ?_;intro b0 hb0
  (repeat' first|simp only[fins,mems,results185,ntmps185,wks,if_true,Bool.false_eq_true,if_false,vcs,seval,tys]|exact rfl|refine call_off (v:=.any) ?_|(first|(refine call_fn ?_ (h _) ?_)|(refine call_fn_g ?_ (fun _=>h _) ?_))|((first|apply Ca|apply Cb)<;>intro hb)|refine Ai (by omega) ?_|(apply Ai<;>intro hb)|refine Fin.pure ?_ ?_ ?_|simp only[injs]))
theorem of1_no (z:Int)(hm:may z=false)(q y:Nat)(bs:List UInt8)(M:Mem)(nm:Nat)(hqy:q≠y)(hq:M q=some ⟨1,[[.own y 0 bs.length]]⟩)(hy:M y=some (rK bs))(ho:∀ w,(M w).isSome=true→w∈[q,y])(hqn:q<nm)(hyn:y<nm):Ev cx 205 nm [.int .i64 z,.ptr q 0 0] M (.bool false) [(q,some ⟨1,[[.own y 0 bs.length]]⟩),(y,some (rK bs))]:=by
 have hmay:=tMay_ev z
 rw[hm]at hmay
 refine ev_go rfl (fun cargs w=>call205 cargs w) func205 rfl mixed (by kernel_rfl) rfl ?_;intro b0 hb0
 have ly:y<b0:=below_of hb0 (by rw[hy];rfl)
 have y0:=lt_ne ly;have y1:=lt_ne_add ly;have y2:=lt_ne' ly;have y3:=lt_ne_add' ly
 have lq:q<b0:=below_of hb0 (by rw[hq];rfl)
 have z0:=lt_ne lq;have z1:=lt_ne_add lq;have z2:=lt_ne' lq;have z3:=lt_ne_add' lq
 have n1:=eq_false hqy;have n4:=eq_false (Ne.symm hqy)
 repeat' first|simp only[fins,mems,results205,ntmps205,wks,Bf,vcs,seval,tys]|exact rfl|refine call_off (v:=.any) ?_|(first|(refine call_fn ?_ (hmay _) ?_)|(refine call_fn_g ?_ (fun _=>hmay _) ?_))|((first|apply Ca|apply Cb)<;>intro hb)|refine Ai (by omega) ?_|(apply Ai<;>intro hb)
 all_goals ((refine Fin.give [(q,none),(y,none)] [] ?_ ?_ ?_ ?_ ?_ (fun q hq=>by have hqq:=ho q hq;first|(simp only[gives,tgt,Lc,Lo,Lk,Ln,or_false]at hqq ⊢;omega)|(simp only[gives,tgt,Lc,Lo,Lk,Ln,or_false]at hqq))<;>(try simp only[results205,ntmps205,wks,hq,hy,rK_def,ren_bytesI,renOk_bytesI,z0,z1,z2,z3,y0,y1,y2,y3,n1,n4,giv,vcs,seval,tys])<;>(try simp only[injs])<;>(try omega)))
theorem of1_yes (z:Int)(hm:may z=true)(q y:Nat)(bs:List UInt8)(hbs:bs.length≤1000000)(M:Mem)(nm:Nat)(hqy:q≠y)(hq:M q=some ⟨1,[[.own y 0 bs.length]]⟩)(hy:M y=some (rK bs))(ho:∀ w,(M w).isSome=true→w∈[q,y])(hqn:q<nm)(hyn:y<nm):Ev cx 205 nm [.int .i64 z,.ptr q 0 0] M (.bool true) [(y,none),(q,some ⟨1,[[.own nm 0 (bs.length+(encodeRune z).length)]]⟩),(nm,some (rK (bs++encodeRune z)))]:=by
 have hmay:=tMay_ev z
 rw[hm]at hmay
 have hmz:=(may_iff z).1 hm
 have hw:IntKind.i32.wrap z=z:=IntWalk.i32_in _ (by omega)
 refine ev_go rfl (fun cargs w=>call205 cargs w) func205 rfl mixed (by kernel_rfl) rfl ?_;intro b0 hb0
 have ly:y<b0:=below_of hb0 (by rw[hy];rfl)
 have y0:=lt_ne ly;have y1:=lt_ne_add ly;have y2:=lt_ne' ly;have y3:=lt_ne_add' ly
 have lq:q<b0:=below_of hb0 (by rw[hq];rfl)
 have z0:=lt_ne lq;have z1:=lt_ne_add lq;have z2:=lt_ne' lq;have z3:=lt_ne_add' lq
 have n1:=eq_false hqy;have n4:=eq_false (Ne.symm hqy)
 repeat' first|simp only[fins,mems,results205,ntmps205,wks,hw,hq,hy,z0,z1,z2,z3,y0,y1,y2,y3,n1,n4,fresh_self,Bt,vcs,seval,tys]|exact rfl|refine call_off (v:=.any) ?_|(first|(refine call_fn ?_ (hmay _) ?_)|(refine call_fn_g ?_ (fun _=>hmay _) ?_))|(refine call_fn_full ?_ [y] (rune_ev z hm y bs hbs _ _ ?_ only_mem (by omega)) ?_ ?_)|((first|apply Ca|apply Cb)<;>intro hb)|refine Ai (by omega) ?_|(apply Ai<;>intro hb)
 all_goals ((refine Fin.give [(q,none),(b0+112,some 0)] [y] ?_ ?_ ?_ ?_ ?_ (fun q hq=>by have hqq:=ho q hq;first|(simp only[gives,tgt,Lc,Lo,Lk,Ln,or_false]at hqq ⊢;omega)|(simp only[gives,tgt,Lc,Lo,Lk,Ln,or_false]at hqq))<;>(try simp only[results205,ntmps205,wks,hq,hy,rK_def,ren_bytesI,renOk_bytesI,z0,z1,z2,z3,y0,y1,y2,y3,n1,n4,giv,vcs,seval,tys])<;>(try simp only[injs])<;>(try omega)))
theorem enc_take_snoc {zs:List Int}{k:Nat}{z:Int}(h:zs[k]? = some z):enc (zs.take (k+1))=enc (zs.take k)++encodeRune z:=by
 obtain⟨hk,rfl⟩:=List.getElem?_eq_some_iff.1 h
 rw[List.take_succ_eq_append_getElem hk,enc_snoc]
theorem of_ev (zs:List Int)(hl:zs.length≤100000)(nm:Nat):Ev cx 190 nm [.sl false 1 (zs.map intRow)] Mem.nil (.tup [.str (ofText zs),.int .i64 (ofErr zs)]) []:=by
 refine ev_go rfl (fun cargs w=>call190 cargs w) func190 rfl mixed (by kernel_rfl) rfl ?_;intro b0 hb0
 repeat' first|simp only[fins,mems,results190,ntmps190,wks,plain_i,Lm,vcs,seval,tys]|exact rfl|refine call_off (v:=.any) ?_|((first|(refine call_val (g:=?_) ?_ ?_)|(refine call_valg (g:=?_) ?_ ?_));rotate_left 1;(focus (simp only[results190,ntmps190,wks,plain_i,Lm,vcs,seval,tys]<;>exact rfl)))|((first|apply Ca|apply Cb)<;>intro hb)|refine Ai (by omega) ?_|(apply Ai<;>intro hb)
 (refine loop_can2 cxG (fun x:Nat=>zs.length-x) (fun x=>x≤zs.length∧(zs.take x).all may=true) (b0+16) (fun x=>[(4,.ptr b0 0 0),(5,.fn 205 [.ptr b0 0 0]),(9,.sl false 1 (zs.map intRow)),(10,.int .i64 zs.length),(11,.int .i64 x)]) (fun x=>[(b0,⟨1,[[.own (b0+1) 0 (enc (zs.take x)).length]]⟩),(b0+1,rK (enc (zs.take x)))]) (0) [some (b0+32),none] ?_ ?_ ?_ ?_;rotate_left 1;(focus (show b0≤_;omega));(focus (refine⟨?_,?_⟩<;>(try simp only[cans,plain_i,rK_def,ren_bytesI,renOk_bytesI,isRow_typed,isRow_inst,List.take_zero,Lo,List.length_nil,Lm,show enc []=[] from rfl,vcs,seval,tys,injs])<;>(try omega)));rotate_left 1)
 ·exact⟨Nat.zero_le _,rfl⟩
 ·rintro k ⟨hk,hall⟩
  have hel:=enc_length (zs.take k)
  have hkl:(zs.take k).length=k:=by rw[List.length_take];omega
  by_cases hlt:k<zs.length
  ·obtain⟨z,hz⟩:∃ z,zs[k]? = some z:=⟨_,List.getElem?_eq_getElem hlt⟩
   have hh:(zs.map intRow)[k]? = some (intRow z):=by rw[List.getElem?_map,hz];rfl
   have hd:decide (k<zs.length)=true:=decide_eq_true hlt
   have hwk:IntKind.i64.wrap ((k:Int)+1)=((k+1:Nat):Int):=wrap_in (by omega) (by omega)
   have hgd:zs.getD k 0=z:=by rw[List.getD_eq_getElem?_getD,hz];rfl
   cases hm:may z with
   | false =>
    have he:ofErr zs=50:=ofErr_bad hlt (by rw[hgd];exact hm)
    have ht:ofText zs=[]:=by unfold ofText;rw[he];rfl
    (repeat' first|simp only[fins,mems,results190,ntmps190,wks,hh,hd,hlt,he,ht,intRow,Lm,Bf,vcs,seval,tys]|exact rfl|refine call_off (v:=.any) ?_|((refine call_full (caps:=?_) ?_ ?_ [b0,b0+1] (of1_no z hm b0 (b0+1) (enc (zs.take k)) _ _ (by omega) ?_ ?_ only_mem (by omega) (by omega)) ?_ ?_);rotate_left 1)|((first|(refine call_val (g:=?_) ?_ ?_)|(refine call_valg (g:=?_) ?_ ?_));rotate_left 1;(focus (simp only[results190,ntmps190,wks,hh,hd,hlt,he,ht,intRow,Lm,Bf,vcs,seval,tys]<;>exact rfl)))|((first|apply Ca|apply Cb)<;>intro hb)|refine Ai (by omega) ?_|(apply Ai<;>intro hb)|refine Fin.pure ?_ ?_ ?_|simp only[injs])
   | true =>
    have hnx:=enc_take_snoc hz
    have hnl:(enc (zs.take k)).length+(encodeRune z).length=(enc (zs.take (k+1))).length:=by rw[hnx,List.length_append]
    have has:=all_snoc hlt hall (by rw[hgd];exact hm)
    repeat' first|simp only[fins,mems,results190,ntmps190,wks,hh,hd,hlt,intRow,fresh_self,Lm,Bt,vcs,seval,tys]|exact rfl|refine call_off (v:=.any) ?_|((refine call_full (caps:=?_) ?_ ?_ [b0,b0+1] (of1_yes z hm b0 (b0+1) (enc (zs.take k)) (by omega) _ _ (by omega) ?_ ?_ only_mem (by omega) (by omega)) ?_ ?_);rotate_left 1)|((first|(refine call_val (g:=?_) ?_ ?_)|(refine call_valg (g:=?_) ?_ ?_));rotate_left 1;(focus (simp only[results190,ntmps190,wks,hh,hd,hlt,intRow,fresh_self,Lm,Bt,vcs,seval,tys]<;>exact rfl)))|((first|apply Ca|apply Cb)<;>intro hb)|refine Ai (by omega) ?_|(apply Ai<;>intro hb)
    all_goals ((refine again_can2 cxG (k+1) [some b0,some (b0+112)] ?_ ?_ ?_ ?_;rotate_left 2;(focus (show b0≤_;omega));(focus (refine⟨?_,?_⟩<;>(try simp only[cans,plain_i,hwk,hnx.symm,hnl,rK_def,ren_bytesI,renOk_bytesI,isRow_typed,isRow_inst,Lm,vcs,seval,tys,injs])<;>(try omega)))))
    all_goals (first|(show zs.length-(k+1)<zs.length-k;omega)|exact⟨hlt,has⟩|skip)
  ·have hke:k=zs.length:=by omega
   subst hke
   rw[List.take_length]at hall hel
   have hd:decide (zs.length<zs.length)=false:=decide_eq_false (by omega)
   by_cases hb:16384<(enc zs).length
   ·have he:ofErr zs=4:=by unfold ofErr;rw[if_pos hall,if_pos hb]
    have ht:ofText zs=[]:=by unfold ofText;rw[he];rfl
    have hd2:decide ((16384:Int)<((enc zs).length:Int))=true:=decide_eq_true (by omega)
    (repeat' first|simp only[fins,mems,results190,ntmps190,wks,hd,hd2,he,ht,List.take_length,Lm,vcs,seval,tys]|exact rfl|refine call_off (v:=.any) ?_|((first|(refine call_val (g:=?_) ?_ ?_)|(refine call_valg (g:=?_) ?_ ?_));rotate_left 1;(focus (simp only[results190,ntmps190,wks,hd,hd2,he,ht,List.take_length,Lm,vcs,seval,tys]<;>exact rfl)))|((first|apply Ca|apply Cb)<;>intro hb)|refine Ai (by omega) ?_|(apply Ai<;>intro hb)|refine Fin.pure ?_ ?_ ?_|simp only[injs])
   ·have he:ofErr zs=0:=by unfold ofErr;rw[if_pos hall,if_neg hb]
    have ht:ofText zs=enc zs:=by unfold ofText;rw[he];rfl
    have hd2:decide ((16384:Int)<((enc zs).length:Int))=false:=decide_eq_false (by omega)
    have htk:((enc zs).map byteRow).take (enc zs).length=(enc zs).map byteRow:=List.take_of_length_le (by simp)
    (repeat' first|simp only[fins,mems,results190,ntmps190,wks,hd,hd2,he,ht,htk,rK_def,List.take_length,Lm,Nat.le_refl,vcs,seval,tys]|exact rfl|refine call_off (v:=.any) ?_|(refine ext_toStr (v:=?_) (bs:=enc zs) ?_ ?_ ?_ ?_ ?_ ?_ ?_;rotate_left 1;(iterate 2 (focus (simp only[results190,ntmps190,wks,hd,hd2,he,ht,htk,rK_def,List.take_length,Lm,Nat.le_refl,vcs,seval,tys];done)));(focus (simp only[results190,ntmps190,wks,hd,hd2,he,ht,htk,rK_def,List.take_length,Lm,Nat.le_refl,vcs,seval,tys]<;>exact rfl));(focus (exact rfl));(focus (simp only[mems,results190,ntmps190,wks,hd,hd2,he,ht,htk,rK_def,List.take_length,Lm,Nat.le_refl,vcs,seval,tys];done));(focus (simp only[results190,ntmps190,wks,hd,hd2,he,ht,htk,rK_def,List.take_length,Lm,Nat.le_refl,vcs,seval,tys]<;>exact rfl)))|(refine extG_true ?_)|(refine extG_false ?_)|((first|(refine call_val (g:=?_) ?_ ?_)|(refine call_valg (g:=?_) ?_ ?_));rotate_left 1;(focus (simp only[results190,ntmps190,wks,hd,hd2,he,ht,htk,rK_def,List.take_length,Lm,Nat.le_refl,vcs,seval,tys]<;>exact rfl)))|((first|apply Ca|apply Cb)<;>intro hb)|refine Ai (by omega) ?_|(apply Ai<;>intro hb)|refine Fin.pure ?_ ?_ ?_|simp only[injs])
end Go.Proofs.YtjdjclecdfhciaaGreatDoor
