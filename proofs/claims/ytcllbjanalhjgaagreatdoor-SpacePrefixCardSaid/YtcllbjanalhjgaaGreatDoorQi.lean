/-
 Texts joined: XGe,XEu,XUt,XNb,XGf.
-/
import Derived.Test.YtcllbjanalhjgaaGreatDoorQg
import Derived.Test.YtcllbjanalhjgaaGreatDoorQh
import Derived.Test.YtcllbjanalhjgaaGreatDoorQf
namespace Go.Proofs.YtcllbjanalhjgaaGreatDoor
set_option maxRecDepth 100000
set_option maxHeartbeats 32000000
set_option linter.unusedSimpArgs false
set_option linter.unusedVariables false
open Go Go.RowKit Vm Go.Lib Tryz
open Vm renaming be→Ca,bo→Cb
open And renaming intro→Ai
open List renaming length_map→Lm,not_mem_nil→Ln,map_nil→Lo,map_cons→Lc,mem_cons→Lk
open Bool renaming not_false→Bf,not_true→Bt
theorem EP (y:Int):IntKind.u8.wrap ((BitVec.ofInt IntKind.u8.bits (IntKind.u8.wrap y) &&& BitVec.ofInt IntKind.u8.bits 63).toNat:Int)=y % 64:=by
 have key:∀ n:Fin 256,IntKind.u8.wrap ((BitVec.ofInt IntKind.u8.bits (n.val:Int) &&& BitVec.ofInt IntKind.u8.bits 63).toNat:Int)=(n.val:Int) % 64:=by decide +kernel
 have h:=key ⟨(y % 256).toNat,by omega⟩
 have e:((y % 256).toNat:Int)=y % 256:=by omega
 simp only[e]at h
 rw[IntKind.wrap_u8 y,h];omega
theorem Mg {h n:Int}(hh:(h=128∧n<64)∨(h=192∧n<32)∨(h=224∧n<16)∨(h=240∧n<8))(h0:0≤n):IntKind.u8.wrap ((BitVec.ofInt IntKind.u8.bits h ||| BitVec.ofInt IntKind.u8.bits n).toNat:Int)=h+n:=by
 have k1:∀ n:Fin 64,IntKind.u8.wrap ((BitVec.ofInt IntKind.u8.bits 128 ||| BitVec.ofInt IntKind.u8.bits (n.val:Int)).toNat:Int)=128+(n.val:Int):=by decide +kernel
 have k2:∀ n:Fin 32,IntKind.u8.wrap ((BitVec.ofInt IntKind.u8.bits 192 ||| BitVec.ofInt IntKind.u8.bits (n.val:Int)).toNat:Int)=192+(n.val:Int):=by decide +kernel
 have k3:∀ n:Fin 16,IntKind.u8.wrap ((BitVec.ofInt IntKind.u8.bits 224 ||| BitVec.ofInt IntKind.u8.bits (n.val:Int)).toNat:Int)=224+(n.val:Int):=by decide +kernel
 have k4:∀ n:Fin 8,IntKind.u8.wrap ((BitVec.ofInt IntKind.u8.bits 240 ||| BitVec.ofInt IntKind.u8.bits (n.val:Int)).toNat:Int)=240+(n.val:Int):=by decide +kernel
 have e:(n.toNat:Int)=n:=by omega
 rcases hh with ⟨rfl,h1⟩|⟨rfl,h1⟩|⟨rfl,h1⟩|⟨rfl,h1⟩
 ·have:=k1 ⟨n.toNat,by omega⟩;simpa only[e] using this
 ·have:=k2 ⟨n.toNat,by omega⟩;simpa only[e] using this
 ·have:=k3 ⟨n.toNat,by omega⟩;simpa only[e] using this
 ·have:=k4 ⟨n.toNat,by omega⟩;simpa only[e] using this
theorem nw (bs:List UInt8)(z:Int)(rows:List (List V))(h:(encodeRune z).map aN=rows):bs.map aN++rows=(bs++encodeRune z).map aN:=by rw[← h,List.map_append]
theorem aQ (bs:List UInt8):rK bs = @Blk.mk 1 (bs.map aN) (.typed 5):=rfl
theorem GW (z:Int)(hm:gD z=true)(h0:128≤z)(y:Nat)(bs:List UInt8)(hbs:bs.length≤1000000)(M:ao)(nm:Nat)(hy:M y=some (rK bs))(ho:∀ w,(M w).isSome=true→w∈[y])(hyn:y<nm):Ev cx 183 nm [.own y 0 bs.length,.int .i32 z] M (.own nm 0 (bs.length+(encodeRune z).length)) [(y,none),(nm,some (rK (bs++encodeRune z)))]:=by
 have hr:=eX hm
 have hmz:=(fP z).1 hm
 have hw:IntKind.u32.wrap z=z:=IntWalk.u32_in _ (by omega)
 have s6:z.fdiv (2 ^ min 6 IntKind.i32.bits)=z / 64:=Int.fdiv_eq_ediv_of_nonneg z (b:=64) (by omega)
 have s12:z.fdiv (2 ^ min 12 IntKind.i32.bits)=z / 4096:=Int.fdiv_eq_ediv_of_nonneg z (b:=4096) (by omega)
 have s18:z.fdiv (2 ^ min 18 IntKind.i32.bits)=z / 262144:=Int.fdiv_eq_ediv_of_nonneg z (b:=262144) (by omega)
 have o1:=Mg (h:=128) (n:=z % 64) (.inl ⟨rfl,by omega⟩) (by omega)
 have o2:=Mg (h:=128) (n:=z / 64 % 64) (.inl ⟨rfl,by omega⟩) (by omega)
 have o3:=Mg (h:=128) (n:=z / 4096 % 64) (.inl ⟨rfl,by omega⟩) (by omega)
 have a1:=EP z
 have a2:=EP (z / 64)
 have a3:=EP (z / 4096)
 by_cases c1:z≤2047
 ·have d1:decide (z≤2047)=true:=decide_eq_true c1
  have w6:IntKind.u8.wrap (z / 64)=z / 64:=IntWalk.u8_in _ (by omega)
  have o4:=Mg (h:=192) (n:=z / 64) (.inr (.inl ⟨rfl,by omega⟩)) (by omega)
  have he:=Nl h0 c1
  have hl:(encodeRune z).length=2:=by simpa using congrArg List.length he
  have hrw:=nw bs z _ he
  rw[hl]
  refine ay rfl (fun cargs w=>call183 cargs w) func183 rfl mixed (by kernel_rfl) rfl ?_;intro b0 hb0
  have ly:y<b0:=av hb0 (by rw[hy];rfl)
  have y0:=aS ly;have y1:=aq ly;have y2:=aI ly;have y3:=aj ly
  repeat' first|simp only[am,ah,results183,ntmps183,ap,hw,d1,s6,w6,a1,a2,a3,o1,o2,o3,o4,hy,hrw,aQ,y0,y1,y2,y3,Lm,List.take_of_length_le,Nat.le_refl,A7,if_true,ck,dX,Option.bind_some,ag,seval,ae]|exact rfl|refine aa (v:=.any) ?_|((first|apply Ca|apply Cb)<;>intro hb)|refine Ai (by omega) ?_|(apply Ai<;>intro hb)
  all_goals ((refine Fin.give [(b0+272,some 0)] [y] ?_ ?_ ?_ ?_ ?_ (fun q hq=>by have hqq:=ho q hq;first|(simp only[aD,tgt,Lc,Lo,Lk,Ln,or_false]at hqq ⊢;omega)|(simp only[aD,tgt,Lc,Lo,Lk,Ln,or_false]at hqq))<;>(try simp only[results183,ntmps183,ap,hw,hy,aQ,bi,aX,y0,y1,y2,y3,ec,ag,seval,ae])<;>(try simp only[au])<;>(try omega)))
 have d1:decide (z≤2047)=false:=decide_eq_false c1
 by_cases c2:z≤65535
 ·have d3:decide (z≤65535)=true:=decide_eq_true c2
  have w12:IntKind.u8.wrap (z / 4096)=z / 4096:=IntWalk.u8_in _ (by omega)
  have o4:=Mg (h:=224) (n:=z / 4096) (.inr (.inr (.inl ⟨rfl,by omega⟩))) (by omega)
  have he:=Nm (z:=z) (by omega)
  have hl:(encodeRune z).length=3:=by simpa using congrArg List.length he
  have hrw:=nw bs z _ he
  rw[hl]
  have hs:(decide (z<55296)=true)∨(decide (z<55296)=false∧decide (57343<z)=true):=by
   by_cases h:z<55296
   ·exact .inl (decide_eq_true h)
   ·exact .inr ⟨decide_eq_false h,decide_eq_true (by omega)⟩
  rcases hs with d4|⟨d4,d5⟩
  ·refine ay rfl (fun cargs w=>call183 cargs w) func183 rfl mixed (by kernel_rfl) rfl ?_;intro b0 hb0
   have ly:y<b0:=av hb0 (by rw[hy];rfl)
   have y0:=aS ly;have y1:=aq ly;have y2:=aI ly;have y3:=aj ly
   repeat' first|simp only[am,ah,results183,ntmps183,ap,hw,d1,d3,d4,s6,s12,w12,a1,a2,a3,o1,o2,o3,o4,hy,hrw,aQ,y0,y1,y2,y3,Lm,List.take_of_length_le,Nat.le_refl,A7,if_true,ck,dX,Option.bind_some,ag,seval,ae]|exact rfl|refine aa (v:=.any) ?_|((first|apply Ca|apply Cb)<;>intro hb)|refine Ai (by omega) ?_|(apply Ai<;>intro hb)
   all_goals ((refine Fin.give [(b0+400,some 0)] [y] ?_ ?_ ?_ ?_ ?_ (fun q hq=>by have hqq:=ho q hq;first|(simp only[aD,tgt,Lc,Lo,Lk,Ln,or_false]at hqq ⊢;omega)|(simp only[aD,tgt,Lc,Lo,Lk,Ln,or_false]at hqq))<;>(try simp only[results183,ntmps183,ap,hw,hy,aQ,bi,aX,y0,y1,y2,y3,ec,ag,seval,ae])<;>(try simp only[au])<;>(try omega)))
  ·refine ay rfl (fun cargs w=>call183 cargs w) func183 rfl mixed (by kernel_rfl) rfl ?_;intro b0 hb0
   have ly:y<b0:=av hb0 (by rw[hy];rfl)
   have y0:=aS ly;have y1:=aq ly;have y2:=aI ly;have y3:=aj ly
   repeat' first|simp only[am,ah,results183,ntmps183,ap,hw,d1,d3,d4,d5,s6,s12,w12,a1,a2,a3,o1,o2,o3,o4,hy,hrw,aQ,y0,y1,y2,y3,Lm,List.take_of_length_le,Nat.le_refl,A7,if_true,ck,dX,Option.bind_some,ag,seval,ae]|exact rfl|refine aa (v:=.any) ?_|((first|apply Ca|apply Cb)<;>intro hb)|refine Ai (by omega) ?_|(apply Ai<;>intro hb)
   all_goals ((refine Fin.give [(b0+512,some 0)] [y] ?_ ?_ ?_ ?_ ?_ (fun q hq=>by have hqq:=ho q hq;first|(simp only[aD,tgt,Lc,Lo,Lk,Ln,or_false]at hqq ⊢;omega)|(simp only[aD,tgt,Lc,Lo,Lk,Ln,or_false]at hqq))<;>(try simp only[results183,ntmps183,ap,hw,hy,aQ,bi,aX,y0,y1,y2,y3,ec,ag,seval,ae])<;>(try simp only[au])<;>(try omega)))
 ·have d3:decide (z≤65535)=false:=decide_eq_false c2
  have d4:decide (z<55296)=false:=decide_eq_false (by omega)
  have d5:decide (57343<z)=true:=decide_eq_true (by omega)
  have d6:decide (65535<z)=true:=decide_eq_true (by omega)
  have d7:decide (z≤1114111)=true:=decide_eq_true (by omega)
  have w18:IntKind.u8.wrap (z / 262144)=z / 262144:=IntWalk.u8_in _ (by omega)
  have o4:=Mg (h:=240) (n:=z / 262144) (.inr (.inr (.inr ⟨rfl,by omega⟩))) (by omega)
  have he:=Nn (z:=z) (by omega) (by omega)
  have hl:(encodeRune z).length=4:=by simpa using congrArg List.length he
  have hrw:=nw bs z _ he
  rw[hl]
  refine ay rfl (fun cargs w=>call183 cargs w) func183 rfl mixed (by kernel_rfl) rfl ?_;intro b0 hb0
  have ly:y<b0:=av hb0 (by rw[hy];rfl)
  have y0:=aS ly;have y1:=aq ly;have y2:=aI ly;have y3:=aj ly
  repeat' first|simp only[am,ah,results183,ntmps183,ap,hw,d1,d3,d4,d5,d6,d7,s6,s12,s18,w18,a1,a2,a3,o1,o2,o3,o4,hy,hrw,aQ,y0,y1,y2,y3,Lm,List.take_of_length_le,Nat.le_refl,A7,if_true,ck,dX,Option.bind_some,ag,seval,ae]|exact rfl|refine aa (v:=.any) ?_|((first|apply Ca|apply Cb)<;>intro hb)|refine Ai (by omega) ?_|(apply Ai<;>intro hb)
  all_goals ((refine Fin.give [(b0+704,some 0)] [y] ?_ ?_ ?_ ?_ ?_ (fun q hq=>by have hqq:=ho q hq;first|(simp only[aD,tgt,Lc,Lo,Lk,Ln,or_false]at hqq ⊢;omega)|(simp only[aD,tgt,Lc,Lo,Lk,Ln,or_false]at hqq))<;>(try simp only[results183,ntmps183,ap,hw,hy,aQ,bi,aX,y0,y1,y2,y3,ec,ag,seval,ae])<;>(try simp only[au])<;>(try omega)))
theorem Fk {z:Int}(h0:0≤z)(h1:z≤127):(encodeRune z).length=1:=by simpa using congrArg List.length (Mw h0 h1)
theorem BV (z:Int)(hm:gD z=true)(y:Nat)(bs:List UInt8)(hbs:bs.length≤1000000)(M:ao)(nm:Nat)(hy:M y=some (rK bs))(ho:∀ w,(M w).isSome=true→w∈[y])(hyn:y<nm):Ev cx 176 nm [.own y 0 bs.length,.int .i32 z] M (.own nm 0 (bs.length+(encodeRune z).length)) [(y,none),(nm,some (rK (bs++encodeRune z)))]:=by
 have hmz:=(fP z).1 hm
 have hr:=eX hm
 have hw:IntKind.u32.wrap z=z:=IntWalk.u32_in _ (by omega)
 by_cases c1:z≤127
 ·have d1:decide (z≤127)=true:=decide_eq_true c1
  have w8:IntKind.u8.wrap z=z:=IntWalk.u8_in _ (by omega)
  have he:=Mw hr.1 c1
  have hrw:=nw bs z _ he
  rw[Fk hr.1 c1]
  refine ay rfl (fun cargs w=>call176 cargs w) func176 rfl mixed (by kernel_rfl) rfl ?_;intro b0 hb0
  have ly:y<b0:=av hb0 (by rw[hy];rfl)
  have y0:=aS ly;have y1:=aq ly;have y2:=aI ly;have y3:=aj ly
  repeat' first|simp only[am,ah,results176,ntmps176,ap,hw,d1,w8,hy,hrw,aQ,y0,y1,y2,y3,Lm,List.take_of_length_le,Nat.le_refl,A7,if_true,ck,dX,Option.bind_some,ag,seval,ae]|exact rfl|refine aa (v:=.any) ?_|((first|apply Ca|apply Cb)<;>intro hb)|refine Ai (by omega) ?_|(apply Ai<;>intro hb)
  all_goals ((refine Fin.give [(b0+128,some 0)] [y] ?_ ?_ ?_ ?_ ?_ (fun q hq=>by have hqq:=ho q hq;first|(simp only[aD,tgt,Lc,Lo,Lk,Ln,or_false]at hqq ⊢;omega)|(simp only[aD,tgt,Lc,Lo,Lk,Ln,or_false]at hqq))<;>(try simp only[results176,ntmps176,ap,hw,hy,aQ,bi,aX,y0,y1,y2,y3,ec,ag,seval,ae])<;>(try simp only[au])<;>(try omega)))
 ·have d1:decide (z≤127)=false:=decide_eq_false c1
  refine ay rfl (fun cargs w=>call176 cargs w) func176 rfl mixed (by kernel_rfl) rfl ?_;intro b0 hb0
  have ly:y<b0:=av hb0 (by rw[hy];rfl)
  have y0:=aS ly;have y1:=aq ly;have y2:=aI ly;have y3:=aj ly
  repeat' first|simp only[am,ah,results176,ntmps176,ap,hw,d1,hy,y0,y1,y2,y3,aP,ag,seval,ae]|exact rfl|refine aa (v:=.any) ?_|(refine ad ?_ [y] (GW z hm (by omega) y bs hbs _ _ ?_ ak (by omega)) ?_ ?_)|((first|apply Ca|apply Cb)<;>intro hb)|refine Ai (by omega) ?_|(apply Ai<;>intro hb)
  all_goals ((refine Fin.give [(b0+96,some 0)] [y] ?_ ?_ ?_ ?_ ?_ (fun q hq=>by have hqq:=ho q hq;first|(simp only[aD,tgt,Lc,Lo,Lk,Ln,or_false]at hqq ⊢;omega)|(simp only[aD,tgt,Lc,Lo,Lk,Ln,or_false]at hqq))<;>(try simp only[results176,ntmps176,ap,hw,hy,aQ,bi,aX,y0,y1,y2,y3,ec,ag,seval,ae])<;>(try simp only[au])<;>(try omega)))
theorem un (s:List UInt8)(c:UInt8)(M:ao)(nm:Nat):Ev cx 131 nm [.str s,.int .u8 c.toNat] M (.int .i64 (indexByte s c)) [] :=
 Ev.indexByte func131 (by kernel_rfl) (by kernel_rfl) (by kernel_rfl) (by kernel_rfl) s c M nm
theorem l6 (s:List UInt8)(c:UInt8)(nm:Nat):Ev cx 109 nm [.str s,.int .u8 c.toNat] ao.nil (.int .i64 (indexByte s c)) []:=by
 refine ay rfl (fun cargs w=>call109 cargs w) func109 rfl mixed (by kernel_rfl) rfl ?_;intro b0 hb0
 (repeat' first|simp only[am,ah,results109,ntmps109,ap,ag,seval,ae]|exact rfl|refine aa (v:=.any) ?_|(first|(refine ac ?_ (un s c _ _) ?_)|(refine ab ?_ (fun _=>un s c _ _) ?_))|((first|apply Ca|apply Cb)<;>intro hb)|refine Ai (by omega) ?_|(apply Ai<;>intro hb)|refine Fin.pure ?_ ?_ ?_|simp only[au])
theorem io (s:List UInt8)(d:UInt8)(nm:Nat):Ev cx 92 nm [.str s,.str [d]] ao.nil (.int .i64 (indexByte s d)) []:=by
 by_cases h:[d]=s
 ·subst h
  have e:indexByte [d] d=0:=by simp[indexByte]
  have e1:([d]==[d])=true:=by simp
  refine ay rfl (fun cargs w=>call92 cargs w) func92 rfl mixed (by kernel_rfl) rfl ?_;intro b0 hb0
  (repeat' first|simp only[am,ah,results92,ntmps92,ap,e,e1,ag,seval,ae]|exact rfl|refine aa (v:=.any) ?_|(first|(refine ac ?_ (l6 [d] d _) ?_)|(refine ab ?_ (fun _=>l6 [d] d _) ?_))|((first|apply Ca|apply Cb)<;>intro hb)|refine Ai (by omega) ?_|(apply Ai<;>intro hb)|refine Fin.pure ?_ ?_ ?_|simp only[au])
 ·have e1:([d]==s)=false:=beq_false_of_ne h
  refine ay rfl (fun cargs w=>call92 cargs w) func92 rfl mixed (by kernel_rfl) rfl ?_;intro b0 hb0
  (repeat' first|simp only[am,ah,results92,ntmps92,ap,e1,ag,seval,ae]|exact rfl|refine aa (v:=.any) ?_|(first|(refine ac ?_ (l6 s d _) ?_)|(refine ab ?_ (fun _=>l6 s d _) ?_))|((first|apply Ca|apply Cb)<;>intro hb)|refine Ai (by omega) ?_|(apply Ai<;>intro hb)|refine Fin.pure ?_ ?_ ?_|simp only[au])
def fY (d:UInt8)(s:List UInt8):V:=match dH d s with
 | none=>.tup [.str s,.str [],.bool false]
 | some (a,b)=>.tup [.str a,.str b,.bool true]
theorem H3 (s:List UInt8)(d:UInt8)(hs:s.length≤bk)(nm:Nat):Ev cx 91 nm [.str s,.str [d]] ao.nil (fY d s) []:=by
 unfold bk at hs
 cases hc:dH d s with
 | none =>
  have e:indexByte s d = -1:=gP.2 hc
  have ev:fY d s = .tup [.str s,.str [],.bool false]:=by unfold fY;rw[hc]
  rw[ev]
  refine ay rfl (fun cargs w=>call91 cargs w) func91 rfl mixed (by kernel_rfl) rfl ?_;intro b0 hb0
  (repeat' first|simp only[am,ah,results91,ntmps91,ap,ag,seval,ae]|exact rfl|refine aa (v:=.any) ?_|(first|(refine ac ?_ ((by have:=io s d;rw[e]at this;exact this _)) ?_)|(refine ab ?_ (fun _=>(by have:=io s d;rw[e]at this;exact this _)) ?_))|refine aG (by decide +kernel) ?_|((first|apply Ca|apply Cb)<;>intro hb)|refine Ai (by omega) ?_|(apply Ai<;>intro hb)|refine Fin.pure ?_ ?_ ?_|simp only[au])
 | some p =>
  obtain⟨a,b⟩:=p
  obtain⟨e,e1,e2,e3⟩:=jg hc
  have ev:fY d s = .tup [.str a,.str b,.bool true]:=by unfold fY;rw[hc]
  have h1:(a.length:Int)≤s.length:=by omega
  have h2:IntKind.i64.wrap ((a.length:Int)+1)=((a.length+1:Nat):Int):=aR (by omega) (by omega)
  have h3:((a.length+1:Nat):Int)≤s.length:=by omega
  have h4:a.length≤s.length:=by omega
  have h5:a.length+1≤s.length:=by omega
  rw[ev]
  refine ay rfl (fun cargs w=>call91 cargs w) func91 rfl mixed (by kernel_rfl) rfl ?_;intro b0 hb0
  (repeat' first|simp only[am,ah,results91,ntmps91,ap,h1,h2,h3,h4,h5,e1,e2,ag,seval,ae]|exact rfl|refine aa (v:=.any) ?_|(first|(refine ac ?_ ((by have:=io s d;rw[e]at this;exact this _)) ?_)|(refine ab ?_ (fun _=>(by have:=io s d;rw[e]at this;exact this _)) ?_))|refine aG (by decide +kernel) ?_|((first|apply Ca|apply Cb)<;>intro hb)|refine Ai (by omega) ?_|(apply Ai<;>intro hb)|refine Fin.pure ?_ ?_ ?_|simp only[au])
theorem mN (s:List UInt8)(d:UInt8)(hs:s.length≤bk)(nm:Nat):Ev cx 72 nm [.str s,.str [d]] ao.nil (fY d s) []:=by
 have hev:=H3 s d hs
 cases hc:dH d s with
 | none =>
  have ev:fY d s = .tup [.str s,.str [],.bool false]:=by unfold fY;rw[hc]
  rw[ev]at hev ⊢
  refine ay rfl (fun cargs w=>call72 cargs w) func72 rfl mixed (by kernel_rfl) rfl ?_;intro b0 hb0
  (repeat' first|simp only[am,ah,results72,ntmps72,ap,ag,seval,ae]|exact rfl|refine aa (v:=.any) ?_|(first|(refine ac ?_ (hev _) ?_)|(refine ab ?_ (fun _=>hev _) ?_))|((first|apply Ca|apply Cb)<;>intro hb)|refine Ai (by omega) ?_|(apply Ai<;>intro hb)|refine Fin.pure ?_ ?_ ?_|simp only[au])
 | some p =>
  have ev:fY d s = .tup [.str p.1,.str p.2,.bool true]:=by unfold fY;rw[hc]
  rw[ev]at hev ⊢
  refine ay rfl (fun cargs w=>call72 cargs w) func72 rfl mixed (by kernel_rfl) rfl ?_;intro b0 hb0
  (repeat' first|simp only[am,ah,results72,ntmps72,ap,ag,seval,ae]|exact rfl|refine aa (v:=.any) ?_|(first|(refine ac ?_ (hev _) ?_)|(refine ab ?_ (fun _=>hev _) ?_))|((first|apply Ca|apply Cb)<;>intro hb)|refine Ai (by omega) ?_|(apply Ai<;>intro hb)|refine Fin.pure ?_ ?_ ?_|simp only[au])
def oZ (cs:List UInt8)(n:Nat):Bool:=cs.any fun c=>c.toNat==n
def dG (cs:List UInt8):List V:=(List.range 256).map fun i=>.bool (oZ cs i)
theorem cG (cs:List UInt8):(dG cs).length=256:=by simp[dG]
theorem Cg (cs:List UInt8)(c:UInt8):(dG cs)[c.toNat]? = some (.bool (oZ cs c.toNat)):=by
 unfold dG
 rw[List.getElem?_map,List.getElem?_range c.toNat_lt];rfl
theorem Ch (cs:List UInt8)(c:UInt8):(dG cs).set c.toNat (.bool true)=dG (cs++[c]):=by
 refine List.ext_getElem? fun i=>?_
 rw[List.getElem?_set]
 unfold dG
 rw[Lm,List.length_range,List.getElem?_map,List.getElem?_map]
 by_cases hi:i<256
 ·rw[List.getElem?_range hi]
  by_cases e:c.toNat=i
  ·subst e;simp[oZ,hi]
  ·simp[oZ,e]
 ·rw[List.getElem?_eq_none (by simpa using hi)]
  by_cases e:c.toNat=i
  ·subst e;exact absurd c.toNat_lt hi
  ·simp[e]
theorem cD (cs:List UInt8):plainL (dG cs)=true:=by
 rw[sn,List.all_eq_true]
 intro v hv
 obtain⟨i,_,rfl⟩:=List.mem_map.1 hv
 rfl
theorem va (cs:List UInt8):(dG cs).take 256=dG cs:=List.take_of_length_le (by rw[cG];omega)
theorem u7 (cs:List UInt8):(dG cs).drop 256=[]:=List.drop_of_length_le (by rw[cG];omega)
theorem za (cs:List UInt8):(dG cs).all V.one=true:=by
 rw[List.all_eq_true]
 intro v hv
 obtain⟨i,_,rfl⟩:=List.mem_map.1 hv
 rfl
theorem zJ (σ:List (Nat×Nat))(M:ao)(cs:List UInt8):finL σ M (dG cs)=dG cs:=(finL_plain σ M _ (cD cs)).1
theorem rF (σ:List (Nat×Nat))(M:ao)(cs:List UInt8):finLOk σ M (dG cs)=True:=eq_true (finL_plain σ M _ (cD cs)).2
theorem Aj (cs:List UInt8):leL (dG cs) (dG cs)=True:=eq_true (leL_refl _)
theorem jK (cs:List UInt8):plainLL [dG cs]=true:=by simp[plainLL,cD]
theorem u9:([V.bool false,V.bool false,V.bool false,V.bool false,V.bool false,V.bool false,V.bool false,V.bool false,V.bool false,V.bool false,V.bool false,V.bool false,V.bool false,V.bool false,V.bool false,V.bool false,V.bool false,V.bool false,V.bool false,V.bool false,V.bool false,V.bool false,V.bool false,V.bool false,V.bool false,V.bool false,V.bool false,V.bool false,V.bool false,V.bool false,V.bool false,V.bool false,V.bool false,V.bool false,V.bool false,V.bool false,V.bool false,V.bool false,V.bool false,V.bool false,V.bool false,V.bool false,V.bool false,V.bool false,V.bool false,V.bool false,V.bool false,V.bool false,V.bool false,V.bool false,V.bool false,V.bool false,V.bool false,V.bool false,V.bool false,V.bool false,V.bool false,V.bool false,V.bool false,V.bool false,V.bool false,V.bool false,V.bool false,V.bool false,V.bool false,V.bool false,V.bool false,V.bool false,V.bool false,V.bool false,V.bool false,V.bool false,V.bool false,V.bool false,V.bool false,V.bool false,V.bool false,V.bool false,V.bool false,V.bool false,V.bool false,V.bool false,V.bool false,V.bool false,V.bool false,V.bool false,V.bool false,V.bool false,V.bool false,V.bool false,V.bool false,V.bool false,V.bool false,V.bool false,V.bool false,V.bool false,V.bool false,V.bool false,V.bool false,V.bool false,V.bool false,V.bool false,V.bool false,V.bool false,V.bool false,V.bool false,V.bool false,V.bool false,V.bool false,V.bool false,V.bool false,V.bool false,V.bool false,V.bool false,V.bool false,V.bool false,V.bool false,V.bool false,V.bool false,V.bool false,V.bool false,V.bool false,V.bool false,V.bool false,V.bool false,V.bool false,V.bool false,V.bool false,V.bool false,V.bool false,V.bool false,V.bool false,V.bool false,V.bool false,V.bool false,V.bool false,V.bool false,V.bool false,V.bool false,V.bool false,V.bool false,V.bool false,V.bool false,V.bool false,V.bool false,V.bool false,V.bool false,V.bool false,V.bool false,V.bool false,V.bool false,V.bool false,V.bool false,V.bool false,V.bool false,V.bool false,V.bool false,V.bool false,V.bool false,V.bool false,V.bool false,V.bool false,V.bool false,V.bool false,V.bool false,V.bool false,V.bool false,V.bool false,V.bool false,V.bool false,V.bool false,V.bool false,V.bool false,V.bool false,V.bool false,V.bool false,V.bool false,V.bool false,V.bool false,V.bool false,V.bool false,V.bool false,V.bool false,V.bool false,V.bool false,V.bool false,V.bool false,V.bool false,V.bool false,V.bool false,V.bool false,V.bool false,V.bool false,V.bool false,V.bool false,V.bool false,V.bool false,V.bool false,V.bool false,V.bool false,V.bool false,V.bool false,V.bool false,V.bool false,V.bool false,V.bool false,V.bool false,V.bool false,V.bool false,V.bool false,V.bool false,V.bool false,V.bool false,V.bool false,V.bool false,V.bool false,V.bool false,V.bool false,V.bool false,V.bool false,V.bool false,V.bool false,V.bool false,V.bool false,V.bool false,V.bool false,V.bool false,V.bool false,V.bool false,V.bool false,V.bool false,V.bool false,V.bool false,V.bool false,V.bool false,V.bool false,V.bool false,V.bool false,V.bool false,V.bool false,V.bool false,V.bool false,V.bool false,V.bool false,V.bool false,V.bool false,V.bool false,V.bool false,V.bool false,V.bool false,V.bool false,V.bool false,V.bool false,V.bool false,V.bool false,V.bool false]:List V)=dG []:=rfl
theorem ny (cs:List UInt8)(h:∀ c∈cs,c.toNat<128)(hl:cs.length≤100)(nm:Nat):Ev cx 147 nm [.str cs] ao.nil (.tup [.agg (dG cs),.bool true]) []:=by
 refine ay rfl (fun cargs w=>call147 cargs w) func147 rfl mixed (by kernel_rfl) rfl ?_;intro b0 hb0
 repeat' first|simp only[am,ah,results147,ntmps147,ap,u9,cG,ag,seval,ae]|exact rfl|refine aa (v:=.any) ?_|((first|apply Ca|apply Cb)<;>intro hb)|refine Ai (by omega) ?_|(apply Ai<;>intro hb)
 (refine aV cm (fun x:Nat=>cs.length-x) (fun x=>x≤cs.length) (b0+16) (fun x=>[(0,.str cs),(2,.ptr b0 0 0),(4,.int .i64 x)]) (fun x=>[(b0,⟨256,[dG (cs.take x)]⟩)]) (0) [some b0] ?_ ?_ ?_ ?_;rotate_left 1;(focus (show b0≤_;omega));(focus (refine⟨?_,?_⟩<;>(try simp only[bj,cD,jK,u9,cG,List.take_zero,ag,seval,ae,au])<;>(try omega)));rotate_left 1)
 ·exact Nat.zero_le _
 ·intro k hk
  by_cases hlt:k<cs.length
  ·obtain⟨c,hc⟩:∃ c,cs[k]? = some c:=⟨_,List.getElem?_eq_getElem hlt⟩
   have hd:decide (k<cs.length)=true:=decide_eq_true hlt
   have hwk:IntKind.i64.wrap ((k:Int)+1)=((k+1:Nat):Int):=aR (by omega) (by omega)
   have h128:=h c (List.mem_of_getElem? hc)
   have hd2:decide ((128:Int)≤(c.toNat:Int))=false:=decide_eq_false (by omega)
   have h256:c.toNat<256:=c.toNat_lt
   have hset:=Ch (cs.take k) c
   have htk:cs.take k++[c]=cs.take (k+1):=by
    obtain⟨hk',rfl⟩:=List.getElem?_eq_some_iff.1 hc
    rw[List.take_succ_eq_append_getElem hk']
   rw[htk]at hset
   repeat' first|simp only[am,ah,results147,ntmps147,ap,hc,hd,hd2,hlt,h256,hset,cG,ag,seval,ae]|exact rfl|refine aa (v:=.any) ?_|((first|apply Ca|apply Cb)<;>intro hb)|refine Ai (by omega) ?_|(apply Ai<;>intro hb)
   all_goals ((refine aJ cm (k+1) [some b0] ?_ ?_ ?_ ?_;rotate_left 2;(focus (show b0≤_;omega));(focus (refine⟨?_,?_⟩<;>(try simp only[bj,cD,jK,hset,hwk,ag,seval,ae,au])<;>(try omega)))))
   all_goals (first|(show cs.length-(k+1)<cs.length-k;omega)|(show k+1≤cs.length;omega)|skip)
  ·have hke:k=cs.length:=by omega
   subst hke
   have hd:decide (cs.length<cs.length)=false:=decide_eq_false (by omega)
   have htk:cs.take cs.length=cs:=List.take_length
   (repeat' first|simp only[am,ah,results147,ntmps147,ap,hd,htk,va,u7,za,zJ,rF,Aj,cG,jK,cD,ag,seval,ae]|exact rfl|refine aa (v:=.any) ?_|((first|apply Ca|apply Cb)<;>intro hb)|refine Ai (by omega) ?_|(apply Ai<;>intro hb)|refine Fin.pure ?_ ?_ ?_|simp only[au])
theorem wN (cs:List UInt8)(c:UInt8)(nm:Nat):Ev cx 162 nm [.rp (dG cs),.int .u8 c.toNat] ao.nil (.bool (oZ cs c.toNat)) []:=by
 have h256:c.toNat<256:=c.toNat_lt
 have hg:(List.drop c.toNat (dG cs))[0]? = some (.bool (oZ cs c.toNat)):=by rw[List.getElem?_drop,Nat.add_zero];exact Cg cs c
 have hl:0<(List.drop c.toNat (dG cs)).length:=by rw[List.length_drop,cG];omega
 refine ay rfl (fun cargs w=>call162 cargs w) func162 rfl mixed (by kernel_rfl) rfl ?_;intro b0 hb0
 (repeat' first|simp only[am,ah,results162,ntmps162,ap,h256,hg,hl,cG,ag,seval,ae]|exact rfl|refine aa (v:=.any) ?_|((first|apply Ca|apply Cb)<;>intro hb)|refine Ai (by omega) ?_|(apply Ai<;>intro hb)|refine Fin.pure ?_ ?_ ?_|simp only[au])
def dv (cs:List UInt8):List UInt8→List UInt8
 | []=>[]
 | c::s=>if oZ cs c.toNat=true then dv cs s else c::s
def eg (cs:List UInt8)(s:List UInt8):List UInt8:=(dv cs s.reverse).reverse
theorem nt (cs:List UInt8):∀(s:List UInt8),∃ k,k≤s.length∧dv cs s=s.drop k∧(∀ i c,i<k→s[i]? = some c→oZ cs c.toNat=true)∧(∀ c,s[k]? = some c→oZ cs c.toNat=false)
 | []=>⟨0,by simp,rfl,fun i c h=>by omega,fun c h=>by simp at h⟩
 | c::s=>by
  unfold dv
  by_cases h:oZ cs c.toNat=true
  ·rw[if_pos h]
   obtain⟨k,h1,h2,h3,h4⟩:=nt cs s
   refine⟨k+1,by simp;omega,by rw[h2];rfl,fun i d hi hd=>?_,fun d hd=>h4 d (by simpa using hd)⟩
   cases i with
   | zero=>simp at hd;subst hd;exact h
   | succ i=>exact h3 i d (by omega) (by simpa using hd)
  ·rw[if_neg h]
   refine⟨0,by simp,rfl,fun i d hi=>by omega,fun d hd=>?_⟩
   simp at hd;subst hd
   simpa using h
theorem uZ {cs s:List UInt8} : dv cs s=[]↔s.all (fun c=>oZ cs c.toNat)=true:=by
 induction s with
 | nil=>simp[dv]
 | cons c s ih =>
  unfold dv
  by_cases h:oZ cs c.toNat=true
  ·rw[if_pos h,ih];simp[h]
  ·rw[if_neg h];simp[h]
theorem wu (cs s:List UInt8):(dv cs s).length≤s.length:=by
 obtain⟨k,h1,h2,_⟩:=nt cs s
 rw[h2];simp
theorem ww (cs s:List UInt8):(eg cs s).length≤s.length:=by
 unfold eg;have:=wu cs s.reverse;simpa using this
theorem mE {cs:List UInt8}{c:UInt8}(s:List UInt8)(h:oZ cs c.toNat=true):dv cs (c::s)=dv cs s:=by rw[dv,if_pos h]
theorem lL {cs:List UInt8}{c:UInt8}(s:List UInt8)(h:oZ cs c.toNat=false):dv cs (c::s)=c::s:=by rw[dv,if_neg (by simp[h])]
theorem tR {cs:List UInt8}{c:UInt8}(s:List UInt8)(h:oZ cs c.toNat=true):eg cs (s++[c])=eg cs s:=by unfold eg;rw[List.reverse_append];simp only[List.reverse_cons,List.reverse_nil,List.nil_append,List.cons_append];rw[mE _ h]
theorem sM {cs:List UInt8}{c:UInt8}(s:List UInt8)(h:oZ cs c.toNat=false):eg cs (s++[c])=s++[c]:=by unfold eg;rw[List.reverse_append];simp only[List.reverse_cons,List.reverse_nil,List.nil_append,List.cons_append];rw[lL _ h];simp
theorem sN {cs s:List UInt8} : dv cs (eg cs s)=[]↔s.all (fun c=>oZ cs c.toNat)=true:=by
 constructor
 ·intro h
  have h1:=uZ.1 h
  unfold eg at h1
  obtain⟨k,hk,hd,hi,ho⟩:=nt cs s.reverse
  rw[List.all_reverse,hd]at h1
  rw[← List.all_reverse,List.all_eq_true]
  intro c hc
  obtain⟨i,hi2⟩:=List.mem_iff_getElem?.1 hc
  by_cases hik:i<k
  ·exact hi i c hik hi2
  ·refine List.all_eq_true.1 h1 c ?_
   refine List.mem_iff_getElem?.2 ⟨i-k,?_⟩
   rw[List.getElem?_drop,show k+(i-k)=i by omega];exact hi2
 ·intro h
  have:eg cs s=[]:=by
   unfold eg
   rw[uZ.2 (by rw[List.all_reverse];exact h)];rfl
  rw[this];rfl
theorem pU (cs s:List UInt8)(hs:s.length≤bk)(nm:Nat):Ev cx 148 nm [.str s,.rp (dG cs)] ao.nil (.str (dv cs s)) []:=by
 unfold bk at hs
 refine ay rfl (fun cargs w=>call148 cargs w) func148 rfl mixed (by kernel_rfl) rfl ?_;intro b0 hb0
 repeat' first|simp only[am,ah,results148,ntmps148,ap,cD,ag,seval,ae]|exact rfl|refine aa (v:=.any) ?_|((first|apply Ca|apply Cb)<;>intro hb)|refine Ai (by omega) ?_|(apply Ai<;>intro hb)
 (refine aV cm (fun x:List UInt8=>x.length) (fun x=>x.length≤s.length∧dv cs s=dv cs x) (b0+16) (fun x=>[(0,.str x),(1,.rp (dG cs))]) (fun x=>[]) (s) [] ?_ ?_ ?_ ?_;rotate_left 1;(focus (show b0≤_;omega));(focus (refine⟨?_,?_⟩<;>(try simp only[bj,cD,ag,seval,ae,au])<;>(try omega)));rotate_left 1)
 ·exact⟨Nat.le_refl _,rfl⟩
 ·rintro x ⟨h1,h2⟩
  cases x with
  | nil =>
   have hz:dv cs s=[]:=h2
   have hd:decide ((0:Int)<0)=false:=rfl
   (repeat' first|simp only[am,ah,results148,ntmps148,ap,hz,hd,Nat.lt_irrefl,Int.lt_irrefl,ag,seval,ae]|exact rfl|refine aa (v:=.any) ?_|((first|apply Ca|apply Cb)<;>intro hb)|refine Ai (by omega) ?_|(apply Ai<;>intro hb)|refine Fin.pure ?_ ?_ ?_|simp only[au])
  | cons c x =>
   have hd:decide ((0:Int)<(((c::x).length:Nat):Int))=true:=decide_eq_true (by simp only[List.length_cons];omega)
   have hl:0<(c::x).length:=by simp
   have h1':(1:Int)≤(((c::x).length:Nat):Int):=by simp only[List.length_cons];omega
   have h1'':1≤(c::x).length:=by simp
   have hh:=wN cs c
   simp only[List.length_cons]at hd hl h1' h1''
   cases hb:oZ cs c.toNat with
   | true =>
    rw[hb]at hh
    repeat' first|simp only[am,ah,results148,ntmps148,ap,cD,hd,hl,h1',h1'',Bt,ag,seval,ae]|exact rfl|refine aa (v:=.any) ?_|(first|(refine ac ?_ (hh _) ?_)|(refine ab ?_ (fun _=>hh _) ?_))|((first|apply Ca|apply Cb)<;>intro hb)|refine Ai (by omega) ?_|(apply Ai<;>intro hb)
    all_goals ((refine aJ cm (x) [] ?_ ?_ ?_ ?_;rotate_left 2;(focus (show b0≤_;omega));(focus (refine⟨?_,?_⟩<;>(try simp only[bj,cD,ag,seval,ae,au])<;>(try omega)))))
    all_goals (first|(show x.length<(c::x).length;simp;done)|(refine⟨by simp at h1;omega,?_⟩;rw[h2,mE _ hb])|skip)
   | false =>
    rw[hb]at hh
    have hz:dv cs s=c::x:=by rw[h2,lL _ hb]
    (repeat' first|simp only[am,ah,results148,ntmps148,ap,cD,hd,hl,h1',h1'',hz,Bf,ag,seval,ae]|exact rfl|refine aa (v:=.any) ?_|(first|(refine ac ?_ (hh _) ?_)|(refine ab ?_ (fun _=>hh _) ?_))|((first|apply Ca|apply Cb)<;>intro hb)|refine Ai (by omega) ?_|(apply Ai<;>intro hb)|refine Fin.pure ?_ ?_ ?_|simp only[au])
theorem wx (cs s:List UInt8)(hs:s.length≤bk)(nm:Nat):Ev cx 149 nm [.str s,.rp (dG cs)] ao.nil (.str (eg cs s)) []:=by
 unfold bk at hs
 refine ay rfl (fun cargs w=>call149 cargs w) func149 rfl mixed (by kernel_rfl) rfl ?_;intro b0 hb0
 repeat' first|simp only[am,ah,results149,ntmps149,ap,cD,ag,seval,ae]|exact rfl|refine aa (v:=.any) ?_|((first|apply Ca|apply Cb)<;>intro hb)|refine Ai (by omega) ?_|(apply Ai<;>intro hb)
 (refine aV cm (fun x:List UInt8=>x.length) (fun x=>x.length≤s.length∧eg cs s=eg cs x) (b0+16) (fun x=>[(0,.str x),(1,.rp (dG cs))]) (fun x=>[]) (s) [] ?_ ?_ ?_ ?_;rotate_left 1;(focus (show b0≤_;omega));(focus (refine⟨?_,?_⟩<;>(try simp only[bj,cD,ag,seval,ae,au])<;>(try omega)));rotate_left 1)
 ·exact⟨Nat.le_refl _,rfl⟩
 ·rintro x ⟨h1,h2⟩
  by_cases hne:x=[]
  ·subst hne
   have hz:eg cs s=[]:=h2
   (repeat' first|simp only[am,ah,results149,ntmps149,ap,hz,Nat.lt_irrefl,Int.lt_irrefl,ag,seval,ae]|exact rfl|refine aa (v:=.any) ?_|((first|apply Ca|apply Cb)<;>intro hb)|refine Ai (by omega) ?_|(apply Ai<;>intro hb)|refine Fin.pure ?_ ?_ ?_|simp only[au])
  ·obtain⟨y,c,rfl⟩:∃ y c,x=y++[c]:=⟨x.dropLast,x.getLast hne,(List.dropLast_concat_getLast hne).symm⟩
   have hlen:(y++[c]).length=y.length+1:=by simp
   have hd:decide ((0:Int)<((y.length+1:Nat):Int))=true:=decide_eq_true (by omega)
   have hw:IntKind.i64.wrap (((y.length+1:Nat):Int)-1)=(y.length:Int):=by rw[aR (by simp at h1;omega) (by simp at h1;omega)];omega
   have hw2:IntKind.i64.wrap ((y.length:Int)+1-1)=(y.length:Int):=by rw[aR (by simp at h1;omega) (by simp at h1;omega)];omega
   have hg:(y++[c])[y.length]? = some c:=by simp
   have hl1:y.length<y.length+1:=by omega
   have hl2:(y.length:Int)≤((y.length+1:Nat):Int):=by omega
   have hl3:y.length≤y.length+1:=by omega
   have htk:(y++[c]).take y.length=y:=by simp
   have hh:=wN cs c
   cases hb:oZ cs c.toNat with
   | true =>
    rw[hb]at hh
    repeat' first|simp only[am,ah,results149,ntmps149,ap,cD,hlen,hd,hw,hw2,hg,hl1,hl2,hl3,htk,Bt,ag,seval,ae]|exact rfl|refine aa (v:=.any) ?_|(first|(refine ac ?_ (hh _) ?_)|(refine ab ?_ (fun _=>hh _) ?_))|((first|apply Ca|apply Cb)<;>intro hb)|refine Ai (by omega) ?_|(apply Ai<;>intro hb)
    all_goals ((refine aJ cm (y) [] ?_ ?_ ?_ ?_;rotate_left 2;(focus (show b0≤_;omega));(focus (refine⟨?_,?_⟩<;>(try simp only[bj,cD,htk,ag,seval,ae,au])<;>(try omega)))))
    all_goals (first|(show y.length<(y++[c]).length;simp only[List.length_append,List.length_singleton];omega)|omega|(refine⟨by simp at h1;omega,?_⟩;rw[h2,tR _ hb])|skip)
   | false =>
    rw[hb]at hh
    have hz:eg cs s=y++[c]:=by rw[h2,sM _ hb]
    (repeat' first|simp only[am,ah,results149,ntmps149,ap,cD,hlen,hd,hw,hw2,hg,hl1,hl2,hl3,hz,Bf,ag,seval,ae]|exact rfl|refine aa (v:=.any) ?_|(first|(refine ac ?_ (hh _) ?_)|(refine ab ?_ (fun _=>hh _) ?_))|((first|apply Ca|apply Cb)<;>intro hb)|refine Ai (by omega) ?_|(apply Ai<;>intro hb)|refine Fin.pure ?_ ?_ ?_|simp only[au])
theorem B5 (cs s:List UInt8)(h:∀ c∈cs,c.toNat<128)(hl:cs.length≤100)(h2:2≤cs.length)(hs:s.length≤bk)(nm:Nat):Ev cx 130 nm [.str s,.str cs] ao.nil (.str (dv cs (eg cs s))) []:=by
 have hcs:(cs==[])=false:=beq_false_of_ne (by intro e;subst e;simp at h2)
 by_cases h0:s=[]
 ·subst h0
  have e0:(([]:List UInt8)==[])=true:=rfl
  have e1:dv cs (eg cs [])=[]:=rfl
  refine ay rfl (fun cargs w=>call130 cargs w) func130 rfl mixed (by kernel_rfl) rfl ?_;intro b0 hb0
  (repeat' first|simp only[am,ah,results130,ntmps130,ap,e0,e1,ag,seval,ae]|exact rfl|refine aa (v:=.any) ?_|refine aG (by decide +kernel) ?_|((first|apply Ca|apply Cb)<;>intro hb)|refine Ai (by omega) ?_|(apply Ai<;>intro hb)|refine Fin.pure ?_ ?_ ?_|simp only[au])
 ·have e0:(s==[])=false:=beq_false_of_ne h0
  have e2:((cs.length:Int)==1)=false:=beq_false_of_ne (by omega)
  have hsr:(eg cs s).length≤bk:=Nat.le_trans (ww cs s) hs
  refine ay rfl (fun cargs w=>call130 cargs w) func130 rfl mixed (by kernel_rfl) rfl ?_;intro b0 hb0
  (repeat' first|simp only[am,ah,results130,ntmps130,ap,e0,hcs,e2,u9,va,u7,za,zJ,rF,Aj,cG,cD,jK,ag,seval,ae]|exact rfl|refine aa (v:=.any) ?_|(first|(refine ac ?_ (ny cs h hl _) ?_)|(refine ab ?_ (fun _=>ny cs h hl _) ?_))|((refine bn (xs:=?_) [b0+320] ?_ ?_ ?_ rfl (wx cs s hs _) ?_);rotate_left 1)|((refine bn (xs:=?_) [b0+320] ?_ ?_ ?_ rfl (pU cs (eg cs s) hsr _) ?_);rotate_left 1)|omega|refine aG (by decide +kernel) ?_|((first|apply Ca|apply Cb)<;>intro hb)|refine Ai (by omega) ?_|(apply Ai<;>intro hb)|refine Fin.pure ?_ ?_ ?_|simp only[au])
def fm:List UInt8:=[32,9,10,13]
theorem Cs (c:UInt8):oZ fm c.toNat=gX c:=by
 have key:∀ n:Fin 256,oZ fm n.val=gX (UInt8.ofNat n.val):=by decide +kernel
 have:=key ⟨c.toNat,c.toNat_lt⟩
 simpa using this
theorem u0:∀ s:List UInt8,dv fm s=s.dropWhile gX
 | []=>rfl
 | c::s=>by
  rw[dv,Cs,List.dropWhile_cons,u0 s]
theorem wv (cs s:List UInt8)(h:∀ c∈cs,c.toNat<128)(hl:cs.length≤100)(h2:2≤cs.length)(hs:s.length≤bk)(nm:Nat):Ev cx 154 nm [.str s,.str cs] ao.nil (.str (dv cs s)) []:=by
 have hcs:(cs==[])=false:=beq_false_of_ne (by intro e;subst e;simp at h2)
 by_cases h0:s=[]
 ·subst h0
  have e0:(([]:List UInt8)==[])=true:=rfl
  have e1:dv cs []=[]:=rfl
  refine ay rfl (fun cargs w=>call154 cargs w) func154 rfl mixed (by kernel_rfl) rfl ?_;intro b0 hb0
  (repeat' first|simp only[am,ah,results154,ntmps154,ap,e0,e1,ag,seval,ae]|exact rfl|refine aa (v:=.any) ?_|((first|apply Ca|apply Cb)<;>intro hb)|refine Ai (by omega) ?_|(apply Ai<;>intro hb)|refine Fin.pure ?_ ?_ ?_|simp only[au])
 ·have e0:(s==[])=false:=beq_false_of_ne h0
  have e2:((cs.length:Int)==1)=false:=beq_false_of_ne (by omega)
  refine ay rfl (fun cargs w=>call154 cargs w) func154 rfl mixed (by kernel_rfl) rfl ?_;intro b0 hb0
  (repeat' first|simp only[am,ah,results154,ntmps154,ap,e0,hcs,e2,u9,va,u7,za,zJ,rF,Aj,cG,cD,jK,ag,seval,ae]|exact rfl|refine aa (v:=.any) ?_|(first|(refine ac ?_ (ny cs h hl _) ?_)|(refine ab ?_ (fun _=>ny cs h hl _) ?_))|((refine bn (xs:=?_) [b0+320] ?_ ?_ ?_ rfl (pU cs s hs _) ?_);rotate_left 1)|omega|((first|apply Ca|apply Cb)<;>intro hb)|refine Ai (by omega) ?_|(apply Ai<;>intro hb)|refine Fin.pure ?_ ?_ ?_|simp only[au])
theorem nV (s:List UInt8)(c:UInt8)(nm:Nat):Ev cx 123 nm [.str s,.int .u8 c.toNat] ao.nil (.int .i64 (indexByte s c)) []:=by
 refine ay rfl (fun cargs w=>call123 cargs w) func123 rfl mixed (by kernel_rfl) rfl ?_;intro b0 hb0
 (repeat' first|simp only[am,ah,results123,ntmps123,ap,ag,seval,ae]|exact rfl|refine aa (v:=.any) ?_|(first|(refine ac ?_ (l6 s c _) ?_)|(refine ab ?_ (fun _=>l6 s c _) ?_))|((first|apply Ca|apply Cb)<;>intro hb)|refine Ai (by omega) ?_|(apply Ai<;>intro hb)|refine Fin.pure ?_ ?_ ?_|simp only[au])
theorem Fj {z:Int}(h0:128≤z)(hm:gD z=true):∃(l:List UInt8) (c:UInt8),(Utf8.encode z).data.toList=l++[c]∧128≤c.toNat∧1≤l.length∧l.length≤3:=by
 have hz:=(fP z).1 hm
 have hv:Utf8.valid z=true:=by unfold Utf8.valid;simp;omega
 have mm:∀ n:Nat,128≤(UInt8.ofNat (128+n % 64)).toNat:=fun n=>by simp;omega
 unfold Utf8.encode
 simp only[hv,if_true]
 rw[if_neg (by omega)]
 split
 ·exact⟨[_],_,rfl,mm _,by simp,by simp⟩
 ·split
  ·exact⟨[_,_],_,rfl,mm _,by simp,by simp⟩
  ·exact⟨[_,_,_],_,rfl,mm _,by simp,by simp⟩
theorem Kw {c:UInt8}(h:128≤c.toNat):∀ k,c ∉ fm.drop k:=by
 intro k hc
 have h1:=List.mem_of_mem_drop hc
 unfold fm at h1
 simp only[Lk,Ln,or_false]at h1
 rcases h1 with rfl|rfl|rfl|rfl<;>exact absurd h (by decide)
theorem FR {d:UInt8}{s:List UInt8}(h:d ∉ s):indexByte s d = -1:=gP.2 (il.2 h)
def FQ (z:Int):Int:=if z<128 then indexByte fm (UInt8.ofNat z.toNat) else -1
theorem r5 (z:Int)(hm:gD z=true)(nm:Nat):Ev cx 172 nm [.str [32,9,10,13],.int .i32 z] ao.nil (.int .i64 (FQ z)) []:=by
 have hz:=(fP z).1 hm
 have hr:=eX hm
 have d0:decide (0≤z)=true:=decide_eq_true hr.1
 by_cases c1:z<128
 ·have d1:decide (z<128)=true:=decide_eq_true c1
  have hw:IntKind.u8.wrap z=((UInt8.ofNat z.toNat).toNat:Int):=by rw[IntWalk.u8_in _ (by omega)];simp;omega
  have hi:=nV fm (UInt8.ofNat z.toNat)
  have hx:FQ z=indexByte fm (UInt8.ofNat z.toNat):=if_pos c1
  rw[hx]
  unfold fm at hi ⊢
  generalize UInt8.ofNat z.toNat=g at hw hi
  refine ay rfl (fun cargs w=>call172 cargs w) func172 rfl mixed (by kernel_rfl) rfl ?_;intro b0 hb0
  (repeat' first|simp only[am,ah,results172,ntmps172,ap,d0,d1,hw,ag,seval,ae]|exact rfl|refine aa (v:=.any) ?_|(first|(refine ac ?_ (hi _) ?_)|(refine ab ?_ (fun _=>hi _) ?_))|refine aG (by decide +kernel) ?_|((first|apply Ca|apply Cb)<;>intro hb)|refine Ai (by omega) ?_|(apply Ai<;>intro hb)|refine Fin.pure ?_ ?_ ?_|simp only[au])
 have d1:decide (z<128)=false:=decide_eq_false c1
 have hx:FQ z = -1:=if_neg c1
 rw[hx]
 by_cases c2:z=65533
 ·subst c2
  refine ay rfl (fun cargs w=>call172 cargs w) func172 rfl mixed (by kernel_rfl) rfl ?_;intro b0 hb0
  repeat' first|simp only[am,ah,results172,ntmps172,ap,d0,d1,ag,seval,ae]|exact rfl|refine aa (v:=.any) ?_|(refine lW (s:=?_) ?_ ?_ ?_;rotate_left 1;(iterate 2 (focus (simp only[results172,ntmps172,ap,d0,d1,ag,seval,ae]<;>exact rfl))))|(refine bh ?_)|(refine ba ?_)|refine aG (by decide +kernel) ?_|((first|apply Ca|apply Cb)<;>intro hb)|refine Ai (by omega) ?_|(apply Ai<;>intro hb)
  (refine aV cm (fun x:Nat=>4-x) (fun x=>x≤4) (b0+16) (fun x=>[(175,.ptr b0 0 0)]) (fun x=>[(b0,jH [32,9,10,13] x)]) (0) [some (b0+192)] ?_ ?_ ?_ ?_;rotate_left 1;(focus (show b0≤_;omega));(focus (refine⟨?_,?_⟩<;>(try simp only[bj,fk,dF,ag,seval,ae,au])<;>(try omega)));rotate_left 1)
  ·exact Nat.zero_le _
  ·intro p hp
   by_cases hlt:p<4
   ·have hd:p<([32,9,10,13]:List UInt8).length:=hlt
    have hrn:bp [32,9,10,13] p=((([32,9,10,13]:List UInt8)[p]?.getD 0).toNat,1)∧((([32,9,10,13]:List UInt8)[p]?.getD 0).toNat:Int)≠65533:=by
     rcases(show p=0∨p=1∨p=2∨p=3 by omega) with rfl|rfl|rfl|rfl<;>decide +kernel
    obtain⟨hr1,hr2⟩:=hrn
    have hr3:(bp [32,9,10,13] p).2=1:=by rw[hr1]
    have hq:(((bp [32,9,10,13] p).1:Int)==65533)=false:=by rw[hr1];exact beq_false_of_ne hr2
    repeat' first|simp only[am,ah,results172,ntmps172,ap,hd,hlt,hq,hr3,List.length_cons,List.length_nil,ag,seval,ae]|exact rfl|refine aa (v:=.any) ?_|(refine gJ (s:=?_) (y:=?_) (p:=?_) ?_ ?_ ?_ ?_;rotate_left 3;(iterate 2 (focus (simp only[results172,ntmps172,ap,hd,hlt,hq,hr3,List.length_cons,List.length_nil,ag,seval,ae]<;>exact rfl)));(focus (simp only[results172,ntmps172,ap,hd,hlt,hq,hr3,List.length_cons,List.length_nil,ag,seval,ae]<;>omega)))|(refine bh ?_)|(refine ba ?_)|refine aG (by decide +kernel) ?_|refine Ai (by omega) ?_
    all_goals ((refine aJ cm (p+1) [some b0] ?_ ?_ ?_ ?_;rotate_left 2;(focus (show b0≤_;omega));(focus (refine⟨?_,?_⟩<;>(try simp only[bj,fk,dF,hr3,ag,seval,ae,au])<;>(try omega)))))
    all_goals (first|(show 4-(p+1)<4-p;omega)|(show p+1≤4;omega)|skip)
   ·have hpe:p=4:=by omega
    subst hpe
    (repeat' first|simp only[am,ah,results172,ntmps172,ap,List.length_cons,List.length_nil,ag,seval,ae]|exact rfl|refine aa (v:=.any) ?_|(refine nK (s:=?_) (y:=?_) (p:=?_) ?_ ?_ ?_ ?_;rotate_left 3;(iterate 2 (focus (simp only[results172,ntmps172,ap,List.length_cons,List.length_nil,ag,seval,ae]<;>exact rfl)));(focus (simp only[results172,ntmps172,ap,List.length_cons,List.length_nil,ag,seval,ae]<;>omega)))|(refine bh ?_)|(refine ba ?_)|refine aG (by decide +kernel) ?_|((first|apply Ca|apply Cb)<;>intro hb)|refine Ai (by omega) ?_|(apply Ai<;>intro hb)|refine Fin.pure ?_ ?_ ?_|simp only[au])
 ·have d2:(z==65533)=false:=beq_false_of_ne c2
  have hv:nu z=true:=by
   unfold nu
   simp only[Bool.or_eq_true,Bool.and_eq_true,decide_eq_true_eq];omega
  have hve:=sR z
  rw[hv]at hve
  obtain⟨l,c,h1,h2,h3,h4⟩:=Fj (by omega) hm
  have hll:(l++[c]).length=l.length+1:=by simp
  have hgl:(l++[c])[l.length]? = some c:=by simp
  have hw1:IntKind.i64.wrap (((l.length+1:Nat):Int)-1)=(l.length:Int):=by rw[aR (by omega) (by omega)];omega
  have hw2:IntKind.i64.wrap ((l.length:Int)+1-1)=(l.length:Int):=by rw[aR (by omega) (by omega)];omega
  refine ay rfl (fun cargs w=>call172 cargs w) func172 rfl mixed (by kernel_rfl) rfl ?_;intro b0 hb0
  repeat' first|simp only[am,ah,results172,ntmps172,ap,d0,d1,d2,h1,hll,hw1,hw2,Bt,ag,seval,ae]|exact rfl|refine aa (v:=.any) ?_|(first|(refine ac ?_ (hve _) ?_)|(refine ab ?_ (fun _=>hve _) ?_))|refine aG (by decide +kernel) ?_|((first|apply Ca|apply Cb)<;>intro hb)|refine Ai (by omega) ?_|(apply Ai<;>intro hb)
  (refine aV cm (fun x:Nat=>x) (fun _=>True) (b0+16) (fun x=>[(0,.str [32,9,10,13]),(7,.str (l++[c])),(8,.int .i64 l.length),(9,.int .i64 l.length)]) (fun x=>[]) (0) [] ?_ ?_ ?_ ?_;rotate_left 1;(focus (show b0≤_;omega));(focus (refine⟨?_,?_⟩<;>(try simp only[bj,h1,ag,seval,ae,au])<;>(try omega)));rotate_left 1)
  ·trivial
  ·intro x _
   have hlt4:decide ((l.length:Int)<4)=true:=decide_eq_true (by omega)
   have hlt4':decide (l.length<4)=true:=decide_eq_true (by omega)
   have hl4:l.length<4:=by omega
   obtain⟨d,hd⟩:∃ d,([32,9,10,13]:List UInt8)[l.length]? = some d:=⟨_,List.getElem?_eq_getElem (by simp;omega)⟩
   have hdc:(!((d.toNat:Int)==(c.toNat:Int)))=true:=by
    have hda:d.toNat<128:=by
     have:=List.mem_of_getElem? hd
     simp only[Lk,Ln,or_false]at this
     rcases this with rfl|rfl|rfl|rfl<;>decide
    rw[beq_false_of_ne (by omega)];rfl
   have hdc':((d.toNat:Int) !=(c.toNat:Int))=true:=hdc
   have hw3:IntKind.i64.wrap ((l.length:Int)+1)=((l.length+1:Nat):Int):=aR (by omega) (by omega)
   have hs1:((l.length+1:Nat):Int)≤4:=by omega
   have hs2:l.length+1≤4:=by omega
   have hs3:l.length<l.length+1:=by omega
   have hix:=nV (([32,9,10,13]:List UInt8).drop (l.length+1)) c
   have hi0:indexByte (([32,9,10,13]:List UInt8).drop (l.length+1)) c = -1:=FR (Kw h2 (l.length+1))
   rw[hi0]at hix
   (repeat' first|simp only[am,ah,results172,ntmps172,ap,hll,hgl,hlt4,hlt4',hl4,hd,hdc,hdc',hw3,hs1,hs2,hs3,List.length_cons,List.length_nil,ag,seval,ae]|exact rfl|refine aa (v:=.any) ?_|(first|(refine ac ?_ (hix _) ?_)|(refine ab ?_ (fun _=>hix _) ?_))|refine aG (by decide +kernel) ?_|refine Ai (by omega) ?_|refine Fin.pure ?_ ?_ ?_|simp only[au])
def kV (z:Int):Bool:=decide (z=32∨z=9∨z=10∨z=13)
theorem z9 {z:Int}(hm:gD z=true):decide (0≤FQ z)=kV z:=by
 have hr:=eX hm
 unfold FQ kV
 by_cases c1:z<128
 ·rw[if_pos c1]
  have key:∀ n:Fin 128,decide (0≤indexByte fm (UInt8.ofNat n.val))=decide (n.val=32∨n.val=9∨n.val=10∨n.val=13):=by decide +kernel
  have:=key ⟨z.toNat,by omega⟩
  rw[this]
  rw[decide_eq_decide]
  simp only;omega
 ·rw[if_neg c1]
  rw[decide_eq_decide];omega
theorem z7 (z:Int)(hm:gD z=true)(nm:Nat):Ev cx 157 nm [.str [32,9,10,13],.int .i32 z] ao.nil (.bool (kV z)) []:=by
 have h:=z9 hm
 refine ay rfl (fun cargs w=>call157 cargs w) func157 rfl mixed (by kernel_rfl) rfl ?_;intro b0 hb0
 (repeat' first|simp only[am,ah,results157,ntmps157,ap,h,ag,seval,ae]|exact rfl|refine aa (v:=.any) ?_|(first|(refine ac ?_ (r5 z hm _) ?_)|(refine ab ?_ (fun _=>r5 z hm _) ?_))|((first|apply Ca|apply Cb)<;>intro hb)|refine Ai (by omega) ?_|(apply Ai<;>intro hb)|refine Fin.pure ?_ ?_ ?_|simp only[au])
def fD (z:Int):Int:=if kV z=true then 32 else z
theorem Bu (z:Int)(hm:gD z=true)(nm:Nat):Ev cx 156 nm [.int .i32 z] ao.nil (.int .i32 (fD z)) []:=by
 have h:=z7 z hm
 unfold fD
 generalize kV z=b at h ⊢
 cases b<;>(
  refine ay rfl (fun cargs w=>call156 cargs w) func156 rfl mixed (by kernel_rfl) rfl ?_;intro b0 hb0
  (repeat' first|simp only[am,ah,results156,ntmps156,ap,if_true,Bool.false_eq_true,if_false,ag,seval,ae]|exact rfl|refine aa (v:=.any) ?_|(first|(refine ac ?_ (h _) ?_)|(refine ab ?_ (fun _=>h _) ?_))|((first|apply Ca|apply Cb)<;>intro hb)|refine Ai (by omega) ?_|(apply Ai<;>intro hb)|refine Fin.pure ?_ ?_ ?_|simp only[au]))
theorem LG (z:Int)(hm:gD z=false)(q y:Nat)(bs:List UInt8)(M:ao)(nm:Nat)(hqy:q≠y)(hq:M q=some ⟨1,[[.own y 0 bs.length]]⟩)(hy:M y=some (rK bs))(ho:∀ w,(M w).isSome=true→w∈[q,y])(hqn:q<nm)(hyn:y<nm):Ev cx 175 nm [.int .i64 z,.ptr q 0 0] M (.bool false) [(q,some ⟨1,[[.own y 0 bs.length]]⟩),(y,some (rK bs))]:=by
 have hmay:=jo z
 rw[hm]at hmay
 refine ay rfl (fun cargs w=>call175 cargs w) func175 rfl mixed (by kernel_rfl) rfl ?_;intro b0 hb0
 have ly:y<b0:=av hb0 (by rw[hy];rfl)
 have y0:=aS ly;have y1:=aq ly;have y2:=aI ly;have y3:=aj ly
 have lq:q<b0:=av hb0 (by rw[hq];rfl)
 have z0:=aS lq;have z1:=aq lq;have z2:=aI lq;have z3:=aj lq
 have n1:=eq_false hqy;have n4:=eq_false (Ne.symm hqy)
 repeat' first|simp only[am,ah,results175,ntmps175,ap,Bf,ag,seval,ae]|exact rfl|refine aa (v:=.any) ?_|(first|(refine ac ?_ (hmay _) ?_)|(refine ab ?_ (fun _=>hmay _) ?_))|((first|apply Ca|apply Cb)<;>intro hb)|refine Ai (by omega) ?_|(apply Ai<;>intro hb)
 all_goals ((refine Fin.give [(q,none),(y,none)] [] ?_ ?_ ?_ ?_ ?_ (fun q hq=>by have hqq:=ho q hq;first|(simp only[aD,tgt,Lc,Lo,Lk,Ln,or_false]at hqq ⊢;omega)|(simp only[aD,tgt,Lc,Lo,Lk,Ln,or_false]at hqq))<;>(try simp only[results175,ntmps175,ap,hq,hy,aQ,bi,aX,z0,z1,z2,z3,y0,y1,y2,y3,n1,n4,ec,ag,seval,ae])<;>(try simp only[au])<;>(try omega)))
theorem Jb (z:Int)(hm:gD z=true)(q y:Nat)(bs:List UInt8)(hbs:bs.length≤1000000)(M:ao)(nm:Nat)(hqy:q≠y)(hq:M q=some ⟨1,[[.own y 0 bs.length]]⟩)(hy:M y=some (rK bs))(ho:∀ w,(M w).isSome=true→w∈[q,y])(hqn:q<nm)(hyn:y<nm):Ev cx 175 nm [.int .i64 z,.ptr q 0 0] M (.bool true) [(y,none),(q,some ⟨1,[[.own nm 0 (bs.length+(encodeRune z).length)]]⟩),(nm,some (rK (bs++encodeRune z)))]:=by
 have hmay:=jo z
 rw[hm]at hmay
 have hmz:=(fP z).1 hm
 have hw:IntKind.i32.wrap z=z:=IntWalk.i32_in _ (by omega)
 refine ay rfl (fun cargs w=>call175 cargs w) func175 rfl mixed (by kernel_rfl) rfl ?_;intro b0 hb0
 have ly:y<b0:=av hb0 (by rw[hy];rfl)
 have y0:=aS ly;have y1:=aq ly;have y2:=aI ly;have y3:=aj ly
 have lq:q<b0:=av hb0 (by rw[hq];rfl)
 have z0:=aS lq;have z1:=aq lq;have z2:=aI lq;have z3:=aj lq
 have n1:=eq_false hqy;have n4:=eq_false (Ne.symm hqy)
 repeat' first|simp only[am,ah,results175,ntmps175,ap,hw,hq,hy,z0,z1,z2,z3,y0,y1,y2,y3,n1,n4,aP,Bt,ag,seval,ae]|exact rfl|refine aa (v:=.any) ?_|(first|(refine ac ?_ (hmay _) ?_)|(refine ab ?_ (fun _=>hmay _) ?_))|(refine ad ?_ [y] (BV z hm y bs hbs _ _ ?_ ak (by omega)) ?_ ?_)|((first|apply Ca|apply Cb)<;>intro hb)|refine Ai (by omega) ?_|(apply Ai<;>intro hb)
 all_goals ((refine Fin.give [(q,none),(b0+112,some 0)] [y] ?_ ?_ ?_ ?_ ?_ (fun q hq=>by have hqq:=ho q hq;first|(simp only[aD,tgt,Lc,Lo,Lk,Ln,or_false]at hqq ⊢;omega)|(simp only[aD,tgt,Lc,Lo,Lk,Ln,or_false]at hqq))<;>(try simp only[results175,ntmps175,ap,hq,hy,aQ,bi,aX,z0,z1,z2,z3,y0,y1,y2,y3,n1,n4,ec,ag,seval,ae])<;>(try simp only[au])<;>(try omega)))
theorem tc {zs:List Int}{k:Nat}{z:Int}(h:zs[k]? = some z):enc (zs.take (k+1))=enc (zs.take k)++encodeRune z:=by
 obtain⟨hk,rfl⟩:=List.getElem?_eq_some_iff.1 h
 rw[List.take_succ_eq_append_getElem hk,Fl]
theorem J0 (zs:List Int)(hl:zs.length≤100000)(nm:Nat):Ev cx 161 nm [.sl false 1 (zs.map bH)] ao.nil (.tup [.str (kq zs),.int .i64 (kK zs)]) []:=by
 refine ay rfl (fun cargs w=>call161 cargs w) func161 rfl mixed (by kernel_rfl) rfl ?_;intro b0 hb0
 repeat' first|simp only[am,ah,results161,ntmps161,ap,dY,Lm,ag,seval,ae]|exact rfl|refine aa (v:=.any) ?_|((first|(refine aL (g:=?_) ?_ ?_)|(refine aH (g:=?_) ?_ ?_));rotate_left 1;(focus (simp only[results161,ntmps161,ap,dY,Lm,ag,seval,ae]<;>exact rfl)))|((first|apply Ca|apply Cb)<;>intro hb)|refine Ai (by omega) ?_|(apply Ai<;>intro hb)
 (refine aV cm (fun x:Nat=>zs.length-x) (fun x=>x≤zs.length∧(zs.take x).all gD=true) (b0+16) (fun x=>[(4,.ptr b0 0 0),(5,.fn 175 [.ptr b0 0 0]),(9,.sl false 1 (zs.map bH)),(10,.int .i64 zs.length),(11,.int .i64 x)]) (fun x=>[(b0,⟨1,[[.own (b0+1) 0 (enc (zs.take x)).length]]⟩),(b0+1,rK (enc (zs.take x)))]) (0) [some (b0+32),none] ?_ ?_ ?_ ?_;rotate_left 1;(focus (show b0≤_;omega));(focus (refine⟨?_,?_⟩<;>(try simp only[bj,dY,aQ,bi,aX,c8,aU,List.take_zero,Lo,List.length_nil,Lm,show enc []=[] from rfl,ag,seval,ae,au])<;>(try omega)));rotate_left 1)
 ·exact⟨Nat.zero_le _,rfl⟩
 ·rintro k ⟨hk,hall⟩
  have hel:=zB (zs.take k)
  have hkl:(zs.take k).length=k:=by rw[List.length_take];omega
  by_cases hlt:k<zs.length
  ·obtain⟨z,hz⟩:∃ z,zs[k]? = some z:=⟨_,List.getElem?_eq_getElem hlt⟩
   have hh:(zs.map bH)[k]? = some (bH z):=by rw[List.getElem?_map,hz];rfl
   have hd:decide (k<zs.length)=true:=decide_eq_true hlt
   have hwk:IntKind.i64.wrap ((k:Int)+1)=((k+1:Nat):Int):=aR (by omega) (by omega)
   have hgd:zs.getD k 0=z:=by rw[List.getD_eq_getElem?_getD,hz];rfl
   cases hm:gD z with
   | false =>
    have he:kK zs=50:=DP hlt (by rw[hgd];exact hm)
    have ht:kq zs=[]:=by unfold kq;rw[he];rfl
    (repeat' first|simp only[am,ah,results161,ntmps161,ap,hh,hd,hlt,he,ht,bH,Lm,Bf,ag,seval,ae]|exact rfl|refine aa (v:=.any) ?_|((refine c9 (caps:=?_) ?_ ?_ [b0,b0+1] (LG z hm b0 (b0+1) (enc (zs.take k)) _ _ (by omega) ?_ ?_ ak (by omega) (by omega)) ?_ ?_);rotate_left 1)|((first|(refine aL (g:=?_) ?_ ?_)|(refine aH (g:=?_) ?_ ?_));rotate_left 1;(focus (simp only[results161,ntmps161,ap,hh,hd,hlt,he,ht,bH,Lm,Bf,ag,seval,ae]<;>exact rfl)))|((first|apply Ca|apply Cb)<;>intro hb)|refine Ai (by omega) ?_|(apply Ai<;>intro hb)|refine Fin.pure ?_ ?_ ?_|simp only[au])
   | true =>
    have hnx:=tc hz
    have hnl:(enc (zs.take k)).length+(encodeRune z).length=(enc (zs.take (k+1))).length:=by rw[hnx,List.length_append]
    have has:=wJ hlt hall (by rw[hgd];exact hm)
    repeat' first|simp only[am,ah,results161,ntmps161,ap,hh,hd,hlt,bH,aP,Lm,Bt,ag,seval,ae]|exact rfl|refine aa (v:=.any) ?_|((refine c9 (caps:=?_) ?_ ?_ [b0,b0+1] (Jb z hm b0 (b0+1) (enc (zs.take k)) (by omega) _ _ (by omega) ?_ ?_ ak (by omega) (by omega)) ?_ ?_);rotate_left 1)|((first|(refine aL (g:=?_) ?_ ?_)|(refine aH (g:=?_) ?_ ?_));rotate_left 1;(focus (simp only[results161,ntmps161,ap,hh,hd,hlt,bH,aP,Lm,Bt,ag,seval,ae]<;>exact rfl)))|((first|apply Ca|apply Cb)<;>intro hb)|refine Ai (by omega) ?_|(apply Ai<;>intro hb)
    all_goals ((refine aJ cm (k+1) [some b0,some (b0+112)] ?_ ?_ ?_ ?_;rotate_left 2;(focus (show b0≤_;omega));(focus (refine⟨?_,?_⟩<;>(try simp only[bj,dY,hwk,hnx.symm,hnl,aQ,bi,aX,c8,aU,Lm,ag,seval,ae,au])<;>(try omega)))))
    all_goals (first|(show zs.length-(k+1)<zs.length-k;omega)|exact⟨hlt,has⟩|skip)
  ·have hke:k=zs.length:=by omega
   subst hke
   rw[List.take_length]at hall hel
   have hd:decide (zs.length<zs.length)=false:=decide_eq_false (by omega)
   by_cases hb:16384<(enc zs).length
   ·have he:kK zs=4:=by unfold kK;rw[if_pos hall,if_pos hb]
    have ht:kq zs=[]:=by unfold kq;rw[he];rfl
    have hd2:decide ((16384:Int)<((enc zs).length:Int))=true:=decide_eq_true (by omega)
    (repeat' first|simp only[am,ah,results161,ntmps161,ap,hd,hd2,he,ht,List.take_length,Lm,ag,seval,ae]|exact rfl|refine aa (v:=.any) ?_|((first|(refine aL (g:=?_) ?_ ?_)|(refine aH (g:=?_) ?_ ?_));rotate_left 1;(focus (simp only[results161,ntmps161,ap,hd,hd2,he,ht,List.take_length,Lm,ag,seval,ae]<;>exact rfl)))|((first|apply Ca|apply Cb)<;>intro hb)|refine Ai (by omega) ?_|(apply Ai<;>intro hb)|refine Fin.pure ?_ ?_ ?_|simp only[au])
   ·have he:kK zs=0:=by unfold kK;rw[if_pos hall,if_neg hb]
    have ht:kq zs=enc zs:=by unfold kq;rw[he];rfl
    have hd2:decide ((16384:Int)<((enc zs).length:Int))=false:=decide_eq_false (by omega)
    have htk:((enc zs).map aN).take (enc zs).length=(enc zs).map aN:=List.take_of_length_le (by simp)
    (repeat' first|simp only[am,ah,results161,ntmps161,ap,hd,hd2,he,ht,htk,aQ,List.take_length,Lm,Nat.le_refl,ag,seval,ae]|exact rfl|refine aa (v:=.any) ?_|(refine ui (v:=?_) (bs:=enc zs) ?_ ?_ ?_ ?_ ?_ ?_ ?_;rotate_left 1;(iterate 2 (focus (simp only[results161,ntmps161,ap,hd,hd2,he,ht,htk,aQ,List.take_length,Lm,Nat.le_refl,ag,seval,ae];done)));(focus (simp only[results161,ntmps161,ap,hd,hd2,he,ht,htk,aQ,List.take_length,Lm,Nat.le_refl,ag,seval,ae]<;>exact rfl));(focus (exact rfl));(focus (simp only[ah,results161,ntmps161,ap,hd,hd2,he,ht,htk,aQ,List.take_length,Lm,Nat.le_refl,ag,seval,ae];done));(focus (simp only[results161,ntmps161,ap,hd,hd2,he,ht,htk,aQ,List.take_length,Lm,Nat.le_refl,ag,seval,ae]<;>exact rfl)))|(refine bh ?_)|(refine ba ?_)|((first|(refine aL (g:=?_) ?_ ?_)|(refine aH (g:=?_) ?_ ?_));rotate_left 1;(focus (simp only[results161,ntmps161,ap,hd,hd2,he,ht,htk,aQ,List.take_length,Lm,Nat.le_refl,ag,seval,ae]<;>exact rfl)))|((first|apply Ca|apply Cb)<;>intro hb)|refine Ai (by omega) ?_|(apply Ai<;>intro hb)|refine Fin.pure ?_ ?_ ?_|simp only[au])
end Go.Proofs.YtcllbjanalhjgaaGreatDoor
