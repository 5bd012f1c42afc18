/-
 Texts joined: XGe,XEu,XUt,XNb,XGf.
-/
import Derived.Test.YtidmkaalhmeflaaGreatDoorQg
import Derived.Test.YtidmkaalhmeflaaGreatDoorQh
import Derived.Test.YtidmkaalhmeflaaGreatDoorQf
namespace Go.Proofs.YtidmkaalhmeflaaGreatDoor
set_option maxRecDepth 100000
set_option maxHeartbeats 32000000
set_option linter.unusedSimpArgs false
set_option linter.unusedVariables false
open Go Go.RowKit Vm Go.Lib Tryz
open Vm renaming aZ→Ca,bj→Cb
open And renaming intro→Ai
open List renaming length_map→Lm,not_mem_nil→Ln,map_nil→Lo,map_cons→Lc,mem_cons→Lk
open Bool renaming not_false→Bf,not_true→Bt
theorem Im (y:Int):IntKind.u8.wrap ((BitVec.ofInt IntKind.u8.bits (IntKind.u8.wrap y) &&& BitVec.ofInt IntKind.u8.bits 63).toNat:Int)=y % 64:=by
 have key:∀ n:Fin 256,IntKind.u8.wrap ((BitVec.ofInt IntKind.u8.bits (n.val:Int) &&& BitVec.ofInt IntKind.u8.bits 63).toNat:Int)=(n.val:Int) % 64:=by decide +kernel
 have h:=key ⟨(y % 256).toNat,by omega⟩
 have e:((y % 256).toNat:Int)=y % 256:=by omega
 simp only[e]at h
 rw[IntKind.wrap_u8 y,h];omega
theorem NV {h n:Int}(hh:(h=128∧n<64)∨(h=192∧n<32)∨(h=224∧n<16)∨(h=240∧n<8))(h0:0≤n):IntKind.u8.wrap ((BitVec.ofInt IntKind.u8.bits h ||| BitVec.ofInt IntKind.u8.bits n).toNat:Int)=h+n:=by
 have k1:∀ n:Fin 64,IntKind.u8.wrap ((BitVec.ofInt IntKind.u8.bits 128 ||| BitVec.ofInt IntKind.u8.bits (n.val:Int)).toNat:Int)=128+(n.val:Int):=by decide +kernel
 have k2:∀ n:Fin 32,IntKind.u8.wrap ((BitVec.ofInt IntKind.u8.bits 192 ||| BitVec.ofInt IntKind.u8.bits (n.val:Int)).toNat:Int)=192+(n.val:Int):=by decide +kernel
 have k3:∀ n:Fin 16,IntKind.u8.wrap ((BitVec.ofInt IntKind.u8.bits 224 ||| BitVec.ofInt IntKind.u8.bits (n.val:Int)).toNat:Int)=224+(n.val:Int):=by decide +kernel
 have k4:∀ n:Fin 8,IntKind.u8.wrap ((BitVec.ofInt IntKind.u8.bits 240 ||| BitVec.ofInt IntKind.u8.bits (n.val:Int)).toNat:Int)=240+(n.val:Int):=by decide +kernel
 have e:(n.toNat:Int)=n:=by omega
 rcases hh with ⟨rfl,h1⟩|⟨rfl,h1⟩|⟨rfl,h1⟩|⟨rfl,h1⟩
 ·have:=k1 ⟨n.toNat,by omega⟩;simpa only[e] using this
 ·have:=k2 ⟨n.toNat,by omega⟩;simpa only[e] using this
 ·have:=k3 ⟨n.toNat,by omega⟩;simpa only[e] using this
 ·have:=k4 ⟨n.toNat,by omega⟩;simpa only[e] using this
theorem oM (bs:List UInt8)(z:Int)(rows:List (List V))(h:(encodeRune z).map aP=rows):bs.map aP++rows=(bs++encodeRune z).map aP:=by rw[← h,List.map_append]
theorem aS (bs:List UInt8):rK bs = @Blk.mk 1 (bs.map aP) (.typed 5):=rfl
theorem HY (z:Int)(hm:gR z=true)(h0:128≤z)(y:Nat)(bs:List UInt8)(hbs:bs.length≤1000000)(M:aq)(nm:Nat)(hy:M y=some (rK bs))(ho:∀ w,(M w).isSome=true→w∈[y])(hyn:y<nm):Ev cx 267 nm [.own y 0 bs.length,.int .i32 z] M (.own nm 0 (bs.length+(encodeRune z).length)) [(y,none),(nm,some (rK (bs++encodeRune z)))]:=by
 have hr:=fq hm
 have hmz:=(gj z).1 hm
 have hw:IntKind.u32.wrap z=z:=IntWalk.u32_in _ (by omega)
 have s6:z.fdiv (2 ^ min 6 IntKind.i32.bits)=z / 64:=Int.fdiv_eq_ediv_of_nonneg z (b:=64) (by omega)
 have s12:z.fdiv (2 ^ min 12 IntKind.i32.bits)=z / 4096:=Int.fdiv_eq_ediv_of_nonneg z (b:=4096) (by omega)
 have s18:z.fdiv (2 ^ min 18 IntKind.i32.bits)=z / 262144:=Int.fdiv_eq_ediv_of_nonneg z (b:=262144) (by omega)
 have o1:=NV (h:=128) (n:=z % 64) (.inl ⟨rfl,by omega⟩) (by omega)
 have o2:=NV (h:=128) (n:=z / 64 % 64) (.inl ⟨rfl,by omega⟩) (by omega)
 have o3:=NV (h:=128) (n:=z / 4096 % 64) (.inl ⟨rfl,by omega⟩) (by omega)
 have a1:=Im z
 have a2:=Im (z / 64)
 have a3:=Im (z / 4096)
 by_cases c1:z≤2047
 ·have d1:decide (z≤2047)=true:=decide_eq_true c1
  have w6:IntKind.u8.wrap (z / 64)=z / 64:=IntWalk.u8_in _ (by omega)
  have o4:=NV (h:=192) (n:=z / 64) (.inr (.inl ⟨rfl,by omega⟩)) (by omega)
  have he:=Pi h0 c1
  have hl:(encodeRune z).length=2:=by simpa using congrArg List.length he
  have hrw:=oM bs z _ he
  rw[hl]
  refine ay rfl (fun cargs w=>call267 cargs w) func267 rfl mixed (by kernel_rfl) rfl ?_;intro b0 hb0
  have ly:y<b0:=ax hb0 (by rw[hy];rfl)
  have y0:=aT ly;have y1:=aw ly;have y2:=aK ly;have y3:=ao ly
  repeat' first|simp only[al,aj,results267,ntmps267,am,hw,d1,s6,w6,a1,a2,a3,o1,o2,o3,o4,hy,hrw,aS,y0,y1,y2,y3,Lm,List.take_of_length_le,Nat.le_refl,BI,if_true,cA,ek,Option.bind_some,ai,seval,ah]|exact rfl|refine aa (v:=.any) ?_|((first|apply Ca|apply Cb)<;>intro hb)|refine Ai (by omega) ?_|(apply Ai<;>intro hb)
  all_goals ((refine Fin.give [(b0+272,some 0)] [y] ?_ ?_ ?_ ?_ ?_ (fun q hq=>by have hqq:=ho q hq;first|(simp only[aF,tgt,Lc,Lo,Lk,Ln,or_false]at hqq ⊢;omega)|(simp only[aF,tgt,Lc,Lo,Lk,Ln,or_false]at hqq))<;>(try simp only[results267,ntmps267,am,hw,hy,aS,bo,aY,y0,y1,y2,y3,eH,ai,seval,ah])<;>(try simp only[au])<;>(try omega)))
 have d1:decide (z≤2047)=false:=decide_eq_false c1
 by_cases c2:z≤65535
 ·have d3:decide (z≤65535)=true:=decide_eq_true c2
  have w12:IntKind.u8.wrap (z / 4096)=z / 4096:=IntWalk.u8_in _ (by omega)
  have o4:=NV (h:=224) (n:=z / 4096) (.inr (.inr (.inl ⟨rfl,by omega⟩))) (by omega)
  have he:=O8 (z:=z) (by omega)
  have hl:(encodeRune z).length=3:=by simpa using congrArg List.length he
  have hrw:=oM bs z _ he
  rw[hl]
  have hs:(decide (z<55296)=true)∨(decide (z<55296)=false∧decide (57343<z)=true):=by
   by_cases h:z<55296
   ·exact .inl (decide_eq_true h)
   ·exact .inr ⟨decide_eq_false h,decide_eq_true (by omega)⟩
  rcases hs with d4|⟨d4,d5⟩
  ·refine ay rfl (fun cargs w=>call267 cargs w) func267 rfl mixed (by kernel_rfl) rfl ?_;intro b0 hb0
   have ly:y<b0:=ax hb0 (by rw[hy];rfl)
   have y0:=aT ly;have y1:=aw ly;have y2:=aK ly;have y3:=ao ly
   repeat' first|simp only[al,aj,results267,ntmps267,am,hw,d1,d3,d4,s6,s12,w12,a1,a2,a3,o1,o2,o3,o4,hy,hrw,aS,y0,y1,y2,y3,Lm,List.take_of_length_le,Nat.le_refl,BI,if_true,cA,ek,Option.bind_some,ai,seval,ah]|exact rfl|refine aa (v:=.any) ?_|((first|apply Ca|apply Cb)<;>intro hb)|refine Ai (by omega) ?_|(apply Ai<;>intro hb)
   all_goals ((refine Fin.give [(b0+400,some 0)] [y] ?_ ?_ ?_ ?_ ?_ (fun q hq=>by have hqq:=ho q hq;first|(simp only[aF,tgt,Lc,Lo,Lk,Ln,or_false]at hqq ⊢;omega)|(simp only[aF,tgt,Lc,Lo,Lk,Ln,or_false]at hqq))<;>(try simp only[results267,ntmps267,am,hw,hy,aS,bo,aY,y0,y1,y2,y3,eH,ai,seval,ah])<;>(try simp only[au])<;>(try omega)))
  ·refine ay rfl (fun cargs w=>call267 cargs w) func267 rfl mixed (by kernel_rfl) rfl ?_;intro b0 hb0
   have ly:y<b0:=ax hb0 (by rw[hy];rfl)
   have y0:=aT ly;have y1:=aw ly;have y2:=aK ly;have y3:=ao ly
   repeat' first|simp only[al,aj,results267,ntmps267,am,hw,d1,d3,d4,d5,s6,s12,w12,a1,a2,a3,o1,o2,o3,o4,hy,hrw,aS,y0,y1,y2,y3,Lm,List.take_of_length_le,Nat.le_refl,BI,if_true,cA,ek,Option.bind_some,ai,seval,ah]|exact rfl|refine aa (v:=.any) ?_|((first|apply Ca|apply Cb)<;>intro hb)|refine Ai (by omega) ?_|(apply Ai<;>intro hb)
   all_goals ((refine Fin.give [(b0+512,some 0)] [y] ?_ ?_ ?_ ?_ ?_ (fun q hq=>by have hqq:=ho q hq;first|(simp only[aF,tgt,Lc,Lo,Lk,Ln,or_false]at hqq ⊢;omega)|(simp only[aF,tgt,Lc,Lo,Lk,Ln,or_false]at hqq))<;>(try simp only[results267,ntmps267,am,hw,hy,aS,bo,aY,y0,y1,y2,y3,eH,ai,seval,ah])<;>(try simp only[au])<;>(try omega)))
 ·have d3:decide (z≤65535)=false:=decide_eq_false c2
  have d4:decide (z<55296)=false:=decide_eq_false (by omega)
  have d5:decide (57343<z)=true:=decide_eq_true (by omega)
  have d6:decide (65535<z)=true:=decide_eq_true (by omega)
  have d7:decide (z≤1114111)=true:=decide_eq_true (by omega)
  have w18:IntKind.u8.wrap (z / 262144)=z / 262144:=IntWalk.u8_in _ (by omega)
  have o4:=NV (h:=240) (n:=z / 262144) (.inr (.inr (.inr ⟨rfl,by omega⟩))) (by omega)
  have he:=Po (z:=z) (by omega) (by omega)
  have hl:(encodeRune z).length=4:=by simpa using congrArg List.length he
  have hrw:=oM bs z _ he
  rw[hl]
  refine ay rfl (fun cargs w=>call267 cargs w) func267 rfl mixed (by kernel_rfl) rfl ?_;intro b0 hb0
  have ly:y<b0:=ax hb0 (by rw[hy];rfl)
  have y0:=aT ly;have y1:=aw ly;have y2:=aK ly;have y3:=ao ly
  repeat' first|simp only[al,aj,results267,ntmps267,am,hw,d1,d3,d4,d5,d6,d7,s6,s12,s18,w18,a1,a2,a3,o1,o2,o3,o4,hy,hrw,aS,y0,y1,y2,y3,Lm,List.take_of_length_le,Nat.le_refl,BI,if_true,cA,ek,Option.bind_some,ai,seval,ah]|exact rfl|refine aa (v:=.any) ?_|((first|apply Ca|apply Cb)<;>intro hb)|refine Ai (by omega) ?_|(apply Ai<;>intro hb)
  all_goals ((refine Fin.give [(b0+704,some 0)] [y] ?_ ?_ ?_ ?_ ?_ (fun q hq=>by have hqq:=ho q hq;first|(simp only[aF,tgt,Lc,Lo,Lk,Ln,or_false]at hqq ⊢;omega)|(simp only[aF,tgt,Lc,Lo,Lk,Ln,or_false]at hqq))<;>(try simp only[results267,ntmps267,am,hw,hy,aS,bo,aY,y0,y1,y2,y3,eH,ai,seval,ah])<;>(try simp only[au])<;>(try omega)))
theorem FN {z:Int}(h0:0≤z)(h1:z≤127):(encodeRune z).length=1:=by simpa using congrArg List.length (Oi h0 h1)
theorem CM (z:Int)(hm:gR z=true)(y:Nat)(bs:List UInt8)(hbs:bs.length≤1000000)(M:aq)(nm:Nat)(hy:M y=some (rK bs))(ho:∀ w,(M w).isSome=true→w∈[y])(hyn:y<nm):Ev cx 260 nm [.own y 0 bs.length,.int .i32 z] M (.own nm 0 (bs.length+(encodeRune z).length)) [(y,none),(nm,some (rK (bs++encodeRune z)))]:=by
 have hmz:=(gj z).1 hm
 have hr:=fq hm
 have hw:IntKind.u32.wrap z=z:=IntWalk.u32_in _ (by omega)
 by_cases c1:z≤127
 ·have d1:decide (z≤127)=true:=decide_eq_true c1
  have w8:IntKind.u8.wrap z=z:=IntWalk.u8_in _ (by omega)
  have he:=Oi hr.1 c1
  have hrw:=oM bs z _ he
  rw[FN hr.1 c1]
  refine ay rfl (fun cargs w=>call260 cargs w) func260 rfl mixed (by kernel_rfl) rfl ?_;intro b0 hb0
  have ly:y<b0:=ax hb0 (by rw[hy];rfl)
  have y0:=aT ly;have y1:=aw ly;have y2:=aK ly;have y3:=ao ly
  repeat' first|simp only[al,aj,results260,ntmps260,am,hw,d1,w8,hy,hrw,aS,y0,y1,y2,y3,Lm,List.take_of_length_le,Nat.le_refl,BI,if_true,cA,ek,Option.bind_some,ai,seval,ah]|exact rfl|refine aa (v:=.any) ?_|((first|apply Ca|apply Cb)<;>intro hb)|refine Ai (by omega) ?_|(apply Ai<;>intro hb)
  all_goals ((refine Fin.give [(b0+128,some 0)] [y] ?_ ?_ ?_ ?_ ?_ (fun q hq=>by have hqq:=ho q hq;first|(simp only[aF,tgt,Lc,Lo,Lk,Ln,or_false]at hqq ⊢;omega)|(simp only[aF,tgt,Lc,Lo,Lk,Ln,or_false]at hqq))<;>(try simp only[results260,ntmps260,am,hw,hy,aS,bo,aY,y0,y1,y2,y3,eH,ai,seval,ah])<;>(try simp only[au])<;>(try omega)))
 ·have d1:decide (z≤127)=false:=decide_eq_false c1
  refine ay rfl (fun cargs w=>call260 cargs w) func260 rfl mixed (by kernel_rfl) rfl ?_;intro b0 hb0
  have ly:y<b0:=ax hb0 (by rw[hy];rfl)
  have y0:=aT ly;have y1:=aw ly;have y2:=aK ly;have y3:=ao ly
  repeat' first|simp only[al,aj,results260,ntmps260,am,hw,d1,hy,y0,y1,y2,y3,aR,ai,seval,ah]|exact rfl|refine aa (v:=.any) ?_|(refine ag ?_ [y] (HY z hm (by omega) y bs hbs _ _ ?_ ap (by omega)) ?_ ?_)|((first|apply Ca|apply Cb)<;>intro hb)|refine Ai (by omega) ?_|(apply Ai<;>intro hb)
  all_goals ((refine Fin.give [(b0+96,some 0)] [y] ?_ ?_ ?_ ?_ ?_ (fun q hq=>by have hqq:=ho q hq;first|(simp only[aF,tgt,Lc,Lo,Lk,Ln,or_false]at hqq ⊢;omega)|(simp only[aF,tgt,Lc,Lo,Lk,Ln,or_false]at hqq))<;>(try simp only[results260,ntmps260,am,hw,hy,aS,bo,aY,y0,y1,y2,y3,eH,ai,seval,ah])<;>(try simp only[au])<;>(try omega)))
theorem vG (s:List UInt8)(c:UInt8)(M:aq)(nm:Nat):Ev cx 228 nm [.str s,.int .u8 c.toNat] M (.int .i64 (indexByte s c)) [] :=
 Ev.indexByte func228 (by kernel_rfl) (by kernel_rfl) (by kernel_rfl) (by kernel_rfl) s c M nm
theorem mo (s:List UInt8)(c:UInt8)(nm:Nat):Ev cx 199 nm [.str s,.int .u8 c.toNat] aq.nil (.int .i64 (indexByte s c)) []:=by
 refine ay rfl (fun cargs w=>call199 cargs w) func199 rfl mixed (by kernel_rfl) rfl ?_;intro b0 hb0
 (repeat' first|simp only[al,aj,results199,ntmps199,am,ai,seval,ah]|exact rfl|refine aa (v:=.any) ?_|(first|(refine ac ?_ (vG s c _ _) ?_)|(refine ab ?_ (fun _=>vG s c _ _) ?_))|((first|apply Ca|apply Cb)<;>intro hb)|refine Ai (by omega) ?_|(apply Ai<;>intro hb)|refine Fin.pure ?_ ?_ ?_|simp only[au])
theorem iK (s:List UInt8)(d:UInt8)(nm:Nat):Ev cx 166 nm [.str s,.str [d]] aq.nil (.int .i64 (indexByte s d)) []:=by
 by_cases h:[d]=s
 ·subst h
  have e:indexByte [d] d=0:=by simp[indexByte]
  have e1:([d]==[d])=true:=by simp
  refine ay rfl (fun cargs w=>call166 cargs w) func166 rfl mixed (by kernel_rfl) rfl ?_;intro b0 hb0
  (repeat' first|simp only[al,aj,results166,ntmps166,am,e,e1,ai,seval,ah]|exact rfl|refine aa (v:=.any) ?_|(first|(refine ac ?_ (mo [d] d _) ?_)|(refine ab ?_ (fun _=>mo [d] d _) ?_))|((first|apply Ca|apply Cb)<;>intro hb)|refine Ai (by omega) ?_|(apply Ai<;>intro hb)|refine Fin.pure ?_ ?_ ?_|simp only[au])
 ·have e1:([d]==s)=false:=beq_false_of_ne h
  refine ay rfl (fun cargs w=>call166 cargs w) func166 rfl mixed (by kernel_rfl) rfl ?_;intro b0 hb0
  (repeat' first|simp only[al,aj,results166,ntmps166,am,e1,ai,seval,ah]|exact rfl|refine aa (v:=.any) ?_|(first|(refine ac ?_ (mo s d _) ?_)|(refine ab ?_ (fun _=>mo s d _) ?_))|((first|apply Ca|apply Cb)<;>intro hb)|refine Ai (by omega) ?_|(apply Ai<;>intro hb)|refine Fin.pure ?_ ?_ ?_|simp only[au])
def gO (d:UInt8)(s:List UInt8):V:=match dP d s with
 | none=>.tup [.str s,.str [],.bool false]
 | some (a,b)=>.tup [.str a,.str b,.bool true]
theorem Lr (s:List UInt8)(d:UInt8)(hs:s.length≤bh)(nm:Nat):Ev cx 165 nm [.str s,.str [d]] aq.nil (gO d s) []:=by
 unfold bh at hs
 cases hc:dP d s with
 | none =>
  have e:indexByte s d = -1:=ii.2 hc
  have ev:gO d s = .tup [.str s,.str [],.bool false]:=by unfold gO;rw[hc]
  rw[ev]
  refine ay rfl (fun cargs w=>call165 cargs w) func165 rfl mixed (by kernel_rfl) rfl ?_;intro b0 hb0
  (repeat' first|simp only[al,aj,results165,ntmps165,am,ai,seval,ah]|exact rfl|refine aa (v:=.any) ?_|(first|(refine ac ?_ ((by have:=iK s d;rw[e]at this;exact this _)) ?_)|(refine ab ?_ (fun _=>(by have:=iK s d;rw[e]at this;exact this _)) ?_))|refine aC (by decide +kernel) ?_|((first|apply Ca|apply Cb)<;>intro hb)|refine Ai (by omega) ?_|(apply Ai<;>intro hb)|refine Fin.pure ?_ ?_ ?_|simp only[au])
 | some p =>
  obtain⟨a,b⟩:=p
  obtain⟨e,e1,e2,e3⟩:=jw hc
  have ev:gO d s = .tup [.str a,.str b,.bool true]:=by unfold gO;rw[hc]
  have h1:(a.length:Int)≤s.length:=by omega
  have h2:IntKind.i64.wrap ((a.length:Int)+1)=((a.length+1:Nat):Int):=aN (by omega) (by omega)
  have h3:((a.length+1:Nat):Int)≤s.length:=by omega
  have h4:a.length≤s.length:=by omega
  have h5:a.length+1≤s.length:=by omega
  rw[ev]
  refine ay rfl (fun cargs w=>call165 cargs w) func165 rfl mixed (by kernel_rfl) rfl ?_;intro b0 hb0
  (repeat' first|simp only[al,aj,results165,ntmps165,am,h1,h2,h3,h4,h5,e1,e2,ai,seval,ah]|exact rfl|refine aa (v:=.any) ?_|(first|(refine ac ?_ ((by have:=iK s d;rw[e]at this;exact this _)) ?_)|(refine ab ?_ (fun _=>(by have:=iK s d;rw[e]at this;exact this _)) ?_))|refine aC (by decide +kernel) ?_|((first|apply Ca|apply Cb)<;>intro hb)|refine Ai (by omega) ?_|(apply Ai<;>intro hb)|refine Fin.pure ?_ ?_ ?_|simp only[au])
theorem nP (s:List UInt8)(d:UInt8)(hs:s.length≤bh)(nm:Nat):Ev cx 121 nm [.str s,.str [d]] aq.nil (gO d s) []:=by
 have hev:=Lr s d hs
 cases hc:dP d s with
 | none =>
  have ev:gO d s = .tup [.str s,.str [],.bool false]:=by unfold gO;rw[hc]
  rw[ev]at hev ⊢
  refine ay rfl (fun cargs w=>call121 cargs w) func121 rfl mixed (by kernel_rfl) rfl ?_;intro b0 hb0
  (repeat' first|simp only[al,aj,results121,ntmps121,am,ai,seval,ah]|exact rfl|refine aa (v:=.any) ?_|(first|(refine ac ?_ (hev _) ?_)|(refine ab ?_ (fun _=>hev _) ?_))|((first|apply Ca|apply Cb)<;>intro hb)|refine Ai (by omega) ?_|(apply Ai<;>intro hb)|refine Fin.pure ?_ ?_ ?_|simp only[au])
 | some p =>
  have ev:gO d s = .tup [.str p.1,.str p.2,.bool true]:=by unfold gO;rw[hc]
  rw[ev]at hev ⊢
  refine ay rfl (fun cargs w=>call121 cargs w) func121 rfl mixed (by kernel_rfl) rfl ?_;intro b0 hb0
  (repeat' first|simp only[al,aj,results121,ntmps121,am,ai,seval,ah]|exact rfl|refine aa (v:=.any) ?_|(first|(refine ac ?_ (hev _) ?_)|(refine ab ?_ (fun _=>hev _) ?_))|((first|apply Ca|apply Cb)<;>intro hb)|refine Ai (by omega) ?_|(apply Ai<;>intro hb)|refine Fin.pure ?_ ?_ ?_|simp only[au])
def pW (cs:List UInt8)(n:Nat):Bool:=cs.any fun c=>c.toNat==n
def dQ (cs:List UInt8):List V:=(List.range 256).map fun i=>.bool (pW cs i)
theorem cO (cs:List UInt8):(dQ cs).length=256:=by simp[dQ]
theorem Du (cs:List UInt8)(c:UInt8):(dQ cs)[c.toNat]? = some (.bool (pW cs c.toNat)):=by
 unfold dQ
 rw[List.getElem?_map,List.getElem?_range c.toNat_lt];rfl
theorem E5 (cs:List UInt8)(c:UInt8):(dQ cs).set c.toNat (.bool true)=dQ (cs++[c]):=by
 refine List.ext_getElem? fun i=>?_
 rw[List.getElem?_set]
 unfold dQ
 rw[Lm,List.length_range,List.getElem?_map,List.getElem?_map]
 by_cases hi:i<256
 ·rw[List.getElem?_range hi]
  by_cases e:c.toNat=i
  ·subst e;simp[pW,hi]
  ·simp[pW,e]
 ·rw[List.getElem?_eq_none (by simpa using hi)]
  by_cases e:c.toNat=i
  ·subst e;exact absurd c.toNat_lt hi
  ·simp[e]
theorem cJ (cs:List UInt8):plainL (dQ cs)=true:=by
 rw[ud,List.all_eq_true]
 intro v hv
 obtain⟨i,_,rfl⟩:=List.mem_map.1 hv
 rfl
theorem xj (cs:List UInt8):(dQ cs).take 256=dQ cs:=List.take_of_length_le (by rw[cO];omega)
theorem wI (cs:List UInt8):(dQ cs).drop 256=[]:=List.drop_of_length_le (by rw[cO];omega)
theorem AZ (cs:List UInt8):(dQ cs).all V.one=true:=by
 rw[List.all_eq_true]
 intro v hv
 obtain⟨i,_,rfl⟩:=List.mem_map.1 hv
 rfl
theorem AK (σ:List (Nat×Nat))(M:aq)(cs:List UInt8):finL σ M (dQ cs)=dQ cs:=(finL_plain σ M _ (cJ cs)).1
theorem tm (σ:List (Nat×Nat))(M:aq)(cs:List UInt8):finLOk σ M (dQ cs)=True:=eq_true (finL_plain σ M _ (cJ cs)).2
theorem AB (cs:List UInt8):leL (dQ cs) (dQ cs)=True:=eq_true (leL_refl _)
theorem kc (cs:List UInt8):plainLL [dQ cs]=true:=by simp[plainLL,cJ]
theorem wP:([V.bool false,V.bool false,V.bool false,V.bool false,V.bool false,V.bool false,V.bool false,V.bool false,V.bool false,V.bool false,V.bool false,V.bool false,V.bool false,V.bool false,V.bool false,V.bool false,V.bool false,V.bool false,V.bool false,V.bool false,V.bool false,V.bool false,V.bool false,V.bool false,V.bool false,V.bool false,V.bool false,V.bool false,V.bool false,V.bool false,V.bool false,V.bool false,V.bool false,V.bool false,V.bool false,V.bool false,V.bool false,V.bool false,V.bool false,V.bool false,V.bool false,V.bool false,V.bool false,V.bool false,V.bool false,V.bool false,V.bool false,V.bool false,V.bool false,V.bool false,V.bool false,V.bool false,V.bool false,V.bool false,V.bool false,V.bool false,V.bool false,V.bool false,V.bool false,V.bool false,V.bool false,V.bool false,V.bool false,V.bool false,V.bool false,V.bool false,V.bool false,V.bool false,V.bool false,V.bool false,V.bool false,V.bool false,V.bool false,V.bool false,V.bool false,V.bool false,V.bool false,V.bool false,V.bool false,V.bool false,V.bool false,V.bool false,V.bool false,V.bool false,V.bool false,V.bool false,V.bool false,V.bool false,V.bool false,V.bool false,V.bool false,V.bool false,V.bool false,V.bool false,V.bool false,V.bool false,V.bool false,V.bool false,V.bool false,V.bool false,V.bool false,V.bool false,V.bool false,V.bool false,V.bool false,V.bool false,V.bool false,V.bool false,V.bool false,V.bool false,V.bool false,V.bool false,V.bool false,V.bool false,V.bool false,V.bool false,V.bool false,V.bool false,V.bool false,V.bool false,V.bool false,V.bool false,V.bool false,V.bool false,V.bool false,V.bool false,V.bool false,V.bool false,V.bool false,V.bool false,V.bool false,V.bool false,V.bool false,V.bool false,V.bool false,V.bool false,V.bool false,V.bool false,V.bool false,V.bool false,V.bool false,V.bool false,V.bool false,V.bool false,V.bool false,V.bool false,V.bool false,V.bool false,V.bool false,V.bool false,V.bool false,V.bool false,V.bool false,V.bool false,V.bool false,V.bool false,V.bool false,V.bool false,V.bool false,V.bool false,V.bool false,V.bool false,V.bool false,V.bool false,V.bool false,V.bool false,V.bool false,V.bool false,V.bool false,V.bool false,V.bool false,V.bool false,V.bool false,V.bool false,V.bool false,V.bool false,V.bool false,V.bool false,V.bool false,V.bool false,V.bool false,V.bool false,V.bool false,V.bool false,V.bool false,V.bool false,V.bool false,V.bool false,V.bool false,V.bool false,V.bool false,V.bool false,V.bool false,V.bool false,V.bool false,V.bool false,V.bool false,V.bool false,V.bool false,V.bool false,V.bool false,V.bool false,V.bool false,V.bool false,V.bool false,V.bool false,V.bool false,V.bool false,V.bool false,V.bool false,V.bool false,V.bool false,V.bool false,V.bool false,V.bool false,V.bool false,V.bool false,V.bool false,V.bool false,V.bool false,V.bool false,V.bool false,V.bool false,V.bool false,V.bool false,V.bool false,V.bool false,V.bool false,V.bool false,V.bool false,V.bool false,V.bool false,V.bool false,V.bool false,V.bool false,V.bool false,V.bool false,V.bool false,V.bool false,V.bool false,V.bool false,V.bool false,V.bool false,V.bool false,V.bool false,V.bool false,V.bool false,V.bool false,V.bool false,V.bool false,V.bool false,V.bool false,V.bool false,V.bool false,V.bool false,V.bool false]:List V)=dQ []:=rfl
theorem o0 (cs:List UInt8)(h:∀ c∈cs,c.toNat<128)(hl:cs.length≤100)(nm:Nat):Ev cx 220 nm [.str cs] aq.nil (.tup [.agg (dQ cs),.bool true]) []:=by
 refine ay rfl (fun cargs w=>call220 cargs w) func220 rfl mixed (by kernel_rfl) rfl ?_;intro b0 hb0
 repeat' first|simp only[al,aj,results220,ntmps220,am,wP,cO,ai,seval,ah]|exact rfl|refine aa (v:=.any) ?_|((first|apply Ca|apply Cb)<;>intro hb)|refine Ai (by omega) ?_|(apply Ai<;>intro hb)
 (refine aU co (fun x:Nat=>cs.length-x) (fun x=>x≤cs.length) (b0+16) (fun x=>[(0,.str cs),(2,.ptr b0 0 0),(4,.int .i64 x)]) (fun x=>[(b0,⟨256,[dQ (cs.take x)]⟩)]) (0) [some b0] ?_ ?_ ?_ ?_;rotate_left 1;(focus (show b0≤_;omega));(focus (refine⟨?_,?_⟩<;>(try simp only[bk,cJ,kc,wP,cO,List.take_zero,ai,seval,ah,au])<;>(try omega)));rotate_left 1)
 ·exact Nat.zero_le _
 ·intro k hk
  by_cases hlt:k<cs.length
  ·obtain⟨c,hc⟩:∃ c,cs[k]? = some c:=⟨_,List.getElem?_eq_getElem hlt⟩
   have hd:decide (k<cs.length)=true:=decide_eq_true hlt
   have hwk:IntKind.i64.wrap ((k:Int)+1)=((k+1:Nat):Int):=aN (by omega) (by omega)
   have h128:=h c (List.mem_of_getElem? hc)
   have hd2:decide ((128:Int)≤(c.toNat:Int))=false:=decide_eq_false (by omega)
   have h256:c.toNat<256:=c.toNat_lt
   have hset:=E5 (cs.take k) c
   have htk:cs.take k++[c]=cs.take (k+1):=by
    obtain⟨hk',rfl⟩:=List.getElem?_eq_some_iff.1 hc
    rw[List.take_succ_eq_append_getElem hk']
   rw[htk]at hset
   repeat' first|simp only[al,aj,results220,ntmps220,am,hc,hd,hd2,hlt,h256,hset,cO,ai,seval,ah]|exact rfl|refine aa (v:=.any) ?_|((first|apply Ca|apply Cb)<;>intro hb)|refine Ai (by omega) ?_|(apply Ai<;>intro hb)
   all_goals ((refine aJ co (k+1) [some b0] ?_ ?_ ?_ ?_;rotate_left 2;(focus (show b0≤_;omega));(focus (refine⟨?_,?_⟩<;>(try simp only[bk,cJ,kc,hset,hwk,ai,seval,ah,au])<;>(try omega)))))
   all_goals (first|(show cs.length-(k+1)<cs.length-k;omega)|(show k+1≤cs.length;omega)|skip)
  ·have hke:k=cs.length:=by omega
   subst hke
   have hd:decide (cs.length<cs.length)=false:=decide_eq_false (by omega)
   have htk:cs.take cs.length=cs:=List.take_length
   (repeat' first|simp only[al,aj,results220,ntmps220,am,hd,htk,xj,wI,AZ,AK,tm,AB,cO,kc,cJ,ai,seval,ah]|exact rfl|refine aa (v:=.any) ?_|((first|apply Ca|apply Cb)<;>intro hb)|refine Ai (by omega) ?_|(apply Ai<;>intro hb)|refine Fin.pure ?_ ?_ ?_|simp only[au])
theorem yc (cs:List UInt8)(c:UInt8)(nm:Nat):Ev cx 245 nm [.rp (dQ cs),.int .u8 c.toNat] aq.nil (.bool (pW cs c.toNat)) []:=by
 have h256:c.toNat<256:=c.toNat_lt
 have hg:(List.drop c.toNat (dQ cs))[0]? = some (.bool (pW cs c.toNat)):=by rw[List.getElem?_drop,Nat.add_zero];exact Du cs c
 have hl:0<(List.drop c.toNat (dQ cs)).length:=by rw[List.length_drop,cO];omega
 refine ay rfl (fun cargs w=>call245 cargs w) func245 rfl mixed (by kernel_rfl) rfl ?_;intro b0 hb0
 (repeat' first|simp only[al,aj,results245,ntmps245,am,h256,hg,hl,cO,ai,seval,ah]|exact rfl|refine aa (v:=.any) ?_|((first|apply Ca|apply Cb)<;>intro hb)|refine Ai (by omega) ?_|(apply Ai<;>intro hb)|refine Fin.pure ?_ ?_ ?_|simp only[au])
def dF (cs:List UInt8):List UInt8→List UInt8
 | []=>[]
 | c::s=>if pW cs c.toNat=true then dF cs s else c::s
def ew (cs:List UInt8)(s:List UInt8):List UInt8:=(dF cs s.reverse).reverse
theorem nI (cs:List UInt8):∀(s:List UInt8),∃ k,k≤s.length∧dF cs s=s.drop k∧(∀ i c,i<k→s[i]? = some c→pW cs c.toNat=true)∧(∀ c,s[k]? = some c→pW cs c.toNat=false)
 | []=>⟨0,by simp,rfl,fun i c h=>by omega,fun c h=>by simp at h⟩
 | c::s=>by
  unfold dF
  by_cases h:pW cs c.toNat=true
  ·rw[if_pos h]
   obtain⟨k,h1,h2,h3,h4⟩:=nI cs s
   refine⟨k+1,by simp;omega,by rw[h2];rfl,fun i d hi hd=>?_,fun d hd=>h4 d (by simpa using hd)⟩
   cases i with
   | zero=>simp at hd;subst hd;exact h
   | succ i=>exact h3 i d (by omega) (by simpa using hd)
  ·rw[if_neg h]
   refine⟨0,by simp,rfl,fun i d hi=>by omega,fun d hd=>?_⟩
   simp at hd;subst hd
   simpa using h
theorem vR {cs s:List UInt8} : dF cs s=[]↔s.all (fun c=>pW cs c.toNat)=true:=by
 induction s with
 | nil=>simp[dF]
 | cons c s ih =>
  unfold dF
  by_cases h:pW cs c.toNat=true
  ·rw[if_pos h,ih];simp[h]
  ·rw[if_neg h];simp[h]
theorem wD (cs s:List UInt8):(dF cs s).length≤s.length:=by
 obtain⟨k,h1,h2,_⟩:=nI cs s
 rw[h2];simp
theorem wh (cs s:List UInt8):(ew cs s).length≤s.length:=by
 unfold ew;have:=wD cs s.reverse;simpa using this
theorem mW {cs:List UInt8}{c:UInt8}(s:List UInt8)(h:pW cs c.toNat=true):dF cs (c::s)=dF cs s:=by rw[dF,if_pos h]
theorem mc {cs:List UInt8}{c:UInt8}(s:List UInt8)(h:pW cs c.toNat=false):dF cs (c::s)=c::s:=by rw[dF,if_neg (by simp[h])]
theorem uu {cs:List UInt8}{c:UInt8}(s:List UInt8)(h:pW cs c.toNat=true):ew cs (s++[c])=ew cs s:=by unfold ew;rw[List.reverse_append];simp only[List.reverse_cons,List.reverse_nil,List.nil_append,List.cons_append];rw[mW _ h]
theorem sw {cs:List UInt8}{c:UInt8}(s:List UInt8)(h:pW cs c.toNat=false):ew cs (s++[c])=s++[c]:=by unfold ew;rw[List.reverse_append];simp only[List.reverse_cons,List.reverse_nil,List.nil_append,List.cons_append];rw[mc _ h];simp
theorem sP {cs s:List UInt8} : dF cs (ew cs s)=[]↔s.all (fun c=>pW cs c.toNat)=true:=by
 constructor
 ·intro h
  have h1:=vR.1 h
  unfold ew at h1
  obtain⟨k,hk,hd,hi,ho⟩:=nI cs s.reverse
  rw[List.all_reverse,hd]at h1
  rw[← List.all_reverse,List.all_eq_true]
  intro c hc
  obtain⟨i,hi2⟩:=List.mem_iff_getElem?.1 hc
  by_cases hik:i<k
  ·exact hi i c hik hi2
  ·refine List.all_eq_true.1 h1 c ?_
   refine List.mem_iff_getElem?.2 ⟨i-k,?_⟩
   rw[List.getElem?_drop,show k+(i-k)=i by omega];exact hi2
 ·intro h
  have:ew cs s=[]:=by
   unfold ew
   rw[vR.2 (by rw[List.all_reverse];exact h)];rfl
  rw[this];rfl
theorem qA (cs s:List UInt8)(hs:s.length≤bh)(nm:Nat):Ev cx 221 nm [.str s,.rp (dQ cs)] aq.nil (.str (dF cs s)) []:=by
 unfold bh at hs
 refine ay rfl (fun cargs w=>call221 cargs w) func221 rfl mixed (by kernel_rfl) rfl ?_;intro b0 hb0
 repeat' first|simp only[al,aj,results221,ntmps221,am,cJ,ai,seval,ah]|exact rfl|refine aa (v:=.any) ?_|((first|apply Ca|apply Cb)<;>intro hb)|refine Ai (by omega) ?_|(apply Ai<;>intro hb)
 (refine aU co (fun x:List UInt8=>x.length) (fun x=>x.length≤s.length∧dF cs s=dF cs x) (b0+16) (fun x=>[(0,.str x),(1,.rp (dQ cs))]) (fun x=>[]) (s) [] ?_ ?_ ?_ ?_;rotate_left 1;(focus (show b0≤_;omega));(focus (refine⟨?_,?_⟩<;>(try simp only[bk,cJ,ai,seval,ah,au])<;>(try omega)));rotate_left 1)
 ·exact⟨Nat.le_refl _,rfl⟩
 ·rintro x ⟨h1,h2⟩
  cases x with
  | nil =>
   have hz:dF cs s=[]:=h2
   have hd:decide ((0:Int)<0)=false:=rfl
   (repeat' first|simp only[al,aj,results221,ntmps221,am,hz,hd,Nat.lt_irrefl,Int.lt_irrefl,ai,seval,ah]|exact rfl|refine aa (v:=.any) ?_|((first|apply Ca|apply Cb)<;>intro hb)|refine Ai (by omega) ?_|(apply Ai<;>intro hb)|refine Fin.pure ?_ ?_ ?_|simp only[au])
  | cons c x =>
   have hd:decide ((0:Int)<(((c::x).length:Nat):Int))=true:=decide_eq_true (by simp only[List.length_cons];omega)
   have hl:0<(c::x).length:=by simp
   have h1':(1:Int)≤(((c::x).length:Nat):Int):=by simp only[List.length_cons];omega
   have h1'':1≤(c::x).length:=by simp
   have hh:=yc cs c
   simp only[List.length_cons]at hd hl h1' h1''
   cases hb:pW cs c.toNat with
   | true =>
    rw[hb]at hh
    repeat' first|simp only[al,aj,results221,ntmps221,am,cJ,hd,hl,h1',h1'',Bt,ai,seval,ah]|exact rfl|refine aa (v:=.any) ?_|(first|(refine ac ?_ (hh _) ?_)|(refine ab ?_ (fun _=>hh _) ?_))|((first|apply Ca|apply Cb)<;>intro hb)|refine Ai (by omega) ?_|(apply Ai<;>intro hb)
    all_goals ((refine aJ co (x) [] ?_ ?_ ?_ ?_;rotate_left 2;(focus (show b0≤_;omega));(focus (refine⟨?_,?_⟩<;>(try simp only[bk,cJ,ai,seval,ah,au])<;>(try omega)))))
    all_goals (first|(show x.length<(c::x).length;simp;done)|(refine⟨by simp at h1;omega,?_⟩;rw[h2,mW _ hb])|skip)
   | false =>
    rw[hb]at hh
    have hz:dF cs s=c::x:=by rw[h2,mc _ hb]
    (repeat' first|simp only[al,aj,results221,ntmps221,am,cJ,hd,hl,h1',h1'',hz,Bf,ai,seval,ah]|exact rfl|refine aa (v:=.any) ?_|(first|(refine ac ?_ (hh _) ?_)|(refine ab ?_ (fun _=>hh _) ?_))|((first|apply Ca|apply Cb)<;>intro hb)|refine Ai (by omega) ?_|(apply Ai<;>intro hb)|refine Fin.pure ?_ ?_ ?_|simp only[au])
theorem wK (cs s:List UInt8)(hs:s.length≤bh)(nm:Nat):Ev cx 222 nm [.str s,.rp (dQ cs)] aq.nil (.str (ew cs s)) []:=by
 unfold bh at hs
 refine ay rfl (fun cargs w=>call222 cargs w) func222 rfl mixed (by kernel_rfl) rfl ?_;intro b0 hb0
 repeat' first|simp only[al,aj,results222,ntmps222,am,cJ,ai,seval,ah]|exact rfl|refine aa (v:=.any) ?_|((first|apply Ca|apply Cb)<;>intro hb)|refine Ai (by omega) ?_|(apply Ai<;>intro hb)
 (refine aU co (fun x:List UInt8=>x.length) (fun x=>x.length≤s.length∧ew cs s=ew cs x) (b0+16) (fun x=>[(0,.str x),(1,.rp (dQ cs))]) (fun x=>[]) (s) [] ?_ ?_ ?_ ?_;rotate_left 1;(focus (show b0≤_;omega));(focus (refine⟨?_,?_⟩<;>(try simp only[bk,cJ,ai,seval,ah,au])<;>(try omega)));rotate_left 1)
 ·exact⟨Nat.le_refl _,rfl⟩
 ·rintro x ⟨h1,h2⟩
  by_cases hne:x=[]
  ·subst hne
   have hz:ew cs s=[]:=h2
   (repeat' first|simp only[al,aj,results222,ntmps222,am,hz,Nat.lt_irrefl,Int.lt_irrefl,ai,seval,ah]|exact rfl|refine aa (v:=.any) ?_|((first|apply Ca|apply Cb)<;>intro hb)|refine Ai (by omega) ?_|(apply Ai<;>intro hb)|refine Fin.pure ?_ ?_ ?_|simp only[au])
  ·obtain⟨y,c,rfl⟩:∃ y c,x=y++[c]:=⟨x.dropLast,x.getLast hne,(List.dropLast_concat_getLast hne).symm⟩
   have hlen:(y++[c]).length=y.length+1:=by simp
   have hd:decide ((0:Int)<((y.length+1:Nat):Int))=true:=decide_eq_true (by omega)
   have hw:IntKind.i64.wrap (((y.length+1:Nat):Int)-1)=(y.length:Int):=by rw[aN (by simp at h1;omega) (by simp at h1;omega)];omega
   have hw2:IntKind.i64.wrap ((y.length:Int)+1-1)=(y.length:Int):=by rw[aN (by simp at h1;omega) (by simp at h1;omega)];omega
   have hg:(y++[c])[y.length]? = some c:=by simp
   have hl1:y.length<y.length+1:=by omega
   have hl2:(y.length:Int)≤((y.length+1:Nat):Int):=by omega
   have hl3:y.length≤y.length+1:=by omega
   have htk:(y++[c]).take y.length=y:=by simp
   have hh:=yc cs c
   cases hb:pW cs c.toNat with
   | true =>
    rw[hb]at hh
    repeat' first|simp only[al,aj,results222,ntmps222,am,cJ,hlen,hd,hw,hw2,hg,hl1,hl2,hl3,htk,Bt,ai,seval,ah]|exact rfl|refine aa (v:=.any) ?_|(first|(refine ac ?_ (hh _) ?_)|(refine ab ?_ (fun _=>hh _) ?_))|((first|apply Ca|apply Cb)<;>intro hb)|refine Ai (by omega) ?_|(apply Ai<;>intro hb)
    all_goals ((refine aJ co (y) [] ?_ ?_ ?_ ?_;rotate_left 2;(focus (show b0≤_;omega));(focus (refine⟨?_,?_⟩<;>(try simp only[bk,cJ,htk,ai,seval,ah,au])<;>(try omega)))))
    all_goals (first|(show y.length<(y++[c]).length;simp only[List.length_append,List.length_singleton];omega)|omega|(refine⟨by simp at h1;omega,?_⟩;rw[h2,uu _ hb])|skip)
   | false =>
    rw[hb]at hh
    have hz:ew cs s=y++[c]:=by rw[h2,sw _ hb]
    (repeat' first|simp only[al,aj,results222,ntmps222,am,cJ,hlen,hd,hw,hw2,hg,hl1,hl2,hl3,hz,Bf,ai,seval,ah]|exact rfl|refine aa (v:=.any) ?_|(first|(refine ac ?_ (hh _) ?_)|(refine ab ?_ (fun _=>hh _) ?_))|((first|apply Ca|apply Cb)<;>intro hb)|refine Ai (by omega) ?_|(apply Ai<;>intro hb)|refine Fin.pure ?_ ?_ ?_|simp only[au])
theorem B8 (cs s:List UInt8)(h:∀ c∈cs,c.toNat<128)(hl:cs.length≤100)(h2:2≤cs.length)(hs:s.length≤bh)(nm:Nat):Ev cx 192 nm [.str s,.str cs] aq.nil (.str (dF cs (ew cs s))) []:=by
 have hcs:(cs==[])=false:=beq_false_of_ne (by intro e;subst e;simp at h2)
 by_cases h0:s=[]
 ·subst h0
  have e0:(([]:List UInt8)==[])=true:=rfl
  have e1:dF cs (ew cs [])=[]:=rfl
  refine ay rfl (fun cargs w=>call192 cargs w) func192 rfl mixed (by kernel_rfl) rfl ?_;intro b0 hb0
  (repeat' first|simp only[al,aj,results192,ntmps192,am,e0,e1,ai,seval,ah]|exact rfl|refine aa (v:=.any) ?_|refine aC (by decide +kernel) ?_|((first|apply Ca|apply Cb)<;>intro hb)|refine Ai (by omega) ?_|(apply Ai<;>intro hb)|refine Fin.pure ?_ ?_ ?_|simp only[au])
 ·have e0:(s==[])=false:=beq_false_of_ne h0
  have e2:((cs.length:Int)==1)=false:=beq_false_of_ne (by omega)
  have hsr:(ew cs s).length≤bh:=Nat.le_trans (wh cs s) hs
  refine ay rfl (fun cargs w=>call192 cargs w) func192 rfl mixed (by kernel_rfl) rfl ?_;intro b0 hb0
  (repeat' first|simp only[al,aj,results192,ntmps192,am,e0,hcs,e2,wP,xj,wI,AZ,AK,tm,AB,cO,cJ,kc,ai,seval,ah]|exact rfl|refine aa (v:=.any) ?_|(first|(refine ac ?_ (o0 cs h hl _) ?_)|(refine ab ?_ (fun _=>o0 cs h hl _) ?_))|((refine bq (xs:=?_) [b0+320] ?_ ?_ ?_ rfl (wK cs s hs _) ?_);rotate_left 1)|((refine bq (xs:=?_) [b0+320] ?_ ?_ ?_ rfl (qA cs (ew cs s) hsr _) ?_);rotate_left 1)|omega|refine aC (by decide +kernel) ?_|((first|apply Ca|apply Cb)<;>intro hb)|refine Ai (by omega) ?_|(apply Ai<;>intro hb)|refine Fin.pure ?_ ?_ ?_|simp only[au])
def fK:List UInt8:=[32,9,10,13]
theorem Dz (c:UInt8):pW fK c.toNat=iw c:=by
 have key:∀ n:Fin 256,pW fK n.val=iw (UInt8.ofNat n.val):=by decide +kernel
 have:=key ⟨c.toNat,c.toNat_lt⟩
 simpa using this
theorem u6:∀ s:List UInt8,dF fK s=s.dropWhile iw
 | []=>rfl
 | c::s=>by
  rw[dF,Dz,List.dropWhile_cons,u6 s]
theorem xB (cs s:List UInt8)(h:∀ c∈cs,c.toNat<128)(hl:cs.length≤100)(h2:2≤cs.length)(hs:s.length≤bh)(nm:Nat):Ev cx 237 nm [.str s,.str cs] aq.nil (.str (dF cs s)) []:=by
 have hcs:(cs==[])=false:=beq_false_of_ne (by intro e;subst e;simp at h2)
 by_cases h0:s=[]
 ·subst h0
  have e0:(([]:List UInt8)==[])=true:=rfl
  have e1:dF cs []=[]:=rfl
  refine ay rfl (fun cargs w=>call237 cargs w) func237 rfl mixed (by kernel_rfl) rfl ?_;intro b0 hb0
  (repeat' first|simp only[al,aj,results237,ntmps237,am,e0,e1,ai,seval,ah]|exact rfl|refine aa (v:=.any) ?_|((first|apply Ca|apply Cb)<;>intro hb)|refine Ai (by omega) ?_|(apply Ai<;>intro hb)|refine Fin.pure ?_ ?_ ?_|simp only[au])
 ·have e0:(s==[])=false:=beq_false_of_ne h0
  have e2:((cs.length:Int)==1)=false:=beq_false_of_ne (by omega)
  refine ay rfl (fun cargs w=>call237 cargs w) func237 rfl mixed (by kernel_rfl) rfl ?_;intro b0 hb0
  (repeat' first|simp only[al,aj,results237,ntmps237,am,e0,hcs,e2,wP,xj,wI,AZ,AK,tm,AB,cO,cJ,kc,ai,seval,ah]|exact rfl|refine aa (v:=.any) ?_|(first|(refine ac ?_ (o0 cs h hl _) ?_)|(refine ab ?_ (fun _=>o0 cs h hl _) ?_))|((refine bq (xs:=?_) [b0+320] ?_ ?_ ?_ rfl (qA cs s hs _) ?_);rotate_left 1)|omega|((first|apply Ca|apply Cb)<;>intro hb)|refine Ai (by omega) ?_|(apply Ai<;>intro hb)|refine Fin.pure ?_ ?_ ?_|simp only[au])
theorem oT (s:List UInt8)(c:UInt8)(nm:Nat):Ev cx 188 nm [.str s,.int .u8 c.toNat] aq.nil (.int .i64 (indexByte s c)) []:=by
 refine ay rfl (fun cargs w=>call188 cargs w) func188 rfl mixed (by kernel_rfl) rfl ?_;intro b0 hb0
 (repeat' first|simp only[al,aj,results188,ntmps188,am,ai,seval,ah]|exact rfl|refine aa (v:=.any) ?_|(first|(refine ac ?_ (mo s c _) ?_)|(refine ab ?_ (fun _=>mo s c _) ?_))|((first|apply Ca|apply Cb)<;>intro hb)|refine Ai (by omega) ?_|(apply Ai<;>intro hb)|refine Fin.pure ?_ ?_ ?_|simp only[au])
theorem IK {z:Int}(h0:128≤z)(hm:gR z=true):∃(l:List UInt8) (c:UInt8),(Utf8.encode z).data.toList=l++[c]∧128≤c.toNat∧1≤l.length∧l.length≤3:=by
 have hz:=(gj z).1 hm
 have hv:Utf8.valid z=true:=by unfold Utf8.valid;simp;omega
 have mm:∀ n:Nat,128≤(UInt8.ofNat (128+n % 64)).toNat:=fun n=>by simp;omega
 unfold Utf8.encode
 simp only[hv,if_true]
 rw[if_neg (by omega)]
 split
 ·exact⟨[_],_,rfl,mm _,by simp,by simp⟩
 ·split
  ·exact⟨[_,_],_,rfl,mm _,by simp,by simp⟩
  ·exact⟨[_,_,_],_,rfl,mm _,by simp,by simp⟩
theorem M9 {c:UInt8}(h:128≤c.toNat):∀ k,c ∉ fK.drop k:=by
 intro k hc
 have h1:=List.mem_of_mem_drop hc
 unfold fK at h1
 simp only[Lk,Ln,or_false]at h1
 rcases h1 with rfl|rfl|rfl|rfl<;>exact absurd h (by decide)
theorem Ig {d:UInt8}{s:List UInt8}(h:d ∉ s):indexByte s d = -1:=ii.2 (fQ.2 h)
def FW (z:Int):Int:=if z<128 then indexByte fK (UInt8.ofNat z.toNat) else -1
theorem sU (z:Int)(hm:gR z=true)(nm:Nat):Ev cx 256 nm [.str [32,9,10,13],.int .i32 z] aq.nil (.int .i64 (FW z)) []:=by
 have hz:=(gj z).1 hm
 have hr:=fq hm
 have d0:decide (0≤z)=true:=decide_eq_true hr.1
 by_cases c1:z<128
 ·have d1:decide (z<128)=true:=decide_eq_true c1
  have hw:IntKind.u8.wrap z=((UInt8.ofNat z.toNat).toNat:Int):=by rw[IntWalk.u8_in _ (by omega)];simp;omega
  have hi:=oT fK (UInt8.ofNat z.toNat)
  have hx:FW z=indexByte fK (UInt8.ofNat z.toNat):=if_pos c1
  rw[hx]
  unfold fK at hi ⊢
  generalize UInt8.ofNat z.toNat=g at hw hi
  refine ay rfl (fun cargs w=>call256 cargs w) func256 rfl mixed (by kernel_rfl) rfl ?_;intro b0 hb0
  (repeat' first|simp only[al,aj,results256,ntmps256,am,d0,d1,hw,ai,seval,ah]|exact rfl|refine aa (v:=.any) ?_|(first|(refine ac ?_ (hi _) ?_)|(refine ab ?_ (fun _=>hi _) ?_))|refine aC (by decide +kernel) ?_|((first|apply Ca|apply Cb)<;>intro hb)|refine Ai (by omega) ?_|(apply Ai<;>intro hb)|refine Fin.pure ?_ ?_ ?_|simp only[au])
 have d1:decide (z<128)=false:=decide_eq_false c1
 have hx:FW z = -1:=if_neg c1
 rw[hx]
 by_cases c2:z=65533
 ·subst c2
  refine ay rfl (fun cargs w=>call256 cargs w) func256 rfl mixed (by kernel_rfl) rfl ?_;intro b0 hb0
  repeat' first|simp only[al,aj,results256,ntmps256,am,d0,d1,ai,seval,ah]|exact rfl|refine aa (v:=.any) ?_|(refine mJ (s:=?_) ?_ ?_ ?_;rotate_left 1;(iterate 2 (focus (simp only[results256,ntmps256,am,d0,d1,ai,seval,ah]<;>exact rfl))))|(refine bm ?_)|(refine be ?_)|refine aC (by decide +kernel) ?_|((first|apply Ca|apply Cb)<;>intro hb)|refine Ai (by omega) ?_|(apply Ai<;>intro hb)
  (refine aU co (fun x:Nat=>4-x) (fun x=>x≤4) (b0+16) (fun x=>[(175,.ptr b0 0 0)]) (fun x=>[(b0,ke [32,9,10,13] x)]) (0) [some (b0+192)] ?_ ?_ ?_ ?_;rotate_left 1;(focus (show b0≤_;omega));(focus (refine⟨?_,?_⟩<;>(try simp only[bk,fD,dO,ai,seval,ah,au])<;>(try omega)));rotate_left 1)
  ·exact Nat.zero_le _
  ·intro p hp
   by_cases hlt:p<4
   ·have hd:p<([32,9,10,13]:List UInt8).length:=hlt
    have hrn:br [32,9,10,13] p=((([32,9,10,13]:List UInt8)[p]?.getD 0).toNat,1)∧((([32,9,10,13]:List UInt8)[p]?.getD 0).toNat:Int)≠65533:=by
     rcases(show p=0∨p=1∨p=2∨p=3 by omega) with rfl|rfl|rfl|rfl<;>decide +kernel
    obtain⟨hr1,hr2⟩:=hrn
    have hr3:(br [32,9,10,13] p).2=1:=by rw[hr1]
    have hq:(((br [32,9,10,13] p).1:Int)==65533)=false:=by rw[hr1];exact beq_false_of_ne hr2
    repeat' first|simp only[al,aj,results256,ntmps256,am,hd,hlt,hq,hr3,List.length_cons,List.length_nil,ai,seval,ah]|exact rfl|refine aa (v:=.any) ?_|(refine hH (s:=?_) (y:=?_) (p:=?_) ?_ ?_ ?_ ?_;rotate_left 3;(iterate 2 (focus (simp only[results256,ntmps256,am,hd,hlt,hq,hr3,List.length_cons,List.length_nil,ai,seval,ah]<;>exact rfl)));(focus (simp only[results256,ntmps256,am,hd,hlt,hq,hr3,List.length_cons,List.length_nil,ai,seval,ah]<;>omega)))|(refine bm ?_)|(refine be ?_)|refine aC (by decide +kernel) ?_|refine Ai (by omega) ?_
    all_goals ((refine aJ co (p+1) [some b0] ?_ ?_ ?_ ?_;rotate_left 2;(focus (show b0≤_;omega));(focus (refine⟨?_,?_⟩<;>(try simp only[bk,fD,dO,hr3,ai,seval,ah,au])<;>(try omega)))))
    all_goals (first|(show 4-(p+1)<4-p;omega)|(show p+1≤4;omega)|skip)
   ·have hpe:p=4:=by omega
    subst hpe
    (repeat' first|simp only[al,aj,results256,ntmps256,am,List.length_cons,List.length_nil,ai,seval,ah]|exact rfl|refine aa (v:=.any) ?_|(refine oP (s:=?_) (y:=?_) (p:=?_) ?_ ?_ ?_ ?_;rotate_left 3;(iterate 2 (focus (simp only[results256,ntmps256,am,List.length_cons,List.length_nil,ai,seval,ah]<;>exact rfl)));(focus (simp only[results256,ntmps256,am,List.length_cons,List.length_nil,ai,seval,ah]<;>omega)))|(refine bm ?_)|(refine be ?_)|refine aC (by decide +kernel) ?_|((first|apply Ca|apply Cb)<;>intro hb)|refine Ai (by omega) ?_|(apply Ai<;>intro hb)|refine Fin.pure ?_ ?_ ?_|simp only[au])
 ·have d2:(z==65533)=false:=beq_false_of_ne c2
  have hv:nt z=true:=by
   unfold nt
   simp only[Bool.or_eq_true,Bool.and_eq_true,decide_eq_true_eq];omega
  have hve:=s8 z
  rw[hv]at hve
  obtain⟨l,c,h1,h2,h3,h4⟩:=IK (by omega) hm
  have hll:(l++[c]).length=l.length+1:=by simp
  have hgl:(l++[c])[l.length]? = some c:=by simp
  have hw1:IntKind.i64.wrap (((l.length+1:Nat):Int)-1)=(l.length:Int):=by rw[aN (by omega) (by omega)];omega
  have hw2:IntKind.i64.wrap ((l.length:Int)+1-1)=(l.length:Int):=by rw[aN (by omega) (by omega)];omega
  refine ay rfl (fun cargs w=>call256 cargs w) func256 rfl mixed (by kernel_rfl) rfl ?_;intro b0 hb0
  repeat' first|simp only[al,aj,results256,ntmps256,am,d0,d1,d2,h1,hll,hw1,hw2,Bt,ai,seval,ah]|exact rfl|refine aa (v:=.any) ?_|(first|(refine ac ?_ (hve _) ?_)|(refine ab ?_ (fun _=>hve _) ?_))|refine aC (by decide +kernel) ?_|((first|apply Ca|apply Cb)<;>intro hb)|refine Ai (by omega) ?_|(apply Ai<;>intro hb)
  (refine aU co (fun x:Nat=>x) (fun _=>True) (b0+16) (fun x=>[(0,.str [32,9,10,13]),(7,.str (l++[c])),(8,.int .i64 l.length),(9,.int .i64 l.length)]) (fun x=>[]) (0) [] ?_ ?_ ?_ ?_;rotate_left 1;(focus (show b0≤_;omega));(focus (refine⟨?_,?_⟩<;>(try simp only[bk,h1,ai,seval,ah,au])<;>(try omega)));rotate_left 1)
  ·trivial
  ·intro x _
   have hlt4:decide ((l.length:Int)<4)=true:=decide_eq_true (by omega)
   have hlt4':decide (l.length<4)=true:=decide_eq_true (by omega)
   have hl4:l.length<4:=by omega
   obtain⟨d,hd⟩:∃ d,([32,9,10,13]:List UInt8)[l.length]? = some d:=⟨_,List.getElem?_eq_getElem (by simp;omega)⟩
   have hdc:(!((d.toNat:Int)==(c.toNat:Int)))=true:=by
    have hda:d.toNat<128:=by
     have:=List.mem_of_getElem? hd
     simp only[Lk,Ln,or_false]at this
     rcases this with rfl|rfl|rfl|rfl<;>decide
    rw[beq_false_of_ne (by omega)];rfl
   have hdc':((d.toNat:Int) !=(c.toNat:Int))=true:=hdc
   have hw3:IntKind.i64.wrap ((l.length:Int)+1)=((l.length+1:Nat):Int):=aN (by omega) (by omega)
   have hs1:((l.length+1:Nat):Int)≤4:=by omega
   have hs2:l.length+1≤4:=by omega
   have hs3:l.length<l.length+1:=by omega
   have hix:=oT (([32,9,10,13]:List UInt8).drop (l.length+1)) c
   have hi0:indexByte (([32,9,10,13]:List UInt8).drop (l.length+1)) c = -1:=Ig (M9 h2 (l.length+1))
   rw[hi0]at hix
   (repeat' first|simp only[al,aj,results256,ntmps256,am,hll,hgl,hlt4,hlt4',hl4,hd,hdc,hdc',hw3,hs1,hs2,hs3,List.length_cons,List.length_nil,ai,seval,ah]|exact rfl|refine aa (v:=.any) ?_|(first|(refine ac ?_ (hix _) ?_)|(refine ab ?_ (fun _=>hix _) ?_))|refine aC (by decide +kernel) ?_|refine Ai (by omega) ?_|refine Fin.pure ?_ ?_ ?_|simp only[au])
def lC (z:Int):Bool:=decide (z=32∨z=9∨z=10∨z=13)
theorem BR {z:Int}(hm:gR z=true):decide (0≤FW z)=lC z:=by
 have hr:=fq hm
 unfold FW lC
 by_cases c1:z<128
 ·rw[if_pos c1]
  have key:∀ n:Fin 128,decide (0≤indexByte fK (UInt8.ofNat n.val))=decide (n.val=32∨n.val=9∨n.val=10∨n.val=13):=by decide +kernel
  have:=key ⟨z.toNat,by omega⟩
  rw[this]
  rw[decide_eq_decide]
  simp only;omega
 ·rw[if_neg c1]
  rw[decide_eq_decide];omega
theorem BX (z:Int)(hm:gR z=true)(nm:Nat):Ev cx 240 nm [.str [32,9,10,13],.int .i32 z] aq.nil (.bool (lC z)) []:=by
 have h:=BR hm
 refine ay rfl (fun cargs w=>call240 cargs w) func240 rfl mixed (by kernel_rfl) rfl ?_;intro b0 hb0
 (repeat' first|simp only[al,aj,results240,ntmps240,am,h,ai,seval,ah]|exact rfl|refine aa (v:=.any) ?_|(first|(refine ac ?_ (sU z hm _) ?_)|(refine ab ?_ (fun _=>sU z hm _) ?_))|((first|apply Ca|apply Cb)<;>intro hb)|refine Ai (by omega) ?_|(apply Ai<;>intro hb)|refine Fin.pure ?_ ?_ ?_|simp only[au])
def fW (z:Int):Int:=if lC z=true then 32 else z
theorem CR (z:Int)(hm:gR z=true)(nm:Nat):Ev cx 239 nm [.int .i32 z] aq.nil (.int .i32 (fW z)) []:=by
 have h:=BX z hm
 unfold fW
 generalize lC z=b at h ⊢
 cases b<;>(
  refine ay rfl (fun cargs w=>call239 cargs w) func239 rfl mixed (by kernel_rfl) rfl ?_;intro b0 hb0
  (repeat' first|simp only[al,aj,results239,ntmps239,am,if_true,Bool.false_eq_true,if_false,ai,seval,ah]|exact rfl|refine aa (v:=.any) ?_|(first|(refine ac ?_ (h _) ?_)|(refine ab ?_ (fun _=>h _) ?_))|((first|apply Ca|apply Cb)<;>intro hb)|refine Ai (by omega) ?_|(apply Ai<;>intro hb)|refine Fin.pure ?_ ?_ ?_|simp only[au]))
theorem Me (z:Int)(hm:gR z=false)(q y:Nat)(bs:List UInt8)(M:aq)(nm:Nat)(hqy:q≠y)(hq:M q=some ⟨1,[[.own y 0 bs.length]]⟩)(hy:M y=some (rK bs))(ho:∀ w,(M w).isSome=true→w∈[q,y])(hqn:q<nm)(hyn:y<nm):Ev cx 259 nm [.int .i64 z,.ptr q 0 0] M (.bool false) [(q,some ⟨1,[[.own y 0 bs.length]]⟩),(y,some (rK bs))]:=by
 have hmay:=jz z
 rw[hm]at hmay
 refine ay rfl (fun cargs w=>call259 cargs w) func259 rfl mixed (by kernel_rfl) rfl ?_;intro b0 hb0
 have ly:y<b0:=ax hb0 (by rw[hy];rfl)
 have y0:=aT ly;have y1:=aw ly;have y2:=aK ly;have y3:=ao ly
 have lq:q<b0:=ax hb0 (by rw[hq];rfl)
 have z0:=aT lq;have z1:=aw lq;have z2:=aK lq;have z3:=ao lq
 have n1:=eq_false hqy;have n4:=eq_false (Ne.symm hqy)
 repeat' first|simp only[al,aj,results259,ntmps259,am,Bf,ai,seval,ah]|exact rfl|refine aa (v:=.any) ?_|(first|(refine ac ?_ (hmay _) ?_)|(refine ab ?_ (fun _=>hmay _) ?_))|((first|apply Ca|apply Cb)<;>intro hb)|refine Ai (by omega) ?_|(apply Ai<;>intro hb)
 all_goals ((refine Fin.give [(q,none),(y,none)] [] ?_ ?_ ?_ ?_ ?_ (fun q hq=>by have hqq:=ho q hq;first|(simp only[aF,tgt,Lc,Lo,Lk,Ln,or_false]at hqq ⊢;omega)|(simp only[aF,tgt,Lc,Lo,Lk,Ln,or_false]at hqq))<;>(try simp only[results259,ntmps259,am,hq,hy,aS,bo,aY,z0,z1,z2,z3,y0,y1,y2,y3,n1,n4,eH,ai,seval,ah])<;>(try simp only[au])<;>(try omega)))
theorem Jt (z:Int)(hm:gR z=true)(q y:Nat)(bs:List UInt8)(hbs:bs.length≤1000000)(M:aq)(nm:Nat)(hqy:q≠y)(hq:M q=some ⟨1,[[.own y 0 bs.length]]⟩)(hy:M y=some (rK bs))(ho:∀ w,(M w).isSome=true→w∈[q,y])(hqn:q<nm)(hyn:y<nm):Ev cx 259 nm [.int .i64 z,.ptr q 0 0] M (.bool true) [(y,none),(q,some ⟨1,[[.own nm 0 (bs.length+(encodeRune z).length)]]⟩),(nm,some (rK (bs++encodeRune z)))]:=by
 have hmay:=jz z
 rw[hm]at hmay
 have hmz:=(gj z).1 hm
 have hw:IntKind.i32.wrap z=z:=IntWalk.i32_in _ (by omega)
 refine ay rfl (fun cargs w=>call259 cargs w) func259 rfl mixed (by kernel_rfl) rfl ?_;intro b0 hb0
 have ly:y<b0:=ax hb0 (by rw[hy];rfl)
 have y0:=aT ly;have y1:=aw ly;have y2:=aK ly;have y3:=ao ly
 have lq:q<b0:=ax hb0 (by rw[hq];rfl)
 have z0:=aT lq;have z1:=aw lq;have z2:=aK lq;have z3:=ao lq
 have n1:=eq_false hqy;have n4:=eq_false (Ne.symm hqy)
 repeat' first|simp only[al,aj,results259,ntmps259,am,hw,hq,hy,z0,z1,z2,z3,y0,y1,y2,y3,n1,n4,aR,Bt,ai,seval,ah]|exact rfl|refine aa (v:=.any) ?_|(first|(refine ac ?_ (hmay _) ?_)|(refine ab ?_ (fun _=>hmay _) ?_))|(refine ag ?_ [y] (CM z hm y bs hbs _ _ ?_ ap (by omega)) ?_ ?_)|((first|apply Ca|apply Cb)<;>intro hb)|refine Ai (by omega) ?_|(apply Ai<;>intro hb)
 all_goals ((refine Fin.give [(q,none),(b0+112,some 0)] [y] ?_ ?_ ?_ ?_ ?_ (fun q hq=>by have hqq:=ho q hq;first|(simp only[aF,tgt,Lc,Lo,Lk,Ln,or_false]at hqq ⊢;omega)|(simp only[aF,tgt,Lc,Lo,Lk,Ln,or_false]at hqq))<;>(try simp only[results259,ntmps259,am,hq,hy,aS,bo,aY,z0,z1,z2,z3,y0,y1,y2,y3,n1,n4,eH,ai,seval,ah])<;>(try simp only[au])<;>(try omega)))
theorem uz {zs:List Int}{k:Nat}{z:Int}(h:zs[k]? = some z):enc (zs.take (k+1))=enc (zs.take k)++encodeRune z:=by
 obtain⟨hk,rfl⟩:=List.getElem?_eq_some_iff.1 h
 rw[List.take_succ_eq_append_getElem hk,FV]
theorem LQ (zs:List Int)(hl:zs.length≤100000)(nm:Nat):Ev cx 244 nm [.sl false 1 (zs.map bL)] aq.nil (.tup [.str (kU zs),.int .i64 (li zs)]) []:=by
 refine ay rfl (fun cargs w=>call244 cargs w) func244 rfl mixed (by kernel_rfl) rfl ?_;intro b0 hb0
 repeat' first|simp only[al,aj,results244,ntmps244,am,ep,Lm,ai,seval,ah]|exact rfl|refine aa (v:=.any) ?_|((first|(refine aM (g:=?_) ?_ ?_)|(refine aI (g:=?_) ?_ ?_));rotate_left 1;(focus (simp only[results244,ntmps244,am,ep,Lm,ai,seval,ah]<;>exact rfl)))|((first|apply Ca|apply Cb)<;>intro hb)|refine Ai (by omega) ?_|(apply Ai<;>intro hb)
 (refine aU co (fun x:Nat=>zs.length-x) (fun x=>x≤zs.length∧(zs.take x).all gR=true) (b0+16) (fun x=>[(4,.ptr b0 0 0),(5,.fn 259 [.ptr b0 0 0]),(9,.sl false 1 (zs.map bL)),(10,.int .i64 zs.length),(11,.int .i64 x)]) (fun x=>[(b0,⟨1,[[.own (b0+1) 0 (enc (zs.take x)).length]]⟩),(b0+1,rK (enc (zs.take x)))]) (0) [some (b0+32),none] ?_ ?_ ?_ ?_;rotate_left 1;(focus (show b0≤_;omega));(focus (refine⟨?_,?_⟩<;>(try simp only[bk,ep,aS,bo,aY,da,aV,List.take_zero,Lo,List.length_nil,Lm,show enc []=[] from rfl,ai,seval,ah,au])<;>(try omega)));rotate_left 1)
 ·exact⟨Nat.zero_le _,rfl⟩
 ·rintro k ⟨hk,hall⟩
  have hel:=BD (zs.take k)
  have hkl:(zs.take k).length=k:=by rw[List.length_take];omega
  by_cases hlt:k<zs.length
  ·obtain⟨z,hz⟩:∃ z,zs[k]? = some z:=⟨_,List.getElem?_eq_getElem hlt⟩
   have hh:(zs.map bL)[k]? = some (bL z):=by rw[List.getElem?_map,hz];rfl
   have hd:decide (k<zs.length)=true:=decide_eq_true hlt
   have hwk:IntKind.i64.wrap ((k:Int)+1)=((k+1:Nat):Int):=aN (by omega) (by omega)
   have hgd:zs.getD k 0=z:=by rw[List.getD_eq_getElem?_getD,hz];rfl
   cases hm:gR z with
   | false =>
    have he:li zs=50:=EO hlt (by rw[hgd];exact hm)
    have ht:kU zs=[]:=by unfold kU;rw[he];rfl
    (repeat' first|simp only[al,aj,results244,ntmps244,am,hh,hd,hlt,he,ht,bL,Lm,Bf,ai,seval,ah]|exact rfl|refine aa (v:=.any) ?_|((refine dl (caps:=?_) ?_ ?_ [b0,b0+1] (Me z hm b0 (b0+1) (enc (zs.take k)) _ _ (by omega) ?_ ?_ ap (by omega) (by omega)) ?_ ?_);rotate_left 1)|((first|(refine aM (g:=?_) ?_ ?_)|(refine aI (g:=?_) ?_ ?_));rotate_left 1;(focus (simp only[results244,ntmps244,am,hh,hd,hlt,he,ht,bL,Lm,Bf,ai,seval,ah]<;>exact rfl)))|((first|apply Ca|apply Cb)<;>intro hb)|refine Ai (by omega) ?_|(apply Ai<;>intro hb)|refine Fin.pure ?_ ?_ ?_|simp only[au])
   | true =>
    have hnx:=uz hz
    have hnl:(enc (zs.take k)).length+(encodeRune z).length=(enc (zs.take (k+1))).length:=by rw[hnx,List.length_append]
    have has:=zf hlt hall (by rw[hgd];exact hm)
    repeat' first|simp only[al,aj,results244,ntmps244,am,hh,hd,hlt,bL,aR,Lm,Bt,ai,seval,ah]|exact rfl|refine aa (v:=.any) ?_|((refine dl (caps:=?_) ?_ ?_ [b0,b0+1] (Jt z hm b0 (b0+1) (enc (zs.take k)) (by omega) _ _ (by omega) ?_ ?_ ap (by omega) (by omega)) ?_ ?_);rotate_left 1)|((first|(refine aM (g:=?_) ?_ ?_)|(refine aI (g:=?_) ?_ ?_));rotate_left 1;(focus (simp only[results244,ntmps244,am,hh,hd,hlt,bL,aR,Lm,Bt,ai,seval,ah]<;>exact rfl)))|((first|apply Ca|apply Cb)<;>intro hb)|refine Ai (by omega) ?_|(apply Ai<;>intro hb)
    all_goals ((refine aJ co (k+1) [some b0,some (b0+112)] ?_ ?_ ?_ ?_;rotate_left 2;(focus (show b0≤_;omega));(focus (refine⟨?_,?_⟩<;>(try simp only[bk,ep,hwk,hnx.symm,hnl,aS,bo,aY,da,aV,Lm,ai,seval,ah,au])<;>(try omega)))))
    all_goals (first|(show zs.length-(k+1)<zs.length-k;omega)|exact⟨hlt,has⟩|skip)
  ·have hke:k=zs.length:=by omega
   subst hke
   rw[List.take_length]at hall hel
   have hd:decide (zs.length<zs.length)=false:=decide_eq_false (by omega)
   by_cases hb:16384<(enc zs).length
   ·have he:li zs=4:=by unfold li;rw[if_pos hall,if_pos hb]
    have ht:kU zs=[]:=by unfold kU;rw[he];rfl
    have hd2:decide ((16384:Int)<((enc zs).length:Int))=true:=decide_eq_true (by omega)
    (repeat' first|simp only[al,aj,results244,ntmps244,am,hd,hd2,he,ht,List.take_length,Lm,ai,seval,ah]|exact rfl|refine aa (v:=.any) ?_|((first|(refine aM (g:=?_) ?_ ?_)|(refine aI (g:=?_) ?_ ?_));rotate_left 1;(focus (simp only[results244,ntmps244,am,hd,hd2,he,ht,List.take_length,Lm,ai,seval,ah]<;>exact rfl)))|((first|apply Ca|apply Cb)<;>intro hb)|refine Ai (by omega) ?_|(apply Ai<;>intro hb)|refine Fin.pure ?_ ?_ ?_|simp only[au])
   ·have he:li zs=0:=by unfold li;rw[if_pos hall,if_neg hb]
    have ht:kU zs=enc zs:=by unfold kU;rw[he];rfl
    have hd2:decide ((16384:Int)<((enc zs).length:Int))=false:=decide_eq_false (by omega)
    have htk:((enc zs).map aP).take (enc zs).length=(enc zs).map aP:=List.take_of_length_le (by simp)
    (repeat' first|simp only[al,aj,results244,ntmps244,am,hd,hd2,he,ht,htk,aS,List.take_length,Lm,Nat.le_refl,ai,seval,ah]|exact rfl|refine aa (v:=.any) ?_|(refine va (v:=?_) (bs:=enc zs) ?_ ?_ ?_ ?_ ?_ ?_ ?_;rotate_left 1;(iterate 2 (focus (simp only[results244,ntmps244,am,hd,hd2,he,ht,htk,aS,List.take_length,Lm,Nat.le_refl,ai,seval,ah];done)));(focus (simp only[results244,ntmps244,am,hd,hd2,he,ht,htk,aS,List.take_length,Lm,Nat.le_refl,ai,seval,ah]<;>exact rfl));(focus (exact rfl));(focus (simp only[aj,results244,ntmps244,am,hd,hd2,he,ht,htk,aS,List.take_length,Lm,Nat.le_refl,ai,seval,ah];done));(focus (simp only[results244,ntmps244,am,hd,hd2,he,ht,htk,aS,List.take_length,Lm,Nat.le_refl,ai,seval,ah]<;>exact rfl)))|(refine bm ?_)|(refine be ?_)|((first|(refine aM (g:=?_) ?_ ?_)|(refine aI (g:=?_) ?_ ?_));rotate_left 1;(focus (simp only[results244,ntmps244,am,hd,hd2,he,ht,htk,aS,List.take_length,Lm,Nat.le_refl,ai,seval,ah]<;>exact rfl)))|((first|apply Ca|apply Cb)<;>intro hb)|refine Ai (by omega) ?_|(apply Ai<;>intro hb)|refine Fin.pure ?_ ?_ ?_|simp only[au])
end Go.Proofs.YtidmkaalhmeflaaGreatDoor
