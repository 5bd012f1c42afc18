/-
 Texts joined: XGg,XGh,XGi,XEk.
-/
import Derived.Test.YtidmkaalhmeflaaGreatDoorQi
import Derived.Test.YtidmkaalhmeflaaGreatDoorQg
import Derived.Test.YtidmkaalhmeflaaGreatDoorQf
namespace Go.Proofs.YtidmkaalhmeflaaGreatDoor
set_option maxRecDepth 100000
set_option maxHeartbeats 32000000
set_option linter.unusedSimpArgs false
set_option linter.unusedVariables false
open Go Go.RowKit Vm Go.Lib Tryz
open Vm renaming aZ→Ca,bj→Cb
open And renaming intro→Ai
open List renaming length_map→Lm,not_mem_nil→Ln,map_nil→Lo,map_cons→Lc,mem_cons→Lk
open Bool renaming not_false→Bf,not_true→Bt
theorem vZ:qa cx.P 120=true:=by kernel_rfl
theorem yf (s:List UInt8)(n:Nat)(hl:s.length≤6)(h0:s≠[])(hv:gM 0 s=some n)(nm:Nat):Ev cx 257 nm [.str s,.int .i64 16,.int .i64 32] aq.nil (.tup [.int .u64 n,.val .nilIface]) []:=by
 refine ay rfl (fun cargs w=>call257 cargs w) func257 rfl mixed (by kernel_rfl) rfl ?_;intro b0 hb0
 (repeat' first|simp only[al,aj,results257,ntmps257,am,ai,seval,ah]|exact rfl|refine aa (v:=.any) ?_|(first|(refine ac ?_ (CD s n hl h0 hv _) ?_)|(refine ab ?_ (fun _=>CD s n hl h0 hv _) ?_))|(refine Ai vZ ?_)|((first|apply Ca|apply Cb)<;>intro hb)|refine Ai (by omega) ?_|(apply Ai<;>intro hb)|refine Fin.pure ?_ ?_ ?_|simp only[au])
def jH:List UInt8:=[48,49,50,51,52,53,54,55,56,57,97,98,99,100,101,102,65,66,67,68,69,70]
theorem Do (c:UInt8):pW jH c.toNat=(mQ c).isSome:=by
 have key:∀ n:Fin 256,pW jH n.val=(mQ (UInt8.ofNat n.val)).isSome:=by decide +kernel
 have:=key ⟨c.toNat,c.toNat_lt⟩
 simpa using this
theorem AG (s:List UInt8):(s.all fun c=>pW jH c.toNat)=(gM 0 s).isSome:=by
 rw[← x7]
 unfold wx
 congr 1
 funext c
 exact Do c
theorem HQ {s:List UInt8} :(dF jH (ew jH s) != []) = !(gM 0 s).isSome:=by
 rw[← AG]
 cases h:s.all fun c=>pW jH c.toNat with
 | true=>rw[sP.2 h];rfl
 | false =>
  have:dF jH (ew jH s)≠[]:=fun e=>by rw[sP.1 e]at h;cases h
  simp[this]
def I9 (o:Option Nat):V:=.tup [.int .i64 (o.getD 0:Nat),.bool o.isSome]
theorem gE:I9 none = .tup [.int .i64 0,.bool false]:=rfl
theorem mw (n:Nat):I9 (some n) = .tup [.int .i64 n,.bool true]:=rfl
theorem I8 (s:List UInt8)(hs:s.length≤bh)(nm:Nat):Ev cx 242 nm [.str s] aq.nil (I9 (o6 s)) []:=by
 by_cases h0:s=[]
 ·have hn:o6 s=none:=by unfold o6;rw[if_pos (.inl h0)]
  subst h0
  have e0:(([]:List UInt8)==[])=true:=rfl
  rw[hn,gE]
  refine ay rfl (fun cargs w=>call242 cargs w) func242 rfl mixed (by kernel_rfl) rfl ?_;intro b0 hb0
  (repeat' first|simp only[al,aj,results242,ntmps242,am,e0,ai,seval,ah]|exact rfl|refine aa (v:=.any) ?_|(refine aa (v:=.any) ?_)|refine aC (by decide +kernel) ?_|((first|apply Ca|apply Cb)<;>intro hb)|refine Ai (by omega) ?_|(apply Ai<;>intro hb)|refine Fin.pure ?_ ?_ ?_|simp only[au])
 have e0:(s==[])=false:=beq_false_of_ne h0
 by_cases h6:6<s.length
 ·have hn:o6 s=none:=by unfold o6;rw[if_pos (.inr (.inl h6))]
  have e1:decide ((6:Int)<(s.length:Int))=true:=decide_eq_true (by omega)
  rw[hn,gE]
  refine ay rfl (fun cargs w=>call242 cargs w) func242 rfl mixed (by kernel_rfl) rfl ?_;intro b0 hb0
  (repeat' first|simp only[al,aj,results242,ntmps242,am,e0,e1,ai,seval,ah]|exact rfl|refine aa (v:=.any) ?_|(refine aa (v:=.any) ?_)|refine aC (by decide +kernel) ?_|((first|apply Ca|apply Cb)<;>intro hb)|refine Ai (by omega) ?_|(apply Ai<;>intro hb)|refine Fin.pure ?_ ?_ ?_|simp only[au])
 have e1:decide ((6:Int)<(s.length:Int))=false:=decide_eq_false (by omega)
 have e4:0<s.length:=List.length_pos_iff.2 h0
 obtain⟨c,hc⟩:∃ c,s[0]? = some c:=⟨_,List.getElem?_eq_getElem e4⟩
 have e2:((c.toNat:Int)==48)=decide (c=48):=gp c 48
 by_cases h48:c=48
 ·have hn:o6 s=none:=by unfold o6;rw[if_pos (.inr (.inr (by rw[List.head?_eq_getElem?,hc,h48])))]
  have e3:decide (c=48)=true:=decide_eq_true h48
  rw[e3]at e2
  rw[hn,gE]
  refine ay rfl (fun cargs w=>call242 cargs w) func242 rfl mixed (by kernel_rfl) rfl ?_;intro b0 hb0
  (repeat' first|simp only[al,aj,results242,ntmps242,am,e0,e1,e2,hc,e4,ai,seval,ah]|exact rfl|refine aa (v:=.any) ?_|(refine aa (v:=.any) ?_)|refine aC (by decide +kernel) ?_|((first|apply Ca|apply Cb)<;>intro hb)|refine Ai (by omega) ?_|(apply Ai<;>intro hb)|refine Fin.pure ?_ ?_ ?_|simp only[au])
 have e3:decide (c=48)=false:=decide_eq_false h48
 rw[e3]at e2
 have hL:o6 s=gM 0 s:=by
  unfold o6;rw[if_neg]
  rintro (h|h|h)
  ·exact h0 h
  ·exact h6 h
  ·rw[List.head?_eq_getElem?,hc]at h;cases h;exact h48 rfl
 have htr:=B8 jH s (by decide) (by decide) (by decide) hs
 have hq:=HQ (s:=s)
 unfold jH at htr hq
 have hq':(!(dF [48,49,50,51,52,53,54,55,56,57,97,98,99,100,101,102,65,66,67,68,69,70] (ew [48,49,50,51,52,53,54,55,56,57,97,98,99,100,101,102,65,66,67,68,69,70] s)==[])) = !(gM 0 s).isSome:=hq
 rw[hL]
 cases hv:gM 0 s with
 | none =>
  rw[hv]at hq'
  rw[gE]
  refine ay rfl (fun cargs w=>call242 cargs w) func242 rfl mixed (by kernel_rfl) rfl ?_;intro b0 hb0
  (repeat' first|simp only[al,aj,results242,ntmps242,am,e0,e1,e2,hc,e4,hq',Option.isSome_none,Bf,ai,seval,ah]|exact rfl|refine aa (v:=.any) ?_|(first|(refine ac ?_ (htr _) ?_)|(refine ab ?_ (fun _=>htr _) ?_))|refine aC (by decide +kernel) ?_|((first|apply Ca|apply Cb)<;>intro hb)|refine Ai (by omega) ?_|(apply Ai<;>intro hb)|refine Fin.pure ?_ ?_ ?_|simp only[au])
 | some n =>
  rw[hv]at hq'
  have hn6:=we s 0 n hv
  have hp6:(16:Nat) ^ s.length≤16 ^ 6:=Nat.pow_le_pow_right (by omega) (by omega)
  have hn7:n<16777216:=by simp only[Nat.zero_add,Nat.one_mul]at hn6;exact Nat.lt_of_lt_of_le hn6 hp6
  have hw:IntKind.i64.wrap (n:Int)=(n:Int):=aN (by omega) (by omega)
  rw[mw]
  refine ay rfl (fun cargs w=>call242 cargs w) func242 rfl mixed (by kernel_rfl) rfl ?_;intro b0 hb0
  (repeat' first|simp only[al,aj,results242,ntmps242,am,e0,e1,e2,hc,e4,hq',hw,Option.isSome_some,Bt,ai,seval,ah]|exact rfl|refine aa (v:=.any) ?_|(first|(refine ac ?_ (htr _) ?_)|(refine ab ?_ (fun _=>htr _) ?_)|(refine ac ?_ (yf s n (by omega) h0 hv _) ?_)|(refine ab ?_ (fun _=>yf s n (by omega) h0 hv _) ?_))|(refine Ai vZ ?_)|refine aC (by decide +kernel) ?_|((first|apply Ca|apply Cb)<;>intro hb)|refine Ai (by omega) ?_|(apply Ai<;>intro hb)|refine Fin.pure ?_ ?_ ?_|simp only[au])
theorem Ep (s:List UInt8)(hs:s.length≤bh)(nm:Nat):Ev cx 243 nm [.str s] aq.nil (I9 (nx s)) []:=by
 have h:=BM s hs
 cases hd:nx s with
 | none =>
  rw[kK hd]at h
  rw[gE]
  refine ay rfl (fun cargs w=>call243 cargs w) func243 rfl mixed (by kernel_rfl) rfl ?_;intro b0 hb0
  (repeat' first|simp only[al,aj,results243,ntmps243,am,ai,seval,ah]|exact rfl|refine aa (v:=.any) ?_|(first|(refine ac ?_ (h _) ?_)|(refine ab ?_ (fun _=>h _) ?_))|((first|apply Ca|apply Cb)<;>intro hb)|refine Ai (by omega) ?_|(apply Ai<;>intro hb)|refine Fin.pure ?_ ?_ ?_|simp only[au])
 | some n =>
  rw[sK hd]at h
  rw[mw]
  refine ay rfl (fun cargs w=>call243 cargs w) func243 rfl mixed (by kernel_rfl) rfl ?_;intro b0 hb0
  (repeat' first|simp only[al,aj,results243,ntmps243,am,ai,seval,ah]|exact rfl|refine aa (v:=.any) ?_|(first|(refine ac ?_ (h _) ?_)|(refine ab ?_ (fun _=>h _) ?_))|((first|apply Ca|apply Cb)<;>intro hb)|refine Ai (by omega) ?_|(apply Ai<;>intro hb)|refine Fin.pure ?_ ?_ ?_|simp only[au])
def xu (s p:List UInt8):V:=if preB s p=true then .tup [.str (s.drop p.length),.bool true] else .tup [.str s,.bool false]
theorem me {s p:List UInt8}(h:preB s p=true):xu s p = .tup [.str (s.drop p.length),.bool true]:=by unfold xu;rw[if_pos h]
theorem pd {s p:List UInt8}(h:preB s p=false):xu s p = .tup [.str s,.bool false]:=by unfold xu;rw[if_neg (by simp[h])]
theorem Ag (s p:List UInt8)(hs:s.length≤bh)(hp:p.length≤bh)(nm:Nat):Ev cx 120 nm [.str s,.str p] aq.nil (xu s p) []:=by
 have h:=qe s p hs hp
 unfold bh at hs hp
 cases hb:preB s p with
 | true =>
  have hle:p.length≤s.length:=by
   unfold preB at hb
   simp only[Bool.and_eq_true,decide_eq_true_eq]at hb
   exact hb.1
  have hle':(p.length:Int)≤(s.length:Int):=by omega
  rw[me hb]
  rw[hb]at h
  refine ay rfl (fun cargs w=>call120 cargs w) func120 rfl mixed (by kernel_rfl) rfl ?_;intro b0 hb0
  (repeat' first|simp only[al,aj,results120,ntmps120,am,hle,hle',ai,seval,ah]|exact rfl|refine aa (v:=.any) ?_|(first|(refine ac ?_ (h _) ?_)|(refine ab ?_ (fun _=>h _) ?_))|((first|apply Ca|apply Cb)<;>intro hb)|refine Ai (by omega) ?_|(apply Ai<;>intro hb)|refine Fin.pure ?_ ?_ ?_|simp only[au])
 | false =>
  rw[pd hb]
  rw[hb]at h
  refine ay rfl (fun cargs w=>call120 cargs w) func120 rfl mixed (by kernel_rfl) rfl ?_;intro b0 hb0
  (repeat' first|simp only[al,aj,results120,ntmps120,am,ai,seval,ah]|exact rfl|refine aa (v:=.any) ?_|(first|(refine ac ?_ (h _) ?_)|(refine ab ?_ (fun _=>h _) ?_))|((first|apply Ca|apply Cb)<;>intro hb)|refine Ai (by omega) ?_|(apply Ai<;>intro hb)|refine Fin.pure ?_ ?_ ?_|simp only[au])
theorem mD (s p:List UInt8)(hs:s.length≤bh)(hp:p.length≤bh)(nm:Nat):Ev cx 88 nm [.str s,.str p] aq.nil (xu s p) []:=by
 have h:=Ag s p hs hp
 cases hb:preB s p with
 | true =>
  rw[me hb]at h ⊢
  refine ay rfl (fun cargs w=>call88 cargs w) func88 rfl mixed (by kernel_rfl) rfl ?_;intro b0 hb0
  (repeat' first|simp only[al,aj,results88,ntmps88,am,ai,seval,ah]|exact rfl|refine aa (v:=.any) ?_|(first|(refine ac ?_ (h _) ?_)|(refine ab ?_ (fun _=>h _) ?_))|((first|apply Ca|apply Cb)<;>intro hb)|refine Ai (by omega) ?_|(apply Ai<;>intro hb)|refine Fin.pure ?_ ?_ ?_|simp only[au])
 | false =>
  rw[pd hb]at h ⊢
  refine ay rfl (fun cargs w=>call88 cargs w) func88 rfl mixed (by kernel_rfl) rfl ?_;intro b0 hb0
  (repeat' first|simp only[al,aj,results88,ntmps88,am,ai,seval,ah]|exact rfl|refine aa (v:=.any) ?_|(first|(refine ac ?_ (h _) ?_)|(refine ab ?_ (fun _=>h _) ?_))|((first|apply Ca|apply Cb)<;>intro hb)|refine Ai (by omega) ?_|(apply Ai<;>intro hb)|refine Fin.pure ?_ ?_ ?_|simp only[au])
def jI:List (V×V):=[(.str [97,109,112],.agg [.str [38]]),(.str [108,116],.agg [.str [60]]),(.str [103,116],.agg [.str [62]]),(.str [113,117,111,116],.agg [.str [34]]),(.str [97,112,111,115],.agg [.str [39]])]
theorem rN:yZ cx.P 270=some (9,265):=by kernel_rfl
theorem v6:jI=[(.str [97,109,112],.agg [.str [38]]),(.str [108,116],.agg [.str [60]]),(.str [103,116],.agg [.str [62]]),(.str [113,117,111,116],.agg [.str [34]]),(.str [97,112,111,115],.agg [.str [39]])]:=rfl
theorem zh (nm:Nat):Ev cx 241 nm [] aq.nil (.mp nm) [(nm,some (eV jI))]:=by
 refine ay rfl (fun cargs w=>call241 cargs w) func241 rfl mixed (by kernel_rfl) rfl ?_;intro b0 hb0
 repeat' first|simp only[al,aj,results241,ntmps241,am,rN,v6,ai,seval,ah]|exact rfl|refine aa (v:=.any) ?_|(refine lA ?_)|(refine bm ?_)|(refine be ?_)|(refine nC (y:=?_) (kv:=?_) (xv:=?_) (kvs:=?_) ?_ ?_ ?_ ?_ rN ?_ ?_ ?_ ?_ ?_;rotate_left 4;(iterate 4 (focus (simp only[results241,ntmps241,am,rN,v6,ai,seval,ah]<;>exact rfl)));(focus (kernel_rfl));(iterate 3 (focus (exact rfl))))|((first|apply Ca|apply Cb)<;>intro hb)|refine Ai (by omega) ?_|(apply Ai<;>intro hb)
 all_goals ((refine Fin.give [(b0+16,some 0)] [] ?_ ?_ ?_ ?_ ?_ (fun q hq=>by have hqq:=Np (l:=[]) q hq;first|(simp only[aF,tgt,Lc,Lo,Lk,Ln,or_false]at hqq ⊢;omega)|(simp only[aF,tgt,Lc,Lo,Lk,Ln,or_false]at hqq))<;>(try simp only[results241,ntmps241,am,v6,c6,bR,eH,ai,seval,ah])<;>(try simp only[au])<;>(try omega)))
theorem nT (s:List UInt8):(∃ x,eh (.str s) jI=some (some (.agg [.str x]))∧cp s=some x∧x.length≤1)∨(eh (.str s) jI=some none∧cp s=if s.head? = some 35 then (if s.tail.head? = some 120 then eJ (o6 s.tail.tail) else eJ (nx s.tail)) else none):=by
 by_cases h1:s=[97,109,112]
 ·subst h1;left;exact⟨_,rfl,C5,by simp⟩
 by_cases h2:s=[108,116]
 ·subst h2;left;exact⟨_,rfl,GR,by simp⟩
 by_cases h3:s=[103,116]
 ·subst h3;left;exact⟨_,rfl,IE,by simp⟩
 by_cases h4:s=[113,117,111,116]
 ·subst h4;left;exact⟨_,rfl,Bx,by simp⟩
 by_cases h5:s=[97,112,111,115]
 ·subst h5;left;exact⟨_,rfl,by decide,by simp⟩
 right
 have e1:(s==[97,109,112])=false:=beq_false_of_ne h1
 have e2:(s==[108,116])=false:=beq_false_of_ne h2
 have e3:(s==[103,116])=false:=beq_false_of_ne h3
 have e4:(s==[113,117,111,116])=false:=beq_false_of_ne h4
 have e5:(s==[97,112,111,115])=false:=beq_false_of_ne h5
 refine⟨?_,?_⟩
 ·simp only[v6,eh,lh,e1,e2,e3,e4,e5]
 ·unfold cp;rw[if_neg h1,if_neg h2,if_neg h3,if_neg h4,if_neg h5]
theorem dN:zeroOf cx.P 265=some (.agg #[.string ⟨#[]⟩]):=by kernel_rfl
def Ds (rest:List UInt8)(y n:Nat):Blk:=⟨2,[[.str rest,.own y 0 n]]⟩
theorem cF (rest:List UInt8)(y n:Nat):Ds rest y n=⟨2,[[.str rest,.own y 0 n]]⟩:=rfl
theorem Dr (rest:List UInt8)(hr:rest.length≤1000000)(hc:dP 59 rest=none)(q y:Nat)(out:List UInt8)(M:aq)(nm:Nat)(hqy:q≠y)(hq:M q=some (Ds rest y out.length))(hy:M y=some (rK out))(ho:∀ w,(M w).isSome=true→w∈[q,y])(hqn:q<nm)(hyn:y<nm) :
  Ev cx 217 nm [.ptr q 0 0] M (.bool false) [(q,some (Ds rest y out.length)),(y,some (rK out))]:=by
 have hcv:=nP rest 59 (by unfold bh;omega)
 have ev:gO 59 rest = .tup [.str rest,.str [],.bool false]:=by unfold gO;rw[hc]
 rw[ev]at hcv
 rw[cF]at hq ⊢
 refine ay rfl (fun cargs w=>call217 cargs w) func217 rfl mixed (by kernel_rfl) rfl ?_;intro b0 hb0
 have ly:y<b0:=ax hb0 (by rw[hy];rfl)
 have y0:=aT ly;have y1:=aw ly;have y2:=aK ly;have y3:=ao ly
 have lq:q<b0:=ax hb0 (by rw[hq];rfl)
 have z0:=aT lq;have z1:=aw lq;have z2:=aK lq;have z3:=ao lq
 have n1:=eq_false hqy;have n4:=eq_false (Ne.symm hqy)
 repeat' first|simp only[al,aj,results217,ntmps217,am,hq,hy,z0,z1,z2,z3,y0,y1,y2,y3,n1,n4,Bf,ai,seval,ah]|exact rfl|refine aa (v:=.any) ?_|(first|(refine ac ?_ (hcv _) ?_)|(refine ab ?_ (fun _=>hcv _) ?_))|((first|(refine aM (g:=?_) ?_ ?_)|(refine aI (g:=?_) ?_ ?_));rotate_left 1;(focus (simp only[results217,ntmps217,am,hq,hy,z0,z1,z2,z3,y0,y1,y2,y3,n1,n4,Bf,ai,seval,ah]<;>exact rfl)))|refine aC (by decide +kernel) ?_|((first|apply Ca|apply Cb)<;>intro hb)|refine Ai (by omega) ?_|(apply Ai<;>intro hb)
 all_goals ((refine Fin.give [(q,none),(y,none)] [] ?_ ?_ ?_ ?_ ?_ (fun q hq=>by have hqq:=ho q hq;first|(simp only[aF,tgt,Lc,Lo,Lk,Ln,or_false]at hqq ⊢;omega)|(simp only[aF,tgt,Lc,Lo,Lk,Ln,or_false]at hqq))<;>(try simp only[results217,ntmps217,am,hq,hy,aS,bo,aY,z0,z1,z2,z3,y0,y1,y2,y3,n1,n4,eH,ai,seval,ah])<;>(try simp only[au])<;>(try omega)))
theorem z4 (rest a b x:List UInt8)(hr:rest.length≤1000000)(hc:dP 59 rest=some (a,b))(hf:eh (.str a) jI=some (some (.agg [.str x])))(hx:x.length≤1)(q y:Nat)(out:List UInt8)(hout:out.length≤1000000)(M:aq)(nm:Nat)(hqy:q≠y)(hq:M q=some (Ds rest y out.length))(hy:M y=some (rK out))(ho:∀ w,(M w).isSome=true→w∈[q,y])(hqn:q<nm)(hyn:y<nm) :
  Ev cx 217 nm [.ptr q 0 0] M (.bool true) [(y,none),(q,some (Ds b nm (out++x).length)),(nm,some (rK (out++x)))]:=by
 have hcv:=nP rest 59 (by unfold bh;omega)
 have ev:gO 59 rest = .tup [.str a,.str b,.bool true]:=by unfold gO;rw[hc]
 rw[ev]at hcv
 have hmp:out.map aP++x.map aP=(out++x).map aP:=by rw[List.map_append]
 rw[List.length_append]
 rw[cF]at hq ⊢
 refine ay rfl (fun cargs w=>call217 cargs w) func217 rfl mixed (by kernel_rfl) rfl ?_;intro b0 hb0
 have ly:y<b0:=ax hb0 (by rw[hy];rfl)
 have y0:=aT ly;have y1:=aw ly;have y2:=aK ly;have y3:=ao ly
 have lq:q<b0:=ax hb0 (by rw[hq];rfl)
 have z0:=aT lq;have z1:=aw lq;have z2:=aK lq;have z3:=ao lq
 have n1:=eq_false hqy;have n4:=eq_false (Ne.symm hqy)
 repeat' first|simp only[al,aj,results217,ntmps217,am,hq,hy,hf,hmp,dN,fl,aS,z0,z1,z2,z3,y0,y1,y2,y3,n1,n4,BI,if_true,cA,ek,aR,Lm,List.take_of_length_le,Nat.le_refl,Option.bind_some,Option.getD_some,Option.isSome_some,Bt,ai,seval,ah]|exact rfl|refine aa (v:=.any) ?_|(first|(refine ac ?_ (hcv _) ?_)|(refine ab ?_ (fun _=>hcv _) ?_))|(refine jv ?_ (zh _) ?_ ?_)|(refine nM (y:=?_) (kv:=?_) (kvs:=?_) (q:=?_) ?_ ?_ ?_ rN ?_ ?_ dN ?_ ?_ ?_;rotate_left 4;(iterate 3 (focus (simp only[results217,ntmps217,am,hq,hy,hf,hmp,dN,fl,aS,z0,z1,z2,z3,y0,y1,y2,y3,n1,n4,BI,if_true,cA,ek,aR,Lm,List.take_of_length_le,Nat.le_refl,Option.bind_some,Option.getD_some,Option.isSome_some,Bt,ai,seval,ah]<;>exact rfl)));(focus (kernel_rfl));(focus (exact rfl));(focus (simp only[results217,ntmps217,am,hq,hy,hf,hmp,dN,fl,aS,z0,z1,z2,z3,y0,y1,y2,y3,n1,n4,BI,if_true,cA,ek,aR,Lm,List.take_of_length_le,Nat.le_refl,Option.bind_some,Option.getD_some,Option.isSome_some,Bt,ai,seval,ah]<;>exact rfl));(focus (intro v hv;cases hv<;>exact rfl)))|(refine bm ?_)|(refine be ?_)|((first|(refine aM (g:=?_) ?_ ?_)|(refine aI (g:=?_) ?_ ?_));rotate_left 1;(focus (simp only[results217,ntmps217,am,hq,hy,hf,hmp,dN,fl,aS,z0,z1,z2,z3,y0,y1,y2,y3,n1,n4,BI,if_true,cA,ek,aR,Lm,List.take_of_length_le,Nat.le_refl,Option.bind_some,Option.getD_some,Option.isSome_some,Bt,ai,seval,ah]<;>exact rfl)))|omega|refine aC (by decide +kernel) ?_|((first|apply Ca|apply Cb)<;>intro hb)|refine Ai (by omega) ?_|(apply Ai<;>intro hb)
 all_goals ((refine Fin.give [(q,none),(b0+528,some 0)] [y] ?_ ?_ ?_ ?_ ?_ (fun q hq=>by have hqq:=ho q hq;first|(simp only[aF,tgt,Lc,Lo,Lk,Ln,or_false]at hqq ⊢;omega)|(simp only[aF,tgt,Lc,Lo,Lk,Ln,or_false]at hqq))<;>(try simp only[results217,ntmps217,am,hq,hy,aS,bo,aY,z0,z1,z2,z3,y0,y1,y2,y3,n1,n4,eH,ai,seval,ah])<;>(try simp only[au])<;>(try omega)))
theorem rI {s p:List UInt8} : preB s p=true ↔ ∃ t,s=p++t:=by
 unfold preB
 simp only[Bool.and_eq_true,decide_eq_true_eq,beq_iff_eq]
 constructor
 ·rintro ⟨_,h⟩
  exact⟨s.drop p.length,by conv=>lhs;rw[← List.take_append_drop p.length s,h]⟩
 ·rintro ⟨t,rfl⟩
  simp
theorem qd {a:List UInt8}(hf:eh (.str a) jI=some none):cp a=if a.head? = some 35 then (if a.tail.head? = some 120 then eJ (o6 a.tail.tail) else eJ (nx a.tail)) else none:=by
 rcases nT a with ⟨x,h,_⟩|⟨_,h⟩
 ·rw[hf]at h;cases h
 ·exact h
theorem Ec {a:List UInt8}(hf:eh (.str a) jI=some none)(h:preB a [35,120]=true):cp a=eJ (o6 (a.drop 2)):=by
 obtain⟨t,rfl⟩:=rI.1 h
 rw[qd hf];rfl
theorem Dd {a:List UInt8}(hf:eh (.str a) jI=some none)(h:preB a [35,120]=false)(h2:preB a [35]=true):cp a=eJ (nx (a.drop 1)):=by
 obtain⟨t,rfl⟩:=rI.1 h2
 have h1:([35]++t).head? = some 35:=rfl
 rw[qd hf,if_pos h1,if_neg]
 ·rfl
 ·intro h3
  simp only[List.cons_append,List.nil_append,List.tail_cons]at h3
  cases t with
  | nil=>cases h3
  | cons c t =>
   cases h3
   have:=rI.2 (⟨t,rfl⟩:∃ t',[35]++120::t=[35,120]++t')
   rw[h]at this;cases this
theorem DN {a:List UInt8}(hf:eh (.str a) jI=some none)(h2:preB a [35]=false):cp a=none:=by
 rw[qd hf,if_neg]
 intro h3
 cases a with
 | nil=>cases h3
 | cons c t =>
  cases h3
  have:=rI.2 (⟨t,rfl⟩:∃ t',35::t=[35]++t')
  rw[h2]at this;cases this
theorem sN:eJ none=none:=rfl
theorem pk {n:Nat}(h:gR (n:Int)=true):eJ (some n)=some (encodeRune n):=by simp[eJ,h]
theorem rU {n:Nat}(h:gR (n:Int)=false):eJ (some n)=none:=by simp[eJ,h]
theorem Gy {n:Int}(h:gR n=true):li [n]=0∧kU [n]=encodeRune n:=by
 have hl:=bv n
 have e:enc [n]=encodeRune n:=by simp[enc]
 have he:li [n]=0:=by unfold li;rw[if_pos (by simp[h]),e,if_neg (by omega)]
 exact⟨he,by unfold kU;rw[if_pos he,e]⟩
def GM:List (List V):=[[.str [35,120],.fn 242 []],[.str [35],.fn 243 []]]
theorem bI:GM=[[.str [35,120],.fn 242 []],[.str [35],.fn 243 []]]:=rfl
theorem vE (rest a b:List UInt8)(hr:rest.length≤1000000)(hc:dP 59 rest=some (a,b))(hf:eh (.str a) jI=some none)(q y:Nat)(out:List UInt8)(hout:out.length≤1000000)(M:aq)(nm:Nat)(hqy:q≠y)(hq:M q=some (Ds rest y out.length))(hy:M y=some (rK out))(ho:∀ w,(M w).isSome=true→w∈[q,y])(hqn:q<nm)(hyn:y<nm)
    (v:V) (eff:List (Nat×Option Blk)) (hve:(cp a=none∧v = .bool false∧eff=[(q,some (Ds rest y out.length)),(y,some (rK out))])∨(∃ x,cp a=some x∧v = .bool true∧eff=[(y,none),(q,some (Ds b nm (out++x).length)),(nm,some (rK (out++x)))])) :
    Ev cx 217 nm [.ptr q 0 0] M v eff:=by
  have hal:a.length≤1000000:=by
    have:=(eG hc).1
    rw[this]at hr;simp at hr;omega
  have hcv:=nP rest 59 (by unfold bh;omega)
  have ev:gO 59 rest = .tup [.str a,.str b,.bool true]:=by unfold gO;rw[hc]
  rw[ev]at hcv
  have hp2:=mD a [35,120] (by unfold bh;omega) (by decide)
  have hp1:=mD a [35] (by unfold bh;omega) (by decide)
  simp only[cF]at hq hve
  refine ay rfl (fun cargs w=>call217 cargs w) func217 rfl mixed (by kernel_rfl) rfl ?_;intro b0 hb0
  have ly:y<b0:=ax hb0 (by rw[hy];rfl)
  have y0:=aT ly;have y1:=aw ly;have y2:=aK ly;have y3:=ao ly
  have lq:q<b0:=ax hb0 (by rw[hq];rfl)
  have z0:=aT lq;have z1:=aw lq;have z2:=aK lq;have z3:=ao lq
  have n1:=eq_false hqy;have n4:=eq_false (Ne.symm hqy)
  repeat' first|simp only[al,aj,results217,ntmps217,am,hq,hy,hf,dN,fl,aS,z0,z1,z2,z3,y0,y1,y2,y3,n1,n4,Option.getD_none,Option.isSome_none,Bt,ai,seval,ah]|exact rfl|refine aa (v:=.any) ?_|(first|(refine ac ?_ (hcv _) ?_)|(refine ab ?_ (fun _=>hcv _) ?_))|(refine jv ?_ (zh _) ?_ ?_)|(refine nM (y:=?_) (kv:=?_) (kvs:=?_) (q:=?_) ?_ ?_ ?_ rN ?_ ?_ dN ?_ ?_ ?_;rotate_left 4;(iterate 3 (focus (simp only[results217,ntmps217,am,hq,hy,hf,dN,fl,aS,z0,z1,z2,z3,y0,y1,y2,y3,n1,n4,Option.getD_none,Option.isSome_none,Bt,ai,seval,ah]<;>exact rfl)));(focus (kernel_rfl));(focus (exact rfl));(focus (simp only[results217,ntmps217,am,hq,hy,hf,dN,fl,aS,z0,z1,z2,z3,y0,y1,y2,y3,n1,n4,Option.getD_none,Option.isSome_none,Bt,ai,seval,ah]<;>exact rfl));(focus (intro v hv;cases hv<;>exact rfl)))|(refine bm ?_)|(refine be ?_)|((first|(refine aM (g:=?_) ?_ ?_)|(refine aI (g:=?_) ?_ ?_));rotate_left 1;(focus (simp only[results217,ntmps217,am,hq,hy,hf,dN,fl,aS,z0,z1,z2,z3,y0,y1,y2,y3,n1,n4,Option.getD_none,Option.isSome_none,Bt,ai,seval,ah]<;>exact rfl)))|omega|refine aC (by decide +kernel) ?_|((first|apply Ca|apply Cb)<;>intro hb)|refine Ai (by omega) ?_|(apply Ai<;>intro hb)
  (refine aU co (fun x:Nat=>2-x) (fun x=>x≤2∧(0<x→preB a [35,120]=false)∧(1<x→preB a [35]=false)) (b0+16) (fun x=>[(0,.ptr q 0 0),(3,.str a),(4,.str b),(49,.own b0 0 2),(50,.int .i64 2),(51,.int .i64 x)]) (fun x=>[(b0,⟨2,GM⟩),(q,⟨2,[[.str rest,.own y 0 out.length]]⟩),(y,rK out)]) (0) [some (b0+432),some q,some y] ?_ ?_ ?_ ?_;rotate_left 1;(focus (show b0≤_;omega));(focus (refine⟨?_,?_⟩<;>(try simp only[bk,hq,hy,bI,aS,bo,aY,da,z0,z1,z2,z3,y0,y1,y2,y3,n1,n4,ai,seval,ah,au])<;>(try omega)));rotate_left 1)
  · exact⟨Nat.zero_le _,fun h=>by omega,fun h=>by omega⟩
  · rintro k ⟨hk,hk1,hk2⟩
    have hdl:∀ j,(a.drop j).length≤bh:=fun j=>by rw[List.length_drop];unfold bh;omega
    rcases(show k=0∨k=1∨k=2 by omega) with rfl|rfl|rfl
    · have hwk:IntKind.i64.wrap 1=1:=by decide
      cases hb:preB a [35,120] with
      | true =>
        have hp:=hp2
        rw[me hb]at hp
        simp only[List.length_cons,List.length_nil]at hp
        have hm:=Ec hf hb
        have hx:=I8 (a.drop 2) (hdl 2)
        cases hL:o6 (a.drop 2) with
        | none =>
          rw[hL,gE]at hx
          rw[hL,sN]at hm
          rcases hve with ⟨_,rfl,rfl⟩|⟨x,h,_⟩
          · repeat' first|simp only[al,aj,results217,ntmps217,am,hq,hy,bI,aS,z0,z1,z2,z3,y0,y1,y2,y3,n1,n4,bL,Int.ofNat_zero,Int.ofNat_one,Bt,Bf,ai,seval,ah]|exact rfl|refine aa (v:=.any) ?_|(first|(refine ac ?_ (hp _) ?_)|(refine ab ?_ (fun _=>hp _) ?_)|(refine ac ?_ (hx _) ?_)|(refine ab ?_ (fun _=>hx _) ?_))|(refine aa (v:=.any) ?_)|((first|(refine aM (g:=?_) ?_ ?_)|(refine aI (g:=?_) ?_ ?_));rotate_left 1;(focus (simp only[results217,ntmps217,am,hq,hy,bI,aS,z0,z1,z2,z3,y0,y1,y2,y3,n1,n4,bL,Int.ofNat_zero,Int.ofNat_one,Bt,Bf,ai,seval,ah]<;>exact rfl)))|refine aC (by decide +kernel) ?_|((first|apply Ca|apply Cb)<;>intro hb)|refine Ai (by omega) ?_|(apply Ai<;>intro hb)
            all_goals ((refine Fin.give [(q,none),(y,none)] [] ?_ ?_ ?_ ?_ ?_ (fun q hq=>by have hqq:=ho q hq;first|(simp only[aF,tgt,Lc,Lo,Lk,Ln,or_false]at hqq ⊢;omega)|(simp only[aF,tgt,Lc,Lo,Lk,Ln,or_false]at hqq))<;>(try simp only[results217,ntmps217,am,hq,hy,aS,bo,aY,z0,z1,z2,z3,y0,y1,y2,y3,n1,n4,eH,ai,seval,ah])<;>(try simp only[au])<;>(try omega)))
          · rw[hm]at h;cases h
        | some n =>
          rw[hL,mw]at hx
          rw[hL]at hm
          have hmy:=jz (n:Int)
          cases hmm:gR (n:Int) with
          | false =>
            rw[hmm]at hmy
            rw[rU hmm]at hm
            rcases hve with ⟨_,rfl,rfl⟩|⟨x,h,_⟩
            · repeat' first|simp only[al,aj,results217,ntmps217,am,hq,hy,bI,aS,z0,z1,z2,z3,y0,y1,y2,y3,n1,n4,bL,Int.ofNat_zero,Int.ofNat_one,Bt,Bf,ai,seval,ah]|exact rfl|refine aa (v:=.any) ?_|(first|(refine ac ?_ (hp _) ?_)|(refine ab ?_ (fun _=>hp _) ?_)|(refine ac ?_ (hx _) ?_)|(refine ab ?_ (fun _=>hx _) ?_)|(refine ac ?_ (hmy _) ?_)|(refine ab ?_ (fun _=>hmy _) ?_))|((first|(refine aM (g:=?_) ?_ ?_)|(refine aI (g:=?_) ?_ ?_));rotate_left 1;(focus (simp only[results217,ntmps217,am,hq,hy,bI,aS,z0,z1,z2,z3,y0,y1,y2,y3,n1,n4,bL,Int.ofNat_zero,Int.ofNat_one,Bt,Bf,ai,seval,ah]<;>exact rfl)))|refine aC (by decide +kernel) ?_|((first|apply Ca|apply Cb)<;>intro hb)|refine Ai (by omega) ?_|(apply Ai<;>intro hb)
              all_goals ((refine Fin.give [(q,none),(y,none)] [] ?_ ?_ ?_ ?_ ?_ (fun q hq=>by have hqq:=ho q hq;first|(simp only[aF,tgt,Lc,Lo,Lk,Ln,or_false]at hqq ⊢;omega)|(simp only[aF,tgt,Lc,Lo,Lk,Ln,or_false]at hqq))<;>(try simp only[results217,ntmps217,am,hq,hy,aS,bo,aY,z0,z1,z2,z3,y0,y1,y2,y3,n1,n4,eH,ai,seval,ah])<;>(try simp only[au])<;>(try omega)))
            · rw[hm]at h;cases h
          | true =>
            rw[hmm]at hmy
            rw[pk hmm]at hm
            rcases hve with ⟨h,_⟩|⟨x,h,rfl,rfl⟩
            · rw[hm]at h;cases h
            · rw[hm]at h;cases h
              obtain⟨o1,o2⟩:=Gy hmm
              have hof:=LQ [(n:Int)] (by simp)
              rw[o1,o2]at hof
              simp only[bL,Lc,Lo]at hof
              have hel:=bv (n:Int)
              have hmp:out.map aP++(encodeRune (n:Int)).map aP=(out++encodeRune (n:Int)).map aP:=by rw[List.map_append]
              rw[List.length_append]
              repeat' first|simp only[al,aj,results217,ntmps217,am,hq,hy,bI,aS,z0,z1,z2,z3,y0,y1,y2,y3,n1,n4,bL,Int.ofNat_zero,Int.ofNat_one,hmp,BI,if_true,cA,ek,aR,Lm,List.take_of_length_le,Nat.le_refl,Option.bind_some,Bt,Bf,ai,seval,ah]|exact rfl|refine aa (v:=.any) ?_|(first|(refine ac ?_ (hp _) ?_)|(refine ab ?_ (fun _=>hp _) ?_)|(refine ac ?_ (hx _) ?_)|(refine ab ?_ (fun _=>hx _) ?_)|(refine ac ?_ (hmy _) ?_)|(refine ab ?_ (fun _=>hmy _) ?_))|((refine bq (xs:=?_) [b0+544] ?_ ?_ ?_ rfl (hof _) ?_);rotate_left 1)|((first|(refine aM (g:=?_) ?_ ?_)|(refine aI (g:=?_) ?_ ?_));rotate_left 1;(focus (simp only[results217,ntmps217,am,hq,hy,bI,aS,z0,z1,z2,z3,y0,y1,y2,y3,n1,n4,bL,Int.ofNat_zero,Int.ofNat_one,hmp,BI,if_true,cA,ek,aR,Lm,List.take_of_length_le,Nat.le_refl,Option.bind_some,Bt,Bf,ai,seval,ah]<;>exact rfl)))|omega|refine aC (by decide +kernel) ?_|((first|apply Ca|apply Cb)<;>intro hb)|refine Ai (by omega) ?_|(apply Ai<;>intro hb)
              all_goals ((refine Fin.give [(q,none),(b0+768,some 0)] [y] ?_ ?_ ?_ ?_ ?_ (fun q hq=>by have hqq:=ho q hq;first|(simp only[aF,tgt,Lc,Lo,Lk,Ln,or_false]at hqq ⊢;omega)|(simp only[aF,tgt,Lc,Lo,Lk,Ln,or_false]at hqq))<;>(try simp only[results217,ntmps217,am,hq,hy,aS,bo,aY,z0,z1,z2,z3,y0,y1,y2,y3,n1,n4,eH,ai,seval,ah])<;>(try simp only[au])<;>(try omega)))
      | false =>
        have hp:=hp2
        rw[pd hb]at hp
        repeat' first|simp only[al,aj,results217,ntmps217,am,hq,hy,bI,aS,z0,z1,z2,z3,y0,y1,y2,y3,n1,n4,bL,Int.ofNat_zero,Int.ofNat_one,hwk,Bt,Bf,ai,seval,ah]|exact rfl|refine aa (v:=.any) ?_|(first|(refine ac ?_ (hp _) ?_)|(refine ab ?_ (fun _=>hp _) ?_))|((first|(refine aM (g:=?_) ?_ ?_)|(refine aI (g:=?_) ?_ ?_));rotate_left 1;(focus (simp only[results217,ntmps217,am,hq,hy,bI,aS,z0,z1,z2,z3,y0,y1,y2,y3,n1,n4,bL,Int.ofNat_zero,Int.ofNat_one,hwk,Bt,Bf,ai,seval,ah]<;>exact rfl)))|refine aC (by decide +kernel) ?_|((first|apply Ca|apply Cb)<;>intro hb)|refine Ai (by omega) ?_|(apply Ai<;>intro hb)
        all_goals ((refine aJ co (1) [some b0,some q,some y] ?_ ?_ ?_ ?_;rotate_left 2;(focus (show b0≤_;omega));(focus (refine⟨?_,?_⟩<;>(try simp only[bk,hwk,bI,da,Int.ofNat_one,hq,hy,aS,bo,aY,z0,z1,z2,z3,y0,y1,y2,y3,n1,n4,ai,seval,ah,au])<;>(try omega)))))
        all_goals (first|omega|exact⟨by omega,fun _=>hb,fun h=>by omega⟩|exact⟨by omega,fun h=>by omega⟩|skip)
    · have hwk:IntKind.i64.wrap 2=2:=by decide
      cases hb:preB a [35] with
      | true =>
        have hp:=hp1
        rw[me hb]at hp
        simp only[List.length_cons,List.length_nil]at hp
        have hm:=Dd hf (hk1 (by omega)) hb
        have hx:=Ep (a.drop 1) (hdl 1)
        cases hL:nx (a.drop 1) with
        | none =>
          rw[hL,gE]at hx
          rw[hL,sN]at hm
          rcases hve with ⟨_,rfl,rfl⟩|⟨x,h,_⟩
          · repeat' first|simp only[al,aj,results217,ntmps217,am,hq,hy,bI,aS,z0,z1,z2,z3,y0,y1,y2,y3,n1,n4,bL,Int.ofNat_zero,Int.ofNat_one,Bt,Bf,ai,seval,ah]|exact rfl|refine aa (v:=.any) ?_|(first|(refine ac ?_ (hp _) ?_)|(refine ab ?_ (fun _=>hp _) ?_)|(refine ac ?_ (hx _) ?_)|(refine ab ?_ (fun _=>hx _) ?_))|(refine aa (v:=.any) ?_)|((first|(refine aM (g:=?_) ?_ ?_)|(refine aI (g:=?_) ?_ ?_));rotate_left 1;(focus (simp only[results217,ntmps217,am,hq,hy,bI,aS,z0,z1,z2,z3,y0,y1,y2,y3,n1,n4,bL,Int.ofNat_zero,Int.ofNat_one,Bt,Bf,ai,seval,ah]<;>exact rfl)))|refine aC (by decide +kernel) ?_|((first|apply Ca|apply Cb)<;>intro hb)|refine Ai (by omega) ?_|(apply Ai<;>intro hb)
            all_goals ((refine Fin.give [(q,none),(y,none)] [] ?_ ?_ ?_ ?_ ?_ (fun q hq=>by have hqq:=ho q hq;first|(simp only[aF,tgt,Lc,Lo,Lk,Ln,or_false]at hqq ⊢;omega)|(simp only[aF,tgt,Lc,Lo,Lk,Ln,or_false]at hqq))<;>(try simp only[results217,ntmps217,am,hq,hy,aS,bo,aY,z0,z1,z2,z3,y0,y1,y2,y3,n1,n4,eH,ai,seval,ah])<;>(try simp only[au])<;>(try omega)))
          · rw[hm]at h;cases h
        | some n =>
          rw[hL,mw]at hx
          rw[hL]at hm
          have hmy:=jz (n:Int)
          cases hmm:gR (n:Int) with
          | false =>
            rw[hmm]at hmy
            rw[rU hmm]at hm
            rcases hve with ⟨_,rfl,rfl⟩|⟨x,h,_⟩
            · repeat' first|simp only[al,aj,results217,ntmps217,am,hq,hy,bI,aS,z0,z1,z2,z3,y0,y1,y2,y3,n1,n4,bL,Int.ofNat_zero,Int.ofNat_one,Bt,Bf,ai,seval,ah]|exact rfl|refine aa (v:=.any) ?_|(first|(refine ac ?_ (hp _) ?_)|(refine ab ?_ (fun _=>hp _) ?_)|(refine ac ?_ (hx _) ?_)|(refine ab ?_ (fun _=>hx _) ?_)|(refine ac ?_ (hmy _) ?_)|(refine ab ?_ (fun _=>hmy _) ?_))|((first|(refine aM (g:=?_) ?_ ?_)|(refine aI (g:=?_) ?_ ?_));rotate_left 1;(focus (simp only[results217,ntmps217,am,hq,hy,bI,aS,z0,z1,z2,z3,y0,y1,y2,y3,n1,n4,bL,Int.ofNat_zero,Int.ofNat_one,Bt,Bf,ai,seval,ah]<;>exact rfl)))|refine aC (by decide +kernel) ?_|((first|apply Ca|apply Cb)<;>intro hb)|refine Ai (by omega) ?_|(apply Ai<;>intro hb)
              all_goals ((refine Fin.give [(q,none),(y,none)] [] ?_ ?_ ?_ ?_ ?_ (fun q hq=>by have hqq:=ho q hq;first|(simp only[aF,tgt,Lc,Lo,Lk,Ln,or_false]at hqq ⊢;omega)|(simp only[aF,tgt,Lc,Lo,Lk,Ln,or_false]at hqq))<;>(try simp only[results217,ntmps217,am,hq,hy,aS,bo,aY,z0,z1,z2,z3,y0,y1,y2,y3,n1,n4,eH,ai,seval,ah])<;>(try simp only[au])<;>(try omega)))
            · rw[hm]at h;cases h
          | true =>
            rw[hmm]at hmy
            rw[pk hmm]at hm
            rcases hve with ⟨h,_⟩|⟨x,h,rfl,rfl⟩
            · rw[hm]at h;cases h
            · rw[hm]at h;cases h
              obtain⟨o1,o2⟩:=Gy hmm
              have hof:=LQ [(n:Int)] (by simp)
              rw[o1,o2]at hof
              simp only[bL,Lc,Lo]at hof
              have hel:=bv (n:Int)
              have hmp:out.map aP++(encodeRune (n:Int)).map aP=(out++encodeRune (n:Int)).map aP:=by rw[List.map_append]
              rw[List.length_append]
              repeat' first|simp only[al,aj,results217,ntmps217,am,hq,hy,bI,aS,z0,z1,z2,z3,y0,y1,y2,y3,n1,n4,bL,Int.ofNat_zero,Int.ofNat_one,hmp,BI,if_true,cA,ek,aR,Lm,List.take_of_length_le,Nat.le_refl,Option.bind_some,Bt,Bf,ai,seval,ah]|exact rfl|refine aa (v:=.any) ?_|(first|(refine ac ?_ (hp _) ?_)|(refine ab ?_ (fun _=>hp _) ?_)|(refine ac ?_ (hx _) ?_)|(refine ab ?_ (fun _=>hx _) ?_)|(refine ac ?_ (hmy _) ?_)|(refine ab ?_ (fun _=>hmy _) ?_))|((refine bq (xs:=?_) [b0+544] ?_ ?_ ?_ rfl (hof _) ?_);rotate_left 1)|((first|(refine aM (g:=?_) ?_ ?_)|(refine aI (g:=?_) ?_ ?_));rotate_left 1;(focus (simp only[results217,ntmps217,am,hq,hy,bI,aS,z0,z1,z2,z3,y0,y1,y2,y3,n1,n4,bL,Int.ofNat_zero,Int.ofNat_one,hmp,BI,if_true,cA,ek,aR,Lm,List.take_of_length_le,Nat.le_refl,Option.bind_some,Bt,Bf,ai,seval,ah]<;>exact rfl)))|omega|refine aC (by decide +kernel) ?_|((first|apply Ca|apply Cb)<;>intro hb)|refine Ai (by omega) ?_|(apply Ai<;>intro hb)
              all_goals ((refine Fin.give [(q,none),(b0+768,some 0)] [y] ?_ ?_ ?_ ?_ ?_ (fun q hq=>by have hqq:=ho q hq;first|(simp only[aF,tgt,Lc,Lo,Lk,Ln,or_false]at hqq ⊢;omega)|(simp only[aF,tgt,Lc,Lo,Lk,Ln,or_false]at hqq))<;>(try simp only[results217,ntmps217,am,hq,hy,aS,bo,aY,z0,z1,z2,z3,y0,y1,y2,y3,n1,n4,eH,ai,seval,ah])<;>(try simp only[au])<;>(try omega)))
      | false =>
        have hp:=hp1
        rw[pd hb]at hp
        repeat' first|simp only[al,aj,results217,ntmps217,am,hq,hy,bI,aS,z0,z1,z2,z3,y0,y1,y2,y3,n1,n4,bL,Int.ofNat_zero,Int.ofNat_one,hwk,Bt,Bf,ai,seval,ah]|exact rfl|refine aa (v:=.any) ?_|(first|(refine ac ?_ (hp _) ?_)|(refine ab ?_ (fun _=>hp _) ?_))|((first|(refine aM (g:=?_) ?_ ?_)|(refine aI (g:=?_) ?_ ?_));rotate_left 1;(focus (simp only[results217,ntmps217,am,hq,hy,bI,aS,z0,z1,z2,z3,y0,y1,y2,y3,n1,n4,bL,Int.ofNat_zero,Int.ofNat_one,hwk,Bt,Bf,ai,seval,ah]<;>exact rfl)))|refine aC (by decide +kernel) ?_|((first|apply Ca|apply Cb)<;>intro hb)|refine Ai (by omega) ?_|(apply Ai<;>intro hb)
        all_goals ((refine aJ co (2) [some b0,some q,some y] ?_ ?_ ?_ ?_;rotate_left 2;(focus (show b0≤_;omega));(focus (refine⟨?_,?_⟩<;>(try simp only[bk,hwk,bI,da,Int.ofNat_one,hq,hy,aS,bo,aY,z0,z1,z2,z3,y0,y1,y2,y3,n1,n4,ai,seval,ah,au])<;>(try omega)))))
        all_goals (first|omega|exact⟨by omega,hk1,fun _=>hb⟩|exact⟨by omega,fun _=>hk1 (by omega),fun _=>hb⟩|exact⟨by omega,fun _=>hb⟩|exact⟨by omega,fun _=>hk1 (by omega)⟩|skip)
    · have hm:=DN hf (hk2 (by omega))
      rcases hve with ⟨_,rfl,rfl⟩|⟨x,h,_⟩
      · repeat' first|simp only[al,aj,results217,ntmps217,am,hq,hy,bI,aS,z0,z1,z2,z3,y0,y1,y2,y3,n1,n4,bL,Int.ofNat_zero,Int.ofNat_one,Bt,Bf,ai,seval,ah]|exact rfl|refine aa (v:=.any) ?_|((first|(refine aM (g:=?_) ?_ ?_)|(refine aI (g:=?_) ?_ ?_));rotate_left 1;(focus (simp only[results217,ntmps217,am,hq,hy,bI,aS,z0,z1,z2,z3,y0,y1,y2,y3,n1,n4,bL,Int.ofNat_zero,Int.ofNat_one,Bt,Bf,ai,seval,ah]<;>exact rfl)))|refine aC (by decide +kernel) ?_|((first|apply Ca|apply Cb)<;>intro hb)|refine Ai (by omega) ?_|(apply Ai<;>intro hb)
        all_goals ((refine Fin.give [(q,none),(y,none)] [] ?_ ?_ ?_ ?_ ?_ (fun q hq=>by have hqq:=ho q hq;first|(simp only[aF,tgt,Lc,Lo,Lk,Ln,or_false]at hqq ⊢;omega)|(simp only[aF,tgt,Lc,Lo,Lk,Ln,or_false]at hqq))<;>(try simp only[results217,ntmps217,am,hq,hy,aS,bo,aY,z0,z1,z2,z3,y0,y1,y2,y3,n1,n4,eH,ai,seval,ah])<;>(try simp only[au])<;>(try omega)))
      · rw[hm]at h;cases h
theorem wB {Q:Post}{st:List Frm}{nm:Nat}{e:Env}{M:aq}{d:Bool}{fs:List (List Nat)}{ops:List Oper}{dst:Option Tmp}{f:Operand}{args:Array Operand}{ats:Array TypeId}{t:TypeId}{pos:String}{af:Array Edge}{gd:Option (Nat×Bool)}{r:List Oper}{i:Nat}{g:FuncId}{fi:List V}{v:V}
  (hf:aA cx.G false e f = .fnb g fi) (h:aE cx Q st nm (e.putD dst (.gd false v)) M d (fs++[[]]) ops r (i+1)):dU cx Q st nm e M d fs false ops ⟨dst,.call ⟨.value f,args,ats⟩,t,pos,af,gd⟩ r i:=by
 unfold dU gU
 refine .inl ?_
 simp only[hf,V.tgt]
 exact⟨[],v,fun h=>(by cases h),h⟩
theorem w9 {a x:List UInt8}(h:cp a=some x):x.length≤4:=by
 have hp:∀ o,eJ o=some x→x.length≤4:=fun o h=>by
  cases o with
  | none=>cases h
  | some n =>
   cases hm:gR (n:Int) with
   | true=>rw[pk hm]at h;cases h;exact(bv (n:Int)).2
   | false=>rw[rU hm]at h;cases h
 unfold cp at h
 repeat' split at h
 all_goals (first|(cases h;simp;done)|exact hp _ h|cases h)
def x8 (s:List UInt8):Int:=if aQ s≠0 then aQ s else match bV s with|none=>80|some _=>0
def KH (s:List UInt8):List UInt8:=if x8 s=0 then (bV s).getD [] else []
def A6 (s:List UInt8):V:=.tup [.str (KH s),.int .i64 (x8 s)]
theorem HT {s:List UInt8}(h:aQ s≠0):A6 s = .tup [.str [],.int .i64 (aQ s)]:=by
 have he:x8 s=aQ s:=by unfold x8;rw[if_pos h]
 unfold A6 KH;rw[he,if_neg h]
theorem kg {s:List UInt8}(h:aQ s=0)(h2:bV s=none):A6 s = .tup [.str [],.int .i64 80]:=by
 have he:x8 s=80:=by unfold x8;rw[if_neg (by simp[h]),h2]
 unfold A6 KH;rw[he];rfl
theorem pT {s x:List UInt8}(h:aQ s=0)(h2:bV s=some x):A6 s = .tup [.str x,.int .i64 0]:=by
 have he:x8 s=0:=by unfold x8;rw[if_neg (by simp[h]),h2]
 unfold A6 KH;rw[he,h2];rfl
section
variable (rest a b:List UInt8) (hr:rest.length≤1000000) (hc:dP 59 rest=some (a,b))
include hr hc
theorem G6 (hm:cp a=none)(q y:Nat)(out:List UInt8)(hout:out.length≤1000000)(M:aq)(nm:Nat)(hqy:q≠y)(hq:M q=some (Ds rest y out.length))(hy:M y=some (rK out))(ho:∀ w,(M w).isSome=true→w∈[q,y])(hqn:q<nm)(hyn:y<nm) :
  Ev cx 217 nm [.ptr q 0 0] M (.bool false) [(q,some (Ds rest y out.length)),(y,some (rK out))]:=by
 rcases nT a with ⟨x,_,h,_⟩|⟨hf,_⟩
 ·rw[hm]at h;cases h
 ·exact vE rest a b hr hc hf q y out hout M nm hqy hq hy ho hqn hyn _ _ (.inl ⟨hm,rfl,rfl⟩)
theorem DU (x:List UInt8)(hm:cp a=some x)(q y:Nat)(out:List UInt8)(hout:out.length≤1000000)(M:aq)(nm:Nat)(hqy:q≠y)(hq:M q=some (Ds rest y out.length))(hy:M y=some (rK out))(ho:∀ w,(M w).isSome=true→w∈[q,y])(hqn:q<nm)(hyn:y<nm) :
  Ev cx 217 nm [.ptr q 0 0] M (.bool true) [(y,none),(q,some (Ds b nm (out++x).length)),(nm,some (rK (out++x)))]:=by
 rcases nT a with ⟨x',hf,h,hx⟩|⟨hf,_⟩
 ·rw[hm]at h;cases h
  exact z4 rest a b x hr hc hf hx q y out hout M nm hqy hq hy ho hqn hyn
 ·exact vE rest a b hr hc hf q y out hout M nm hqy hq hy ho hqn hyn _ _ (.inr ⟨x,hm,rfl,rfl⟩)
end
structure RSt where
 rest:List UInt8
 out:List UInt8
def RSt.inv (s:List UInt8)(x:RSt):Prop:=bV s=(bV x.rest).map (x.out ++ ·)∧x.rest.length≤s.length∧x.out.length≤4*(s.length-x.rest.length)
theorem JV (o:Option (List UInt8))(a b:List UInt8):(o.map (b ++ ·)).map (a ++ ·)=o.map ((a++b) ++ ·):=by cases o<;>simp
theorem rr (s:List UInt8)(hs:s.length≤bh)(nm:Nat):Ev cx 189 nm [.str s] aq.nil (A6 s) []:=by
  by_cases hz:aQ s=0
  · have hb:(aQ s != 0)=false:=by rw[hz];rfl
    have hlen:=ss hz
    refine ay rfl (fun cargs w=>call189 cargs w) func189 rfl mixed (by kernel_rfl) rfl ?_;intro b0 hb0
    repeat' first|simp only[al,aj,results189,ntmps189,am,hb,ai,seval,ah]|exact rfl|refine aa (v:=.any) ?_|(first|(refine ac ?_ (cV s hs _) ?_)|(refine ab ?_ (fun _=>cV s hs _) ?_))|((first|(refine aM (g:=?_) ?_ ?_)|(refine aI (g:=?_) ?_ ?_));rotate_left 1;(focus (simp only[results189,ntmps189,am,hb,ai,seval,ah]<;>exact rfl)))|((first|apply Ca|apply Cb)<;>intro hb)|refine Ai (by omega) ?_|(apply Ai<;>intro hb)
    (refine aU co (fun x:RSt=>x.rest.length) (fun x=>x.inv s) (b0+16) (fun x=>[(5,.ptr b0 0 0),(6,.fnb 217 [.ptr b0 0 0])]) (fun x=>[(b0,Ds x.rest (b0+1) x.out.length),(b0+1,rK x.out)]) (RSt.mk s []) [some (b0+144),none] ?_ ?_ ?_ ?_;rotate_left 1;(focus (show b0≤_;omega));(focus (refine⟨?_,?_⟩<;>(try simp only[bk,cF,aS,bo,aY,da,aV,Lo,List.length_nil,ai,seval,ah,au])<;>(try omega)));rotate_left 1)
    · refine⟨?_,Nat.le_refl _,Nat.zero_le _⟩
      cases bV s<;>rfl
    · rintro ⟨rest,out⟩ ⟨h1,h2,h3⟩
      simp only at h1 h2 h3
      cases rest with
      | nil =>
        have hd:(([]:List UInt8) != [])=false:=rfl
        have hr:bV s=some out:=by rw[h1,jZ];simp
        have hv:=pT hz hr
        have htk:(out.map aP).take out.length=out.map aP:=List.take_of_length_le (by simp)
        (repeat' first|simp only[al,aj,results189,ntmps189,am,hd,hv,htk,cF,aS,Lm,Nat.le_refl,ai,seval,ah]|exact rfl|refine aa (v:=.any) ?_|(refine va (v:=?_) (bs:=out) ?_ ?_ ?_ ?_ ?_ ?_ ?_;rotate_left 1;(iterate 2 (focus (simp only[results189,ntmps189,am,hd,hv,htk,cF,aS,Lm,Nat.le_refl,ai,seval,ah];done)));(focus (simp only[results189,ntmps189,am,hd,hv,htk,cF,aS,Lm,Nat.le_refl,ai,seval,ah]<;>exact rfl));(focus (exact rfl));(focus (simp only[aj,results189,ntmps189,am,hd,hv,htk,cF,aS,Lm,Nat.le_refl,ai,seval,ah];done));(focus (simp only[results189,ntmps189,am,hd,hv,htk,cF,aS,Lm,Nat.le_refl,ai,seval,ah]<;>exact rfl)))|(refine bm ?_)|(refine be ?_)|((first|(refine aM (g:=?_) ?_ ?_)|(refine aI (g:=?_) ?_ ?_));rotate_left 1;(focus (simp only[results189,ntmps189,am,hd,hv,htk,cF,aS,Lm,Nat.le_refl,ai,seval,ah]<;>exact rfl)))|((first|apply Ca|apply Cb)<;>intro hb)|refine Ai (by omega) ?_|(apply Ai<;>intro hb)|refine Fin.pure ?_ ?_ ?_|simp only[au])
      | cons c r =>
        have hd:(!((c::r)==[]))=true:=rfl
        have hl0:0<(c::r).length:=by simp
        have hl1:1≤(c::r).length:=by simp
        have hl2:(1:Int)≤((c::r).length:Int):=by simp only[List.length_cons];omega
        simp only[List.length_cons]at hl0 hl1 hl2 h2 h3
        have q60:((c.toNat:Int)==60)=decide (c=60):=gp c 60
        have q38:((c.toNat:Int)==38)=decide (c=38):=gp c 38
        by_cases c60:c=60
        · have d60:decide (c=60)=true:=decide_eq_true c60
          rw[d60]at q60
          have hr:bV s=none:=by rw[h1,c60,ls];rfl
          have hv:=kg hz hr
          (repeat' first|simp only[al,aj,results189,ntmps189,am,hd,hl0,hl1,hl2,hv,q60,cF,aS,List.getElem?_cons_zero,List.drop_succ_cons,List.drop_zero,ai,seval,ah]|exact rfl|refine aa (v:=.any) ?_|((first|(refine aM (g:=?_) ?_ ?_)|(refine aI (g:=?_) ?_ ?_));rotate_left 1;(focus (simp only[results189,ntmps189,am,hd,hl0,hl1,hl2,hv,q60,cF,aS,List.getElem?_cons_zero,List.drop_succ_cons,List.drop_zero,ai,seval,ah]<;>exact rfl)))|((first|apply Ca|apply Cb)<;>intro hb)|refine Ai (by omega) ?_|(apply Ai<;>intro hb)|refine Fin.pure ?_ ?_ ?_|simp only[au])
        have d60:decide (c=60)=false:=decide_eq_false c60
        rw[d60]at q60
        by_cases c38:c=38
        · have d38:decide (c=38)=true:=decide_eq_true c38
          rw[d38]at q38
          subst c38
          cases hc:dP 59 r with
          | none =>
            have hr:bV s=none:=by rw[h1,jk hc];rfl
            have hv:=kg hz hr
            have href:=Dr r (by omega) hc b0 (b0+1) out
            (repeat' first|simp only[al,aj,results189,ntmps189,am,hd,hl0,hl1,hl2,hv,q60,q38,cF,aS,List.getElem?_cons_zero,List.drop_succ_cons,List.drop_zero,Bf,ai,seval,ah]|exact rfl|refine aa (v:=.any) ?_|((refine ma (fi:=?_) ?_ ?_ [b0,b0+1] (href _ _ (by omega) ?_ ?_ ap (by omega) (by omega)) ?_ ?_);rotate_left 1)|((first|(refine aM (g:=?_) ?_ ?_)|(refine aI (g:=?_) ?_ ?_));rotate_left 1;(focus (simp only[results189,ntmps189,am,hd,hl0,hl1,hl2,hv,q60,q38,cF,aS,List.getElem?_cons_zero,List.drop_succ_cons,List.drop_zero,Bf,ai,seval,ah]<;>exact rfl)))|((first|apply Ca|apply Cb)<;>intro hb)|refine Ai (by omega) ?_|(apply Ai<;>intro hb)|refine Fin.pure ?_ ?_ ?_|simp only[au])
          | some p =>
            obtain⟨a,b⟩:=p
            have hcl:=rY hc
            cases hm:cp a with
            | none =>
              have hr:bV s=none:=by rw[h1,j7 hc hm];rfl
              have hv:=kg hz hr
              have href:=G6 r a b (by omega) hc hm b0 (b0+1) out (by omega)
              (repeat' first|simp only[al,aj,results189,ntmps189,am,hd,hl0,hl1,hl2,hv,q60,q38,cF,aS,List.getElem?_cons_zero,List.drop_succ_cons,List.drop_zero,Bf,ai,seval,ah]|exact rfl|refine aa (v:=.any) ?_|((refine ma (fi:=?_) ?_ ?_ [b0,b0+1] (href _ _ (by omega) ?_ ?_ ap (by omega) (by omega)) ?_ ?_);rotate_left 1)|((first|(refine aM (g:=?_) ?_ ?_)|(refine aI (g:=?_) ?_ ?_));rotate_left 1;(focus (simp only[results189,ntmps189,am,hd,hl0,hl1,hl2,hv,q60,q38,cF,aS,List.getElem?_cons_zero,List.drop_succ_cons,List.drop_zero,Bf,ai,seval,ah]<;>exact rfl)))|((first|apply Ca|apply Cb)<;>intro hb)|refine Ai (by omega) ?_|(apply Ai<;>intro hb)|refine Fin.pure ?_ ?_ ?_|simp only[au])
            | some x =>
              have hxl:=w9 hm
              have hr:bV s=(bV b).map ((out++x) ++ ·):=by rw[h1,jP hc hm,JV]
              have href:=DU r a b (by omega) hc x hm b0 (b0+1) out (by omega)
              have q38n:(((38:UInt8).toNat:Int) != 38)=false:=rfl
              repeat' first|simp only[al,aj,results189,ntmps189,am,hd,hl0,hl1,hl2,q60,q38,q38n,cF,aS,aR,List.getElem?_cons_zero,List.drop_succ_cons,List.drop_zero,Bt,ai,seval,ah]|exact rfl|refine aa (v:=.any) ?_|((refine ma (fi:=?_) ?_ ?_ [b0,b0+1] (href _ _ (by omega) ?_ ?_ ap (by omega) (by omega)) ?_ ?_);rotate_left 1)|((first|(refine aM (g:=?_) ?_ ?_)|(refine aI (g:=?_) ?_ ?_));rotate_left 1;(focus (simp only[results189,ntmps189,am,hd,hl0,hl1,hl2,q60,q38,q38n,cF,aS,aR,List.getElem?_cons_zero,List.drop_succ_cons,List.drop_zero,Bt,ai,seval,ah]<;>exact rfl)))|((first|apply Ca|apply Cb)<;>intro hb)|refine Ai (by omega) ?_|(apply Ai<;>intro hb)
              all_goals ((refine aJ co (RSt.mk b (out++x)) [some b0,some (b0+448)] ?_ ?_ ?_ ?_;rotate_left 2;(focus (show b0≤_;omega));(focus (refine⟨?_,?_⟩<;>(try simp only[bk,cF,aS,bo,aY,da,aV,Lm,ai,seval,ah,au])<;>(try omega)))))
              all_goals (first|(show b.length<(38::r).length;simp only[List.length_cons];omega)|(refine⟨hr,?_,?_⟩<;>simp only[List.length_append]<;>omega)|skip)
        · have d38:decide (c=38)=false:=decide_eq_false c38
          rw[d38]at q38
          have q38n:((c.toNat:Int) != 38)=true:=by unfold bne;rw[q38];rfl
          have hr:bV s=(bV r).map ((out++[c]) ++ ·):=by rw[h1,fP c60 c38];cases bV r<;>simp
          have hsn:out.map aP++[[V.int .u8 c.toNat]]=(out++[c]).map aP:=by rw[List.map_append];rfl
          repeat' first|simp only[al,aj,results189,ntmps189,am,hd,hl0,hl1,hl2,q60,q38,q38n,hsn,cF,aS,aR,BI,if_true,cA,ek,Lm,List.take_of_length_le,Nat.le_refl,Option.bind_some,List.getElem?_cons_zero,List.drop_succ_cons,List.drop_zero,Bt,Bf,ai,seval,ah]|exact rfl|refine aa (v:=.any) ?_|((refine wB (v:=.any) (g:=?_) (fi:=?_) ?_ ?_);rotate_left 2)|((first|(refine aM (g:=?_) ?_ ?_)|(refine aI (g:=?_) ?_ ?_));rotate_left 1;(focus (simp only[results189,ntmps189,am,hd,hl0,hl1,hl2,q60,q38,q38n,hsn,cF,aS,aR,BI,if_true,cA,ek,Lm,List.take_of_length_le,Nat.le_refl,Option.bind_some,List.getElem?_cons_zero,List.drop_succ_cons,List.drop_zero,Bt,Bf,ai,seval,ah]<;>exact rfl)))|((first|apply Ca|apply Cb)<;>intro hb)|refine Ai (by omega) ?_|(apply Ai<;>intro hb)
          all_goals ((refine aJ co (RSt.mk r (out++[c])) [some b0,some (b0+672)] ?_ ?_ ?_ ?_;rotate_left 2;(focus (show b0≤_;omega));(focus (refine⟨?_,?_⟩<;>(try simp only[bk,cF,aS,bo,aY,da,aV,Lm,List.length_append,List.length_cons,List.length_nil,ai,seval,ah,au])<;>(try omega)))))
          all_goals (first|(show r.length<(c::r).length;simp only[List.length_cons];omega)|(refine⟨hr,?_,?_⟩<;>simp only[List.length_append,List.length_cons,List.length_nil]<;>omega)|skip)
  · have hb:(aQ s != 0)=true:=by rw[bne_iff_ne];exact hz
    have hv:=HT hz
    refine ay rfl (fun cargs w=>call189 cargs w) func189 rfl mixed (by kernel_rfl) rfl ?_;intro b0 hb0
    (repeat' first|simp only[al,aj,results189,ntmps189,am,hb,hv,ai,seval,ah]|exact rfl|refine aa (v:=.any) ?_|(first|(refine ac ?_ (cV s hs _) ?_)|(refine ab ?_ (fun _=>cV s hs _) ?_))|((first|(refine aM (g:=?_) ?_ ?_)|(refine aI (g:=?_) ?_ ?_));rotate_left 1;(focus (simp only[results189,ntmps189,am,hb,hv,ai,seval,ah]<;>exact rfl)))|((first|apply Ca|apply Cb)<;>intro hb)|refine Ai (by omega) ?_|(apply Ai<;>intro hb)|refine Fin.pure ?_ ?_ ?_|simp only[au])
theorem PT:∀ n:Nat,n<256→(decide (97≤IntKind.u8.wrap ((BitVec.ofInt IntKind.u8.bits (n:Int) ||| BitVec.ofInt IntKind.u8.bits 32).toNat:Int))&&decide (IntKind.u8.wrap ((BitVec.ofInt IntKind.u8.bits (n:Int) ||| BitVec.ofInt IntKind.u8.bits 32).toNat:Int)≤122))=((decide (97≤n)&&decide (n≤122))||(decide (65≤n)&&decide (n≤90))):=by decide +kernel
theorem xW:∀ p1 p2 p5 f p6 p7 p8 p9:Bool,(p1=true∧p2=true)∨(p1=true∧p2=false∧p5=true)∨(p1=false∧p5=true)∨(p1=true∧p2=false∧p5=false∧f=true)∨(p1=false∧p5=false∧f=true) ∨
  (p1=true∧p2=false∧p5=false∧f=false∧p6=true∧p7=true)∨(p1=true∧p2=false∧p5=false∧f=false∧p6=true∧p7=false∧p8=true)∨(p1=true∧p2=false∧p5=false∧f=false∧p6=true∧p7=false∧p8=false) ∨
  (p1=true∧p2=false∧p5=false∧f=false∧p6=false∧p8=true)∨(p1=true∧p2=false∧p5=false∧f=false∧p6=false∧p8=false) ∨
  (p1=false∧p5=false∧f=false∧p6=true∧p7=true)∨(p1=false∧p5=false∧f=false∧p6=true∧p7=false∧p8=true)∨(p1=false∧p5=false∧f=false∧p6=true∧p7=false∧p8=false) ∨
  (p1=false∧p5=false∧f=false∧p6=false∧p8=true)∨(p1=false∧p5=false∧f=false∧p6=false∧p8=false):=by
 intro p1 p2 p5 f p6 p7 p8 p9;cases p1<;>cases p2<;>cases p5<;>cases f<;>cases p6<;>cases p7<;>cases p8<;>simp
theorem HK {c:UInt8}{f p1 p2 p5 p6 p7 p8 p9:Bool}(h1:decide (97≤IntKind.u8.wrap ((BitVec.ofInt IntKind.u8.bits (c.toNat:Int) ||| BitVec.ofInt IntKind.u8.bits 32).toNat:Int))=p1)(h2:decide (IntKind.u8.wrap ((BitVec.ofInt IntKind.u8.bits (c.toNat:Int) ||| BitVec.ofInt IntKind.u8.bits 32).toNat:Int)≤122)=p2)
  (h5:decide (c=95)=p5) (h6:decide ((48:Int)≤c.toNat)=p6) (h7:decide ((c.toNat:Int)≤57)=p7) (h8:decide (c=46)=p8) (h9:decide (c=45)=p9):jb f c=((p1&&p2)||p5||(!f&&((p6&&p7)||p8||p9))):=by
 have e:=PT c.toNat c.toNat_lt
 rw[h1,h2]at e
 unfold jb On
 rw[← e,← h5,← h6,← h7,← h8,← h9]
 have e1:((48:Int)≤c.toNat)=(48≤c.toNat):=propext (by omega)
 have e2:((c.toNat:Int)≤57)=(c.toNat≤57):=propext (by omega)
 simp only[e1,e2]
theorem ww (c:UInt8)(f:Bool)(nm:Nat):Ev cx 76 nm [.int .u8 c.toNat,.bool f] aq.nil (.bool (jb f c)) []:=by
 have q5:((c.toNat:Int)==95)=decide (c=95):=gp c 95
 have q8:((c.toNat:Int)==46)=decide (c=46):=gp c 46
 have q9:((c.toNat:Int)==45)=decide (c=45):=gp c 45
 generalize h1:decide (97≤IntKind.u8.wrap ((BitVec.ofInt IntKind.u8.bits (c.toNat:Int) ||| BitVec.ofInt IntKind.u8.bits 32).toNat:Int))=p1
 generalize h2:decide (IntKind.u8.wrap ((BitVec.ofInt IntKind.u8.bits (c.toNat:Int) ||| BitVec.ofInt IntKind.u8.bits 32).toNat:Int)≤122)=p2
 generalize h5:decide (c=95)=p5
 generalize h6:decide ((48:Int)≤c.toNat)=p6
 generalize h7:decide ((c.toNat:Int)≤57)=p7
 generalize h8:decide (c=46)=p8
 generalize h9:decide (c=45)=p9
 have he:=HK (f:=f) h1 h2 h5 h6 h7 h8 h9
 rcases xW p1 p2 p5 f p6 p7 p8 p9 with ⟨rfl,rfl⟩|⟨rfl,rfl,rfl⟩|⟨rfl,rfl⟩|⟨rfl,rfl,rfl,rfl⟩|⟨rfl,rfl,rfl⟩|⟨rfl,rfl,rfl,rfl,rfl,rfl⟩|⟨rfl,rfl,rfl,rfl,rfl,rfl,rfl⟩|⟨rfl,rfl,rfl,rfl,rfl,rfl,rfl⟩|⟨rfl,rfl,rfl,rfl,rfl,rfl⟩|⟨rfl,rfl,rfl,rfl,rfl,rfl⟩|⟨rfl,rfl,rfl,rfl,rfl⟩|⟨rfl,rfl,rfl,rfl,rfl,rfl⟩|⟨rfl,rfl,rfl,rfl,rfl,rfl⟩|⟨rfl,rfl,rfl,rfl,rfl⟩|⟨rfl,rfl,rfl,rfl,rfl⟩
 all_goals simp only[Bool.true_and,Bool.false_and,Bool.and_false,Bool.true_or,Bool.or_true,Bool.false_or,Bool.or_false,Bool.and_true,Bt,Bf]at he
 all_goals (
  refine ay rfl (fun cargs w=>call76 cargs w) func76 rfl mixed (by kernel_rfl) rfl ?_;intro b0 hb0
  (repeat' first|simp only[al,aj,results76,ntmps76,am,q5,q8,q9,h1,h2,h5,h6,h7,h8,h9,he,ai,seval,ah]|exact rfl|refine aa (v:=.any) ?_|((first|apply Ca|apply Cb)<;>intro hb)|refine Ai (by omega) ?_|(apply Ai<;>intro hb)|refine Fin.pure ?_ ?_ ?_|simp only[au]))
end Go.Proofs.YtidmkaalhmeflaaGreatDoor
