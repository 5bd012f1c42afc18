/-
 Texts joined: XGg,XGh,XGi,XEk.
-/
import Derived.Test.YtcllbjanalhjgaaGreatDoorQi
import Derived.Test.YtcllbjanalhjgaaGreatDoorQg
import Derived.Test.YtcllbjanalhjgaaGreatDoorQf
namespace Go.Proofs.YtcllbjanalhjgaaGreatDoor
set_option maxRecDepth 100000
set_option maxHeartbeats 32000000
set_option linter.unusedSimpArgs false
set_option linter.unusedVariables false
open Go Go.RowKit Vm Go.Lib Tryz
open Vm renaming be→Ca,bo→Cb
open And renaming intro→Ai
open List renaming length_map→Lm,not_mem_nil→Ln,map_nil→Lo,map_cons→Lc,mem_cons→Lk
open Bool renaming not_false→Bf,not_true→Bt
theorem uo:oY cx.P 201=true:=by kernel_rfl
theorem yR (s:List UInt8)(n:Nat)(hl:s.length≤6)(h0:s≠[])(hv:ga 0 s=some n)(nm:Nat):Ev cx 173 nm [.str s,.int .i64 16,.int .i64 32] ao.nil (.tup [.int .u64 n,.val .nilIface]) []:=by
 refine ay rfl (fun cargs w=>call173 cargs w) func173 rfl mixed (by kernel_rfl) rfl ?_;intro b0 hb0
 (repeat' first|simp only[am,ah,results173,ntmps173,ap,ag,seval,ae]|exact rfl|refine aa (v:=.any) ?_|(first|(refine ac ?_ (B6 s n hl h0 hv _) ?_)|(refine ab ?_ (fun _=>B6 s n hl h0 hv _) ?_))|(refine Ai uo ?_)|((first|apply Ca|apply Cb)<;>intro hb)|refine Ai (by omega) ?_|(apply Ai<;>intro hb)|refine Fin.pure ?_ ?_ ?_|simp only[au])
def js:List UInt8:=[48,49,50,51,52,53,54,55,56,57,97,98,99,100,101,102,65,66,67,68,69,70]
theorem Dl (c:UInt8):oZ js c.toNat=(mo c).isSome:=by
 have key:∀ n:Fin 256,oZ js n.val=(mo (UInt8.ofNat n.val)).isSome:=by decide +kernel
 have:=key ⟨c.toNat,c.toNat_lt⟩
 simpa using this
theorem z8 (s:List UInt8):(s.all fun c=>oZ js c.toNat)=(ga 0 s).isSome:=by
 rw[← xU]
 unfold u4
 congr 1
 funext c
 exact Dl c
theorem FP {s:List UInt8} :(dv js (eg js s) != []) = !(ga 0 s).isSome:=by
 rw[← z8]
 cases h:s.all fun c=>oZ js c.toNat with
 | true=>rw[sN.2 h];rfl
 | false =>
  have:dv js (eg js s)≠[]:=fun e=>by rw[sN.1 e]at h;cases h
  simp[this]
def IC (o:Option Nat):V:=.tup [.int .i64 (o.getD 0:Nat),.bool o.isSome]
theorem fZ:IC none = .tup [.int .i64 0,.bool false]:=rfl
theorem lZ (n:Nat):IC (some n) = .tup [.int .i64 n,.bool true]:=rfl
theorem H4 (s:List UInt8)(hs:s.length≤bk)(nm:Nat):Ev cx 159 nm [.str s] ao.nil (IC (nU s)) []:=by
 by_cases h0:s=[]
 ·have hn:nU s=none:=by unfold nU;rw[if_pos (.inl h0)]
  subst h0
  have e0:(([]:List UInt8)==[])=true:=rfl
  rw[hn,fZ]
  refine ay rfl (fun cargs w=>call159 cargs w) func159 rfl mixed (by kernel_rfl) rfl ?_;intro b0 hb0
  (repeat' first|simp only[am,ah,results159,ntmps159,ap,e0,ag,seval,ae]|exact rfl|refine aa (v:=.any) ?_|(refine aa (v:=.any) ?_)|refine aG (by decide +kernel) ?_|((first|apply Ca|apply Cb)<;>intro hb)|refine Ai (by omega) ?_|(apply Ai<;>intro hb)|refine Fin.pure ?_ ?_ ?_|simp only[au])
 have e0:(s==[])=false:=beq_false_of_ne h0
 by_cases h6:6<s.length
 ·have hn:nU s=none:=by unfold nU;rw[if_pos (.inr (.inl h6))]
  have e1:decide ((6:Int)<(s.length:Int))=true:=decide_eq_true (by omega)
  rw[hn,fZ]
  refine ay rfl (fun cargs w=>call159 cargs w) func159 rfl mixed (by kernel_rfl) rfl ?_;intro b0 hb0
  (repeat' first|simp only[am,ah,results159,ntmps159,ap,e0,e1,ag,seval,ae]|exact rfl|refine aa (v:=.any) ?_|(refine aa (v:=.any) ?_)|refine aG (by decide +kernel) ?_|((first|apply Ca|apply Cb)<;>intro hb)|refine Ai (by omega) ?_|(apply Ai<;>intro hb)|refine Fin.pure ?_ ?_ ?_|simp only[au])
 have e1:decide ((6:Int)<(s.length:Int))=false:=decide_eq_false (by omega)
 have e4:0<s.length:=List.length_pos_iff.2 h0
 obtain⟨c,hc⟩:∃ c,s[0]? = some c:=⟨_,List.getElem?_eq_getElem e4⟩
 have e2:((c.toNat:Int)==48)=decide (c=48):=fI c 48
 by_cases h48:c=48
 ·have hn:nU s=none:=by unfold nU;rw[if_pos (.inr (.inr (by rw[List.head?_eq_getElem?,hc,h48])))]
  have e3:decide (c=48)=true:=decide_eq_true h48
  rw[e3]at e2
  rw[hn,fZ]
  refine ay rfl (fun cargs w=>call159 cargs w) func159 rfl mixed (by kernel_rfl) rfl ?_;intro b0 hb0
  (repeat' first|simp only[am,ah,results159,ntmps159,ap,e0,e1,e2,hc,e4,ag,seval,ae]|exact rfl|refine aa (v:=.any) ?_|(refine aa (v:=.any) ?_)|refine aG (by decide +kernel) ?_|((first|apply Ca|apply Cb)<;>intro hb)|refine Ai (by omega) ?_|(apply Ai<;>intro hb)|refine Fin.pure ?_ ?_ ?_|simp only[au])
 have e3:decide (c=48)=false:=decide_eq_false h48
 rw[e3]at e2
 have hL:nU s=ga 0 s:=by
  unfold nU;rw[if_neg]
  rintro (h|h|h)
  ·exact h0 h
  ·exact h6 h
  ·rw[List.head?_eq_getElem?,hc]at h;cases h;exact h48 rfl
 have htr:=B5 js s (by decide) (by decide) (by decide) hs
 have hq:=FP (s:=s)
 unfold js at htr hq
 have hq':(!(dv [48,49,50,51,52,53,54,55,56,57,97,98,99,100,101,102,65,66,67,68,69,70] (eg [48,49,50,51,52,53,54,55,56,57,97,98,99,100,101,102,65,66,67,68,69,70] s)==[])) = !(ga 0 s).isSome:=hq
 rw[hL]
 cases hv:ga 0 s with
 | none =>
  rw[hv]at hq'
  rw[fZ]
  refine ay rfl (fun cargs w=>call159 cargs w) func159 rfl mixed (by kernel_rfl) rfl ?_;intro b0 hb0
  (repeat' first|simp only[am,ah,results159,ntmps159,ap,e0,e1,e2,hc,e4,hq',Option.isSome_none,Bf,ag,seval,ae]|exact rfl|refine aa (v:=.any) ?_|(first|(refine ac ?_ (htr _) ?_)|(refine ab ?_ (fun _=>htr _) ?_))|refine aG (by decide +kernel) ?_|((first|apply Ca|apply Cb)<;>intro hb)|refine Ai (by omega) ?_|(apply Ai<;>intro hb)|refine Fin.pure ?_ ?_ ?_|simp only[au])
 | some n =>
  rw[hv]at hq'
  have hn6:=vR s 0 n hv
  have hp6:(16:Nat) ^ s.length≤16 ^ 6:=Nat.pow_le_pow_right (by omega) (by omega)
  have hn7:n<16777216:=by simp only[Nat.zero_add,Nat.one_mul]at hn6;exact Nat.lt_of_lt_of_le hn6 hp6
  have hw:IntKind.i64.wrap (n:Int)=(n:Int):=aR (by omega) (by omega)
  rw[lZ]
  refine ay rfl (fun cargs w=>call159 cargs w) func159 rfl mixed (by kernel_rfl) rfl ?_;intro b0 hb0
  (repeat' first|simp only[am,ah,results159,ntmps159,ap,e0,e1,e2,hc,e4,hq',hw,Option.isSome_some,Bt,ag,seval,ae]|exact rfl|refine aa (v:=.any) ?_|(first|(refine ac ?_ (htr _) ?_)|(refine ab ?_ (fun _=>htr _) ?_)|(refine ac ?_ (yR s n (by omega) h0 hv _) ?_)|(refine ab ?_ (fun _=>yR s n (by omega) h0 hv _) ?_))|(refine Ai uo ?_)|refine aG (by decide +kernel) ?_|((first|apply Ca|apply Cb)<;>intro hb)|refine Ai (by omega) ?_|(apply Ai<;>intro hb)|refine Fin.pure ?_ ?_ ?_|simp only[au])
theorem CK (s:List UInt8)(hs:s.length≤bk)(nm:Nat):Ev cx 160 nm [.str s] ao.nil (IC (mO s)) []:=by
 have h:=Av s hs
 cases hd:mO s with
 | none =>
  rw[ks hd]at h
  rw[fZ]
  refine ay rfl (fun cargs w=>call160 cargs w) func160 rfl mixed (by kernel_rfl) rfl ?_;intro b0 hb0
  (repeat' first|simp only[am,ah,results160,ntmps160,ap,ag,seval,ae]|exact rfl|refine aa (v:=.any) ?_|(first|(refine ac ?_ (h _) ?_)|(refine ab ?_ (fun _=>h _) ?_))|((first|apply Ca|apply Cb)<;>intro hb)|refine Ai (by omega) ?_|(apply Ai<;>intro hb)|refine Fin.pure ?_ ?_ ?_|simp only[au])
 | some n =>
  rw[sv hd]at h
  rw[lZ]
  refine ay rfl (fun cargs w=>call160 cargs w) func160 rfl mixed (by kernel_rfl) rfl ?_;intro b0 hb0
  (repeat' first|simp only[am,ah,results160,ntmps160,ap,ag,seval,ae]|exact rfl|refine aa (v:=.any) ?_|(first|(refine ac ?_ (h _) ?_)|(refine ab ?_ (fun _=>h _) ?_))|((first|apply Ca|apply Cb)<;>intro hb)|refine Ai (by omega) ?_|(apply Ai<;>intro hb)|refine Fin.pure ?_ ?_ ?_|simp only[au])
def wb (s p:List UInt8):V:=if preB s p=true then .tup [.str (s.drop p.length),.bool true] else .tup [.str s,.bool false]
theorem lE {s p:List UInt8}(h:preB s p=true):wb s p = .tup [.str (s.drop p.length),.bool true]:=by unfold wb;rw[if_pos h]
theorem og {s p:List UInt8}(h:preB s p=false):wb s p = .tup [.str s,.bool false]:=by unfold wb;rw[if_neg (by simp[h])]
theorem zo (s p:List UInt8)(hs:s.length≤bk)(hp:p.length≤bk)(nm:Nat):Ev cx 71 nm [.str s,.str p] ao.nil (wb s p) []:=by
 have h:=oX s p hs hp
 unfold bk at hs hp
 cases hb:preB s p with
 | true =>
  have hle:p.length≤s.length:=by
   unfold preB at hb
   simp only[Bool.and_eq_true,decide_eq_true_eq]at hb
   exact hb.1
  have hle':(p.length:Int)≤(s.length:Int):=by omega
  rw[lE hb]
  rw[hb]at h
  refine ay rfl (fun cargs w=>call71 cargs w) func71 rfl mixed (by kernel_rfl) rfl ?_;intro b0 hb0
  (repeat' first|simp only[am,ah,results71,ntmps71,ap,hle,hle',ag,seval,ae]|exact rfl|refine aa (v:=.any) ?_|(first|(refine ac ?_ (h _) ?_)|(refine ab ?_ (fun _=>h _) ?_))|((first|apply Ca|apply Cb)<;>intro hb)|refine Ai (by omega) ?_|(apply Ai<;>intro hb)|refine Fin.pure ?_ ?_ ?_|simp only[au])
 | false =>
  rw[og hb]
  rw[hb]at h
  refine ay rfl (fun cargs w=>call71 cargs w) func71 rfl mixed (by kernel_rfl) rfl ?_;intro b0 hb0
  (repeat' first|simp only[am,ah,results71,ntmps71,ap,ag,seval,ae]|exact rfl|refine aa (v:=.any) ?_|(first|(refine ac ?_ (h _) ?_)|(refine ab ?_ (fun _=>h _) ?_))|((first|apply Ca|apply Cb)<;>intro hb)|refine Ai (by omega) ?_|(apply Ai<;>intro hb)|refine Fin.pure ?_ ?_ ?_|simp only[au])
theorem lT (s p:List UInt8)(hs:s.length≤bk)(hp:p.length≤bk)(nm:Nat):Ev cx 52 nm [.str s,.str p] ao.nil (wb s p) []:=by
 have h:=zo s p hs hp
 cases hb:preB s p with
 | true =>
  rw[lE hb]at h ⊢
  refine ay rfl (fun cargs w=>call52 cargs w) func52 rfl mixed (by kernel_rfl) rfl ?_;intro b0 hb0
  (repeat' first|simp only[am,ah,results52,ntmps52,ap,ag,seval,ae]|exact rfl|refine aa (v:=.any) ?_|(first|(refine ac ?_ (h _) ?_)|(refine ab ?_ (fun _=>h _) ?_))|((first|apply Ca|apply Cb)<;>intro hb)|refine Ai (by omega) ?_|(apply Ai<;>intro hb)|refine Fin.pure ?_ ?_ ?_|simp only[au])
 | false =>
  rw[og hb]at h ⊢
  refine ay rfl (fun cargs w=>call52 cargs w) func52 rfl mixed (by kernel_rfl) rfl ?_;intro b0 hb0
  (repeat' first|simp only[am,ah,results52,ntmps52,ap,ag,seval,ae]|exact rfl|refine aa (v:=.any) ?_|(first|(refine ac ?_ (h _) ?_)|(refine ab ?_ (fun _=>h _) ?_))|((first|apply Ca|apply Cb)<;>intro hb)|refine Ai (by omega) ?_|(apply Ai<;>intro hb)|refine Fin.pure ?_ ?_ ?_|simp only[au])
def ju:List (V×V):=[(.str [97,109,112],.agg [.str [38]]),(.str [108,116],.agg [.str [60]]),(.str [103,116],.agg [.str [62]]),(.str [113,117,111,116],.agg [.str [34]]),(.str [97,112,111,115],.agg [.str [39]])]
theorem si:ye cx.P 183=some (9,181):=by kernel_rfl
theorem vX:ju=[(.str [97,109,112],.agg [.str [38]]),(.str [108,116],.agg [.str [60]]),(.str [103,116],.agg [.str [62]]),(.str [113,117,111,116],.agg [.str [34]]),(.str [97,112,111,115],.agg [.str [39]])]:=rfl
theorem yi (nm:Nat):Ev cx 158 nm [] ao.nil (.mp nm) [(nm,some (eK ju))]:=by
 refine ay rfl (fun cargs w=>call158 cargs w) func158 rfl mixed (by kernel_rfl) rfl ?_;intro b0 hb0
 repeat' first|simp only[am,ah,results158,ntmps158,ap,si,vX,ag,seval,ae]|exact rfl|refine aa (v:=.any) ?_|(refine lg ?_)|(refine bh ?_)|(refine ba ?_)|(refine mP (y:=?_) (kv:=?_) (xv:=?_) (kvs:=?_) ?_ ?_ ?_ ?_ si ?_ ?_ ?_ ?_ ?_;rotate_left 4;(iterate 4 (focus (simp only[results158,ntmps158,ap,si,vX,ag,seval,ae]<;>exact rfl)));(focus (kernel_rfl));(iterate 3 (focus (exact rfl))))|((first|apply Ca|apply Cb)<;>intro hb)|refine Ai (by omega) ?_|(apply Ai<;>intro hb)
 all_goals ((refine Fin.give [(b0+16,some 0)] [] ?_ ?_ ?_ ?_ ?_ (fun q hq=>by have hqq:=LF (l:=[]) q hq;first|(simp only[aD,tgt,Lc,Lo,Lk,Ln,or_false]at hqq ⊢;omega)|(simp only[aD,tgt,Lc,Lo,Lk,Ln,or_false]at hqq))<;>(try simp only[results158,ntmps158,ap,vX,cW,bN,ec,ag,seval,ae])<;>(try simp only[au])<;>(try omega)))
theorem mU (s:List UInt8):(∃ x,dT (.str s) ju=some (some (.agg [.str x]))∧ce s=some x∧x.length≤1)∨(dT (.str s) ju=some none∧ce s=if s.head? = some 35 then (if s.tail.head? = some 120 then ew (nU s.tail.tail) else ew (mO s.tail)) else none):=by
 by_cases h1:s=[97,109,112]
 ·subst h1;left;exact⟨_,rfl,Dw,by simp⟩
 by_cases h2:s=[108,116]
 ·subst h2;left;exact⟨_,rfl,Gc,by simp⟩
 by_cases h3:s=[103,116]
 ·subst h3;left;exact⟨_,rfl,Gb,by simp⟩
 by_cases h4:s=[113,117,111,116]
 ·subst h4;left;exact⟨_,rfl,Ao,by simp⟩
 by_cases h5:s=[97,112,111,115]
 ·subst h5;left;exact⟨_,rfl,by decide,by simp⟩
 right
 have e1:(s==[97,109,112])=false:=beq_false_of_ne h1
 have e2:(s==[108,116])=false:=beq_false_of_ne h2
 have e3:(s==[103,116])=false:=beq_false_of_ne h3
 have e4:(s==[113,117,111,116])=false:=beq_false_of_ne h4
 have e5:(s==[97,112,111,115])=false:=beq_false_of_ne h5
 refine⟨?_,?_⟩
 ·simp only[vX,dT,kM,e1,e2,e3,e4,e5]
 ·unfold ce;rw[if_neg h1,if_neg h2,if_neg h3,if_neg h4,if_neg h5]
theorem dE:zeroOf cx.P 181=some (.agg #[.string ⟨#[]⟩]):=by kernel_rfl
def D4 (rest:List UInt8)(y n:Nat):Blk:=⟨2,[[.str rest,.own y 0 n]]⟩
theorem cA (rest:List UInt8)(y n:Nat):D4 rest y n=⟨2,[[.str rest,.own y 0 n]]⟩:=rfl
theorem D6 (rest:List UInt8)(hr:rest.length≤1000000)(hc:dH 59 rest=none)(q y:Nat)(out:List UInt8)(M:ao)(nm:Nat)(hqy:q≠y)(hq:M q=some (D4 rest y out.length))(hy:M y=some (rK out))(ho:∀ w,(M w).isSome=true→w∈[q,y])(hqn:q<nm)(hyn:y<nm) :
  Ev cx 143 nm [.ptr q 0 0] M (.bool false) [(q,some (D4 rest y out.length)),(y,some (rK out))]:=by
 have hcv:=mN rest 59 (by unfold bk;omega)
 have ev:fY 59 rest = .tup [.str rest,.str [],.bool false]:=by unfold fY;rw[hc]
 rw[ev]at hcv
 rw[cA]at hq ⊢
 refine ay rfl (fun cargs w=>call143 cargs w) func143 rfl mixed (by kernel_rfl) rfl ?_;intro b0 hb0
 have ly:y<b0:=av hb0 (by rw[hy];rfl)
 have y0:=aS ly;have y1:=aq ly;have y2:=aI ly;have y3:=aj ly
 have lq:q<b0:=av hb0 (by rw[hq];rfl)
 have z0:=aS lq;have z1:=aq lq;have z2:=aI lq;have z3:=aj lq
 have n1:=eq_false hqy;have n4:=eq_false (Ne.symm hqy)
 repeat' first|simp only[am,ah,results143,ntmps143,ap,hq,hy,z0,z1,z2,z3,y0,y1,y2,y3,n1,n4,Bf,ag,seval,ae]|exact rfl|refine aa (v:=.any) ?_|(first|(refine ac ?_ (hcv _) ?_)|(refine ab ?_ (fun _=>hcv _) ?_))|((first|(refine aL (g:=?_) ?_ ?_)|(refine aH (g:=?_) ?_ ?_));rotate_left 1;(focus (simp only[results143,ntmps143,ap,hq,hy,z0,z1,z2,z3,y0,y1,y2,y3,n1,n4,Bf,ag,seval,ae]<;>exact rfl)))|refine aG (by decide +kernel) ?_|((first|apply Ca|apply Cb)<;>intro hb)|refine Ai (by omega) ?_|(apply Ai<;>intro hb)
 all_goals ((refine Fin.give [(q,none),(y,none)] [] ?_ ?_ ?_ ?_ ?_ (fun q hq=>by have hqq:=ho q hq;first|(simp only[aD,tgt,Lc,Lo,Lk,Ln,or_false]at hqq ⊢;omega)|(simp only[aD,tgt,Lc,Lo,Lk,Ln,or_false]at hqq))<;>(try simp only[results143,ntmps143,ap,hq,hy,aQ,bi,aX,z0,z1,z2,z3,y0,y1,y2,y3,n1,n4,ec,ag,seval,ae])<;>(try simp only[au])<;>(try omega)))
theorem AH (rest a b x:List UInt8)(hr:rest.length≤1000000)(hc:dH 59 rest=some (a,b))(hf:dT (.str a) ju=some (some (.agg [.str x])))(hx:x.length≤1)(q y:Nat)(out:List UInt8)(hout:out.length≤1000000)(M:ao)(nm:Nat)(hqy:q≠y)(hq:M q=some (D4 rest y out.length))(hy:M y=some (rK out))(ho:∀ w,(M w).isSome=true→w∈[q,y])(hqn:q<nm)(hyn:y<nm) :
  Ev cx 143 nm [.ptr q 0 0] M (.bool true) [(y,none),(q,some (D4 b nm (out++x).length)),(nm,some (rK (out++x)))]:=by
 have hcv:=mN rest 59 (by unfold bk;omega)
 have ev:fY 59 rest = .tup [.str a,.str b,.bool true]:=by unfold fY;rw[hc]
 rw[ev]at hcv
 have hmp:out.map aN++x.map aN=(out++x).map aN:=by rw[List.map_append]
 rw[List.length_append]
 rw[cA]at hq ⊢
 refine ay rfl (fun cargs w=>call143 cargs w) func143 rfl mixed (by kernel_rfl) rfl ?_;intro b0 hb0
 have ly:y<b0:=av hb0 (by rw[hy];rfl)
 have y0:=aS ly;have y1:=aq ly;have y2:=aI ly;have y3:=aj ly
 have lq:q<b0:=av hb0 (by rw[hq];rfl)
 have z0:=aS lq;have z1:=aq lq;have z2:=aI lq;have z3:=aj lq
 have n1:=eq_false hqy;have n4:=eq_false (Ne.symm hqy)
 repeat' first|simp only[am,ah,results143,ntmps143,ap,hq,hy,hf,hmp,dE,eW,aQ,z0,z1,z2,z3,y0,y1,y2,y3,n1,n4,A7,if_true,ck,dX,aP,Lm,List.take_of_length_le,Nat.le_refl,Option.bind_some,Option.getD_some,Option.isSome_some,Bt,ag,seval,ae]|exact rfl|refine aa (v:=.any) ?_|(first|(refine ac ?_ (hcv _) ?_)|(refine ab ?_ (fun _=>hcv _) ?_))|(refine jb ?_ (yi _) ?_ ?_)|(refine mQ (y:=?_) (kv:=?_) (kvs:=?_) (q:=?_) ?_ ?_ ?_ si ?_ ?_ dE ?_ ?_ ?_;rotate_left 4;(iterate 3 (focus (simp only[results143,ntmps143,ap,hq,hy,hf,hmp,dE,eW,aQ,z0,z1,z2,z3,y0,y1,y2,y3,n1,n4,A7,if_true,ck,dX,aP,Lm,List.take_of_length_le,Nat.le_refl,Option.bind_some,Option.getD_some,Option.isSome_some,Bt,ag,seval,ae]<;>exact rfl)));(focus (kernel_rfl));(focus (exact rfl));(focus (simp only[results143,ntmps143,ap,hq,hy,hf,hmp,dE,eW,aQ,z0,z1,z2,z3,y0,y1,y2,y3,n1,n4,A7,if_true,ck,dX,aP,Lm,List.take_of_length_le,Nat.le_refl,Option.bind_some,Option.getD_some,Option.isSome_some,Bt,ag,seval,ae]<;>exact rfl));(focus (intro v hv;cases hv<;>exact rfl)))|(refine bh ?_)|(refine ba ?_)|((first|(refine aL (g:=?_) ?_ ?_)|(refine aH (g:=?_) ?_ ?_));rotate_left 1;(focus (simp only[results143,ntmps143,ap,hq,hy,hf,hmp,dE,eW,aQ,z0,z1,z2,z3,y0,y1,y2,y3,n1,n4,A7,if_true,ck,dX,aP,Lm,List.take_of_length_le,Nat.le_refl,Option.bind_some,Option.getD_some,Option.isSome_some,Bt,ag,seval,ae]<;>exact rfl)))|omega|refine aG (by decide +kernel) ?_|((first|apply Ca|apply Cb)<;>intro hb)|refine Ai (by omega) ?_|(apply Ai<;>intro hb)
 all_goals ((refine Fin.give [(q,none),(b0+528,some 0)] [y] ?_ ?_ ?_ ?_ ?_ (fun q hq=>by have hqq:=ho q hq;first|(simp only[aD,tgt,Lc,Lo,Lk,Ln,or_false]at hqq ⊢;omega)|(simp only[aD,tgt,Lc,Lo,Lk,Ln,or_false]at hqq))<;>(try simp only[results143,ntmps143,ap,hq,hy,aQ,bi,aX,z0,z1,z2,z3,y0,y1,y2,y3,n1,n4,ec,ag,seval,ae])<;>(try simp only[au])<;>(try omega)))
theorem qF {s p:List UInt8} : preB s p=true ↔ ∃ t,s=p++t:=by
 unfold preB
 simp only[Bool.and_eq_true,decide_eq_true_eq,beq_iff_eq]
 constructor
 ·rintro ⟨_,h⟩
  exact⟨s.drop p.length,by conv=>lhs;rw[← List.take_append_drop p.length s,h]⟩
 ·rintro ⟨t,rfl⟩
  simp
theorem oL {a:List UInt8}(hf:dT (.str a) ju=some none):ce a=if a.head? = some 35 then (if a.tail.head? = some 120 then ew (nU a.tail.tail) else ew (mO a.tail)) else none:=by
 rcases mU a with ⟨x,h,_⟩|⟨_,h⟩
 ·rw[hf]at h;cases h
 ·exact h
theorem Dy {a:List UInt8}(hf:dT (.str a) ju=some none)(h:preB a [35,120]=true):ce a=ew (nU (a.drop 2)):=by
 obtain⟨t,rfl⟩:=qF.1 h
 rw[oL hf];rfl
theorem Dx {a:List UInt8}(hf:dT (.str a) ju=some none)(h:preB a [35,120]=false)(h2:preB a [35]=true):ce a=ew (mO (a.drop 1)):=by
 obtain⟨t,rfl⟩:=qF.1 h2
 have h1:([35]++t).head? = some 35:=rfl
 rw[oL hf,if_pos h1,if_neg]
 ·rfl
 ·intro h3
  simp only[List.cons_append,List.nil_append,List.tail_cons]at h3
  cases t with
  | nil=>cases h3
  | cons c t =>
   cases h3
   have:=qF.2 (⟨t,rfl⟩:∃ t',[35]++120::t=[35,120]++t')
   rw[h]at this;cases this
theorem Dz {a:List UInt8}(hf:dT (.str a) ju=some none)(h2:preB a [35]=false):ce a=none:=by
 rw[oL hf,if_neg]
 intro h3
 cases a with
 | nil=>cases h3
 | cons c t =>
  cases h3
  have:=qF.2 (⟨t,rfl⟩:∃ t',35::t=[35]++t')
  rw[h2]at this;cases this
theorem sq:ew none=none:=rfl
theorem pk {n:Nat}(h:gD (n:Int)=true):ew (some n)=some (encodeRune n):=by simp[ew,h]
theorem so {n:Nat}(h:gD (n:Int)=false):ew (some n)=none:=by simp[ew,h]
theorem Gz {n:Int}(h:gD n=true):kK [n]=0∧kq [n]=encodeRune n:=by
 have hl:=bt n
 have e:enc [n]=encodeRune n:=by simp[enc]
 have he:kK [n]=0:=by unfold kK;rw[if_pos (by simp[h]),e,if_neg (by omega)]
 exact⟨he,by unfold kq;rw[if_pos he,e]⟩
def E5:List (List V):=[[.str [35,120],.fn 159 []],[.str [35],.fn 160 []]]
theorem bE:E5=[[.str [35,120],.fn 159 []],[.str [35],.fn 160 []]]:=rfl
theorem uO (rest a b:List UInt8)(hr:rest.length≤1000000)(hc:dH 59 rest=some (a,b))(hf:dT (.str a) ju=some none)(q y:Nat)(out:List UInt8)(hout:out.length≤1000000)(M:ao)(nm:Nat)(hqy:q≠y)(hq:M q=some (D4 rest y out.length))(hy:M y=some (rK out))(ho:∀ w,(M w).isSome=true→w∈[q,y])(hqn:q<nm)(hyn:y<nm)
    (v:V) (eff:List (Nat×Option Blk)) (hve:(ce a=none∧v = .bool false∧eff=[(q,some (D4 rest y out.length)),(y,some (rK out))])∨(∃ x,ce a=some x∧v = .bool true∧eff=[(y,none),(q,some (D4 b nm (out++x).length)),(nm,some (rK (out++x)))])) :
    Ev cx 143 nm [.ptr q 0 0] M v eff:=by
  have hal:a.length≤1000000:=by
    have:=(ek hc).1
    rw[this]at hr;simp at hr;omega
  have hcv:=mN rest 59 (by unfold bk;omega)
  have ev:fY 59 rest = .tup [.str a,.str b,.bool true]:=by unfold fY;rw[hc]
  rw[ev]at hcv
  have hp2:=lT a [35,120] (by unfold bk;omega) (by decide)
  have hp1:=lT a [35] (by unfold bk;omega) (by decide)
  simp only[cA]at hq hve
  refine ay rfl (fun cargs w=>call143 cargs w) func143 rfl mixed (by kernel_rfl) rfl ?_;intro b0 hb0
  have ly:y<b0:=av hb0 (by rw[hy];rfl)
  have y0:=aS ly;have y1:=aq ly;have y2:=aI ly;have y3:=aj ly
  have lq:q<b0:=av hb0 (by rw[hq];rfl)
  have z0:=aS lq;have z1:=aq lq;have z2:=aI lq;have z3:=aj lq
  have n1:=eq_false hqy;have n4:=eq_false (Ne.symm hqy)
  repeat' first|simp only[am,ah,results143,ntmps143,ap,hq,hy,hf,dE,eW,aQ,z0,z1,z2,z3,y0,y1,y2,y3,n1,n4,Option.getD_none,Option.isSome_none,Bt,ag,seval,ae]|exact rfl|refine aa (v:=.any) ?_|(first|(refine ac ?_ (hcv _) ?_)|(refine ab ?_ (fun _=>hcv _) ?_))|(refine jb ?_ (yi _) ?_ ?_)|(refine mQ (y:=?_) (kv:=?_) (kvs:=?_) (q:=?_) ?_ ?_ ?_ si ?_ ?_ dE ?_ ?_ ?_;rotate_left 4;(iterate 3 (focus (simp only[results143,ntmps143,ap,hq,hy,hf,dE,eW,aQ,z0,z1,z2,z3,y0,y1,y2,y3,n1,n4,Option.getD_none,Option.isSome_none,Bt,ag,seval,ae]<;>exact rfl)));(focus (kernel_rfl));(focus (exact rfl));(focus (simp only[results143,ntmps143,ap,hq,hy,hf,dE,eW,aQ,z0,z1,z2,z3,y0,y1,y2,y3,n1,n4,Option.getD_none,Option.isSome_none,Bt,ag,seval,ae]<;>exact rfl));(focus (intro v hv;cases hv<;>exact rfl)))|(refine bh ?_)|(refine ba ?_)|((first|(refine aL (g:=?_) ?_ ?_)|(refine aH (g:=?_) ?_ ?_));rotate_left 1;(focus (simp only[results143,ntmps143,ap,hq,hy,hf,dE,eW,aQ,z0,z1,z2,z3,y0,y1,y2,y3,n1,n4,Option.getD_none,Option.isSome_none,Bt,ag,seval,ae]<;>exact rfl)))|omega|refine aG (by decide +kernel) ?_|((first|apply Ca|apply Cb)<;>intro hb)|refine Ai (by omega) ?_|(apply Ai<;>intro hb)
  (refine aV cm (fun x:Nat=>2-x) (fun x=>x≤2∧(0<x→preB a [35,120]=false)∧(1<x→preB a [35]=false)) (b0+16) (fun x=>[(0,.ptr q 0 0),(3,.str a),(4,.str b),(49,.own b0 0 2),(50,.int .i64 2),(51,.int .i64 x)]) (fun x=>[(b0,⟨2,E5⟩),(q,⟨2,[[.str rest,.own y 0 out.length]]⟩),(y,rK out)]) (0) [some (b0+432),some q,some y] ?_ ?_ ?_ ?_;rotate_left 1;(focus (show b0≤_;omega));(focus (refine⟨?_,?_⟩<;>(try simp only[bj,hq,hy,bE,aQ,bi,aX,c8,z0,z1,z2,z3,y0,y1,y2,y3,n1,n4,ag,seval,ae,au])<;>(try omega)));rotate_left 1)
  · exact⟨Nat.zero_le _,fun h=>by omega,fun h=>by omega⟩
  · rintro k ⟨hk,hk1,hk2⟩
    have hdl:∀ j,(a.drop j).length≤bk:=fun j=>by rw[List.length_drop];unfold bk;omega
    rcases(show k=0∨k=1∨k=2 by omega) with rfl|rfl|rfl
    · have hwk:IntKind.i64.wrap 1=1:=by decide
      cases hb:preB a [35,120] with
      | true =>
        have hp:=hp2
        rw[lE hb]at hp
        simp only[List.length_cons,List.length_nil]at hp
        have hm:=Dy hf hb
        have hx:=H4 (a.drop 2) (hdl 2)
        cases hL:nU (a.drop 2) with
        | none =>
          rw[hL,fZ]at hx
          rw[hL,sq]at hm
          rcases hve with ⟨_,rfl,rfl⟩|⟨x,h,_⟩
          · repeat' first|simp only[am,ah,results143,ntmps143,ap,hq,hy,bE,aQ,z0,z1,z2,z3,y0,y1,y2,y3,n1,n4,bH,Int.ofNat_zero,Int.ofNat_one,Bt,Bf,ag,seval,ae]|exact rfl|refine aa (v:=.any) ?_|(first|(refine ac ?_ (hp _) ?_)|(refine ab ?_ (fun _=>hp _) ?_)|(refine ac ?_ (hx _) ?_)|(refine ab ?_ (fun _=>hx _) ?_))|(refine aa (v:=.any) ?_)|((first|(refine aL (g:=?_) ?_ ?_)|(refine aH (g:=?_) ?_ ?_));rotate_left 1;(focus (simp only[results143,ntmps143,ap,hq,hy,bE,aQ,z0,z1,z2,z3,y0,y1,y2,y3,n1,n4,bH,Int.ofNat_zero,Int.ofNat_one,Bt,Bf,ag,seval,ae]<;>exact rfl)))|refine aG (by decide +kernel) ?_|((first|apply Ca|apply Cb)<;>intro hb)|refine Ai (by omega) ?_|(apply Ai<;>intro hb)
            all_goals ((refine Fin.give [(q,none),(y,none)] [] ?_ ?_ ?_ ?_ ?_ (fun q hq=>by have hqq:=ho q hq;first|(simp only[aD,tgt,Lc,Lo,Lk,Ln,or_false]at hqq ⊢;omega)|(simp only[aD,tgt,Lc,Lo,Lk,Ln,or_false]at hqq))<;>(try simp only[results143,ntmps143,ap,hq,hy,aQ,bi,aX,z0,z1,z2,z3,y0,y1,y2,y3,n1,n4,ec,ag,seval,ae])<;>(try simp only[au])<;>(try omega)))
          · rw[hm]at h;cases h
        | some n =>
          rw[hL,lZ]at hx
          rw[hL]at hm
          have hmy:=jo (n:Int)
          cases hmm:gD (n:Int) with
          | false =>
            rw[hmm]at hmy
            rw[so hmm]at hm
            rcases hve with ⟨_,rfl,rfl⟩|⟨x,h,_⟩
            · repeat' first|simp only[am,ah,results143,ntmps143,ap,hq,hy,bE,aQ,z0,z1,z2,z3,y0,y1,y2,y3,n1,n4,bH,Int.ofNat_zero,Int.ofNat_one,Bt,Bf,ag,seval,ae]|exact rfl|refine aa (v:=.any) ?_|(first|(refine ac ?_ (hp _) ?_)|(refine ab ?_ (fun _=>hp _) ?_)|(refine ac ?_ (hx _) ?_)|(refine ab ?_ (fun _=>hx _) ?_)|(refine ac ?_ (hmy _) ?_)|(refine ab ?_ (fun _=>hmy _) ?_))|((first|(refine aL (g:=?_) ?_ ?_)|(refine aH (g:=?_) ?_ ?_));rotate_left 1;(focus (simp only[results143,ntmps143,ap,hq,hy,bE,aQ,z0,z1,z2,z3,y0,y1,y2,y3,n1,n4,bH,Int.ofNat_zero,Int.ofNat_one,Bt,Bf,ag,seval,ae]<;>exact rfl)))|refine aG (by decide +kernel) ?_|((first|apply Ca|apply Cb)<;>intro hb)|refine Ai (by omega) ?_|(apply Ai<;>intro hb)
              all_goals ((refine Fin.give [(q,none),(y,none)] [] ?_ ?_ ?_ ?_ ?_ (fun q hq=>by have hqq:=ho q hq;first|(simp only[aD,tgt,Lc,Lo,Lk,Ln,or_false]at hqq ⊢;omega)|(simp only[aD,tgt,Lc,Lo,Lk,Ln,or_false]at hqq))<;>(try simp only[results143,ntmps143,ap,hq,hy,aQ,bi,aX,z0,z1,z2,z3,y0,y1,y2,y3,n1,n4,ec,ag,seval,ae])<;>(try simp only[au])<;>(try omega)))
            · rw[hm]at h;cases h
          | true =>
            rw[hmm]at hmy
            rw[pk hmm]at hm
            rcases hve with ⟨h,_⟩|⟨x,h,rfl,rfl⟩
            · rw[hm]at h;cases h
            · rw[hm]at h;cases h
              obtain⟨o1,o2⟩:=Gz hmm
              have hof:=J0 [(n:Int)] (by simp)
              rw[o1,o2]at hof
              simp only[bH,Lc,Lo]at hof
              have hel:=bt (n:Int)
              have hmp:out.map aN++(encodeRune (n:Int)).map aN=(out++encodeRune (n:Int)).map aN:=by rw[List.map_append]
              rw[List.length_append]
              repeat' first|simp only[am,ah,results143,ntmps143,ap,hq,hy,bE,aQ,z0,z1,z2,z3,y0,y1,y2,y3,n1,n4,bH,Int.ofNat_zero,Int.ofNat_one,hmp,A7,if_true,ck,dX,aP,Lm,List.take_of_length_le,Nat.le_refl,Option.bind_some,Bt,Bf,ag,seval,ae]|exact rfl|refine aa (v:=.any) ?_|(first|(refine ac ?_ (hp _) ?_)|(refine ab ?_ (fun _=>hp _) ?_)|(refine ac ?_ (hx _) ?_)|(refine ab ?_ (fun _=>hx _) ?_)|(refine ac ?_ (hmy _) ?_)|(refine ab ?_ (fun _=>hmy _) ?_))|((refine bn (xs:=?_) [b0+544] ?_ ?_ ?_ rfl (hof _) ?_);rotate_left 1)|((first|(refine aL (g:=?_) ?_ ?_)|(refine aH (g:=?_) ?_ ?_));rotate_left 1;(focus (simp only[results143,ntmps143,ap,hq,hy,bE,aQ,z0,z1,z2,z3,y0,y1,y2,y3,n1,n4,bH,Int.ofNat_zero,Int.ofNat_one,hmp,A7,if_true,ck,dX,aP,Lm,List.take_of_length_le,Nat.le_refl,Option.bind_some,Bt,Bf,ag,seval,ae]<;>exact rfl)))|omega|refine aG (by decide +kernel) ?_|((first|apply Ca|apply Cb)<;>intro hb)|refine Ai (by omega) ?_|(apply Ai<;>intro hb)
              all_goals ((refine Fin.give [(q,none),(b0+768,some 0)] [y] ?_ ?_ ?_ ?_ ?_ (fun q hq=>by have hqq:=ho q hq;first|(simp only[aD,tgt,Lc,Lo,Lk,Ln,or_false]at hqq ⊢;omega)|(simp only[aD,tgt,Lc,Lo,Lk,Ln,or_false]at hqq))<;>(try simp only[results143,ntmps143,ap,hq,hy,aQ,bi,aX,z0,z1,z2,z3,y0,y1,y2,y3,n1,n4,ec,ag,seval,ae])<;>(try simp only[au])<;>(try omega)))
      | false =>
        have hp:=hp2
        rw[og hb]at hp
        repeat' first|simp only[am,ah,results143,ntmps143,ap,hq,hy,bE,aQ,z0,z1,z2,z3,y0,y1,y2,y3,n1,n4,bH,Int.ofNat_zero,Int.ofNat_one,hwk,Bt,Bf,ag,seval,ae]|exact rfl|refine aa (v:=.any) ?_|(first|(refine ac ?_ (hp _) ?_)|(refine ab ?_ (fun _=>hp _) ?_))|((first|(refine aL (g:=?_) ?_ ?_)|(refine aH (g:=?_) ?_ ?_));rotate_left 1;(focus (simp only[results143,ntmps143,ap,hq,hy,bE,aQ,z0,z1,z2,z3,y0,y1,y2,y3,n1,n4,bH,Int.ofNat_zero,Int.ofNat_one,hwk,Bt,Bf,ag,seval,ae]<;>exact rfl)))|refine aG (by decide +kernel) ?_|((first|apply Ca|apply Cb)<;>intro hb)|refine Ai (by omega) ?_|(apply Ai<;>intro hb)
        all_goals ((refine aJ cm (1) [some b0,some q,some y] ?_ ?_ ?_ ?_;rotate_left 2;(focus (show b0≤_;omega));(focus (refine⟨?_,?_⟩<;>(try simp only[bj,hwk,bE,c8,Int.ofNat_one,hq,hy,aQ,bi,aX,z0,z1,z2,z3,y0,y1,y2,y3,n1,n4,ag,seval,ae,au])<;>(try omega)))))
        all_goals (first|omega|exact⟨by omega,fun _=>hb,fun h=>by omega⟩|exact⟨by omega,fun h=>by omega⟩|skip)
    · have hwk:IntKind.i64.wrap 2=2:=by decide
      cases hb:preB a [35] with
      | true =>
        have hp:=hp1
        rw[lE hb]at hp
        simp only[List.length_cons,List.length_nil]at hp
        have hm:=Dx hf (hk1 (by omega)) hb
        have hx:=CK (a.drop 1) (hdl 1)
        cases hL:mO (a.drop 1) with
        | none =>
          rw[hL,fZ]at hx
          rw[hL,sq]at hm
          rcases hve with ⟨_,rfl,rfl⟩|⟨x,h,_⟩
          · repeat' first|simp only[am,ah,results143,ntmps143,ap,hq,hy,bE,aQ,z0,z1,z2,z3,y0,y1,y2,y3,n1,n4,bH,Int.ofNat_zero,Int.ofNat_one,Bt,Bf,ag,seval,ae]|exact rfl|refine aa (v:=.any) ?_|(first|(refine ac ?_ (hp _) ?_)|(refine ab ?_ (fun _=>hp _) ?_)|(refine ac ?_ (hx _) ?_)|(refine ab ?_ (fun _=>hx _) ?_))|(refine aa (v:=.any) ?_)|((first|(refine aL (g:=?_) ?_ ?_)|(refine aH (g:=?_) ?_ ?_));rotate_left 1;(focus (simp only[results143,ntmps143,ap,hq,hy,bE,aQ,z0,z1,z2,z3,y0,y1,y2,y3,n1,n4,bH,Int.ofNat_zero,Int.ofNat_one,Bt,Bf,ag,seval,ae]<;>exact rfl)))|refine aG (by decide +kernel) ?_|((first|apply Ca|apply Cb)<;>intro hb)|refine Ai (by omega) ?_|(apply Ai<;>intro hb)
            all_goals ((refine Fin.give [(q,none),(y,none)] [] ?_ ?_ ?_ ?_ ?_ (fun q hq=>by have hqq:=ho q hq;first|(simp only[aD,tgt,Lc,Lo,Lk,Ln,or_false]at hqq ⊢;omega)|(simp only[aD,tgt,Lc,Lo,Lk,Ln,or_false]at hqq))<;>(try simp only[results143,ntmps143,ap,hq,hy,aQ,bi,aX,z0,z1,z2,z3,y0,y1,y2,y3,n1,n4,ec,ag,seval,ae])<;>(try simp only[au])<;>(try omega)))
          · rw[hm]at h;cases h
        | some n =>
          rw[hL,lZ]at hx
          rw[hL]at hm
          have hmy:=jo (n:Int)
          cases hmm:gD (n:Int) with
          | false =>
            rw[hmm]at hmy
            rw[so hmm]at hm
            rcases hve with ⟨_,rfl,rfl⟩|⟨x,h,_⟩
            · repeat' first|simp only[am,ah,results143,ntmps143,ap,hq,hy,bE,aQ,z0,z1,z2,z3,y0,y1,y2,y3,n1,n4,bH,Int.ofNat_zero,Int.ofNat_one,Bt,Bf,ag,seval,ae]|exact rfl|refine aa (v:=.any) ?_|(first|(refine ac ?_ (hp _) ?_)|(refine ab ?_ (fun _=>hp _) ?_)|(refine ac ?_ (hx _) ?_)|(refine ab ?_ (fun _=>hx _) ?_)|(refine ac ?_ (hmy _) ?_)|(refine ab ?_ (fun _=>hmy _) ?_))|((first|(refine aL (g:=?_) ?_ ?_)|(refine aH (g:=?_) ?_ ?_));rotate_left 1;(focus (simp only[results143,ntmps143,ap,hq,hy,bE,aQ,z0,z1,z2,z3,y0,y1,y2,y3,n1,n4,bH,Int.ofNat_zero,Int.ofNat_one,Bt,Bf,ag,seval,ae]<;>exact rfl)))|refine aG (by decide +kernel) ?_|((first|apply Ca|apply Cb)<;>intro hb)|refine Ai (by omega) ?_|(apply Ai<;>intro hb)
              all_goals ((refine Fin.give [(q,none),(y,none)] [] ?_ ?_ ?_ ?_ ?_ (fun q hq=>by have hqq:=ho q hq;first|(simp only[aD,tgt,Lc,Lo,Lk,Ln,or_false]at hqq ⊢;omega)|(simp only[aD,tgt,Lc,Lo,Lk,Ln,or_false]at hqq))<;>(try simp only[results143,ntmps143,ap,hq,hy,aQ,bi,aX,z0,z1,z2,z3,y0,y1,y2,y3,n1,n4,ec,ag,seval,ae])<;>(try simp only[au])<;>(try omega)))
            · rw[hm]at h;cases h
          | true =>
            rw[hmm]at hmy
            rw[pk hmm]at hm
            rcases hve with ⟨h,_⟩|⟨x,h,rfl,rfl⟩
            · rw[hm]at h;cases h
            · rw[hm]at h;cases h
              obtain⟨o1,o2⟩:=Gz hmm
              have hof:=J0 [(n:Int)] (by simp)
              rw[o1,o2]at hof
              simp only[bH,Lc,Lo]at hof
              have hel:=bt (n:Int)
              have hmp:out.map aN++(encodeRune (n:Int)).map aN=(out++encodeRune (n:Int)).map aN:=by rw[List.map_append]
              rw[List.length_append]
              repeat' first|simp only[am,ah,results143,ntmps143,ap,hq,hy,bE,aQ,z0,z1,z2,z3,y0,y1,y2,y3,n1,n4,bH,Int.ofNat_zero,Int.ofNat_one,hmp,A7,if_true,ck,dX,aP,Lm,List.take_of_length_le,Nat.le_refl,Option.bind_some,Bt,Bf,ag,seval,ae]|exact rfl|refine aa (v:=.any) ?_|(first|(refine ac ?_ (hp _) ?_)|(refine ab ?_ (fun _=>hp _) ?_)|(refine ac ?_ (hx _) ?_)|(refine ab ?_ (fun _=>hx _) ?_)|(refine ac ?_ (hmy _) ?_)|(refine ab ?_ (fun _=>hmy _) ?_))|((refine bn (xs:=?_) [b0+544] ?_ ?_ ?_ rfl (hof _) ?_);rotate_left 1)|((first|(refine aL (g:=?_) ?_ ?_)|(refine aH (g:=?_) ?_ ?_));rotate_left 1;(focus (simp only[results143,ntmps143,ap,hq,hy,bE,aQ,z0,z1,z2,z3,y0,y1,y2,y3,n1,n4,bH,Int.ofNat_zero,Int.ofNat_one,hmp,A7,if_true,ck,dX,aP,Lm,List.take_of_length_le,Nat.le_refl,Option.bind_some,Bt,Bf,ag,seval,ae]<;>exact rfl)))|omega|refine aG (by decide +kernel) ?_|((first|apply Ca|apply Cb)<;>intro hb)|refine Ai (by omega) ?_|(apply Ai<;>intro hb)
              all_goals ((refine Fin.give [(q,none),(b0+768,some 0)] [y] ?_ ?_ ?_ ?_ ?_ (fun q hq=>by have hqq:=ho q hq;first|(simp only[aD,tgt,Lc,Lo,Lk,Ln,or_false]at hqq ⊢;omega)|(simp only[aD,tgt,Lc,Lo,Lk,Ln,or_false]at hqq))<;>(try simp only[results143,ntmps143,ap,hq,hy,aQ,bi,aX,z0,z1,z2,z3,y0,y1,y2,y3,n1,n4,ec,ag,seval,ae])<;>(try simp only[au])<;>(try omega)))
      | false =>
        have hp:=hp1
        rw[og hb]at hp
        repeat' first|simp only[am,ah,results143,ntmps143,ap,hq,hy,bE,aQ,z0,z1,z2,z3,y0,y1,y2,y3,n1,n4,bH,Int.ofNat_zero,Int.ofNat_one,hwk,Bt,Bf,ag,seval,ae]|exact rfl|refine aa (v:=.any) ?_|(first|(refine ac ?_ (hp _) ?_)|(refine ab ?_ (fun _=>hp _) ?_))|((first|(refine aL (g:=?_) ?_ ?_)|(refine aH (g:=?_) ?_ ?_));rotate_left 1;(focus (simp only[results143,ntmps143,ap,hq,hy,bE,aQ,z0,z1,z2,z3,y0,y1,y2,y3,n1,n4,bH,Int.ofNat_zero,Int.ofNat_one,hwk,Bt,Bf,ag,seval,ae]<;>exact rfl)))|refine aG (by decide +kernel) ?_|((first|apply Ca|apply Cb)<;>intro hb)|refine Ai (by omega) ?_|(apply Ai<;>intro hb)
        all_goals ((refine aJ cm (2) [some b0,some q,some y] ?_ ?_ ?_ ?_;rotate_left 2;(focus (show b0≤_;omega));(focus (refine⟨?_,?_⟩<;>(try simp only[bj,hwk,bE,c8,Int.ofNat_one,hq,hy,aQ,bi,aX,z0,z1,z2,z3,y0,y1,y2,y3,n1,n4,ag,seval,ae,au])<;>(try omega)))))
        all_goals (first|omega|exact⟨by omega,hk1,fun _=>hb⟩|exact⟨by omega,fun _=>hk1 (by omega),fun _=>hb⟩|exact⟨by omega,fun _=>hb⟩|exact⟨by omega,fun _=>hk1 (by omega)⟩|skip)
    · have hm:=Dz hf (hk2 (by omega))
      rcases hve with ⟨_,rfl,rfl⟩|⟨x,h,_⟩
      · repeat' first|simp only[am,ah,results143,ntmps143,ap,hq,hy,bE,aQ,z0,z1,z2,z3,y0,y1,y2,y3,n1,n4,bH,Int.ofNat_zero,Int.ofNat_one,Bt,Bf,ag,seval,ae]|exact rfl|refine aa (v:=.any) ?_|((first|(refine aL (g:=?_) ?_ ?_)|(refine aH (g:=?_) ?_ ?_));rotate_left 1;(focus (simp only[results143,ntmps143,ap,hq,hy,bE,aQ,z0,z1,z2,z3,y0,y1,y2,y3,n1,n4,bH,Int.ofNat_zero,Int.ofNat_one,Bt,Bf,ag,seval,ae]<;>exact rfl)))|refine aG (by decide +kernel) ?_|((first|apply Ca|apply Cb)<;>intro hb)|refine Ai (by omega) ?_|(apply Ai<;>intro hb)
        all_goals ((refine Fin.give [(q,none),(y,none)] [] ?_ ?_ ?_ ?_ ?_ (fun q hq=>by have hqq:=ho q hq;first|(simp only[aD,tgt,Lc,Lo,Lk,Ln,or_false]at hqq ⊢;omega)|(simp only[aD,tgt,Lc,Lo,Lk,Ln,or_false]at hqq))<;>(try simp only[results143,ntmps143,ap,hq,hy,aQ,bi,aX,z0,z1,z2,z3,y0,y1,y2,y3,n1,n4,ec,ag,seval,ae])<;>(try simp only[au])<;>(try omega)))
      · rw[hm]at h;cases h
theorem vf {Q:Post}{st:List Frm}{nm:Nat}{e:Env}{M:ao}{d:Bool}{fs:List (List Nat)}{ops:List Oper}{dst:Option Tmp}{f:Operand}{args:Array Operand}{ats:Array TypeId}{t:TypeId}{pos:String}{af:Array Edge}{gd:Option (Nat×Bool)}{r:List Oper}{i:Nat}{g:FuncId}{fi:List V}{v:V}
  (hf:aA cx.G false e f = .fnb g fi) (h:aC cx Q st nm (e.putD dst (.gd false v)) M d (fs++[[]]) ops r (i+1)):dK cx Q st nm e M d fs false ops ⟨dst,.call ⟨.value f,args,ats⟩,t,pos,af,gd⟩ r i:=by
 unfold dK gE
 refine .inl ?_
 simp only[hf,V.tgt]
 exact⟨[],v,fun h=>(by cases h),h⟩
theorem vW {a x:List UInt8}(h:ce a=some x):x.length≤4:=by
 have hp:∀ o,ew o=some x→x.length≤4:=fun o h=>by
  cases o with
  | none=>cases h
  | some n =>
   cases hm:gD (n:Int) with
   | true=>rw[pk hm]at h;cases h;exact(bt (n:Int)).2
   | false=>rw[so hm]at h;cases h
 unfold ce at h
 repeat' split at h
 all_goals (first|(cases h;simp;done)|exact hp _ h|cases h)
def xu (s:List UInt8):Int:=if aO s≠0 then aO s else match bR s with|none=>80|some _=>0
def Iv (s:List UInt8):List UInt8:=if xu s=0 then (bR s).getD [] else []
def zO (s:List UInt8):V:=.tup [.str (Iv s),.int .i64 (xu s)]
theorem FG {s:List UInt8}(h:aO s≠0):zO s = .tup [.str [],.int .i64 (aO s)]:=by
 have he:xu s=aO s:=by unfold xu;rw[if_pos h]
 unfold zO Iv;rw[he,if_neg h]
theorem jD {s:List UInt8}(h:aO s=0)(h2:bR s=none):zO s = .tup [.str [],.int .i64 80]:=by
 have he:xu s=80:=by unfold xu;rw[if_neg (by simp[h]),h2]
 unfold zO Iv;rw[he];rfl
theorem oN {s x:List UInt8}(h:aO s=0)(h2:bR s=some x):zO s = .tup [.str x,.int .i64 0]:=by
 have he:xu s=0:=by unfold xu;rw[if_neg (by simp[h]),h2]
 unfold zO Iv;rw[he,h2];rfl
section
variable (rest a b:List UInt8) (hr:rest.length≤1000000) (hc:dH 59 rest=some (a,b))
include hr hc
theorem GQ (hm:ce a=none)(q y:Nat)(out:List UInt8)(hout:out.length≤1000000)(M:ao)(nm:Nat)(hqy:q≠y)(hq:M q=some (D4 rest y out.length))(hy:M y=some (rK out))(ho:∀ w,(M w).isSome=true→w∈[q,y])(hqn:q<nm)(hyn:y<nm) :
  Ev cx 143 nm [.ptr q 0 0] M (.bool false) [(q,some (D4 rest y out.length)),(y,some (rK out))]:=by
 rcases mU a with ⟨x,_,h,_⟩|⟨hf,_⟩
 ·rw[hm]at h;cases h
 ·exact uO rest a b hr hc hf q y out hout M nm hqy hq hy ho hqn hyn _ _ (.inl ⟨hm,rfl,rfl⟩)
theorem D7 (x:List UInt8)(hm:ce a=some x)(q y:Nat)(out:List UInt8)(hout:out.length≤1000000)(M:ao)(nm:Nat)(hqy:q≠y)(hq:M q=some (D4 rest y out.length))(hy:M y=some (rK out))(ho:∀ w,(M w).isSome=true→w∈[q,y])(hqn:q<nm)(hyn:y<nm) :
  Ev cx 143 nm [.ptr q 0 0] M (.bool true) [(y,none),(q,some (D4 b nm (out++x).length)),(nm,some (rK (out++x)))]:=by
 rcases mU a with ⟨x',hf,h,hx⟩|⟨hf,_⟩
 ·rw[hm]at h;cases h
  exact AH rest a b x hr hc hf hx q y out hout M nm hqy hq hy ho hqn hyn
 ·exact uO rest a b hr hc hf q y out hout M nm hqy hq hy ho hqn hyn _ _ (.inr ⟨x,hm,rfl,rfl⟩)
end
structure RSt where
 rest:List UInt8
 out:List UInt8
def RSt.inv (s:List UInt8)(x:RSt):Prop:=bR s=(bR x.rest).map (x.out ++ ·)∧x.rest.length≤s.length∧x.out.length≤4*(s.length-x.rest.length)
theorem IW (o:Option (List UInt8))(a b:List UInt8):(o.map (b ++ ·)).map (a ++ ·)=o.map ((a++b) ++ ·):=by cases o<;>simp
theorem qt (s:List UInt8)(hs:s.length≤bk)(nm:Nat):Ev cx 124 nm [.str s] ao.nil (zO s) []:=by
  by_cases hz:aO s=0
  · have hb:(aO s != 0)=false:=by rw[hz];rfl
    have hlen:=sr hz
    refine ay rfl (fun cargs w=>call124 cargs w) func124 rfl mixed (by kernel_rfl) rfl ?_;intro b0 hb0
    repeat' first|simp only[am,ah,results124,ntmps124,ap,hb,ag,seval,ae]|exact rfl|refine aa (v:=.any) ?_|(first|(refine ac ?_ (cP s hs _) ?_)|(refine ab ?_ (fun _=>cP s hs _) ?_))|((first|(refine aL (g:=?_) ?_ ?_)|(refine aH (g:=?_) ?_ ?_));rotate_left 1;(focus (simp only[results124,ntmps124,ap,hb,ag,seval,ae]<;>exact rfl)))|((first|apply Ca|apply Cb)<;>intro hb)|refine Ai (by omega) ?_|(apply Ai<;>intro hb)
    (refine aV cm (fun x:RSt=>x.rest.length) (fun x=>x.inv s) (b0+16) (fun x=>[(5,.ptr b0 0 0),(6,.fnb 143 [.ptr b0 0 0])]) (fun x=>[(b0,D4 x.rest (b0+1) x.out.length),(b0+1,rK x.out)]) (RSt.mk s []) [some (b0+144),none] ?_ ?_ ?_ ?_;rotate_left 1;(focus (show b0≤_;omega));(focus (refine⟨?_,?_⟩<;>(try simp only[bj,cA,aQ,bi,aX,c8,aU,Lo,List.length_nil,ag,seval,ae,au])<;>(try omega)));rotate_left 1)
    · refine⟨?_,Nat.le_refl _,Nat.zero_le _⟩
      cases bR s<;>rfl
    · rintro ⟨rest,out⟩ ⟨h1,h2,h3⟩
      simp only at h1 h2 h3
      cases rest with
      | nil =>
        have hd:(([]:List UInt8) != [])=false:=rfl
        have hr:bR s=some out:=by rw[h1,jN];simp
        have hv:=oN hz hr
        have htk:(out.map aN).take out.length=out.map aN:=List.take_of_length_le (by simp)
        (repeat' first|simp only[am,ah,results124,ntmps124,ap,hd,hv,htk,cA,aQ,Lm,Nat.le_refl,ag,seval,ae]|exact rfl|refine aa (v:=.any) ?_|(refine ui (v:=?_) (bs:=out) ?_ ?_ ?_ ?_ ?_ ?_ ?_;rotate_left 1;(iterate 2 (focus (simp only[results124,ntmps124,ap,hd,hv,htk,cA,aQ,Lm,Nat.le_refl,ag,seval,ae];done)));(focus (simp only[results124,ntmps124,ap,hd,hv,htk,cA,aQ,Lm,Nat.le_refl,ag,seval,ae]<;>exact rfl));(focus (exact rfl));(focus (simp only[ah,results124,ntmps124,ap,hd,hv,htk,cA,aQ,Lm,Nat.le_refl,ag,seval,ae];done));(focus (simp only[results124,ntmps124,ap,hd,hv,htk,cA,aQ,Lm,Nat.le_refl,ag,seval,ae]<;>exact rfl)))|(refine bh ?_)|(refine ba ?_)|((first|(refine aL (g:=?_) ?_ ?_)|(refine aH (g:=?_) ?_ ?_));rotate_left 1;(focus (simp only[results124,ntmps124,ap,hd,hv,htk,cA,aQ,Lm,Nat.le_refl,ag,seval,ae]<;>exact rfl)))|((first|apply Ca|apply Cb)<;>intro hb)|refine Ai (by omega) ?_|(apply Ai<;>intro hb)|refine Fin.pure ?_ ?_ ?_|simp only[au])
      | cons c r =>
        have hd:(!((c::r)==[]))=true:=rfl
        have hl0:0<(c::r).length:=by simp
        have hl1:1≤(c::r).length:=by simp
        have hl2:(1:Int)≤((c::r).length:Int):=by simp only[List.length_cons];omega
        simp only[List.length_cons]at hl0 hl1 hl2 h2 h3
        have q60:((c.toNat:Int)==60)=decide (c=60):=fI c 60
        have q38:((c.toNat:Int)==38)=decide (c=38):=fI c 38
        by_cases c60:c=60
        · have d60:decide (c=60)=true:=decide_eq_true c60
          rw[d60]at q60
          have hr:bR s=none:=by rw[h1,c60,lF];rfl
          have hv:=jD hz hr
          (repeat' first|simp only[am,ah,results124,ntmps124,ap,hd,hl0,hl1,hl2,hv,q60,cA,aQ,List.getElem?_cons_zero,List.drop_succ_cons,List.drop_zero,ag,seval,ae]|exact rfl|refine aa (v:=.any) ?_|((first|(refine aL (g:=?_) ?_ ?_)|(refine aH (g:=?_) ?_ ?_));rotate_left 1;(focus (simp only[results124,ntmps124,ap,hd,hl0,hl1,hl2,hv,q60,cA,aQ,List.getElem?_cons_zero,List.drop_succ_cons,List.drop_zero,ag,seval,ae]<;>exact rfl)))|((first|apply Ca|apply Cb)<;>intro hb)|refine Ai (by omega) ?_|(apply Ai<;>intro hb)|refine Fin.pure ?_ ?_ ?_|simp only[au])
        have d60:decide (c=60)=false:=decide_eq_false c60
        rw[d60]at q60
        by_cases c38:c=38
        · have d38:decide (c=38)=true:=decide_eq_true c38
          rw[d38]at q38
          subst c38
          cases hc:dH 59 r with
          | none =>
            have hr:bR s=none:=by rw[h1,iO hc];rfl
            have hv:=jD hz hr
            have href:=D6 r (by omega) hc b0 (b0+1) out
            (repeat' first|simp only[am,ah,results124,ntmps124,ap,hd,hl0,hl1,hl2,hv,q60,q38,cA,aQ,List.getElem?_cons_zero,List.drop_succ_cons,List.drop_zero,Bf,ag,seval,ae]|exact rfl|refine aa (v:=.any) ?_|((refine kX (fi:=?_) ?_ ?_ [b0,b0+1] (href _ _ (by omega) ?_ ?_ ak (by omega) (by omega)) ?_ ?_);rotate_left 1)|((first|(refine aL (g:=?_) ?_ ?_)|(refine aH (g:=?_) ?_ ?_));rotate_left 1;(focus (simp only[results124,ntmps124,ap,hd,hl0,hl1,hl2,hv,q60,q38,cA,aQ,List.getElem?_cons_zero,List.drop_succ_cons,List.drop_zero,Bf,ag,seval,ae]<;>exact rfl)))|((first|apply Ca|apply Cb)<;>intro hb)|refine Ai (by omega) ?_|(apply Ai<;>intro hb)|refine Fin.pure ?_ ?_ ?_|simp only[au])
          | some p =>
            obtain⟨a,b⟩:=p
            have hcl:=rl hc
            cases hm:ce a with
            | none =>
              have hr:bR s=none:=by rw[h1,jM hc hm];rfl
              have hv:=jD hz hr
              have href:=GQ r a b (by omega) hc hm b0 (b0+1) out (by omega)
              (repeat' first|simp only[am,ah,results124,ntmps124,ap,hd,hl0,hl1,hl2,hv,q60,q38,cA,aQ,List.getElem?_cons_zero,List.drop_succ_cons,List.drop_zero,Bf,ag,seval,ae]|exact rfl|refine aa (v:=.any) ?_|((refine kX (fi:=?_) ?_ ?_ [b0,b0+1] (href _ _ (by omega) ?_ ?_ ak (by omega) (by omega)) ?_ ?_);rotate_left 1)|((first|(refine aL (g:=?_) ?_ ?_)|(refine aH (g:=?_) ?_ ?_));rotate_left 1;(focus (simp only[results124,ntmps124,ap,hd,hl0,hl1,hl2,hv,q60,q38,cA,aQ,List.getElem?_cons_zero,List.drop_succ_cons,List.drop_zero,Bf,ag,seval,ae]<;>exact rfl)))|((first|apply Ca|apply Cb)<;>intro hb)|refine Ai (by omega) ?_|(apply Ai<;>intro hb)|refine Fin.pure ?_ ?_ ?_|simp only[au])
            | some x =>
              have hxl:=vW hm
              have hr:bR s=(bR b).map ((out++x) ++ ·):=by rw[h1,jO hc hm,IW]
              have href:=D7 r a b (by omega) hc x hm b0 (b0+1) out (by omega)
              have q38n:(((38:UInt8).toNat:Int) != 38)=false:=rfl
              repeat' first|simp only[am,ah,results124,ntmps124,ap,hd,hl0,hl1,hl2,q60,q38,q38n,cA,aQ,aP,List.getElem?_cons_zero,List.drop_succ_cons,List.drop_zero,Bt,ag,seval,ae]|exact rfl|refine aa (v:=.any) ?_|((refine kX (fi:=?_) ?_ ?_ [b0,b0+1] (href _ _ (by omega) ?_ ?_ ak (by omega) (by omega)) ?_ ?_);rotate_left 1)|((first|(refine aL (g:=?_) ?_ ?_)|(refine aH (g:=?_) ?_ ?_));rotate_left 1;(focus (simp only[results124,ntmps124,ap,hd,hl0,hl1,hl2,q60,q38,q38n,cA,aQ,aP,List.getElem?_cons_zero,List.drop_succ_cons,List.drop_zero,Bt,ag,seval,ae]<;>exact rfl)))|((first|apply Ca|apply Cb)<;>intro hb)|refine Ai (by omega) ?_|(apply Ai<;>intro hb)
              all_goals ((refine aJ cm (RSt.mk b (out++x)) [some b0,some (b0+448)] ?_ ?_ ?_ ?_;rotate_left 2;(focus (show b0≤_;omega));(focus (refine⟨?_,?_⟩<;>(try simp only[bj,cA,aQ,bi,aX,c8,aU,Lm,ag,seval,ae,au])<;>(try omega)))))
              all_goals (first|(show b.length<(38::r).length;simp only[List.length_cons];omega)|(refine⟨hr,?_,?_⟩<;>simp only[List.length_append]<;>omega)|skip)
        · have d38:decide (c=38)=false:=decide_eq_false c38
          rw[d38]at q38
          have q38n:((c.toNat:Int) != 38)=true:=by unfold bne;rw[q38];rfl
          have hr:bR s=(bR r).map ((out++[c]) ++ ·):=by rw[h1,fG c60 c38];cases bR r<;>simp
          have hsn:out.map aN++[[V.int .u8 c.toNat]]=(out++[c]).map aN:=by rw[List.map_append];rfl
          repeat' first|simp only[am,ah,results124,ntmps124,ap,hd,hl0,hl1,hl2,q60,q38,q38n,hsn,cA,aQ,aP,A7,if_true,ck,dX,Lm,List.take_of_length_le,Nat.le_refl,Option.bind_some,List.getElem?_cons_zero,List.drop_succ_cons,List.drop_zero,Bt,Bf,ag,seval,ae]|exact rfl|refine aa (v:=.any) ?_|((refine vf (v:=.any) (g:=?_) (fi:=?_) ?_ ?_);rotate_left 2)|((first|(refine aL (g:=?_) ?_ ?_)|(refine aH (g:=?_) ?_ ?_));rotate_left 1;(focus (simp only[results124,ntmps124,ap,hd,hl0,hl1,hl2,q60,q38,q38n,hsn,cA,aQ,aP,A7,if_true,ck,dX,Lm,List.take_of_length_le,Nat.le_refl,Option.bind_some,List.getElem?_cons_zero,List.drop_succ_cons,List.drop_zero,Bt,Bf,ag,seval,ae]<;>exact rfl)))|((first|apply Ca|apply Cb)<;>intro hb)|refine Ai (by omega) ?_|(apply Ai<;>intro hb)
          all_goals ((refine aJ cm (RSt.mk r (out++[c])) [some b0,some (b0+672)] ?_ ?_ ?_ ?_;rotate_left 2;(focus (show b0≤_;omega));(focus (refine⟨?_,?_⟩<;>(try simp only[bj,cA,aQ,bi,aX,c8,aU,Lm,List.length_append,List.length_cons,List.length_nil,ag,seval,ae,au])<;>(try omega)))))
          all_goals (first|(show r.length<(c::r).length;simp only[List.length_cons];omega)|(refine⟨hr,?_,?_⟩<;>simp only[List.length_append,List.length_cons,List.length_nil]<;>omega)|skip)
  · have hb:(aO s != 0)=true:=by rw[bne_iff_ne];exact hz
    have hv:=FG hz
    refine ay rfl (fun cargs w=>call124 cargs w) func124 rfl mixed (by kernel_rfl) rfl ?_;intro b0 hb0
    (repeat' first|simp only[am,ah,results124,ntmps124,ap,hb,hv,ag,seval,ae]|exact rfl|refine aa (v:=.any) ?_|(first|(refine ac ?_ (cP s hs _) ?_)|(refine ab ?_ (fun _=>cP s hs _) ?_))|((first|(refine aL (g:=?_) ?_ ?_)|(refine aH (g:=?_) ?_ ?_));rotate_left 1;(focus (simp only[results124,ntmps124,ap,hb,hv,ag,seval,ae]<;>exact rfl)))|((first|apply Ca|apply Cb)<;>intro hb)|refine Ai (by omega) ?_|(apply Ai<;>intro hb)|refine Fin.pure ?_ ?_ ?_|simp only[au])
theorem NY:∀ n:Nat,n<256→(decide (97≤IntKind.u8.wrap ((BitVec.ofInt IntKind.u8.bits (n:Int) ||| BitVec.ofInt IntKind.u8.bits 32).toNat:Int))&&decide (IntKind.u8.wrap ((BitVec.ofInt IntKind.u8.bits (n:Int) ||| BitVec.ofInt IntKind.u8.bits 32).toNat:Int)≤122))=((decide (97≤n)&&decide (n≤122))||(decide (65≤n)&&decide (n≤90))):=by decide +kernel
theorem yl:∀ p1 p2 p5 f p6 p7 p8 p9:Bool,(p1=true∧p2=true)∨(p1=true∧p2=false∧p5=true)∨(p1=false∧p5=true)∨(p1=true∧p2=false∧p5=false∧f=true)∨(p1=false∧p5=false∧f=true) ∨
  (p1=true∧p2=false∧p5=false∧f=false∧p6=true∧p7=true)∨(p1=true∧p2=false∧p5=false∧f=false∧p6=true∧p7=false∧p8=true)∨(p1=true∧p2=false∧p5=false∧f=false∧p6=true∧p7=false∧p8=false) ∨
  (p1=true∧p2=false∧p5=false∧f=false∧p6=false∧p8=true)∨(p1=true∧p2=false∧p5=false∧f=false∧p6=false∧p8=false) ∨
  (p1=false∧p5=false∧f=false∧p6=true∧p7=true)∨(p1=false∧p5=false∧f=false∧p6=true∧p7=false∧p8=true)∨(p1=false∧p5=false∧f=false∧p6=true∧p7=false∧p8=false) ∨
  (p1=false∧p5=false∧f=false∧p6=false∧p8=true)∨(p1=false∧p5=false∧f=false∧p6=false∧p8=false):=by
 intro p1 p2 p5 f p6 p7 p8 p9;cases p1<;>cases p2<;>cases p5<;>cases f<;>cases p6<;>cases p7<;>cases p8<;>simp
theorem GK {c:UInt8}{f p1 p2 p5 p6 p7 p8 p9:Bool}(h1:decide (97≤IntKind.u8.wrap ((BitVec.ofInt IntKind.u8.bits (c.toNat:Int) ||| BitVec.ofInt IntKind.u8.bits 32).toNat:Int))=p1)(h2:decide (IntKind.u8.wrap ((BitVec.ofInt IntKind.u8.bits (c.toNat:Int) ||| BitVec.ofInt IntKind.u8.bits 32).toNat:Int)≤122)=p2)
  (h5:decide (c=95)=p5) (h6:decide ((48:Int)≤c.toNat)=p6) (h7:decide ((c.toNat:Int)≤57)=p7) (h8:decide (c=46)=p8) (h9:decide (c=45)=p9):iM f c=((p1&&p2)||p5||(!f&&((p6&&p7)||p8||p9))):=by
 have e:=NY c.toNat c.toNat_lt
 rw[h1,h2]at e
 unfold iM ML
 rw[← e,← h5,← h6,← h7,← h8,← h9]
 have e1:((48:Int)≤c.toNat)=(48≤c.toNat):=propext (by omega)
 have e2:((c.toNat:Int)≤57)=(c.toNat≤57):=propext (by omega)
 simp only[e1,e2]
theorem wa (c:UInt8)(f:Bool)(nm:Nat):Ev cx 43 nm [.int .u8 c.toNat,.bool f] ao.nil (.bool (iM f c)) []:=by
 have q5:((c.toNat:Int)==95)=decide (c=95):=fI c 95
 have q8:((c.toNat:Int)==46)=decide (c=46):=fI c 46
 have q9:((c.toNat:Int)==45)=decide (c=45):=fI c 45
 generalize h1:decide (97≤IntKind.u8.wrap ((BitVec.ofInt IntKind.u8.bits (c.toNat:Int) ||| BitVec.ofInt IntKind.u8.bits 32).toNat:Int))=p1
 generalize h2:decide (IntKind.u8.wrap ((BitVec.ofInt IntKind.u8.bits (c.toNat:Int) ||| BitVec.ofInt IntKind.u8.bits 32).toNat:Int)≤122)=p2
 generalize h5:decide (c=95)=p5
 generalize h6:decide ((48:Int)≤c.toNat)=p6
 generalize h7:decide ((c.toNat:Int)≤57)=p7
 generalize h8:decide (c=46)=p8
 generalize h9:decide (c=45)=p9
 have he:=GK (f:=f) h1 h2 h5 h6 h7 h8 h9
 rcases yl p1 p2 p5 f p6 p7 p8 p9 with ⟨rfl,rfl⟩|⟨rfl,rfl,rfl⟩|⟨rfl,rfl⟩|⟨rfl,rfl,rfl,rfl⟩|⟨rfl,rfl,rfl⟩|⟨rfl,rfl,rfl,rfl,rfl,rfl⟩|⟨rfl,rfl,rfl,rfl,rfl,rfl,rfl⟩|⟨rfl,rfl,rfl,rfl,rfl,rfl,rfl⟩|⟨rfl,rfl,rfl,rfl,rfl,rfl⟩|⟨rfl,rfl,rfl,rfl,rfl,rfl⟩|⟨rfl,rfl,rfl,rfl,rfl⟩|⟨rfl,rfl,rfl,rfl,rfl,rfl⟩|⟨rfl,rfl,rfl,rfl,rfl,rfl⟩|⟨rfl,rfl,rfl,rfl,rfl⟩|⟨rfl,rfl,rfl,rfl,rfl⟩
 all_goals simp only[Bool.true_and,Bool.false_and,Bool.and_false,Bool.true_or,Bool.or_true,Bool.false_or,Bool.or_false,Bool.and_true,Bt,Bf]at he
 all_goals (
  refine ay rfl (fun cargs w=>call43 cargs w) func43 rfl mixed (by kernel_rfl) rfl ?_;intro b0 hb0
  (repeat' first|simp only[am,ah,results43,ntmps43,ap,q5,q8,q9,h1,h2,h5,h6,h7,h8,h9,he,ag,seval,ae]|exact rfl|refine aa (v:=.any) ?_|((first|apply Ca|apply Cb)<;>intro hb)|refine Ai (by omega) ?_|(apply Ai<;>intro hb)|refine Fin.pure ?_ ?_ ?_|simp only[au]))
end Go.Proofs.YtcllbjanalhjgaaGreatDoor
