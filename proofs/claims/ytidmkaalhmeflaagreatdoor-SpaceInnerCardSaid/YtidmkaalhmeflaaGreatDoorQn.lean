/-
 Texts joined: XNq,XNr,XPe,XLo,XLj,XPd,XPf.
-/
import Derived.Test.YtidmkaalhmeflaaGreatDoorQm
import Derived.Test.YtidmkaalhmeflaaGreatDoorQe
import Derived.Test.YtidmkaalhmeflaaGreatDoorQk
import Derived.Test.YtidmkaalhmeflaaGreatDoorQo
namespace Go.Proofs.YtidmkaalhmeflaaGreatDoor
set_option maxRecDepth 100000
set_option maxHeartbeats 32000000
set_option linter.unusedSimpArgs false
set_option linter.unusedVariables false
open Go Go.RowKit Vm Go.Lib Tryz
open Vm renaming aZ→Ca,bj→Cb
open And renaming intro→Ai
open List renaming length_map→Lm,not_mem_nil→Ln,map_nil→Lo,map_cons→Lc,mem_cons→Lk
open Bool renaming not_false→Bf,not_true→Bt
section
variable {cx:Cx} {Q:Post} {st:List Frm} {nm:Nat} {e:Env} {M:aq} {d:Bool} {fs:List (List Nat)} {ops r:List Oper} {dst:Option Tmp} {t:TypeId} {pos:String} {af:Array Edge} {gd:Option (Nat×Bool)} {i:Nat}
theorem nL {P:Program}{w:World}{xt t:TypeId}(v:Value)(h:Ef P t=true):(Instr.typeAssert (.iface t v) xt t false).run P w = .ok v w:=by
 unfold Ef at h
 cases hu:P.underlying t with
 | none=>rw[hu]at h;cases h
 | some u =>
  rw[hu]at h
  simp only[Instr.typeAssert,Sem.run_bind,run_underlying hu w,Result.andThen_ok]
  cases u<;>first|(simp;done)|cases h
theorem iZ {xt ty:TypeId}{x:Operand}{u:V}(hx:aA cx.G true e x = .iface ty u)(ht:Ef cx.P ty=true)
  (h:aE cx Q st nm (e.putD dst u) M d (fs++[[]]) ops r (i+1)):bM cx Q st nm e M d fs ops ⟨dst,.typeAssert x xt ty false,t,pos,af,gd⟩ r i:=by
 refine⟨_,[],_,⟨fun x hx=>by simp[ak]at hx,fun x hx=>by simp[ak]at hx,fun h=>absurd rfl h,fun h=>absurd rfl h,?_⟩,h⟩
 intro N X w0 I ρ e' M' a w hr he hin hev hMM hf
 have hxi:=he.eval hr (c:=true) rfl (hin x (by simp[Op.operands]))
 rw[hev x (by simp[Op.operands]),hx]at hxi
 cases hc:a.eval x with
 | iface t' v' =>
  rw[hc]at hxi
  cases hxi with
  | iface hv=>exact⟨v',w,(dx.still (nm:=nm+16*i) hr hv).n,gC (s:=Instr.typeAssert (a.eval x) xt ty false) rfl (by rw[hc];exact nL v' ht)⟩
 | _=>rw[hc]at hxi;cases hxi
end
theorem Ev.dd {D:List Deferred}{f:FuncId}{nm:Nat}{args:List V}{M:aq}{v:V}{eff:List (Nat×Option Blk)}(h:Ev cx f nm args M v eff):Ev ⟨cx.P,cx.G,D⟩ f nm args M v eff:=h
theorem xI.dd {D:List Deferred}{f:FuncId}{nm:Nat}{args:List V}{M:aq}{v:V}(h:xI cx f nm args M v):xI ⟨cx.P,cx.G,D⟩ f nm args M v:=h
theorem AN (s t n r:List UInt8)(hs:s.length≤16384)(h1:bY 60 s=some t)(tag:∀(M:aq) (nm q:Nat),M q=some (bQ t)→(∀ z,(M z).isSome=true→z∈[q])→q<nm→Ev cx 187 nm [.ptr q 0 0] M (.agg [.int .u8 2,.str n,.nils,.str []]) [(q,some (bQ r))])(q:Nat)(M:aq)(nm:Nat)(hq:M q=some (bQ s))(ho:∀ z,(M z).isSome=true→z∈[q])(hqn:q<nm) :
  Ev cx 152 nm [.ptr q 0 0] M (.tup [.agg [.int .u8 2,.str n,.nils,.str []],.int .i64 0]) [(q,some (bQ r))]:=by
 have p1:=fun D (q:Nat) M nm a b c=>Ev.dd (D:=D) (cN s [60] true (by omega) (by decide) (by rw[eD,h1];rfl) q M nm a b c)
 have hst:=bX h1
 subst hst
 simp only[if_true,List.drop_succ_cons,List.drop_zero,List.length_cons,List.length_nil]at p1
 have tg:=fun D M nm (q:Nat) a b c=>Ev.dd (D:=D) (tag M nm q a b c)
 unfold bQ at hq tg ⊢
 refine lM rfl mixed (fun cargs w=>call152 cargs w) (fun cargs w=>call185 cargs w) func152 rfl ⟨_,_,_,rfl⟩ ⟨_,_,_,_,rfl⟩ (t2:=2) (t3:=3) (N:=9) ⟨⟨_,_,_,_,func185,rfl,rfl,rfl,by decide,by decide,⟨_,_,_,_,rfl⟩,_,_,_,rfl⟩⟩ (by kernel_rfl) (by kernel_rfl) (by kernel_rfl) rfl ?_
 intro b0 hb0
 have lq:q<b0:=ax hb0 (by rw[hq];rfl)
 have z0:=aT lq;have z1:=aw lq;have z2:=aK lq;have z3:=ao lq
 repeat' first|simp only[al,aj,results152,ntmps152,am,hq,z0,z1,z2,z3,ai,seval,ah]|exact rfl|refine aa (v:=.any) ?_|((first|apply Ca|apply Cb)<;>intro hb)|refine Ai (by omega) ?_|(apply Ai<;>intro hb)|fail
 refine⟨rfl,b0,b0+16,?_,?_,fun D=>?_⟩
 ·simp only[ai,seval,ah]
 ·simp only[ai,seval,ah]
 have p1:=p1 D;have tg:=tg D
 repeat' first|simp only[results152,ntmps152,am,hq,z0,z1,z2,z3,ai,seval,ah]|exact rfl|((first|(refine ag ?_ [q] (p1 q _ _ ?_ ap (by omega)) ?_ ?_)|(refine ag ?_ [q] (tg _ _ q ?_ ap (by omega)) ?_ ?_));iterate 3 (focus (simp only[aj,results152,ntmps152,am,hq,z0,z1,z2,z3,ai,seval,ah]<;>exact rfl)))|((first|apply Ca|apply Cb)<;>intro hb)|refine Ai (by omega) ?_|(apply Ai<;>intro hb)|fail
 refine oR ?_ ?_ ?_
 ·simp only[ai,seval,ah]
 ·simp only[ai,seval,ah]
 repeat' first|simp only[al,aj,results185,ntmps185,am,hq,z0,z1,z2,z3,ai,seval,ah]|exact rfl|refine aa (v:=.any) ?_|refine aC (by decide +kernel) ?_|((first|apply Ca|apply Cb)<;>intro hb)|refine Ai (by omega) ?_|(apply Ai<;>intro hb)|fail
 refine⟨rfl,?_⟩
 (refine Fin.give [(q,none)] [] ?_ ?_ ?_ ?_ ?_ (fun q hq=>by have hqq:=ho q hq;first|(simp only[aF,tgt,Lc,Lo,Lk,Ln,or_false]at hqq ⊢;omega)|(simp only[aF,tgt,Lc,Lo,Lk,Ln,or_false]at hqq))<;>(try simp only[results152,ntmps152,am,kr,hq,z0,z1,z2,z3,eH,ai,seval,ah])<;>(try simp only[au])<;>(try omega))
theorem AL (s t n r:List UInt8)(k:Nat)(l:List Pr)(hs:s.length≤16384)(h1:bY 60 s=some t)(tag:∀(M:aq) (nm q:Nat),M q=some (bQ t)→(∀ z,(M z).isSome=true→z∈[q])→q<nm→Ev cx 187 nm [.ptr q 0 0] M (.agg [.int .u8 k,.str n,.own nm 0 l.length,.str []]) [(q,some (bQ r)),(nm,some ⟨2,l.map dj⟩)])(q:Nat)(M:aq)(nm:Nat)(hq:M q=some (bQ s))(ho:∀ z,(M z).isSome=true→z∈[q])(hqn:q<nm) :
  Ev cx 152 nm [.ptr q 0 0] M (.tup [.agg [.int .u8 k,.str n,.own nm 0 l.length,.str []],.int .i64 0]) [(q,some (bQ r)),(nm,some ⟨2,l.map dj⟩)]:=by
 have p1:=fun D (q:Nat) M nm a b c=>Ev.dd (D:=D) (cN s [60] true (by omega) (by decide) (by rw[eD,h1];rfl) q M nm a b c)
 have hst:=bX h1
 subst hst
 simp only[if_true,List.drop_succ_cons,List.drop_zero,List.length_cons,List.length_nil]at p1
 have tg:=fun D M nm (q:Nat) a b c=>Ev.dd (D:=D) (tag M nm q a b c)
 unfold bQ at hq tg ⊢
 refine lM rfl mixed (fun cargs w=>call152 cargs w) (fun cargs w=>call185 cargs w) func152 rfl ⟨_,_,_,rfl⟩ ⟨_,_,_,_,rfl⟩ (t2:=2) (t3:=3) (N:=9) ⟨⟨_,_,_,_,func185,rfl,rfl,rfl,by decide,by decide,⟨_,_,_,_,rfl⟩,_,_,_,rfl⟩⟩ (by kernel_rfl) (by kernel_rfl) (by kernel_rfl) rfl ?_
 intro b0 hb0
 have lq:q<b0:=ax hb0 (by rw[hq];rfl)
 have z0:=aT lq;have z1:=aw lq;have z2:=aK lq;have z3:=ao lq
 repeat' first|simp only[al,aj,results152,ntmps152,am,hq,z0,z1,z2,z3,ai,seval,ah]|exact rfl|refine aa (v:=.any) ?_|((first|apply Ca|apply Cb)<;>intro hb)|refine Ai (by omega) ?_|(apply Ai<;>intro hb)|fail
 refine⟨rfl,b0,b0+16,?_,?_,fun D=>?_⟩
 ·simp only[ai,seval,ah]
 ·simp only[ai,seval,ah]
 have p1:=p1 D;have tg:=tg D
 repeat' first|simp only[results152,ntmps152,am,aR,hq,z0,z1,z2,z3,ai,seval,ah]|exact rfl|((first|(refine ag ?_ [q] (p1 q _ _ ?_ ap (by omega)) ?_ ?_)|(refine ag ?_ [q] (tg _ _ q ?_ ap (by omega)) ?_ ?_));iterate 3 (focus (simp only[aj,results152,ntmps152,am,aR,hq,z0,z1,z2,z3,ai,seval,ah]<;>exact rfl)))|((first|apply Ca|apply Cb)<;>intro hb)|refine Ai (by omega) ?_|(apply Ai<;>intro hb)|fail
 refine oR ?_ ?_ ?_
 ·simp only[ai,seval,ah]
 ·simp only[ai,seval,ah]
 repeat' first|simp only[al,aj,results185,ntmps185,am,hq,z0,z1,z2,z3,ai,seval,ah]|exact rfl|refine aa (v:=.any) ?_|refine aC (by decide +kernel) ?_|((first|apply Ca|apply Cb)<;>intro hb)|refine Ai (by omega) ?_|(apply Ai<;>intro hb)|fail
 refine⟨rfl,?_⟩
 (refine Fin.give [(q,none),(b0+112,some 0)] [] ?_ ?_ ?_ ?_ ?_ (fun q hq=>by have hqq:=ho q hq;first|(simp only[aF,tgt,Lc,Lo,Lk,Ln,or_false]at hqq ⊢;omega)|(simp only[aF,tgt,Lc,Lo,Lk,Ln,or_false]at hqq))<;>(try simp only[results152,ntmps152,am,kr,aL,hq,z0,z1,z2,z3,eH,ai,seval,ah])<;>(try simp only[au])<;>(try omega))
theorem wA (s t:List UInt8)(hs:s.length≤16384)(h1:bY 60 s=some t)(tag:∀(M:aq) (nm q:Nat),M q=some (bQ t)→(∀ z,(M z).isSome=true→z∈[q])→q<nm→xI cx 187 nm [.ptr q 0 0] M z5)(q:Nat)(M:aq)(nm:Nat)(hq:M q=some (bQ s))(ho:∀ z,(M z).isSome=true→z∈[q])(hqn:q<nm) :
  Ev cx 152 nm [.ptr q 0 0] M (.tup [.agg [.int .u8 0,.str [],.nils,.str []],.int .i64 80]) [(q,none)]:=by
 have p1:=fun D (q:Nat) M nm a b c=>Ev.dd (D:=D) (cN s [60] true (by omega) (by decide) (by rw[eD,h1];rfl) q M nm a b c)
 have hst:=bX h1
 subst hst
 simp only[if_true,List.drop_succ_cons,List.drop_zero,List.length_cons,List.length_nil]at p1
 have tg:=fun D M nm (q:Nat) a b c=>xI.dd (D:=D) (tag M nm q a b c)
 unfold bQ at hq tg
 refine lM rfl mixed (fun cargs w=>call152 cargs w) (fun cargs w=>call185 cargs w) func152 rfl ⟨_,_,_,rfl⟩ ⟨_,_,_,_,rfl⟩ (t2:=2) (t3:=3) (N:=9) ⟨⟨_,_,_,_,func185,rfl,rfl,rfl,by decide,by decide,⟨_,_,_,_,rfl⟩,_,_,_,rfl⟩⟩ (by kernel_rfl) (by kernel_rfl) (by kernel_rfl) rfl ?_
 intro b0 hb0
 have lq:q<b0:=ax hb0 (by rw[hq];rfl)
 have z0:=aT lq;have z1:=aw lq;have z2:=aK lq;have z3:=ao lq
 repeat' first|simp only[al,aj,results152,ntmps152,am,hq,z0,z1,z2,z3,ai,seval,ah]|exact rfl|refine aa (v:=.any) ?_|((first|apply Ca|apply Cb)<;>intro hb)|refine Ai (by omega) ?_|(apply Ai<;>intro hb)|fail
 refine⟨rfl,b0,b0+16,?_,?_,fun D=>?_⟩
 ·simp only[ai,seval,ah]
 ·simp only[ai,seval,ah]
 have p1:=p1 D;have tg:=tg D
 repeat' first|simp only[results152,ntmps152,am,hq,z0,z1,z2,z3,ai,seval,ah]|exact rfl|((refine ag ?_ [q] (p1 q _ _ ?_ ap (by omega)) ?_ ?_);iterate 3 (focus (simp only[aj,results152,ntmps152,am,hq,z0,z1,z2,z3,ai,seval,ah]<;>exact rfl)))|((first|apply Ca|apply Cb)<;>intro hb)|refine Ai (by omega) ?_|(apply Ai<;>intro hb)|fail
 refine cH rfl [q] (tg _ _ q ?_ ap (by omega)) ?_
 ·simp only[aj,am,hq,z0,z1,z2,z3,ai,seval,ah]<;>exact rfl
 simp only[aG,aH,aB,aD,az,io]
 refine sc ?_ ?_ ?_
 ·simp only[ai,seval,ah]
 ·simp only[ai,seval,ah]
 repeat' first|simp only[al,aj,results185,ntmps185,am,z5,iV,Lc,Lo,hq,z0,z1,z2,z3,ai,seval,ah]|exact rfl|refine aa (v:=.any) ?_|(refine Ai (by kernel_rfl) ?_)|(refine iZ rfl (by kernel_rfl) ?_)|refine aC (by decide +kernel) ?_|((first|apply Ca|apply Cb)<;>intro hb)|refine Ai (by omega) ?_|(apply Ai<;>intro hb)|fail
 (refine Fin.give [] [q] ?_ ?_ ?_ ?_ ?_ (fun q hq=>by have hqq:=ho q hq;first|(simp only[aF,tgt,Lc,Lo,Lk,Ln,or_false]at hqq ⊢;omega)|(simp only[aF,tgt,Lc,Lo,Lk,Ln,or_false]at hqq))<;>(try simp only[results152,ntmps152,am,kr,hq,z0,z1,z2,z3,eH,ai,seval,ah])<;>(try simp only[au])<;>(try omega))
theorem yI {s:List UInt8} :(fZ s=[]→indexByte s 60 = -1∧cD s=s)∧(fZ s≠[]→indexByte s 60=((cD s).length:Nat)∧s.take (cD s).length=cD s∧s.drop (cD s).length=fZ s∧(cD s).length<s.length):=by
 have e:s=cD s++fZ s:=(List.takeWhile_append_dropWhile).symm
 have hn:(60:UInt8) ∉ cD s:=fun h=>by
  have:=mZ h
  cases this
 constructor
 ·intro h
  rw[h,List.append_nil]at e
  refine⟨ii.2 (fQ.2 ?_),e.symm⟩
  rw[e];exact hn
 ·intro h
  cases hr:fZ s with
  | nil=>exact absurd hr h
  | cons c r =>
   have h60:=rV s c (by rw[hr];rfl)
   subst h60
   rw[hr]at e
   have hc:dP 60 s=some (cD s,r):=by
    conv=>lhs;rw[e]
    exact mE hn
   obtain⟨i1,i2,i3,i4⟩:=jw hc
   refine⟨i1,i2,?_,by omega⟩
   have:=List.drop_left (l₁:=cD s) (l₂:=60::r)
   rw[← e]at this
   exact this
theorem zB (s x:List UInt8)(hs:s.length≤16384)(hd:(dZ s).isSome=true)(h1:bY 60 s=none)(h2:bV (cD s)=some x)(q:Nat)(M:aq)(nm:Nat)(hq:M q=some (bQ s))(ho:∀ z,(M z).isSome=true→z∈[q])(hqn:q<nm) :
  Ev cx 152 nm [.ptr q 0 0] M (.tup [.agg [.int .u8 4,.str [],.nils,.str x],.int .i64 0]) [(q,some (bQ (fZ s)))]:=by
 have p1:=fun D (q:Nat) M nm a b c=>Ev.dd (D:=D) (cN s [60] false (by omega) (by decide) (by rw[eD,h1];rfl) q M nm a b c)
 simp only[Bool.false_eq_true,if_false]at p1
 have hl:(cD s).length≤s.length:=by
  have:=congrArg List.length ((List.takeWhile_append_dropWhile (p:=jr) (l:=s)).symm)
  unfold cD;rw[List.length_append]at this;omega
 have hp:aQ (cD s)=0:=eR.2 ⟨by omega,(sk hd).1⟩
 obtain⟨x1,x2⟩:=yI (s:=s)
 have gt:=fun D nm=>Ev.dd (D:=D) (rr (cD s) (by unfold bh;omega) nm)
 have ix:=fun D nm=>Ev.dd (D:=D) (oT s 60 nm)
 simp only[pT hp h2]at gt
 unfold bQ at hq ⊢
 refine lM rfl mixed (fun cargs w=>call152 cargs w) (fun cargs w=>call185 cargs w) func152 rfl ⟨_,_,_,rfl⟩ ⟨_,_,_,_,rfl⟩ (t2:=2) (t3:=3) (N:=9) ⟨⟨_,_,_,_,func185,rfl,rfl,rfl,by decide,by decide,⟨_,_,_,_,rfl⟩,_,_,_,rfl⟩⟩ (by kernel_rfl) (by kernel_rfl) (by kernel_rfl) rfl ?_
 intro b0 hb0
 have lq:q<b0:=ax hb0 (by rw[hq];rfl)
 have z0:=aT lq;have z1:=aw lq;have z2:=aK lq;have z3:=ao lq
 repeat' first|simp only[al,aj,results152,ntmps152,am,hq,z0,z1,z2,z3,ai,seval,ah]|exact rfl|refine aa (v:=.any) ?_|((first|apply Ca|apply Cb)<;>intro hb)|refine Ai (by omega) ?_|(apply Ai<;>intro hb)|fail
 refine⟨rfl,b0,b0+16,?_,?_,fun D=>?_⟩
 ·simp only[ai,seval,ah]
 ·simp only[ai,seval,ah]
 have p1:=p1 D;have gt:=gt D;have ix:=ix D
 by_cases hr:fZ s=[]
 ·obtain⟨i1,i2⟩:=x1 hr
  rw[i1]at ix
  rw[i2]at gt
  rw[hr]
  have hneg:decide ((-1:Int)<0)=true:=by decide
  have hz:IntKind.i64.wrap (s.length:Int)=s.length:=aN (by omega) (by omega)
  repeat' first|simp only[results152,ntmps152,am,hq,z0,z1,z2,z3,hneg,List.take_length,List.drop_length,Int.toNat_natCast,Nat.le_refl,Int.le_refl,ai,seval,ah]|exact rfl|((first|(refine ac ?_ (ix _) ?_)|(refine ab ?_ (fun _=>ix _) ?_)|(refine ac ?_ (gt _) ?_)|(refine ab ?_ (fun _=>gt _) ?_));(focus (simp only[results152,ntmps152,am,hq,z0,z1,z2,z3,hneg,List.take_length,List.drop_length,Int.toNat_natCast,Nat.le_refl,Int.le_refl,ai,seval,ah]<;>exact rfl)))|((refine ag ?_ [q] (p1 q _ _ ?_ ap (by omega)) ?_ ?_);iterate 3 (focus (simp only[aj,results152,ntmps152,am,hq,z0,z1,z2,z3,hneg,List.take_length,List.drop_length,Int.toNat_natCast,Nat.le_refl,Int.le_refl,ai,seval,ah]<;>exact rfl)))|((first|apply Ca|apply Cb)<;>intro hb)|refine Ai (by omega) ?_|(apply Ai<;>intro hb)|fail
  refine oR ?_ ?_ ?_
  ·simp only[ai,seval,ah]
  ·simp only[ai,seval,ah]
  repeat' first|simp only[al,aj,results185,ntmps185,am,hq,z0,z1,z2,z3,ai,seval,ah]|exact rfl|refine aa (v:=.any) ?_|refine aC (by decide +kernel) ?_|((first|apply Ca|apply Cb)<;>intro hb)|refine Ai (by omega) ?_|(apply Ai<;>intro hb)|fail
  refine⟨rfl,?_⟩
  (refine Fin.give [(q,none)] [] ?_ ?_ ?_ ?_ ?_ (fun q hq=>by have hqq:=ho q hq;first|(simp only[aF,tgt,Lc,Lo,Lk,Ln,or_false]at hqq ⊢;omega)|(simp only[aF,tgt,Lc,Lo,Lk,Ln,or_false]at hqq))<;>(try simp only[results152,ntmps152,am,kr,hq,z0,z1,z2,z3,eH,ai,seval,ah])<;>(try simp only[au])<;>(try omega))
 ·obtain⟨i1,i2,i3,i4⟩:=x2 hr
  rw[i1]at ix
  have hneg:decide (((cD s).length:Int)<0)=false:=decide_eq_false (by omega)
  have k1:((cD s).length:Int)≤s.length:=by omega
  have k2:(0:Int)≤((cD s).length:Int):=by omega
  have k3:(cD s).length≤s.length:=by omega
  repeat' first|simp only[results152,ntmps152,am,hq,z0,z1,z2,z3,hneg,k1,k2,k3,i2,i3,Int.toNat_natCast,Nat.le_refl,Int.le_refl,ai,seval,ah]|exact rfl|((first|(refine ac ?_ (ix _) ?_)|(refine ab ?_ (fun _=>ix _) ?_)|(refine ac ?_ (gt _) ?_)|(refine ab ?_ (fun _=>gt _) ?_));(focus (simp only[results152,ntmps152,am,hq,z0,z1,z2,z3,hneg,k1,k2,k3,i2,i3,Int.toNat_natCast,Nat.le_refl,Int.le_refl,ai,seval,ah]<;>exact rfl)))|((refine ag ?_ [q] (p1 q _ _ ?_ ap (by omega)) ?_ ?_);iterate 3 (focus (simp only[aj,results152,ntmps152,am,hq,z0,z1,z2,z3,hneg,k1,k2,k3,i2,i3,Int.toNat_natCast,Nat.le_refl,Int.le_refl,ai,seval,ah]<;>exact rfl)))|((first|apply Ca|apply Cb)<;>intro hb)|refine Ai (by omega) ?_|(apply Ai<;>intro hb)|fail
  refine oR ?_ ?_ ?_
  ·simp only[ai,seval,ah]
  ·simp only[ai,seval,ah]
  repeat' first|simp only[al,aj,results185,ntmps185,am,hq,z0,z1,z2,z3,ai,seval,ah]|exact rfl|refine aa (v:=.any) ?_|refine aC (by decide +kernel) ?_|((first|apply Ca|apply Cb)<;>intro hb)|refine Ai (by omega) ?_|(apply Ai<;>intro hb)|fail
  refine⟨rfl,?_⟩
  (refine Fin.give [(q,none)] [] ?_ ?_ ?_ ?_ ?_ (fun q hq=>by have hqq:=ho q hq;first|(simp only[aF,tgt,Lc,Lo,Lk,Ln,or_false]at hqq ⊢;omega)|(simp only[aF,tgt,Lc,Lo,Lk,Ln,or_false]at hqq))<;>(try simp only[results152,ntmps152,am,kr,hq,z0,z1,z2,z3,eH,ai,seval,ah])<;>(try simp only[au])<;>(try omega))
theorem uP (s:List UInt8)(hs:s.length≤16384)(hd:(dZ s).isSome=true)(h1:bY 60 s=none)(h2:bV (cD s)=none)(q:Nat)(M:aq)(nm:Nat)(hq:M q=some (bQ s))(ho:∀ z,(M z).isSome=true→z∈[q])(hqn:q<nm) :
  Ev cx 152 nm [.ptr q 0 0] M (.tup [.agg [.int .u8 0,.str [],.nils,.str []],.int .i64 80]) [(q,none)]:=by
 have p1:=fun D (q:Nat) M nm a b c=>Ev.dd (D:=D) (cN s [60] false (by omega) (by decide) (by rw[eD,h1];rfl) q M nm a b c)
 simp only[Bool.false_eq_true,if_false]at p1
 have hl:(cD s).length≤s.length:=by
  have:=congrArg List.length ((List.takeWhile_append_dropWhile (p:=jr) (l:=s)).symm)
  unfold cD;rw[List.length_append]at this;omega
 have hp:aQ (cD s)=0:=eR.2 ⟨by omega,(sk hd).1⟩
 obtain⟨x1,x2⟩:=yI (s:=s)
 have gt:=fun D nm=>Ev.dd (D:=D) (rr (cD s) (by unfold bh;omega) nm)
 have ix:=fun D nm=>Ev.dd (D:=D) (oT s 60 nm)
 simp only[kg hp h2]at gt
 unfold bQ at hq
 refine lM rfl mixed (fun cargs w=>call152 cargs w) (fun cargs w=>call185 cargs w) func152 rfl ⟨_,_,_,rfl⟩ ⟨_,_,_,_,rfl⟩ (t2:=2) (t3:=3) (N:=9) ⟨⟨_,_,_,_,func185,rfl,rfl,rfl,by decide,by decide,⟨_,_,_,_,rfl⟩,_,_,_,rfl⟩⟩ (by kernel_rfl) (by kernel_rfl) (by kernel_rfl) rfl ?_
 intro b0 hb0
 have lq:q<b0:=ax hb0 (by rw[hq];rfl)
 have z0:=aT lq;have z1:=aw lq;have z2:=aK lq;have z3:=ao lq
 repeat' first|simp only[al,aj,results152,ntmps152,am,hq,z0,z1,z2,z3,ai,seval,ah]|exact rfl|refine aa (v:=.any) ?_|((first|apply Ca|apply Cb)<;>intro hb)|refine Ai (by omega) ?_|(apply Ai<;>intro hb)|fail
 refine⟨rfl,b0,b0+16,?_,?_,fun D=>?_⟩
 ·simp only[ai,seval,ah]
 ·simp only[ai,seval,ah]
 have p1:=p1 D;have gt:=gt D;have ix:=ix D
 by_cases hr:fZ s=[]
 ·obtain⟨i1,i2⟩:=x1 hr
  rw[i1]at ix
  rw[i2]at gt
  have hneg:decide ((-1:Int)<0)=true:=by decide
  have hz:IntKind.i64.wrap (s.length:Int)=s.length:=aN (by omega) (by omega)
  repeat' first|simp only[results152,ntmps152,am,hq,z0,z1,z2,z3,hneg,List.take_length,List.drop_length,Int.toNat_natCast,Nat.le_refl,Int.le_refl,aG,aH,aB,aD,az,io,ai,seval,ah]|exact rfl|((first|(refine ac ?_ (ix _) ?_)|(refine ab ?_ (fun _=>ix _) ?_)|(refine ac ?_ (gt _) ?_)|(refine ab ?_ (fun _=>gt _) ?_));(focus (simp only[results152,ntmps152,am,hq,z0,z1,z2,z3,hneg,List.take_length,List.drop_length,Int.toNat_natCast,Nat.le_refl,Int.le_refl,aG,aH,aB,aD,az,io,ai,seval,ah]<;>exact rfl)))|((refine ag ?_ [q] (p1 q _ _ ?_ ap (by omega)) ?_ ?_);iterate 3 (focus (simp only[aj,results152,ntmps152,am,hq,z0,z1,z2,z3,hneg,List.take_length,List.drop_length,Int.toNat_natCast,Nat.le_refl,Int.le_refl,aG,aH,aB,aD,az,io,ai,seval,ah]<;>exact rfl)))|(refine cH rfl [q] (xI.dd (gK q _ _)) ?_)|((first|apply Ca|apply Cb)<;>intro hb)|refine Ai (by omega) ?_|(apply Ai<;>intro hb)|fail
  refine sc ?_ ?_ ?_
  ·simp only[ai,seval,ah]
  ·simp only[ai,seval,ah]
  repeat' first|simp only[al,aj,results185,ntmps185,am,z5,iV,Lc,Lo,hq,z0,z1,z2,z3,ai,seval,ah]|exact rfl|refine aa (v:=.any) ?_|(refine Ai (by kernel_rfl) ?_)|(refine iZ rfl (by kernel_rfl) ?_)|refine aC (by decide +kernel) ?_|((first|apply Ca|apply Cb)<;>intro hb)|refine Ai (by omega) ?_|(apply Ai<;>intro hb)|fail
  (refine Fin.give [] [q] ?_ ?_ ?_ ?_ ?_ (fun q hq=>by have hqq:=ho q hq;first|(simp only[aF,tgt,Lc,Lo,Lk,Ln,or_false]at hqq ⊢;omega)|(simp only[aF,tgt,Lc,Lo,Lk,Ln,or_false]at hqq))<;>(try simp only[results152,ntmps152,am,kr,hq,z0,z1,z2,z3,eH,ai,seval,ah])<;>(try simp only[au])<;>(try omega))
 ·obtain⟨i1,i2,i3,i4⟩:=x2 hr
  rw[i1]at ix
  have hneg:decide (((cD s).length:Int)<0)=false:=decide_eq_false (by omega)
  have k1:((cD s).length:Int)≤s.length:=by omega
  have k2:(0:Int)≤((cD s).length:Int):=by omega
  have k3:(cD s).length≤s.length:=by omega
  repeat' first|simp only[results152,ntmps152,am,hq,z0,z1,z2,z3,hneg,k1,k2,k3,i2,i3,Int.toNat_natCast,Nat.le_refl,Int.le_refl,aG,aH,aB,aD,az,io,ai,seval,ah]|exact rfl|((first|(refine ac ?_ (ix _) ?_)|(refine ab ?_ (fun _=>ix _) ?_)|(refine ac ?_ (gt _) ?_)|(refine ab ?_ (fun _=>gt _) ?_));(focus (simp only[results152,ntmps152,am,hq,z0,z1,z2,z3,hneg,k1,k2,k3,i2,i3,Int.toNat_natCast,Nat.le_refl,Int.le_refl,aG,aH,aB,aD,az,io,ai,seval,ah]<;>exact rfl)))|((refine ag ?_ [q] (p1 q _ _ ?_ ap (by omega)) ?_ ?_);iterate 3 (focus (simp only[aj,results152,ntmps152,am,hq,z0,z1,z2,z3,hneg,k1,k2,k3,i2,i3,Int.toNat_natCast,Nat.le_refl,Int.le_refl,aG,aH,aB,aD,az,io,ai,seval,ah]<;>exact rfl)))|(refine cH rfl [q] (xI.dd (gK q _ _)) ?_)|((first|apply Ca|apply Cb)<;>intro hb)|refine Ai (by omega) ?_|(apply Ai<;>intro hb)|fail
  refine sc ?_ ?_ ?_
  ·simp only[ai,seval,ah]
  ·simp only[ai,seval,ah]
  repeat' first|simp only[al,aj,results185,ntmps185,am,z5,iV,Lc,Lo,hq,z0,z1,z2,z3,ai,seval,ah]|exact rfl|refine aa (v:=.any) ?_|(refine Ai (by kernel_rfl) ?_)|(refine iZ rfl (by kernel_rfl) ?_)|refine aC (by decide +kernel) ?_|((first|apply Ca|apply Cb)<;>intro hb)|refine Ai (by omega) ?_|(apply Ai<;>intro hb)|fail
  (refine Fin.give [] [q] ?_ ?_ ?_ ?_ ?_ (fun q hq=>by have hqq:=ho q hq;first|(simp only[aF,tgt,Lc,Lo,Lk,Ln,or_false]at hqq ⊢;omega)|(simp only[aF,tgt,Lc,Lo,Lk,Ln,or_false]at hqq))<;>(try simp only[results152,ntmps152,am,kr,hq,z0,z1,z2,z3,eH,ai,seval,ah])<;>(try simp only[au])<;>(try omega))
theorem Dx {n r0 r:List UInt8}{l:List Pr}{t:Tk}(h:iU n l r0=some (t,r)):t=⟨t.kind,n,t.attrs,[]⟩ :=
 tE (n:=n) (P:=fun _ _ u _=>u=⟨u.kind,n,u.attrs,[]⟩) (fun _ _ _ _ _=>rfl) (fun _ _ _ _ _ _ _ _ _ _ _ ih=>ih) _ l r0 t r (Nat.le_refl _) h
theorem qu (s r:List UInt8)(t:Tk)(hs:s.length≤16384)(hd:(dZ s).isSome=true)(h:jj s=some (t,r)) :
  (t.attrs=[] ∧ ∀(q:Nat) (M:aq) (nm:Nat),M q=some (bQ s)→(∀ z,(M z).isSome=true→z∈[q])→q<nm →
   Ev cx 152 nm [.ptr q 0 0] M (.tup [.agg [.int .u8 t.kind,.str t.name,.nils,.str t.text],.int .i64 0]) [(q,some (bQ r))]) ∨
  (t.text=[] ∧ ∀(q:Nat) (M:aq) (nm:Nat),M q=some (bQ s)→(∀ z,(M z).isSome=true→z∈[q])→q<nm →
   Ev cx 152 nm [.ptr q 0 0] M (.tup [.agg [.int .u8 t.kind,.str t.name,.own nm 0 t.attrs.length,.str []],.int .i64 0]) [(q,some (bQ r)),(nm,some ⟨2,t.attrs.map dj⟩)]):=by
 cases h1:bY 60 s with
 | none =>
  unfold jj at h
  rw[h1]at h
  obtain⟨x,h2,h3⟩:=Option.map_eq_some_iff.1 h
  cases h3
  exact .inl ⟨rfl,fun q M nm a b c=>zB s x hs hd h1 h2 q M nm a b c⟩
 | some u =>
  obtain rfl:=bX h1
  have hl:u.length≤16384:=by simp at hs;omega
  have hdu:=(bS (d:=60) (by decide) (a:=[]) hd rfl).2
  unfold jj at h
  rw[h1]at h
  simp only at h
  unfold sM at h
  split at h
  ·rename_i w hw
   obtain⟨⟨n,r1⟩,h2,h3⟩:=Option.bind_eq_some_iff.1 h
   obtain⟨r2,h4,h5⟩:=Option.map_eq_some_iff.1 h3
   cases h5
   exact .inl ⟨rfl,fun q M nm a b c=>AN (60::u) u n r hs h1 (fun M nm q a b c=>Lq u w n r1 r hl hw h2 h4 q M nm a b c) q M nm a b c⟩
  ·rename_i hw
   obtain⟨⟨n,r1⟩,h2,h3⟩:=Option.bind_eq_some_iff.1 h
   have hk:=Dx h3
   obtain⟨k,n',l,x⟩:=t
   simp only[Tk.mk.injEq,true_and]at hk
   obtain⟨rfl,rfl⟩:=hk
   exact .inr ⟨rfl,fun q M nm a b c=>AL (60::u) u n' r k l hs h1 (fun M nm q a b c=>KT u n' r1 r k l hl hdu hw h2 h3 q M nm a b c) q M nm a b c⟩
theorem qB (s:List UInt8)(hs:s.length≤16384)(hd:(dZ s).isSome=true)(h:jj s=none)(q:Nat)(M:aq)(nm:Nat)(hq:M q=some (bQ s))(ho:∀ z,(M z).isSome=true→z∈[q])(hqn:q<nm) :
  Ev cx 152 nm [.ptr q 0 0] M (.tup [.agg [.int .u8 0,.str [],.nils,.str []],.int .i64 80]) [(q,none)]:=by
 cases h1:bY 60 s with
 | none =>
  unfold jj at h
  rw[h1]at h
  exact uP s hs hd h1 (by simpa using h) q M nm hq ho hqn
 | some u =>
  obtain rfl:=bX h1
  have hl:u.length≤16384:=by simp at hs;omega
  have hdu:=(bS (d:=60) (by decide) (a:=[]) hd rfl).2
  unfold jj at h
  rw[h1]at h
  simp only at h
  refine wA (60::u) u hs h1 (fun M nm q a b c=>?_) q M nm hq ho hqn
  cases hw:bY 47 u with
  | some w=>exact Gs u w hl hw h q M nm a b c
  | none =>
   unfold sM at h
   rw[hw]at h
   cases h2:eQ u with
   | none=>exact E3 u hl hw h2 q M nm a b c
   | some p =>
    obtain⟨n,r0⟩:=p
    rw[h2]at h
    exact FK u n r0 hl hdu hw h2 h q M nm a b c
structure LSt where
 l:List Tk
 rest:List UInt8
def LD (A:List Tk×Nat×Int):V:=.tup [.sl false 4 (A.1.map c9),.int .i64 A.2.1,.int .i64 A.2.2]
theorem NJ (s:List UInt8)(hs:s.length≤bh)(nm:Nat):Ev cx 110 nm [.str s] aq.nil (LD (eO s)) []:=by
  have hck:=cV s hs
  by_cases hp:aQ s=0
  · obtain ⟨hsl,hsd⟩:=eR.1 hp
    have hA:eO s=gL s.length [] s:=by unfold eO;rw[if_neg (by simp[hp])]
    rw[hA]
    generalize hB:gL s.length [] s=A
    obtain⟨L,at0,e0⟩:=A
    unfold LD
    rw[hp]at hck
    refine ay rfl (fun cargs w=>call110 cargs w) func110 rfl mixed (by kernel_rfl) rfl ?_;intro b0 hb0
    repeat' first|simp only[al,aj,results110,ntmps110,am,ai,seval,ah]|exact rfl|refine aa (v:=.any) ?_|(first|(refine ac ?_ (hck _) ?_)|(refine ab ?_ (fun _=>hck _) ?_))|((first|apply Ca|apply Cb)<;>intro hb)|refine Ai (by omega) ?_|(apply Ai<;>intro hb)
    (refine aU co (fun x:LSt=>x.rest.length) (fun x=>gL s.length x.l x.rest=(L,at0,e0)∧(dZ x.rest).isSome=true∧x.rest.length≤s.length∧x.l.length≤512) (b0+16) (fun x=>[(0,.str s),(2,.own (b0+1) 0 x.l.length),(6,.ptr b0 0 0)]) (fun x=>[(b0,⟨1,[[.str x.rest]]⟩),(b0+1,⟨4,x.l.map c9⟩)]) (⟨[],s⟩) [some (b0+176),none] ?_ ?_ ?_ ?_;rotate_left 1;(focus (show b0≤_;omega));(focus (refine⟨?_,?_⟩<;>(try simp only[bk,aV,Lo,List.length_nil,ai,seval,ah,au])<;>(try omega)));rotate_left 1)
    · exact⟨hB,hsd,Nat.le_refl _,Nat.zero_le _⟩
    · rintro ⟨xl,xr⟩ ⟨g1,g2,g3,g4⟩
      dsimp only at g1 g2 g3 g4 ⊢
      have hnl:(xl.map c9).length=xl.length:=Lm _
      by_cases hnil:xr=[]
      · subst hnil
        rw[l7]at g1
        cases g1
        have hne:(([]:List UInt8) != [])=false:=by decide
        (repeat' first|simp only[al,aj,results110,ntmps110,am,hne,bi,hnl,List.take_of_length_le,Nat.le_refl,ai,seval,ah]|exact rfl|refine aa (v:=.any) ?_|((first|apply Ca|apply Cb)<;>intro hb)|refine Ai (by omega) ?_|(apply Ai<;>intro hb)|refine Fin.pure ?_ ?_ ?_|simp only[au])
      · have hne:(xr==[])=false:=by simpa using hnil
        have hw1:IntKind.i64.wrap ((s.length:Int)-(xr.length:Int))=((s.length-xr.length:Nat):Int):=by rw[aN (by omega) (by omega)];omega
        by_cases hm:512≤xl.length
        · have hge:decide ((512:Int)≤(xl.length:Int))=true:=decide_eq_true (by omega)
          have hge':decide ((xl.length:Int) ≥ (512:Int))=true:=decide_eq_true (by omega)
          rw[qf hnil hm]at g1
          cases g1
          cases ho:jj xr with
          | none =>
            have hone:=qB xr (by omega) g2 ho
            unfold bQ at hone
            (repeat' first|simp only[al,aj,results110,ntmps110,am,hne,Bf,hw1,hge,hnl,bi,ai,seval,ah]|exact rfl|refine aa (v:=.any) ?_|(refine ag ?_ [b0] (hone b0 _ _ ?_ ap (by omega)) ?_ ?_)|((first|apply Ca|apply Cb)<;>intro hb)|refine Ai (by omega) ?_|(apply Ai<;>intro hb)|refine Fin.pure ?_ ?_ ?_|simp only[au])
          | some p =>
            obtain⟨t,r⟩:=p
            rcases qu xr r t (by omega) g2 ho with ⟨ha,hone⟩|⟨ha,hone⟩
            · unfold bQ at hone
              (repeat' first|simp only[al,aj,results110,ntmps110,am,hne,Bf,hw1,hge,hnl,bi,ai,seval,ah]|exact rfl|refine aa (v:=.any) ?_|(refine ag ?_ [b0] (hone b0 _ _ ?_ ap (by omega)) ?_ ?_)|((first|apply Ca|apply Cb)<;>intro hb)|refine Ai (by omega) ?_|(apply Ai<;>intro hb)|refine Fin.pure ?_ ?_ ?_|simp only[au])
            · unfold bQ at hone
              (repeat' first|simp only[al,aj,results110,ntmps110,am,aR,hne,Bf,hw1,hge,hnl,bi,ai,seval,ah]|exact rfl|refine aa (v:=.any) ?_|(refine ag ?_ [b0] (hone b0 _ _ ?_ ap (by omega)) ?_ ?_)|((first|apply Ca|apply Cb)<;>intro hb)|refine Ai (by omega) ?_|(apply Ai<;>intro hb)|refine Fin.pure ?_ ?_ ?_|simp only[au])
        · have hge:decide ((512:Int)≤(xl.length:Int))=false:=decide_eq_false (by omega)
          cases ho:jj xr with
          | none =>
            rw[s9 hnil (by omega) ho]at g1
            cases g1
            have hone:=qB xr (by omega) g2 ho
            unfold bQ at hone
            (repeat' first|simp only[al,aj,results110,ntmps110,am,hne,Bf,hw1,hge,hnl,bi,ai,seval,ah]|exact rfl|refine aa (v:=.any) ?_|(refine ag ?_ [b0] (hone b0 _ _ ?_ ap (by omega)) ?_ ?_)|((first|apply Ca|apply Cb)<;>intro hb)|refine Ai (by omega) ?_|(apply Ai<;>intro hb)|refine Fin.pure ?_ ?_ ?_|simp only[au])
          | some p =>
            obtain⟨t,r⟩:=p
            have hlt:=wG hnil ho
            have hnl1:(xl++[t]).length=xl.length+1:=by simp
            have hmx:xl.length<512:=by omega
            have hnx:xl.map c9++[c9 t]=(xl++[t]).map c9:=by simp
            have hle:∀(k:Nat) (n x:List UInt8) (a:List Pr) (v:V),v.le (.sl false 2 (a.map dj))→ir (xl.map c9++[[.int .u8 k,.str n,v,.str x]]) ((xl++[(⟨k,n,a,x⟩:Tk)]).map c9):=fun k n x a v hv=>by
              rw[List.map_append]
              refine y4 ⟨⟨V.le_refl _,V.le_refl _,hv,V.le_refl _,trivial⟩,trivial⟩
            have h16z:decide ((0:Int)>16)=false:=by decide
            rcases qu xr r t (by omega) g2 ho with ⟨ha,hone⟩|⟨ha,hone⟩
            · obtain⟨k,n,l,x⟩:=t
              dsimp only at ha
              subst ha
              obtain⟨k1,k2,k3,k4,k5⟩:=v4 hnil ho g2 (by omega) (Nat.zero_le _)
              rw[ri hnil (by omega) ho (Nat.zero_le _)]at g1
              unfold bQ at hone
              repeat' first|simp only[al,aj,results110,ntmps110,am,hne,Bf,hw1,hge,hnl,bi,h16z,ai,seval,ah]|exact rfl|refine aa (v:=.any) ?_|(refine ag ?_ [b0] (hone b0 _ _ ?_ ap (by omega)) ?_ ?_)|((first|apply Ca|apply Cb)<;>intro hb)|refine Ai (by omega) ?_|(apply Ai<;>intro hb)
              all_goals ((refine e9 co (⟨xl++[⟨k,n,[],x⟩],r⟩) [some b0,some (b0+624)] ?_ ?_ ?_ ?_;rotate_left 2;(focus (show b0≤_;omega));(focus (refine⟨?_,?_⟩<;>(try simp only[bk,nc,aV,aL,bi,hnx,hnl1,c9,Lo,ic _ _ (bi _),fE _ _ (bi _),Lm,ai,seval,ah,au])<;>(try omega)))))
              all_goals (first|exact⟨g1,k2,by show r.length≤s.length;omega,by show(xl++[_]).length≤512;simp;omega⟩|(show r.length<xr.length;omega)|exact .inr (hle _ _ _ _ _ (by simp[V.le]))|exact .inr (hle _ _ _ _ _ (V.le_refl _))|skip)
            · obtain⟨k,n,l,x⟩:=t
              dsimp only at ha hone
              subst ha
              by_cases h16:16<l.length
              · rw[nN hnil (by omega) ho h16]at g1
                cases g1
                have h16d:decide ((16:Int)<(l.length:Int))=true:=decide_eq_true (by omega)
                unfold bQ at hone
                (repeat' first|simp only[al,aj,results110,ntmps110,am,aR,hne,Bf,hw1,hge,hnl,bi,h16d,Lm,ai,seval,ah]|exact rfl|refine aa (v:=.any) ?_|(refine ag ?_ [b0] (hone b0 _ _ ?_ ap (by omega)) ?_ ?_)|((first|apply Ca|apply Cb)<;>intro hb)|refine Ai (by omega) ?_|(apply Ai<;>intro hb)|refine Fin.pure ?_ ?_ ?_|simp only[au])
              · have h16d:decide ((16:Int)<(l.length:Int))=false:=decide_eq_false (by omega)
                obtain⟨k1,k2,k3,k4,k5⟩:=v4 hnil ho g2 (by omega) (show l.length≤16 by omega)
                rw[ri hnil (by omega) ho (show l.length≤16 by omega)]at g1
                unfold bQ at hone
                have htp:(l.map dj).take l.length=l.map dj:=List.take_of_length_le (by simp)
                repeat' first|simp only[al,aj,results110,ntmps110,am,aR,hne,Bf,hw1,hge,hnl,bi,aL,h16d,Lm,ai,seval,ah]|exact rfl|refine aa (v:=.any) ?_|(refine ag ?_ [b0] (hone b0 _ _ ?_ ap (by omega)) ?_ ?_)|((first|apply Ca|apply Cb)<;>intro hb)|refine Ai (by omega) ?_|(apply Ai<;>intro hb)
                all_goals ((refine e9 co (⟨xl++[⟨k,n,l,[]⟩],r⟩) [some b0,some (b0+624)] ?_ ?_ ?_ ?_;rotate_left 2;(focus (show b0≤_;omega));(focus (refine⟨?_,?_⟩<;>(try simp only[bk,nc,aV,aL,bi,hnx,hnl1,htp,c9,ic _ _ (bi _),fE _ _ (bi _),Lm,ai,seval,ah,au])<;>(try omega)))))
                all_goals (first|exact⟨g1,k2,by show r.length≤s.length;omega,by show(xl++[_]).length≤512;simp;omega⟩|(show r.length<xr.length;omega)|exact .inr (hle _ _ _ _ _ (by simp[V.le]))|exact .inr (hle _ _ _ _ _ (V.le_refl _))|skip)
  · have hA:eO s=([],0,aQ s):=by unfold eO;rw[if_pos (by simpa using hp)]
    have hb:(aQ s != 0)=true:=by simpa using hp
    rw[hA]
    unfold LD
    refine ay rfl (fun cargs w=>call110 cargs w) func110 rfl mixed (by kernel_rfl) rfl ?_;intro b0 hb0
    (repeat' first|simp only[al,aj,results110,ntmps110,am,hb,ai,seval,ah]|exact rfl|refine aa (v:=.any) ?_|(first|(refine ac ?_ (hck _) ?_)|(refine ab ?_ (fun _=>hck _) ?_))|((first|apply Ca|apply Cb)<;>intro hb)|refine Ai (by omega) ?_|(apply Ai<;>intro hb)|refine Fin.pure ?_ ?_ ?_|simp only[au])
end Go.Proofs.YtidmkaalhmeflaaGreatDoor
namespace Go.Proofs.YtidmkaalhmeflaaGreatDoor
set_option maxRecDepth 100000
set_option maxHeartbeats 32000000
set_option linter.unusedSimpArgs false
set_option linter.unusedVariables false
open Go Go.RowKit Go.Lib
def oH:Nat→List UInt8→Option (List UInt8)
 | _,[]=>some []
 | 0,_::_=>none
 | n+1,c::r=>if c=60 then none else if c=38 then (match dP 59 r with|none=>none|some p=>match cp p.1 with|none=>none|some x=>(oH n p.2).map (x ++ ·)) else (oH n r).map (c :: ·)
theorem oI:∀(n:Nat) (s:List UInt8),s.length≤n→bV s=oH n s
 | n,[],_=>by rw[jZ];cases n<;>rfl
 | 0,c::r,h=>by simp at h
 | n+1,c::r,h=>by
  have hl:r.length≤n:=by simpa using h
  by_cases h1:c=60
  ·subst h1;rw[ls];rfl
  by_cases h2:c=38
  ·subst h2
   cases hc:dP 59 r with
   | none=>rw[jk hc];simp[oH,hc]
   | some p =>
    obtain⟨a,b⟩:=p
    have:=rY hc
    cases hm:cp a with
    | none=>rw[j7 hc hm];simp[oH,hc,hm]
    | some x=>rw[jP hc hm,oI n b (by omega)];simp[oH,hc,hm]
  ·rw[fP h1 h2,oI n r hl];simp[oH,h1,h2]
def BZ (s:List UInt8):Option (List UInt8×List UInt8):=(tA s).bind fun p=>(oH p.1.length (p.1.map ct)).map fun v=>(v,p.2)
theorem Fi (s:List UInt8):iu s=BZ s:=by
 unfold iu BZ yu
 congr 1
 funext p
 rw[oI p.1.length _ (by simp)]
def F1 (s:List UInt8):Option (Pr×List UInt8):=(eQ s).bind fun p=>(bY 61 (bd p.2)).bind fun t=>(BZ (bd t)).map fun q=>(⟨p.1,q.1⟩,q.2)
theorem y7 (s:List UInt8):gB s=F1 s:=by
 unfold gB F1
 congr 1
 funext p
 congr 1
 funext t
 rw[Fi]
def zD:Nat→List UInt8→List Pr→List UInt8→Option (Tk×List UInt8)
 | 0,_,_,_=>none
 | k+1,n,l,s=>match kW (bd s) with
  | some p=>some (⟨p.1,n,l,[]⟩,p.2)
  | none=>if (bd s).length<s.length then (match F1 (bd s) with
   | none=>none
   | some p=>if (l.any fun b=>p.1.name==b.name)=true then none else zD k n (l++[p.1]) p.2) else none
theorem LH:∀(k:Nat) (n:List UInt8) (l:List Pr) (s:List UInt8),s.length≤k→iU n l s=zD (k+1) n l s:=by
 intro k
 induction k with
 | zero =>
  intro n l s h
  obtain rfl:=List.length_eq_zero_iff.1 (Nat.le_zero.1 h)
  rw[kN (by rfl) (by simp[bd])]
  rfl
 | succ k ih =>
  intro n l s h
  have hs:=c5 s
  cases he:kW (bd s) with
  | some p =>
   obtain⟨m,t⟩:=p
   rw[kT he]
   conv=>rhs;unfold zD
   simp only[he]
  | none =>
   by_cases hg:(bd s).length<s.length
   ·cases ha:gB (bd s) with
    | none =>
     rw[rE he ha]
     conv=>rhs;unfold zD
     rw[y7]at ha
     simp only[he,if_pos hg,ha]
    | some p =>
     obtain⟨a,r⟩:=p
     have hl:=ks ha
     have ha':=ha
     rw[y7]at ha'
     cases hd:l.any fun b=>a.name==b.name with
     | true =>
      rw[mf he ha hd]
      conv=>rhs;unfold zD
      simp only[he,if_pos hg,ha',hd,if_true]
     | false =>
      rw[lE he hg ha hd,ih _ _ r (by omega)]
      conv=>rhs;unfold zD
      simp only[he,if_pos hg,ha',hd,Bool.false_eq_true,if_false]
   ·rw[kN he hg]
    conv=>rhs;unfold zD
    simp only[he,if_neg hg]
def L5 (s:List UInt8):Option (Tk×List UInt8) :=
 match bY 47 s with
 | some t=>(eQ t).bind fun p=>(bY 62 (bd p.2)).map fun r=>(⟨2,p.1,[],[]⟩,r)
 | none=>(eQ s).bind fun p=>zD (p.2.length+1) p.1 [] p.2
theorem Jy (s:List UInt8):sM s=L5 s:=by
 unfold sM L5
 cases bY 47 s with
 | some t=>rfl
 | none =>
  simp only
  congr 1
  funext p
  rw[LH p.2.length _ _ _ (Nat.le_refl _)]
def MN (s:List UInt8):Option (Tk×List UInt8) :=
 match bY 60 s with
 | some t=>L5 t
 | none=>(oH (cD s).length (cD s)).map fun x=>(⟨4,[],[],x⟩,fZ s)
theorem CF (s:List UInt8):jj s=MN s:=by
 unfold jj MN
 cases bY 60 s with
 | some t=>exact Jy t
 | none =>
  simp only
  rw[oI _ _ (Nat.le_refl _)]
def Bq:Nat→Nat→List Tk→List UInt8→List Tk×Nat×Int
 | 0,_,l,_=>(l,0,0)
 | k+1,n,l,s=>if s=[] then (l,0,0) else if 512≤l.length then ([],n-s.length,4) else match MN s with
  | none=>([],n-s.length,80)
  | some p=>if 16<p.1.attrs.length then ([],n-s.length,4) else Bq k n (l++[p.1]) p.2
theorem K3:∀(k n:Nat) (l:List Tk) (s:List UInt8),s.length≤k→gL n l s=Bq (k+1) n l s:=by
 intro k
 induction k with
 | zero =>
  intro n l s h
  obtain rfl:=List.length_eq_zero_iff.1 (Nat.le_zero.1 h)
  rw[l7];rfl
 | succ k ih =>
  intro n l s h
  by_cases hs:s=[]
  ·subst hs;rw[l7];rfl
  ·by_cases hm:512≤l.length
   ·rw[qf hs hm]
    conv=>rhs;unfold Bq
    rw[if_neg hs,if_pos hm]
   ·cases ho:jj s with
    | none =>
     rw[s9 hs (by omega) ho]
     rw[CF]at ho
     conv=>rhs;unfold Bq
     simp only[if_neg hs,if_neg hm,ho]
    | some p =>
     obtain⟨t,r⟩:=p
     have hl:=wG hs ho
     have ho':=ho
     rw[CF]at ho'
     by_cases ha:16<t.attrs.length
     ·rw[nN hs (by omega) ho ha]
      conv=>rhs;unfold Bq
      simp only[if_neg hs,if_neg hm,ho',if_pos ha]
     ·rw[ri hs (by omega) ho (by omega),ih _ _ r (by omega)]
      conv=>rhs;unfold Bq
      simp only[if_neg hs,if_neg hm,ho',if_neg ha]
def Hw (s:List UInt8):List Tk×Nat×Int:=if aQ s≠0 then ([],0,aQ s) else Bq (s.length+1) s.length [] s
theorem wz (s:List UInt8):eO s=Hw s:=by
 unfold eO Hw
 rw[K3 s.length _ _ _ (Nat.le_refl _)]
end Go.Proofs.YtidmkaalhmeflaaGreatDoor
namespace Go.Proofs.YtidmkaalhmeflaaGreatDoor
set_option maxRecDepth 100000
set_option maxHeartbeats 32000000
set_option linter.unusedSimpArgs false
set_option linter.unusedVariables false
open Go Go.RowKit Vm Go.Lib Tryz
open Vm renaming aZ→Ca,bj→Cb
open And renaming intro→Ai
open List renaming length_map→Lm,not_mem_nil→Ln,map_nil→Lo,map_cons→Lc,mem_cons→Lk
open Bool renaming not_false→Bf,not_true→Bt
def nA {α:Type}(a b:List α)(k:Nat):Prop:=∀ i,i<k→a[i]? = b[i]?
theorem oq {α:Type}{a b:List α}(hl:a.length=b.length)(h:nA a b a.length):a=b:=by
 refine List.ext_getElem? fun i=>?_
 by_cases hi:i<a.length
 ·exact h i hi
 ·rw[List.getElem?_eq_none (by omega),List.getElem?_eq_none (by omega)]
theorem jE {α:Type}{a b:List α}{k:Nat}{x:α}(h:nA a b k)(ha:a[k]? = some x)(hb:b[k]? = some x):nA a b (k+1):=by
 intro i hi
 by_cases e:i=k
 ·subst e;rw[ha,hb]
 ·exact h i (by omega)
theorem rG {α:Type}{a b:List α}{k:Nat}{x y:α}(ha:a[k]? = some x)(hb:b[k]? = some y)(h:x≠y):a≠b:=by
 rintro rfl
 rw[ha]at hb;cases hb;exact h rfl
theorem Ll (n m:Nat):((n:Int)==(m:Int))=decide (n=m):=by
 rw[Bool.eq_iff_iff,beq_iff_eq,decide_eq_true_iff];omega
theorem ku {n m:Nat}(h:n=m):((n:Int) !=(m:Int))=false:=by subst h;simp
theorem kA {n m:Nat}(h:n≠m):((n:Int) !=(m:Int))=true:=by rw[bne_iff_ne];omega
theorem LS:(∀ M,na M [] []=True)∧(∀ M u v l r,na M (u::l) (v::r)=(o9 M u v∧na M l r))∧(∀ M,mY M []=True)∧(∀ M u l,mY M (u::l)=(mM M u∧mY M l)) ∧
  (∀ M nm lo n sz rows,o9 M (.own nm lo n) (.sl false sz rows)=(sz=dq M nm∧ir (gA [] M (((bp M nm).drop lo).take n)) rows))∧(∀ M nm lo n,mM M (.own nm lo n)=((M nm).isSome=true∧lo+n≤(bp M nm).length∧fk [] M (((bp M nm).drop lo).take n))) ∧
  (∀ M s t,o9 M (.str s) (.str t)=(s=t))∧(∀ M s,mM M (.str s)=True)∧(ir [] []=True) :=
 ⟨DP,Bl,D1,AJ,Hs,HU,Gi,Gc,eq_true trivial⟩
theorem A5 {l:List Pr}{a:Pr}(h:a∈l):(uf a).length≤(iv l).length:=by
 unfold iv
 rw[List.length_flatMap]
 exact tW (f:=fun x=>(uf x).length) h
theorem D8 {l:List Tk}{t:Tk}(h:t∈l):(pO t).length≤(ov l).length:=by
 unfold ov
 rw[List.length_flatMap]
 exact tW (f:=fun x=>(pO x).length) h
theorem Ii {t:Tk}(ht:gI t=true){n:Nat}(hn:(pO t).length≤n):t.okTo (n+16):=by
 obtain⟨k,m,l,x⟩:=t
 unfold gI at ht
 dsimp only at ht
 unfold pO at hn
 dsimp only at hn
 have hx:=(ju false x).1
 split at ht
 ·rename_i hk
  rw[if_neg (show ¬ k=4 by omega),if_neg (show ¬ k=2 by omega)]at hn
  simp only[Bool.and_eq_true,List.isEmpty_iff]at ht
  obtain⟨⟨_,h2⟩,rfl⟩:=ht
  have h16:=(iM.1 h2).1
  simp only[List.length_append,List.length_cons,List.length_nil]at hn
  refine⟨by show l.length≤n+16;omega,by show m.length≤n+16;omega,by simp,fun a ha=>?_⟩
  have h3:=A5 ha
  have h4:=(ju true a.value).1
  simp only[uf,List.length_append,List.length_cons,List.length_nil]at h3
  omega
 ·split at ht
  ·rename_i hk
   subst hk
   rw[if_neg (by decide),if_pos rfl]at hn
   simp only[Bool.and_eq_true,List.isEmpty_iff]at ht
   obtain⟨⟨_,rfl⟩,rfl⟩:=ht
   simp only[List.length_append,List.length_cons,List.length_nil]at hn
   exact⟨by simp,by show m.length≤n+16;omega,by simp,fun a ha=>by simp at ha⟩
  ·split at ht
   ·rename_i hk
    subst hk
    rw[if_pos rfl]at hn
    simp only[Bool.and_eq_true,List.isEmpty_iff]at ht
    obtain⟨⟨⟨rfl,rfl⟩,_⟩,_⟩:=ht
    exact⟨by simp,by simp,by show x.length≤n+16;omega,fun a ha=>by simp at ha⟩
   ·cases ht
theorem KD {t:Tk}{a b:Nat}(h:t.okTo a)(hab:a≤b):t.okTo b:=by
 obtain⟨h1,h2,h3,h4⟩:=h
 exact⟨by omega,by omega,by omega,fun x hx=>by have:=h4 x hx;omega⟩
theorem GN {s:List UInt8}(h:(eO s).2.2=0):∀ t∈(eO s).1,t.okTo (6*s.length+16):=by
 obtain⟨h1,_,_,_,_,h6⟩:=(wb s).1 h
 intro t ht
 exact Ii (h1 t ht) (Nat.le_trans (D8 ht) h6)
theorem zd {t:Tk}(ht:gI t=true):t.attrs.length≤16:=by
 unfold gI at ht
 split at ht
 ·simp only[Bool.and_eq_true]at ht
  exact(iM.1 ht.1.2).1
 ·split at ht
  ·simp only[Bool.and_eq_true,List.isEmpty_iff]at ht
   rw[ht.1.2];simp
  ·split at ht
   ·simp only[Bool.and_eq_true,List.isEmpty_iff]at ht
    rw[ht.1.1.2];simp
   ·cases ht
end Go.Proofs.YtidmkaalhmeflaaGreatDoor
