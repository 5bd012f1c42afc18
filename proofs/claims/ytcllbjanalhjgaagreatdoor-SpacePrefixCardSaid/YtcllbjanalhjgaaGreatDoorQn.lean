/-
 Texts joined: XNq,XNr,XPe,XLo,XLj,XPd,XPf.
-/
import Derived.Test.YtcllbjanalhjgaaGreatDoorQm
import Derived.Test.YtcllbjanalhjgaaGreatDoorQe
import Derived.Test.YtcllbjanalhjgaaGreatDoorQk
import Derived.Test.YtcllbjanalhjgaaGreatDoorQo
namespace Go.Proofs.YtcllbjanalhjgaaGreatDoor
set_option maxRecDepth 100000
set_option maxHeartbeats 32000000
set_option linter.unusedSimpArgs false
set_option linter.unusedVariables false
open Go Go.RowKit Vm Go.Lib Tryz
open Vm renaming be→Ca,bo→Cb
open And renaming intro→Ai
open List renaming length_map→Lm,not_mem_nil→Ln,map_nil→Lo,map_cons→Lc,mem_cons→Lk
open Bool renaming not_false→Bf,not_true→Bt
section
variable {cx:Cx} {Q:Post} {st:List Frm} {nm:Nat} {e:Env} {M:ao} {d:Bool} {fs:List (List Nat)} {ops r:List Oper} {dst:Option Tmp} {t:TypeId} {pos:String} {af:Array Edge} {gd:Option (Nat×Bool)} {i:Nat}
theorem nj {P:Program}{w:World}{xt t:TypeId}(v:Value)(h:Cu P t=true):(Instr.typeAssert (.iface t v) xt t false).run P w = .ok v w:=by
 unfold Cu at h
 cases hu:P.underlying t with
 | none=>rw[hu]at h;cases h
 | some u =>
  rw[hu]at h
  simp only[Instr.typeAssert,Sem.run_bind,run_underlying hu w,Result.andThen_ok]
  cases u<;>first|(simp;done)|cases h
theorem iA {xt ty:TypeId}{x:Operand}{u:V}(hx:aA cx.G true e x = .iface ty u)(ht:Cu cx.P ty=true)
  (h:aC cx Q st nm (e.putD dst u) M d (fs++[[]]) ops r (i+1)):bJ cx Q st nm e M d fs ops ⟨dst,.typeAssert x xt ty false,t,pos,af,gd⟩ r i:=by
 refine⟨_,[],_,⟨fun x hx=>by simp[al]at hx,fun x hx=>by simp[al]at hx,fun h=>absurd rfl h,fun h=>absurd rfl h,?_⟩,h⟩
 intro N X w0 I ρ e' M' a w hr he hin hev hMM hf
 have hxi:=he.eval hr (c:=true) rfl (hin x (by simp[Op.operands]))
 rw[hev x (by simp[Op.operands]),hx]at hxi
 cases hc:a.eval x with
 | iface t' v' =>
  rw[hc]at hxi
  cases hxi with
  | iface hv=>exact⟨v',w,(db.still (nm:=nm+16*i) hr hv).n,gp (s:=Instr.typeAssert (a.eval x) xt ty false) rfl (by rw[hc];exact nj v' ht)⟩
 | _=>rw[hc]at hxi;cases hxi
end
theorem Ev.dd {D:List Deferred}{f:FuncId}{nm:Nat}{args:List V}{M:ao}{v:V}{eff:List (Nat×Option Blk)}(h:Ev cx f nm args M v eff):Ev ⟨cx.P,cx.G,D⟩ f nm args M v eff:=h
theorem wB.dd {D:List Deferred}{f:FuncId}{nm:Nat}{args:List V}{M:ao}{v:V}(h:wB cx f nm args M v):wB ⟨cx.P,cx.G,D⟩ f nm args M v:=h
theorem AD (s t n r:List UInt8)(hs:s.length≤16384)(h1:bS 60 s=some t)(tag:∀(M:ao) (nm q:Nat),M q=some (bO t)→(∀ z,(M z).isSome=true→z∈[q])→q<nm→Ev cx 122 nm [.ptr q 0 0] M (.agg [.int .u8 2,.str n,.nils,.str []]) [(q,some (bO r))])(q:Nat)(M:ao)(nm:Nat)(hq:M q=some (bO s))(ho:∀ z,(M z).isSome=true→z∈[q])(hqn:q<nm) :
  Ev cx 101 nm [.ptr q 0 0] M (.tup [.agg [.int .u8 2,.str n,.nils,.str []],.int .i64 0]) [(q,some (bO r))]:=by
 have p1:=fun D (q:Nat) M nm a b c=>Ev.dd (D:=D) (cH s [60] true (by omega) (by decide) (by rw[eh,h1];rfl) q M nm a b c)
 have hst:=bU h1
 subst hst
 simp only[if_true,List.drop_succ_cons,List.drop_zero,List.length_cons,List.length_nil]at p1
 have tg:=fun D M nm (q:Nat) a b c=>Ev.dd (D:=D) (tag M nm q a b c)
 unfold bO at hq tg ⊢
 refine ld rfl mixed (fun cargs w=>call101 cargs w) (fun cargs w=>call120 cargs w) func101 rfl ⟨_,_,_,rfl⟩ ⟨_,_,_,_,rfl⟩ (t2:=2) (t3:=3) (N:=9) ⟨⟨_,_,_,_,func120,rfl,rfl,rfl,by decide,by decide,⟨_,_,_,_,rfl⟩,_,_,_,rfl⟩⟩ (by kernel_rfl) (by kernel_rfl) (by kernel_rfl) rfl ?_
 intro b0 hb0
 have lq:q<b0:=av hb0 (by rw[hq];rfl)
 have z0:=aS lq;have z1:=aq lq;have z2:=aI lq;have z3:=aj lq
 repeat' first|simp only[am,ah,results101,ntmps101,ap,hq,z0,z1,z2,z3,ag,seval,ae]|exact rfl|refine aa (v:=.any) ?_|((first|apply Ca|apply Cb)<;>intro hb)|refine Ai (by omega) ?_|(apply Ai<;>intro hb)|fail
 refine⟨rfl,b0,b0+16,?_,?_,fun D=>?_⟩
 ·simp only[ag,seval,ae]
 ·simp only[ag,seval,ae]
 have p1:=p1 D;have tg:=tg D
 repeat' first|simp only[results101,ntmps101,ap,hq,z0,z1,z2,z3,ag,seval,ae]|exact rfl|((first|(refine ad ?_ [q] (p1 q _ _ ?_ ak (by omega)) ?_ ?_)|(refine ad ?_ [q] (tg _ _ q ?_ ak (by omega)) ?_ ?_));iterate 3 (focus (simp only[ah,results101,ntmps101,ap,hq,z0,z1,z2,z3,ag,seval,ae]<;>exact rfl)))|((first|apply Ca|apply Cb)<;>intro hb)|refine Ai (by omega) ?_|(apply Ai<;>intro hb)|fail
 refine nF ?_ ?_ ?_
 ·simp only[ag,seval,ae]
 ·simp only[ag,seval,ae]
 repeat' first|simp only[am,ah,results120,ntmps120,ap,hq,z0,z1,z2,z3,ag,seval,ae]|exact rfl|refine aa (v:=.any) ?_|refine aG (by decide +kernel) ?_|((first|apply Ca|apply Cb)<;>intro hb)|refine Ai (by omega) ?_|(apply Ai<;>intro hb)|fail
 refine⟨rfl,?_⟩
 (refine Fin.give [(q,none)] [] ?_ ?_ ?_ ?_ ?_ (fun q hq=>by have hqq:=ho q hq;first|(simp only[aD,tgt,Lc,Lo,Lk,Ln,or_false]at hqq ⊢;omega)|(simp only[aD,tgt,Lc,Lo,Lk,Ln,or_false]at hqq))<;>(try simp only[results101,ntmps101,ap,kf,hq,z0,z1,z2,z3,ec,ag,seval,ae])<;>(try simp only[au])<;>(try omega))
theorem AE (s t n r:List UInt8)(k:Nat)(l:List Pr)(hs:s.length≤16384)(h1:bS 60 s=some t)(tag:∀(M:ao) (nm q:Nat),M q=some (bO t)→(∀ z,(M z).isSome=true→z∈[q])→q<nm→Ev cx 122 nm [.ptr q 0 0] M (.agg [.int .u8 k,.str n,.own nm 0 l.length,.str []]) [(q,some (bO r)),(nm,some ⟨2,l.map da⟩)])(q:Nat)(M:ao)(nm:Nat)(hq:M q=some (bO s))(ho:∀ z,(M z).isSome=true→z∈[q])(hqn:q<nm) :
  Ev cx 101 nm [.ptr q 0 0] M (.tup [.agg [.int .u8 k,.str n,.own nm 0 l.length,.str []],.int .i64 0]) [(q,some (bO r)),(nm,some ⟨2,l.map da⟩)]:=by
 have p1:=fun D (q:Nat) M nm a b c=>Ev.dd (D:=D) (cH s [60] true (by omega) (by decide) (by rw[eh,h1];rfl) q M nm a b c)
 have hst:=bU h1
 subst hst
 simp only[if_true,List.drop_succ_cons,List.drop_zero,List.length_cons,List.length_nil]at p1
 have tg:=fun D M nm (q:Nat) a b c=>Ev.dd (D:=D) (tag M nm q a b c)
 unfold bO at hq tg ⊢
 refine ld rfl mixed (fun cargs w=>call101 cargs w) (fun cargs w=>call120 cargs w) func101 rfl ⟨_,_,_,rfl⟩ ⟨_,_,_,_,rfl⟩ (t2:=2) (t3:=3) (N:=9) ⟨⟨_,_,_,_,func120,rfl,rfl,rfl,by decide,by decide,⟨_,_,_,_,rfl⟩,_,_,_,rfl⟩⟩ (by kernel_rfl) (by kernel_rfl) (by kernel_rfl) rfl ?_
 intro b0 hb0
 have lq:q<b0:=av hb0 (by rw[hq];rfl)
 have z0:=aS lq;have z1:=aq lq;have z2:=aI lq;have z3:=aj lq
 repeat' first|simp only[am,ah,results101,ntmps101,ap,hq,z0,z1,z2,z3,ag,seval,ae]|exact rfl|refine aa (v:=.any) ?_|((first|apply Ca|apply Cb)<;>intro hb)|refine Ai (by omega) ?_|(apply Ai<;>intro hb)|fail
 refine⟨rfl,b0,b0+16,?_,?_,fun D=>?_⟩
 ·simp only[ag,seval,ae]
 ·simp only[ag,seval,ae]
 have p1:=p1 D;have tg:=tg D
 repeat' first|simp only[results101,ntmps101,ap,aP,hq,z0,z1,z2,z3,ag,seval,ae]|exact rfl|((first|(refine ad ?_ [q] (p1 q _ _ ?_ ak (by omega)) ?_ ?_)|(refine ad ?_ [q] (tg _ _ q ?_ ak (by omega)) ?_ ?_));iterate 3 (focus (simp only[ah,results101,ntmps101,ap,aP,hq,z0,z1,z2,z3,ag,seval,ae]<;>exact rfl)))|((first|apply Ca|apply Cb)<;>intro hb)|refine Ai (by omega) ?_|(apply Ai<;>intro hb)|fail
 refine nF ?_ ?_ ?_
 ·simp only[ag,seval,ae]
 ·simp only[ag,seval,ae]
 repeat' first|simp only[am,ah,results120,ntmps120,ap,hq,z0,z1,z2,z3,ag,seval,ae]|exact rfl|refine aa (v:=.any) ?_|refine aG (by decide +kernel) ?_|((first|apply Ca|apply Cb)<;>intro hb)|refine Ai (by omega) ?_|(apply Ai<;>intro hb)|fail
 refine⟨rfl,?_⟩
 (refine Fin.give [(q,none),(b0+112,some 0)] [] ?_ ?_ ?_ ?_ ?_ (fun q hq=>by have hqq:=ho q hq;first|(simp only[aD,tgt,Lc,Lo,Lk,Ln,or_false]at hqq ⊢;omega)|(simp only[aD,tgt,Lc,Lo,Lk,Ln,or_false]at hqq))<;>(try simp only[results101,ntmps101,ap,kf,aK,hq,z0,z1,z2,z3,ec,ag,seval,ae])<;>(try simp only[au])<;>(try omega))
theorem wg (s t:List UInt8)(hs:s.length≤16384)(h1:bS 60 s=some t)(tag:∀(M:ao) (nm q:Nat),M q=some (bO t)→(∀ z,(M z).isSome=true→z∈[q])→q<nm→wB cx 122 nm [.ptr q 0 0] M Au)(q:Nat)(M:ao)(nm:Nat)(hq:M q=some (bO s))(ho:∀ z,(M z).isSome=true→z∈[q])(hqn:q<nm) :
  Ev cx 101 nm [.ptr q 0 0] M (.tup [.agg [.int .u8 0,.str [],.nils,.str []],.int .i64 80]) [(q,none)]:=by
 have p1:=fun D (q:Nat) M nm a b c=>Ev.dd (D:=D) (cH s [60] true (by omega) (by decide) (by rw[eh,h1];rfl) q M nm a b c)
 have hst:=bU h1
 subst hst
 simp only[if_true,List.drop_succ_cons,List.drop_zero,List.length_cons,List.length_nil]at p1
 have tg:=fun D M nm (q:Nat) a b c=>wB.dd (D:=D) (tag M nm q a b c)
 unfold bO at hq tg
 refine ld rfl mixed (fun cargs w=>call101 cargs w) (fun cargs w=>call120 cargs w) func101 rfl ⟨_,_,_,rfl⟩ ⟨_,_,_,_,rfl⟩ (t2:=2) (t3:=3) (N:=9) ⟨⟨_,_,_,_,func120,rfl,rfl,rfl,by decide,by decide,⟨_,_,_,_,rfl⟩,_,_,_,rfl⟩⟩ (by kernel_rfl) (by kernel_rfl) (by kernel_rfl) rfl ?_
 intro b0 hb0
 have lq:q<b0:=av hb0 (by rw[hq];rfl)
 have z0:=aS lq;have z1:=aq lq;have z2:=aI lq;have z3:=aj lq
 repeat' first|simp only[am,ah,results101,ntmps101,ap,hq,z0,z1,z2,z3,ag,seval,ae]|exact rfl|refine aa (v:=.any) ?_|((first|apply Ca|apply Cb)<;>intro hb)|refine Ai (by omega) ?_|(apply Ai<;>intro hb)|fail
 refine⟨rfl,b0,b0+16,?_,?_,fun D=>?_⟩
 ·simp only[ag,seval,ae]
 ·simp only[ag,seval,ae]
 have p1:=p1 D;have tg:=tg D
 repeat' first|simp only[results101,ntmps101,ap,hq,z0,z1,z2,z3,ag,seval,ae]|exact rfl|((refine ad ?_ [q] (p1 q _ _ ?_ ak (by omega)) ?_ ?_);iterate 3 (focus (simp only[ah,results101,ntmps101,ap,hq,z0,z1,z2,z3,ag,seval,ae]<;>exact rfl)))|((first|apply Ca|apply Cb)<;>intro hb)|refine Ai (by omega) ?_|(apply Ai<;>intro hb)|fail
 refine cB rfl [q] (tg _ _ q ?_ ak (by omega)) ?_
 ·simp only[ah,ap,hq,z0,z1,z2,z3,ag,seval,ae]<;>exact rfl
 simp only[aE,aF,az,aB,ax,gN]
 refine rq ?_ ?_ ?_
 ·simp only[ag,seval,ae]
 ·simp only[ag,seval,ae]
 repeat' first|simp only[am,ah,results120,ntmps120,ap,Au,iF,Lc,Lo,hq,z0,z1,z2,z3,ag,seval,ae]|exact rfl|refine aa (v:=.any) ?_|(refine Ai (by kernel_rfl) ?_)|(refine iA rfl (by kernel_rfl) ?_)|refine aG (by decide +kernel) ?_|((first|apply Ca|apply Cb)<;>intro hb)|refine Ai (by omega) ?_|(apply Ai<;>intro hb)|fail
 (refine Fin.give [] [q] ?_ ?_ ?_ ?_ ?_ (fun q hq=>by have hqq:=ho q hq;first|(simp only[aD,tgt,Lc,Lo,Lk,Ln,or_false]at hqq ⊢;omega)|(simp only[aD,tgt,Lc,Lo,Lk,Ln,or_false]at hqq))<;>(try simp only[results101,ntmps101,ap,kf,hq,z0,z1,z2,z3,ec,ag,seval,ae])<;>(try simp only[au])<;>(try omega))
theorem yL {s:List UInt8} :(fS s=[]→indexByte s 60 = -1∧cq s=s)∧(fS s≠[]→indexByte s 60=((cq s).length:Nat)∧s.take (cq s).length=cq s∧s.drop (cq s).length=fS s∧(cq s).length<s.length):=by
 have e:s=cq s++fS s:=(List.takeWhile_append_dropWhile).symm
 have hn:(60:UInt8) ∉ cq s:=fun h=>by
  have:=mD h
  cases this
 constructor
 ·intro h
  rw[h,List.append_nil]at e
  refine⟨gP.2 (il.2 ?_),e.symm⟩
  rw[e];exact hn
 ·intro h
  cases hr:fS s with
  | nil=>exact absurd hr h
  | cons c r =>
   have h60:=sJ s c (by rw[hr];rfl)
   subst h60
   rw[hr]at e
   have hc:dH 60 s=some (cq s,r):=by
    conv=>lhs;rw[e]
    exact jc hn
   obtain⟨i1,i2,i3,i4⟩:=jg hc
   refine⟨i1,i2,?_,by omega⟩
   have:=List.drop_left (l₁:=cq s) (l₂:=60::r)
   rw[← e]at this
   exact this
theorem yo (s x:List UInt8)(hs:s.length≤16384)(hd:(dN s).isSome=true)(h1:bS 60 s=none)(h2:bR (cq s)=some x)(q:Nat)(M:ao)(nm:Nat)(hq:M q=some (bO s))(ho:∀ z,(M z).isSome=true→z∈[q])(hqn:q<nm) :
  Ev cx 101 nm [.ptr q 0 0] M (.tup [.agg [.int .u8 4,.str [],.nils,.str x],.int .i64 0]) [(q,some (bO (fS s)))]:=by
 have p1:=fun D (q:Nat) M nm a b c=>Ev.dd (D:=D) (cH s [60] false (by omega) (by decide) (by rw[eh,h1];rfl) q M nm a b c)
 simp only[Bool.false_eq_true,if_false]at p1
 have hl:(cq s).length≤s.length:=by
  have:=congrArg List.length ((List.takeWhile_append_dropWhile (p:=jp) (l:=s)).symm)
  unfold cq;rw[List.length_append]at this;omega
 have hp:aO (cq s)=0:=eP.2 ⟨by omega,(sK hd).1⟩
 obtain⟨x1,x2⟩:=yL (s:=s)
 have gt:=fun D nm=>Ev.dd (D:=D) (qt (cq s) (by unfold bk;omega) nm)
 have ix:=fun D nm=>Ev.dd (D:=D) (nV s 60 nm)
 simp only[oN hp h2]at gt
 unfold bO at hq ⊢
 refine ld rfl mixed (fun cargs w=>call101 cargs w) (fun cargs w=>call120 cargs w) func101 rfl ⟨_,_,_,rfl⟩ ⟨_,_,_,_,rfl⟩ (t2:=2) (t3:=3) (N:=9) ⟨⟨_,_,_,_,func120,rfl,rfl,rfl,by decide,by decide,⟨_,_,_,_,rfl⟩,_,_,_,rfl⟩⟩ (by kernel_rfl) (by kernel_rfl) (by kernel_rfl) rfl ?_
 intro b0 hb0
 have lq:q<b0:=av hb0 (by rw[hq];rfl)
 have z0:=aS lq;have z1:=aq lq;have z2:=aI lq;have z3:=aj lq
 repeat' first|simp only[am,ah,results101,ntmps101,ap,hq,z0,z1,z2,z3,ag,seval,ae]|exact rfl|refine aa (v:=.any) ?_|((first|apply Ca|apply Cb)<;>intro hb)|refine Ai (by omega) ?_|(apply Ai<;>intro hb)|fail
 refine⟨rfl,b0,b0+16,?_,?_,fun D=>?_⟩
 ·simp only[ag,seval,ae]
 ·simp only[ag,seval,ae]
 have p1:=p1 D;have gt:=gt D;have ix:=ix D
 by_cases hr:fS s=[]
 ·obtain⟨i1,i2⟩:=x1 hr
  rw[i1]at ix
  rw[i2]at gt
  rw[hr]
  have hneg:decide ((-1:Int)<0)=true:=by decide
  have hz:IntKind.i64.wrap (s.length:Int)=s.length:=aR (by omega) (by omega)
  repeat' first|simp only[results101,ntmps101,ap,hq,z0,z1,z2,z3,hneg,List.take_length,List.drop_length,Int.toNat_natCast,Nat.le_refl,Int.le_refl,ag,seval,ae]|exact rfl|((first|(refine ac ?_ (ix _) ?_)|(refine ab ?_ (fun _=>ix _) ?_)|(refine ac ?_ (gt _) ?_)|(refine ab ?_ (fun _=>gt _) ?_));(focus (simp only[results101,ntmps101,ap,hq,z0,z1,z2,z3,hneg,List.take_length,List.drop_length,Int.toNat_natCast,Nat.le_refl,Int.le_refl,ag,seval,ae]<;>exact rfl)))|((refine ad ?_ [q] (p1 q _ _ ?_ ak (by omega)) ?_ ?_);iterate 3 (focus (simp only[ah,results101,ntmps101,ap,hq,z0,z1,z2,z3,hneg,List.take_length,List.drop_length,Int.toNat_natCast,Nat.le_refl,Int.le_refl,ag,seval,ae]<;>exact rfl)))|((first|apply Ca|apply Cb)<;>intro hb)|refine Ai (by omega) ?_|(apply Ai<;>intro hb)|fail
  refine nF ?_ ?_ ?_
  ·simp only[ag,seval,ae]
  ·simp only[ag,seval,ae]
  repeat' first|simp only[am,ah,results120,ntmps120,ap,hq,z0,z1,z2,z3,ag,seval,ae]|exact rfl|refine aa (v:=.any) ?_|refine aG (by decide +kernel) ?_|((first|apply Ca|apply Cb)<;>intro hb)|refine Ai (by omega) ?_|(apply Ai<;>intro hb)|fail
  refine⟨rfl,?_⟩
  (refine Fin.give [(q,none)] [] ?_ ?_ ?_ ?_ ?_ (fun q hq=>by have hqq:=ho q hq;first|(simp only[aD,tgt,Lc,Lo,Lk,Ln,or_false]at hqq ⊢;omega)|(simp only[aD,tgt,Lc,Lo,Lk,Ln,or_false]at hqq))<;>(try simp only[results101,ntmps101,ap,kf,hq,z0,z1,z2,z3,ec,ag,seval,ae])<;>(try simp only[au])<;>(try omega))
 ·obtain⟨i1,i2,i3,i4⟩:=x2 hr
  rw[i1]at ix
  have hneg:decide (((cq s).length:Int)<0)=false:=decide_eq_false (by omega)
  have k1:((cq s).length:Int)≤s.length:=by omega
  have k2:(0:Int)≤((cq s).length:Int):=by omega
  have k3:(cq s).length≤s.length:=by omega
  repeat' first|simp only[results101,ntmps101,ap,hq,z0,z1,z2,z3,hneg,k1,k2,k3,i2,i3,Int.toNat_natCast,Nat.le_refl,Int.le_refl,ag,seval,ae]|exact rfl|((first|(refine ac ?_ (ix _) ?_)|(refine ab ?_ (fun _=>ix _) ?_)|(refine ac ?_ (gt _) ?_)|(refine ab ?_ (fun _=>gt _) ?_));(focus (simp only[results101,ntmps101,ap,hq,z0,z1,z2,z3,hneg,k1,k2,k3,i2,i3,Int.toNat_natCast,Nat.le_refl,Int.le_refl,ag,seval,ae]<;>exact rfl)))|((refine ad ?_ [q] (p1 q _ _ ?_ ak (by omega)) ?_ ?_);iterate 3 (focus (simp only[ah,results101,ntmps101,ap,hq,z0,z1,z2,z3,hneg,k1,k2,k3,i2,i3,Int.toNat_natCast,Nat.le_refl,Int.le_refl,ag,seval,ae]<;>exact rfl)))|((first|apply Ca|apply Cb)<;>intro hb)|refine Ai (by omega) ?_|(apply Ai<;>intro hb)|fail
  refine nF ?_ ?_ ?_
  ·simp only[ag,seval,ae]
  ·simp only[ag,seval,ae]
  repeat' first|simp only[am,ah,results120,ntmps120,ap,hq,z0,z1,z2,z3,ag,seval,ae]|exact rfl|refine aa (v:=.any) ?_|refine aG (by decide +kernel) ?_|((first|apply Ca|apply Cb)<;>intro hb)|refine Ai (by omega) ?_|(apply Ai<;>intro hb)|fail
  refine⟨rfl,?_⟩
  (refine Fin.give [(q,none)] [] ?_ ?_ ?_ ?_ ?_ (fun q hq=>by have hqq:=ho q hq;first|(simp only[aD,tgt,Lc,Lo,Lk,Ln,or_false]at hqq ⊢;omega)|(simp only[aD,tgt,Lc,Lo,Lk,Ln,or_false]at hqq))<;>(try simp only[results101,ntmps101,ap,kf,hq,z0,z1,z2,z3,ec,ag,seval,ae])<;>(try simp only[au])<;>(try omega))
theorem tN (s:List UInt8)(hs:s.length≤16384)(hd:(dN s).isSome=true)(h1:bS 60 s=none)(h2:bR (cq s)=none)(q:Nat)(M:ao)(nm:Nat)(hq:M q=some (bO s))(ho:∀ z,(M z).isSome=true→z∈[q])(hqn:q<nm) :
  Ev cx 101 nm [.ptr q 0 0] M (.tup [.agg [.int .u8 0,.str [],.nils,.str []],.int .i64 80]) [(q,none)]:=by
 have p1:=fun D (q:Nat) M nm a b c=>Ev.dd (D:=D) (cH s [60] false (by omega) (by decide) (by rw[eh,h1];rfl) q M nm a b c)
 simp only[Bool.false_eq_true,if_false]at p1
 have hl:(cq s).length≤s.length:=by
  have:=congrArg List.length ((List.takeWhile_append_dropWhile (p:=jp) (l:=s)).symm)
  unfold cq;rw[List.length_append]at this;omega
 have hp:aO (cq s)=0:=eP.2 ⟨by omega,(sK hd).1⟩
 obtain⟨x1,x2⟩:=yL (s:=s)
 have gt:=fun D nm=>Ev.dd (D:=D) (qt (cq s) (by unfold bk;omega) nm)
 have ix:=fun D nm=>Ev.dd (D:=D) (nV s 60 nm)
 simp only[jD hp h2]at gt
 unfold bO at hq
 refine ld rfl mixed (fun cargs w=>call101 cargs w) (fun cargs w=>call120 cargs w) func101 rfl ⟨_,_,_,rfl⟩ ⟨_,_,_,_,rfl⟩ (t2:=2) (t3:=3) (N:=9) ⟨⟨_,_,_,_,func120,rfl,rfl,rfl,by decide,by decide,⟨_,_,_,_,rfl⟩,_,_,_,rfl⟩⟩ (by kernel_rfl) (by kernel_rfl) (by kernel_rfl) rfl ?_
 intro b0 hb0
 have lq:q<b0:=av hb0 (by rw[hq];rfl)
 have z0:=aS lq;have z1:=aq lq;have z2:=aI lq;have z3:=aj lq
 repeat' first|simp only[am,ah,results101,ntmps101,ap,hq,z0,z1,z2,z3,ag,seval,ae]|exact rfl|refine aa (v:=.any) ?_|((first|apply Ca|apply Cb)<;>intro hb)|refine Ai (by omega) ?_|(apply Ai<;>intro hb)|fail
 refine⟨rfl,b0,b0+16,?_,?_,fun D=>?_⟩
 ·simp only[ag,seval,ae]
 ·simp only[ag,seval,ae]
 have p1:=p1 D;have gt:=gt D;have ix:=ix D
 by_cases hr:fS s=[]
 ·obtain⟨i1,i2⟩:=x1 hr
  rw[i1]at ix
  rw[i2]at gt
  have hneg:decide ((-1:Int)<0)=true:=by decide
  have hz:IntKind.i64.wrap (s.length:Int)=s.length:=aR (by omega) (by omega)
  repeat' first|simp only[results101,ntmps101,ap,hq,z0,z1,z2,z3,hneg,List.take_length,List.drop_length,Int.toNat_natCast,Nat.le_refl,Int.le_refl,aE,aF,az,aB,ax,gN,ag,seval,ae]|exact rfl|((first|(refine ac ?_ (ix _) ?_)|(refine ab ?_ (fun _=>ix _) ?_)|(refine ac ?_ (gt _) ?_)|(refine ab ?_ (fun _=>gt _) ?_));(focus (simp only[results101,ntmps101,ap,hq,z0,z1,z2,z3,hneg,List.take_length,List.drop_length,Int.toNat_natCast,Nat.le_refl,Int.le_refl,aE,aF,az,aB,ax,gN,ag,seval,ae]<;>exact rfl)))|((refine ad ?_ [q] (p1 q _ _ ?_ ak (by omega)) ?_ ?_);iterate 3 (focus (simp only[ah,results101,ntmps101,ap,hq,z0,z1,z2,z3,hneg,List.take_length,List.drop_length,Int.toNat_natCast,Nat.le_refl,Int.le_refl,aE,aF,az,aB,ax,gN,ag,seval,ae]<;>exact rfl)))|(refine cB rfl [q] (wB.dd (gh q _ _)) ?_)|((first|apply Ca|apply Cb)<;>intro hb)|refine Ai (by omega) ?_|(apply Ai<;>intro hb)|fail
  refine rq ?_ ?_ ?_
  ·simp only[ag,seval,ae]
  ·simp only[ag,seval,ae]
  repeat' first|simp only[am,ah,results120,ntmps120,ap,Au,iF,Lc,Lo,hq,z0,z1,z2,z3,ag,seval,ae]|exact rfl|refine aa (v:=.any) ?_|(refine Ai (by kernel_rfl) ?_)|(refine iA rfl (by kernel_rfl) ?_)|refine aG (by decide +kernel) ?_|((first|apply Ca|apply Cb)<;>intro hb)|refine Ai (by omega) ?_|(apply Ai<;>intro hb)|fail
  (refine Fin.give [] [q] ?_ ?_ ?_ ?_ ?_ (fun q hq=>by have hqq:=ho q hq;first|(simp only[aD,tgt,Lc,Lo,Lk,Ln,or_false]at hqq ⊢;omega)|(simp only[aD,tgt,Lc,Lo,Lk,Ln,or_false]at hqq))<;>(try simp only[results101,ntmps101,ap,kf,hq,z0,z1,z2,z3,ec,ag,seval,ae])<;>(try simp only[au])<;>(try omega))
 ·obtain⟨i1,i2,i3,i4⟩:=x2 hr
  rw[i1]at ix
  have hneg:decide (((cq s).length:Int)<0)=false:=decide_eq_false (by omega)
  have k1:((cq s).length:Int)≤s.length:=by omega
  have k2:(0:Int)≤((cq s).length:Int):=by omega
  have k3:(cq s).length≤s.length:=by omega
  repeat' first|simp only[results101,ntmps101,ap,hq,z0,z1,z2,z3,hneg,k1,k2,k3,i2,i3,Int.toNat_natCast,Nat.le_refl,Int.le_refl,aE,aF,az,aB,ax,gN,ag,seval,ae]|exact rfl|((first|(refine ac ?_ (ix _) ?_)|(refine ab ?_ (fun _=>ix _) ?_)|(refine ac ?_ (gt _) ?_)|(refine ab ?_ (fun _=>gt _) ?_));(focus (simp only[results101,ntmps101,ap,hq,z0,z1,z2,z3,hneg,k1,k2,k3,i2,i3,Int.toNat_natCast,Nat.le_refl,Int.le_refl,aE,aF,az,aB,ax,gN,ag,seval,ae]<;>exact rfl)))|((refine ad ?_ [q] (p1 q _ _ ?_ ak (by omega)) ?_ ?_);iterate 3 (focus (simp only[ah,results101,ntmps101,ap,hq,z0,z1,z2,z3,hneg,k1,k2,k3,i2,i3,Int.toNat_natCast,Nat.le_refl,Int.le_refl,aE,aF,az,aB,ax,gN,ag,seval,ae]<;>exact rfl)))|(refine cB rfl [q] (wB.dd (gh q _ _)) ?_)|((first|apply Ca|apply Cb)<;>intro hb)|refine Ai (by omega) ?_|(apply Ai<;>intro hb)|fail
  refine rq ?_ ?_ ?_
  ·simp only[ag,seval,ae]
  ·simp only[ag,seval,ae]
  repeat' first|simp only[am,ah,results120,ntmps120,ap,Au,iF,Lc,Lo,hq,z0,z1,z2,z3,ag,seval,ae]|exact rfl|refine aa (v:=.any) ?_|(refine Ai (by kernel_rfl) ?_)|(refine iA rfl (by kernel_rfl) ?_)|refine aG (by decide +kernel) ?_|((first|apply Ca|apply Cb)<;>intro hb)|refine Ai (by omega) ?_|(apply Ai<;>intro hb)|fail
  (refine Fin.give [] [q] ?_ ?_ ?_ ?_ ?_ (fun q hq=>by have hqq:=ho q hq;first|(simp only[aD,tgt,Lc,Lo,Lk,Ln,or_false]at hqq ⊢;omega)|(simp only[aD,tgt,Lc,Lo,Lk,Ln,or_false]at hqq))<;>(try simp only[results101,ntmps101,ap,kf,hq,z0,z1,z2,z3,ec,ag,seval,ae])<;>(try simp only[au])<;>(try omega))
theorem EB {n r0 r:List UInt8}{l:List Pr}{t:Tk}(h:iR n l r0=some (t,r)):t=⟨t.kind,n,t.attrs,[]⟩ :=
 sH (n:=n) (P:=fun _ _ u _=>u=⟨u.kind,n,u.attrs,[]⟩) (fun _ _ _ _ _=>rfl) (fun _ _ _ _ _ _ _ _ _ _ _ ih=>ih) _ l r0 t r (Nat.le_refl _) h
theorem pQ (s r:List UInt8)(t:Tk)(hs:s.length≤16384)(hd:(dN s).isSome=true)(h:iL s=some (t,r)) :
  (t.attrs=[] ∧ ∀(q:Nat) (M:ao) (nm:Nat),M q=some (bO s)→(∀ z,(M z).isSome=true→z∈[q])→q<nm →
   Ev cx 101 nm [.ptr q 0 0] M (.tup [.agg [.int .u8 t.kind,.str t.name,.nils,.str t.text],.int .i64 0]) [(q,some (bO r))]) ∨
  (t.text=[] ∧ ∀(q:Nat) (M:ao) (nm:Nat),M q=some (bO s)→(∀ z,(M z).isSome=true→z∈[q])→q<nm →
   Ev cx 101 nm [.ptr q 0 0] M (.tup [.agg [.int .u8 t.kind,.str t.name,.own nm 0 t.attrs.length,.str []],.int .i64 0]) [(q,some (bO r)),(nm,some ⟨2,t.attrs.map da⟩)]):=by
 cases h1:bS 60 s with
 | none =>
  unfold iL at h
  rw[h1]at h
  obtain⟨x,h2,h3⟩:=Option.map_eq_some_iff.1 h
  cases h3
  exact .inl ⟨rfl,fun q M nm a b c=>yo s x hs hd h1 h2 q M nm a b c⟩
 | some u =>
  obtain rfl:=bU h1
  have hl:u.length≤16384:=by simp at hs;omega
  have hdu:=(bQ (d:=60) (by decide) (a:=[]) hd rfl).2
  unfold iL at h
  rw[h1]at h
  simp only at h
  unfold sI at h
  split at h
  ·rename_i w hw
   obtain⟨⟨n,r1⟩,h2,h3⟩:=Option.bind_eq_some_iff.1 h
   obtain⟨r2,h4,h5⟩:=Option.map_eq_some_iff.1 h3
   cases h5
   exact .inl ⟨rfl,fun q M nm a b c=>AD (60::u) u n r hs h1 (fun M nm q a b c=>Jj u w n r1 r hl hw h2 h4 q M nm a b c) q M nm a b c⟩
  ·rename_i hw
   obtain⟨⟨n,r1⟩,h2,h3⟩:=Option.bind_eq_some_iff.1 h
   have hk:=EB h3
   obtain⟨k,n',l,x⟩:=t
   simp only[Tk.mk.injEq,true_and]at hk
   obtain⟨rfl,rfl⟩:=hk
   exact .inr ⟨rfl,fun q M nm a b c=>AE (60::u) u n' r k l hs h1 (fun M nm q a b c=>Jk u n' r1 r k l hl hdu hw h2 h3 q M nm a b c) q M nm a b c⟩
theorem pP (s:List UInt8)(hs:s.length≤16384)(hd:(dN s).isSome=true)(h:iL s=none)(q:Nat)(M:ao)(nm:Nat)(hq:M q=some (bO s))(ho:∀ z,(M z).isSome=true→z∈[q])(hqn:q<nm) :
  Ev cx 101 nm [.ptr q 0 0] M (.tup [.agg [.int .u8 0,.str [],.nils,.str []],.int .i64 80]) [(q,none)]:=by
 cases h1:bS 60 s with
 | none =>
  unfold iL at h
  rw[h1]at h
  exact tN s hs hd h1 (by simpa using h) q M nm hq ho hqn
 | some u =>
  obtain rfl:=bU h1
  have hl:u.length≤16384:=by simp at hs;omega
  have hdu:=(bQ (d:=60) (by decide) (a:=[]) hd rfl).2
  unfold iL at h
  rw[h1]at h
  simp only at h
  refine wg (60::u) u hs h1 (fun M nm q a b c=>?_) q M nm hq ho hqn
  cases hw:bS 47 u with
  | some w=>exact GO u w hl hw h q M nm a b c
  | none =>
   unfold sI at h
   rw[hw]at h
   cases h2:eL u with
   | none=>exact D3 u hl hw h2 q M nm a b c
   | some p =>
    obtain⟨n,r0⟩:=p
    rw[h2]at h
    exact GP u n r0 hl hdu hw h2 h q M nm a b c
structure LSt where
 l:List Tk
 rest:List UInt8
def IR (A:List Tk×Nat×Int):V:=.tup [.sl false 4 (A.1.map cZ),.int .i64 A.2.1,.int .i64 A.2.2]
theorem Lu (s:List UInt8)(hs:s.length≤bk)(nm:Nat):Ev cx 86 nm [.str s] ao.nil (IR (eB s)) []:=by
  have hck:=cP s hs
  by_cases hp:aO s=0
  · obtain ⟨hsl,hsd⟩:=eP.1 hp
    have hA:eB s=gf s.length [] s:=by unfold eB;rw[if_neg (by simp[hp])]
    rw[hA]
    generalize hB:gf s.length [] s=A
    obtain⟨L,at0,e0⟩:=A
    unfold IR
    rw[hp]at hck
    refine ay rfl (fun cargs w=>call86 cargs w) func86 rfl mixed (by kernel_rfl) rfl ?_;intro b0 hb0
    repeat' first|simp only[am,ah,results86,ntmps86,ap,ag,seval,ae]|exact rfl|refine aa (v:=.any) ?_|(first|(refine ac ?_ (hck _) ?_)|(refine ab ?_ (fun _=>hck _) ?_))|((first|apply Ca|apply Cb)<;>intro hb)|refine Ai (by omega) ?_|(apply Ai<;>intro hb)
    (refine aV cm (fun x:LSt=>x.rest.length) (fun x=>gf s.length x.l x.rest=(L,at0,e0)∧(dN x.rest).isSome=true∧x.rest.length≤s.length∧x.l.length≤512) (b0+16) (fun x=>[(0,.str s),(2,.own (b0+1) 0 x.l.length),(6,.ptr b0 0 0)]) (fun x=>[(b0,⟨1,[[.str x.rest]]⟩),(b0+1,⟨4,x.l.map cZ⟩)]) (⟨[],s⟩) [some (b0+176),none] ?_ ?_ ?_ ?_;rotate_left 1;(focus (show b0≤_;omega));(focus (refine⟨?_,?_⟩<;>(try simp only[bj,aU,Lo,List.length_nil,ag,seval,ae,au])<;>(try omega)));rotate_left 1)
    · exact⟨hB,hsd,Nat.le_refl _,Nat.zero_le _⟩
    · rintro ⟨xl,xr⟩ ⟨g1,g2,g3,g4⟩
      dsimp only at g1 g2 g3 g4 ⊢
      have hnl:(xl.map cZ).length=xl.length:=Lm _
      by_cases hnil:xr=[]
      · subst hnil
        rw[lA]at g1
        cases g1
        have hne:(([]:List UInt8) != [])=false:=by decide
        (repeat' first|simp only[am,ah,results86,ntmps86,ap,hne,bf,hnl,List.take_of_length_le,Nat.le_refl,ag,seval,ae]|exact rfl|refine aa (v:=.any) ?_|((first|apply Ca|apply Cb)<;>intro hb)|refine Ai (by omega) ?_|(apply Ai<;>intro hb)|refine Fin.pure ?_ ?_ ?_|simp only[au])
      · have hne:(xr==[])=false:=by simpa using hnil
        have hw1:IntKind.i64.wrap ((s.length:Int)-(xr.length:Int))=((s.length-xr.length:Nat):Int):=by rw[aR (by omega) (by omega)];omega
        by_cases hm:512≤xl.length
        · have hge:decide ((512:Int)≤(xl.length:Int))=true:=decide_eq_true (by omega)
          have hge':decide ((xl.length:Int) ≥ (512:Int))=true:=decide_eq_true (by omega)
          rw[pd hnil hm]at g1
          cases g1
          cases ho:iL xr with
          | none =>
            have hone:=pP xr (by omega) g2 ho
            unfold bO at hone
            (repeat' first|simp only[am,ah,results86,ntmps86,ap,hne,Bf,hw1,hge,hnl,bf,ag,seval,ae]|exact rfl|refine aa (v:=.any) ?_|(refine ad ?_ [b0] (hone b0 _ _ ?_ ak (by omega)) ?_ ?_)|((first|apply Ca|apply Cb)<;>intro hb)|refine Ai (by omega) ?_|(apply Ai<;>intro hb)|refine Fin.pure ?_ ?_ ?_|simp only[au])
          | some p =>
            obtain⟨t,r⟩:=p
            rcases pQ xr r t (by omega) g2 ho with ⟨ha,hone⟩|⟨ha,hone⟩
            · unfold bO at hone
              (repeat' first|simp only[am,ah,results86,ntmps86,ap,hne,Bf,hw1,hge,hnl,bf,ag,seval,ae]|exact rfl|refine aa (v:=.any) ?_|(refine ad ?_ [b0] (hone b0 _ _ ?_ ak (by omega)) ?_ ?_)|((first|apply Ca|apply Cb)<;>intro hb)|refine Ai (by omega) ?_|(apply Ai<;>intro hb)|refine Fin.pure ?_ ?_ ?_|simp only[au])
            · unfold bO at hone
              (repeat' first|simp only[am,ah,results86,ntmps86,ap,aP,hne,Bf,hw1,hge,hnl,bf,ag,seval,ae]|exact rfl|refine aa (v:=.any) ?_|(refine ad ?_ [b0] (hone b0 _ _ ?_ ak (by omega)) ?_ ?_)|((first|apply Ca|apply Cb)<;>intro hb)|refine Ai (by omega) ?_|(apply Ai<;>intro hb)|refine Fin.pure ?_ ?_ ?_|simp only[au])
        · have hge:decide ((512:Int)≤(xl.length:Int))=false:=decide_eq_false (by omega)
          cases ho:iL xr with
          | none =>
            rw[sa hnil (by omega) ho]at g1
            cases g1
            have hone:=pP xr (by omega) g2 ho
            unfold bO at hone
            (repeat' first|simp only[am,ah,results86,ntmps86,ap,hne,Bf,hw1,hge,hnl,bf,ag,seval,ae]|exact rfl|refine aa (v:=.any) ?_|(refine ad ?_ [b0] (hone b0 _ _ ?_ ak (by omega)) ?_ ?_)|((first|apply Ca|apply Cb)<;>intro hb)|refine Ai (by omega) ?_|(apply Ai<;>intro hb)|refine Fin.pure ?_ ?_ ?_|simp only[au])
          | some p =>
            obtain⟨t,r⟩:=p
            have hlt:=v8 hnil ho
            have hnl1:(xl++[t]).length=xl.length+1:=by simp
            have hmx:xl.length<512:=by omega
            have hnx:xl.map cZ++[cZ t]=(xl++[t]).map cZ:=by simp
            have hle:∀(k:Nat) (n x:List UInt8) (a:List Pr) (v:V),v.le (.sl false 2 (a.map da))→iX (xl.map cZ++[[.int .u8 k,.str n,v,.str x]]) ((xl++[(⟨k,n,a,x⟩:Tk)]).map cZ):=fun k n x a v hv=>by
              rw[List.map_append]
              refine x6 ⟨⟨V.le_refl _,V.le_refl _,hv,V.le_refl _,trivial⟩,trivial⟩
            have h16z:decide ((0:Int)>16)=false:=by decide
            rcases pQ xr r t (by omega) g2 ho with ⟨ha,hone⟩|⟨ha,hone⟩
            · obtain⟨k,n,l,x⟩:=t
              dsimp only at ha
              subst ha
              obtain⟨k1,k2,k3,k4,k5⟩:=v9 hnil ho g2 (by omega) (Nat.zero_le _)
              rw[qy hnil (by omega) ho (Nat.zero_le _)]at g1
              unfold bO at hone
              repeat' first|simp only[am,ah,results86,ntmps86,ap,hne,Bf,hw1,hge,hnl,bf,h16z,ag,seval,ae]|exact rfl|refine aa (v:=.any) ?_|(refine ad ?_ [b0] (hone b0 _ _ ?_ ak (by omega)) ?_ ?_)|((first|apply Ca|apply Cb)<;>intro hb)|refine Ai (by omega) ?_|(apply Ai<;>intro hb)
              all_goals ((refine eC cm (⟨xl++[⟨k,n,[],x⟩],r⟩) [some b0,some (b0+624)] ?_ ?_ ?_ ?_;rotate_left 2;(focus (show b0≤_;omega));(focus (refine⟨?_,?_⟩<;>(try simp only[bj,k7,aU,aK,bf,hnx,hnl1,cZ,Lo,gK _ _ (bf _),fg _ _ (bf _),Lm,ag,seval,ae,au])<;>(try omega)))))
              all_goals (first|exact⟨g1,k2,by show r.length≤s.length;omega,by show(xl++[_]).length≤512;simp;omega⟩|(show r.length<xr.length;omega)|exact .inr (hle _ _ _ _ _ (by simp[V.le]))|exact .inr (hle _ _ _ _ _ (V.le_refl _))|skip)
            · obtain⟨k,n,l,x⟩:=t
              dsimp only at ha hone
              subst ha
              by_cases h16:16<l.length
              · rw[nb hnil (by omega) ho h16]at g1
                cases g1
                have h16d:decide ((16:Int)<(l.length:Int))=true:=decide_eq_true (by omega)
                unfold bO at hone
                (repeat' first|simp only[am,ah,results86,ntmps86,ap,aP,hne,Bf,hw1,hge,hnl,bf,h16d,Lm,ag,seval,ae]|exact rfl|refine aa (v:=.any) ?_|(refine ad ?_ [b0] (hone b0 _ _ ?_ ak (by omega)) ?_ ?_)|((first|apply Ca|apply Cb)<;>intro hb)|refine Ai (by omega) ?_|(apply Ai<;>intro hb)|refine Fin.pure ?_ ?_ ?_|simp only[au])
              · have h16d:decide ((16:Int)<(l.length:Int))=false:=decide_eq_false (by omega)
                obtain⟨k1,k2,k3,k4,k5⟩:=v9 hnil ho g2 (by omega) (show l.length≤16 by omega)
                rw[qy hnil (by omega) ho (show l.length≤16 by omega)]at g1
                unfold bO at hone
                have htp:(l.map da).take l.length=l.map da:=List.take_of_length_le (by simp)
                repeat' first|simp only[am,ah,results86,ntmps86,ap,aP,hne,Bf,hw1,hge,hnl,bf,aK,h16d,Lm,ag,seval,ae]|exact rfl|refine aa (v:=.any) ?_|(refine ad ?_ [b0] (hone b0 _ _ ?_ ak (by omega)) ?_ ?_)|((first|apply Ca|apply Cb)<;>intro hb)|refine Ai (by omega) ?_|(apply Ai<;>intro hb)
                all_goals ((refine eC cm (⟨xl++[⟨k,n,l,[]⟩],r⟩) [some b0,some (b0+624)] ?_ ?_ ?_ ?_;rotate_left 2;(focus (show b0≤_;omega));(focus (refine⟨?_,?_⟩<;>(try simp only[bj,k7,aU,aK,bf,hnx,hnl1,htp,cZ,gK _ _ (bf _),fg _ _ (bf _),Lm,ag,seval,ae,au])<;>(try omega)))))
                all_goals (first|exact⟨g1,k2,by show r.length≤s.length;omega,by show(xl++[_]).length≤512;simp;omega⟩|(show r.length<xr.length;omega)|exact .inr (hle _ _ _ _ _ (by simp[V.le]))|exact .inr (hle _ _ _ _ _ (V.le_refl _))|skip)
  · have hA:eB s=([],0,aO s):=by unfold eB;rw[if_pos (by simpa using hp)]
    have hb:(aO s != 0)=true:=by simpa using hp
    rw[hA]
    unfold IR
    refine ay rfl (fun cargs w=>call86 cargs w) func86 rfl mixed (by kernel_rfl) rfl ?_;intro b0 hb0
    (repeat' first|simp only[am,ah,results86,ntmps86,ap,hb,ag,seval,ae]|exact rfl|refine aa (v:=.any) ?_|(first|(refine ac ?_ (hck _) ?_)|(refine ab ?_ (fun _=>hck _) ?_))|((first|apply Ca|apply Cb)<;>intro hb)|refine Ai (by omega) ?_|(apply Ai<;>intro hb)|refine Fin.pure ?_ ?_ ?_|simp only[au])
end Go.Proofs.YtcllbjanalhjgaaGreatDoor
namespace Go.Proofs.YtcllbjanalhjgaaGreatDoor
set_option maxRecDepth 100000
set_option maxHeartbeats 32000000
set_option linter.unusedSimpArgs false
set_option linter.unusedVariables false
open Go Go.RowKit Go.Lib
def om:Nat→List UInt8→Option (List UInt8)
 | _,[]=>some []
 | 0,_::_=>none
 | n+1,c::r=>if c=60 then none else if c=38 then (match dH 59 r with|none=>none|some p=>match ce p.1 with|none=>none|some x=>(om n p.2).map (x ++ ·)) else (om n r).map (c :: ·)
theorem oo:∀(n:Nat) (s:List UInt8),s.length≤n→bR s=om n s
 | n,[],_=>by rw[jN];cases n<;>rfl
 | 0,c::r,h=>by simp at h
 | n+1,c::r,h=>by
  have hl:r.length≤n:=by simpa using h
  by_cases h1:c=60
  ·subst h1;rw[lF];rfl
  by_cases h2:c=38
  ·subst h2
   cases hc:dH 59 r with
   | none=>rw[iO hc];simp[om,hc]
   | some p =>
    obtain⟨a,b⟩:=p
    have:=rl hc
    cases hm:ce a with
    | none=>rw[jM hc hm];simp[om,hc,hm]
    | some x=>rw[jO hc hm,oo n b (by omega)];simp[om,hc,hm]
  ·rw[fG h1 h2,oo n r hl];simp[om,h1,h2]
def A8 (s:List UInt8):Option (List UInt8×List UInt8):=(ss s).bind fun p=>(om p.1.length (p.1.map b7)).map fun v=>(v,p.2)
theorem EE (s:List UInt8):gZ s=A8 s:=by
 unfold gZ A8 yO
 congr 1
 funext p
 rw[oo p.1.length _ (by simp)]
def EV (s:List UInt8):Option (Pr×List UInt8):=(eL s).bind fun p=>(bS 61 (aZ p.2)).bind fun t=>(A8 (aZ t)).map fun q=>(⟨p.1,q.1⟩,q.2)
theorem wO (s:List UInt8):fU s=EV s:=by
 unfold fU EV
 congr 1
 funext p
 congr 1
 funext t
 rw[EE]
def yK:Nat→List UInt8→List Pr→List UInt8→Option (Tk×List UInt8)
 | 0,_,_,_=>none
 | k+1,n,l,s=>match j5 (aZ s) with
  | some p=>some (⟨p.1,n,l,[]⟩,p.2)
  | none=>if (aZ s).length<s.length then (match EV (aZ s) with
   | none=>none
   | some p=>if (l.any fun b=>p.1.name==b.name)=true then none else yK k n (l++[p.1]) p.2) else none
theorem Jt:∀(k:Nat) (n:List UInt8) (l:List Pr) (s:List UInt8),s.length≤k→iR n l s=yK (k+1) n l s:=by
 intro k
 induction k with
 | zero =>
  intro n l s h
  obtain rfl:=List.length_eq_zero_iff.1 (Nat.le_zero.1 h)
  rw[kB (by rfl) (by simp[aZ])]
  rfl
 | succ k ih =>
  intro n l s h
  have hs:=cX s
  cases he:j5 (aZ s) with
  | some p =>
   obtain⟨m,t⟩:=p
   rw[kA he]
   conv=>rhs;unfold yK
   simp only[he]
  | none =>
   by_cases hg:(aZ s).length<s.length
   ·cases ha:fU (aZ s) with
    | none =>
     rw[qK he ha]
     conv=>rhs;unfold yK
     rw[wO]at ha
     simp only[he,if_pos hg,ha]
    | some p =>
     obtain⟨a,r⟩:=p
     have hl:=jX ha
     have ha':=ha
     rw[wO]at ha'
     cases hd:l.any fun b=>a.name==b.name with
     | true =>
      rw[mf he ha hd]
      conv=>rhs;unfold yK
      simp only[he,if_pos hg,ha',hd,if_true]
     | false =>
      rw[lJ he hg ha hd,ih _ _ r (by omega)]
      conv=>rhs;unfold yK
      simp only[he,if_pos hg,ha',hd,Bool.false_eq_true,if_false]
   ·rw[kB he hg]
    conv=>rhs;unfold yK
    simp only[he,if_neg hg]
def LP (s:List UInt8):Option (Tk×List UInt8) :=
 match bS 47 s with
 | some t=>(eL t).bind fun p=>(bS 62 (aZ p.2)).map fun r=>(⟨2,p.1,[],[]⟩,r)
 | none=>(eL s).bind fun p=>yK (p.2.length+1) p.1 [] p.2
theorem Jv (s:List UInt8):sI s=LP s:=by
 unfold sI LP
 cases bS 47 s with
 | some t=>rfl
 | none =>
  simp only
  congr 1
  funext p
  rw[Jt p.2.length _ _ _ (Nat.le_refl _)]
def LJ (s:List UInt8):Option (Tk×List UInt8) :=
 match bS 60 s with
 | some t=>LP t
 | none=>(om (cq s).length (cq s)).map fun x=>(⟨4,[],[],x⟩,fS s)
theorem BQ (s:List UInt8):iL s=LJ s:=by
 unfold iL LJ
 cases bS 60 s with
 | some t=>exact Jv t
 | none =>
  simp only
  rw[oo _ _ (Nat.le_refl _)]
def Ak:Nat→Nat→List Tk→List UInt8→List Tk×Nat×Int
 | 0,_,l,_=>(l,0,0)
 | k+1,n,l,s=>if s=[] then (l,0,0) else if 512≤l.length then ([],n-s.length,4) else match LJ s with
  | none=>([],n-s.length,80)
  | some p=>if 16<p.1.attrs.length then ([],n-s.length,4) else Ak k n (l++[p.1]) p.2
theorem IQ:∀(k n:Nat) (l:List Tk) (s:List UInt8),s.length≤k→gf n l s=Ak (k+1) n l s:=by
 intro k
 induction k with
 | zero =>
  intro n l s h
  obtain rfl:=List.length_eq_zero_iff.1 (Nat.le_zero.1 h)
  rw[lA];rfl
 | succ k ih =>
  intro n l s h
  by_cases hs:s=[]
  ·subst hs;rw[lA];rfl
  ·by_cases hm:512≤l.length
   ·rw[pd hs hm]
    conv=>rhs;unfold Ak
    rw[if_neg hs,if_pos hm]
   ·cases ho:iL s with
    | none =>
     rw[sa hs (by omega) ho]
     rw[BQ]at ho
     conv=>rhs;unfold Ak
     simp only[if_neg hs,if_neg hm,ho]
    | some p =>
     obtain⟨t,r⟩:=p
     have hl:=v8 hs ho
     have ho':=ho
     rw[BQ]at ho'
     by_cases ha:16<t.attrs.length
     ·rw[nb hs (by omega) ho ha]
      conv=>rhs;unfold Ak
      simp only[if_neg hs,if_neg hm,ho',if_pos ha]
     ·rw[qy hs (by omega) ho (by omega),ih _ _ r (by omega)]
      conv=>rhs;unfold Ak
      simp only[if_neg hs,if_neg hm,ho',if_neg ha]
def IU (s:List UInt8):List Tk×Nat×Int:=if aO s≠0 then ([],0,aO s) else Ak (s.length+1) s.length [] s
theorem BF (s:List UInt8):eB s=IU s:=by
 unfold eB IU
 rw[IQ s.length _ _ _ (Nat.le_refl _)]
end Go.Proofs.YtcllbjanalhjgaaGreatDoor
namespace Go.Proofs.YtcllbjanalhjgaaGreatDoor
set_option maxRecDepth 100000
set_option maxHeartbeats 32000000
set_option linter.unusedSimpArgs false
set_option linter.unusedVariables false
open Go Go.RowKit Vm Go.Lib Tryz
open Vm renaming be→Ca,bo→Cb
open And renaming intro→Ai
open List renaming length_map→Lm,not_mem_nil→Ln,map_nil→Lo,map_cons→Lc,mem_cons→Lk
open Bool renaming not_false→Bf,not_true→Bt
def nk {α:Type}(a b:List α)(k:Nat):Prop:=∀ i,i<k→a[i]? = b[i]?
theorem oq {α:Type}{a b:List α}(hl:a.length=b.length)(h:nk a b a.length):a=b:=by
 refine List.ext_getElem? fun i=>?_
 by_cases hi:i<a.length
 ·exact h i hi
 ·rw[List.getElem?_eq_none (by omega),List.getElem?_eq_none (by omega)]
theorem jm {α:Type}{a b:List α}{k:Nat}{x:α}(h:nk a b k)(ha:a[k]? = some x)(hb:b[k]? = some x):nk a b (k+1):=by
 intro i hi
 by_cases e:i=k
 ·subst e;rw[ha,hb]
 ·exact h i (by omega)
theorem qI {α:Type}{a b:List α}{k:Nat}{x y:α}(ha:a[k]? = some x)(hb:b[k]? = some y)(h:x≠y):a≠b:=by
 rintro rfl
 rw[ha]at hb;cases hb;exact h rfl
theorem IP (n m:Nat):((n:Int)==(m:Int))=decide (n=m):=by
 rw[Bool.eq_iff_iff,beq_iff_eq,decide_eq_true_iff];omega
theorem kg {n m:Nat}(h:n=m):((n:Int) !=(m:Int))=false:=by subst h;simp
theorem ki {n m:Nat}(h:n≠m):((n:Int) !=(m:Int))=true:=by rw[bne_iff_ne];omega
theorem NU:(∀ M,mr M [] []=True)∧(∀ M u v l r,mr M (u::l) (v::r)=(nG M u v∧mr M l r))∧(∀ M,mu M []=True)∧(∀ M u l,mu M (u::l)=(mi M u∧mu M l)) ∧
  (∀ M nm lo n sz rows,nG M (.own nm lo n) (.sl false sz rows)=(sz=dn M nm∧iX (fX [] M (((bm M nm).drop lo).take n)) rows))∧(∀ M nm lo n,mi M (.own nm lo n)=((M nm).isSome=true∧lo+n≤(bm M nm).length∧eV [] M (((bm M nm).drop lo).take n))) ∧
  (∀ M s t,nG M (.str s) (.str t)=(s=t))∧(∀ M s,mi M (.str s)=True)∧(iX [] []=True) :=
 ⟨CI,zw,CJ,zx,Fb,Fe,Fc,Ff,eq_true trivial⟩
theorem ze {l:List Pr}{a:Pr}(h:a∈l):(qV a).length≤(gW l).length:=by
 unfold gW
 rw[List.length_flatMap]
 exact sG (f:=fun x=>(qV x).length) h
theorem EC {l:List Tk}{t:Tk}(h:t∈l):(pA t).length≤(oz l).length:=by
 unfold oz
 rw[List.length_flatMap]
 exact sG (f:=fun x=>(pA x).length) h
theorem Hj {t:Tk}(ht:gn t=true){n:Nat}(hn:(pA t).length≤n):t.okTo (n+16):=by
 obtain⟨k,m,l,x⟩:=t
 unfold gn at ht
 dsimp only at ht
 unfold pA at hn
 dsimp only at hn
 have hx:=(je false x).1
 split at ht
 ·rename_i hk
  rw[if_neg (show ¬ k=4 by omega),if_neg (show ¬ k=2 by omega)]at hn
  simp only[Bool.and_eq_true,List.isEmpty_iff]at ht
  obtain⟨⟨_,h2⟩,rfl⟩:=ht
  have h16:=(ik.1 h2).1
  simp only[List.length_append,List.length_cons,List.length_nil]at hn
  refine⟨by show l.length≤n+16;omega,by show m.length≤n+16;omega,by simp,fun a ha=>?_⟩
  have h3:=ze ha
  have h4:=(je true a.value).1
  simp only[qV,List.length_append,List.length_cons,List.length_nil]at h3
  omega
 ·split at ht
  ·rename_i hk
   subst hk
   rw[if_neg (by decide),if_pos rfl]at hn
   simp only[Bool.and_eq_true,List.isEmpty_iff]at ht
   obtain⟨⟨_,rfl⟩,rfl⟩:=ht
   simp only[List.length_append,List.length_cons,List.length_nil]at hn
   exact⟨by simp,by show m.length≤n+16;omega,by simp,fun a ha=>by simp at ha⟩
  ·split at ht
   ·rename_i hk
    subst hk
    rw[if_pos rfl]at hn
    simp only[Bool.and_eq_true,List.isEmpty_iff]at ht
    obtain⟨⟨⟨rfl,rfl⟩,_⟩,_⟩:=ht
    exact⟨by simp,by simp,by show x.length≤n+16;omega,fun a ha=>by simp at ha⟩
   ·cases ht
theorem Jd {t:Tk}{a b:Nat}(h:t.okTo a)(hab:a≤b):t.okTo b:=by
 obtain⟨h1,h2,h3,h4⟩:=h
 exact⟨by omega,by omega,by omega,fun x hx=>by have:=h4 x hx;omega⟩
theorem F5 {s:List UInt8}(h:(eB s).2.2=0):∀ t∈(eB s).1,t.okTo (6*s.length+16):=by
 obtain⟨h1,_,_,_,_,h6⟩:=(vV s).1 h
 intro t ht
 exact Hj (h1 t ht) (Nat.le_trans (EC ht) h6)
theorem yM {t:Tk}(ht:gn t=true):t.attrs.length≤16:=by
 unfold gn at ht
 split at ht
 ·simp only[Bool.and_eq_true]at ht
  exact(ik.1 ht.1.2).1
 ·split at ht
  ·simp only[Bool.and_eq_true,List.isEmpty_iff]at ht
   rw[ht.1.2];simp
  ·split at ht
   ·simp only[Bool.and_eq_true,List.isEmpty_iff]at ht
    rw[ht.1.1.2];simp
   ·cases ht
end Go.Proofs.YtcllbjanalhjgaaGreatDoor
