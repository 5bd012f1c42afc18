/-
 Texts joined: XVs,XVt,XVv,XVz,XVu,XVU.
-/
import Derived.IntWalk
import Derived.Test.YtlnlopnpcmahgaaGreatDoorQb
set_option linter.all false
namespace Go.Proofs.YtlnlopnpcmahgaaGreatDoor.Vm
open Go Go.RowKit
def ph (cx:Cx)(N:Nat)(rs:List ResultVar)(nm:Nat)(M0:ap)(v:V)(eff:List (Nat×Option Blk))(b0 n:Nat)(e:Env)(M:ap):Prop:=∃ gs,Pg cx N rs nm M0 v eff b0 e (M.ghosts n gs)
def l8 (cx:Cx)(fn:Func)(nm:Nat)(M:ap)(v:V)(eff:List (Nat×Option Blk))(b0:Nat):Ex->Nat->Env->ap->Prop
 | .exit _,_,_,_=>False
 | .panic _,_,_,_=>False
 | _,n,e,M'=>ph cx fn.ntmps fn.results.toList nm M v eff b0 n e M'
def Ja {cx:Cx}(hD:cx.D=[]){f:FuncId}{nm:Nat}{args:List V}{M:ap}{v:V}{eff:List (Nat×Option Blk)}{fn:Func}{c:Code}
  (hcall:∀ cargs w,(callFunc f cargs).run cx.P w = .ok (.enter f cargs) w) (hf:cx.P.funcs[f]? = some fn) (hb:fn.body=some c) (hm:cx.P.follows .mixedOrders=true) (hin:dj fn.ntmps c=true) (hargs:args.length<=fn.ntmps)
  (hvc:∀ b0,(∀ x,b0<=x->M x=none)->vc cx b0 c (l8 cx fn nm M v eff b0) b0 (eZ args) M):Ev cx f nm args M v eff:=by
 refine⟨trivial,?_⟩
 intro X w Y cargs B hrel hfr hB hlen his
 have hstart:Lies cx fn.ntmps X w (bL Y M) Y B B (eZ args) M Y { tmps:=cargs++Array.replicate (fn.ntmps-cargs.size) undef,defers:=[] } w:=by
  refine⟨hrel,⟨by simp;omega,hD.symm,fun t ht=>?_⟩,hB,fun _ _ h=>h,Nat.le_refl _,fun _ _=>rfl,fun x hx=>(hB x hx).2⟩
  simp only[eZ,Array.getD_eq_getD_getElem?]
  by_cases hlt:t<args.length
  ·rw[Array.getElem?_append_left (by omega),List.getElem?_eq_getElem hlt,Array.getElem?_eq_getElem (show t<cargs.size by omega)]
   exact his t _ _ (List.getElem?_eq_getElem hlt) (Array.getElem?_eq_getElem (by omega))
  ·rw[List.getElem?_eq_none (by omega)]
   exact .any _
 refine .inl ⟨hcall _ _,?_⟩
 refine lu hf hb (jE.mono (dC hm c _ B (eZ args) M Y _ w hin hstart (hvc B (fun x hx=>(hB x hx).1))) ?_)
 rintro x a w' ⟨n,e,M',Y',h',hq⟩
 have done:ph cx fn.ntmps fn.results.toList nm M v eff B n e M'->a.defers=[] /\ ∃ cv,(results fn a.tmps).run cx.P w' = .ok cv w' /\ ∃ cv',Ending.returned cv = .returned cv'/\eC cx.G X w (bL Y M) Y M w nm v (M.app eff) cv' w':=fun ⟨gs,hfin⟩=>by
  have h':=h'.ghosts gs
  obtain⟨cv,h1,h2⟩:=rv h'.rel h'.env fn hfin.1
  exact⟨h'.env.defers.trans hD,cv,h1,cv,rfl,qI hrel hfr hB h' hfin h2⟩
 cases x<;>simp only[l8]at hq<;>try (exact hq.elim)
 case normal=>exact done hq
 case ret=>exact done hq
 case panic ch=>obtain⟨_,_,_,_,hf⟩:=hq;exact hf.elim
def Om {cx:Cx}{N:Nat}{X:Nat->Prop}{w:World}{Y:Names}{M:ap}{B nm n:Nat}{e:Env}{M':ap}{Y':Names}{a:Act}{w':World}{v:V}{cv:Value}(hrel:Rel cx.G X w (bL Y M) Y M w)(h':Lies cx N X w (bL Y M) Y B n e M' Y' a w')(hG:∀ g,(cx.G g).plain=true)(hpl:v.plain=true)(hv:Is Y' (bM X Y' M') w' v cv):eC cx.G X w (bL Y M) Y M w nm v ap.nil cv w':=by
 have hd:∀ b,bM X Y ap.nil b->bM X Y' M' b:=fun b hb=>by
  rcases hb with hb|⟨x,l,h,_⟩
  ·exact .inl hb
  ·cases h
 refine⟨Y,⟨h'.rel.size,h'.rel.os,h'.rel.tape,h'.rel.output,h'.rel.old,fun x k h=>(by cases h),fun x y l l' h=>(by cases h),h'.rel.hX,fun g=>(h'.rel.glob g).plain (Nat.le_refl _) (fun _ _ _=>rfl) (fun b _ hb=>hd b hb) (hG g)⟩,⟨fun _ _ h=>h,h'.rel.size,h'.rel.os,h'.rel.tape,h'.rel.output,fun b hb hk=>h'.rel.old b hb ?_,fun x l h=>(by cases h)⟩,hv.plain (Nat.le_refl _) (fun _ _ _=>rfl) (fun b _ hb=>hd b hb) hpl,fun _ _=>rfl⟩
 rintro ⟨x,l,h1,h2,h3⟩
 exact hk x l h1 h2 h3
def Iw (v:V):Ex->Nat->Env->ap->Prop
 | .panic u,_,_,_=>u=v
 | _,_,_,_=>False
def Gb {cx:Cx}(hD:cx.D=[]){f:FuncId}{nm:Nat}{args:List V}{M:ap}{v:V}{fn:Func}{c:Code}
  (hcall:∀ cargs w,(callFunc f cargs).run cx.P w = .ok (.enter f cargs) w) (hf:cx.P.funcs[f]? = some fn) (hb:fn.body=some c) (hm:cx.P.follows .mixedOrders=true) (hin:dj fn.ntmps c=true) (hargs:args.length<=fn.ntmps) (hG:∀ g,(cx.G g).plain=true) (hpl:v.plain=true)
  (hvc:∀ b0,(∀ x,b0<=x->M x=none)->vc cx b0 c (Iw v) b0 (eZ args) M):y5 cx f nm args M v:=by
 refine⟨trivial,?_⟩
 intro X w Y cargs B hrel hfr hB hlen his
 have hstart:Lies cx fn.ntmps X w (bL Y M) Y B B (eZ args) M Y { tmps:=cargs++Array.replicate (fn.ntmps-cargs.size) undef,defers:=[] } w:=by
  refine⟨hrel,⟨by simp;omega,hD.symm,fun t ht=>?_⟩,hB,fun _ _ h=>h,Nat.le_refl _,fun _ _=>rfl,fun x hx=>(hB x hx).2⟩
  simp only[eZ,Array.getD_eq_getD_getElem?]
  by_cases hlt:t<args.length
  ·rw[Array.getElem?_append_left (by omega),List.getElem?_eq_getElem hlt,Array.getElem?_eq_getElem (show t<cargs.size by omega)]
   exact his t _ _ (List.getElem?_eq_getElem hlt) (Array.getElem?_eq_getElem (by omega))
  ·rw[List.getElem?_eq_none (by omega)]
   exact .any _
 refine .inl ⟨hcall _ _,?_⟩
 refine lu hf hb (jE.mono (dC hm c _ B (eZ args) M Y _ w hin hstart (hvc B (fun x hx=>(hB x hx).1))) ?_)
 rintro x a w' ⟨n,e,M',Y',h',hq⟩
 cases x<;>simp only[Iw]at hq<;>try (exact hq.elim)
 case panic ch =>
  obtain⟨u,cv,rfl,hv,rfl⟩:=hq
  refine⟨h'.env.defers.trans hD,cv,rfl,?_⟩
  exact Om hrel h' hG hpl hv
def Fin.pure {cx:Cx}{N:Nat}{rs:List ResultVar}{nm:Nat}{v:V}{b0 n:Nat}{e:Env}{M:ap}(h1:me cx.P N rs e M)(h2:(mh cx.P rs e M).finOk [] M)(h3:((mh cx.P rs e M).fin [] M).le v):ph cx N rs nm ap.nil v [] b0 n e M :=
 ⟨[],Fin.two ⟨h1,[],h2,h3,rfl,List.nodup_nil,List.nodup_nil,(fun p hp=>by cases hp),(fun x hx=>by simp[ap.nil]at hx)⟩⟩
structure Post where
 b0:Nat
 q:Ex->Nat->Env->ap->Prop
inductive Frm where
 | code (c:Code)
 | blk (id:Nat)
 | again (J:Nat->Nat->Env->ap->Prop) (g:Nat)
 | cut (J:Nat->Env->ap->Prop)
def kc (cx:Cx)(Q:Post):List Frm->Ex->Nat->Env->ap->Prop
 | []=>Q.q
 | .code c::st=>fun x n e M=>match x with | .normal=>vc cx Q.b0 c (kc cx Q st) n e M | .exit id=>kc cx Q st (.exit id) n e M | .ret=>kc cx Q st .ret n e M | .panic v=>kc cx Q st (.panic v) n e M
 | .blk id::st=>fun x n e M=>match x with | .normal=>kc cx Q st .normal n e M | .exit id'=>if id'=id then kc cx Q st .normal n e M else kc cx Q st (.exit id') n e M | .ret=>kc cx Q st .ret n e M | .panic v=>kc cx Q st (.panic v) n e M
 | .again J g::st=>fun x n e M=>match x with | .normal=>∃ g',g'<g /\ ∃ nm' e' M',ow cx Q.b0 n e M nm' e' M'/\J g' nm' e' M' | .exit id=>kc cx Q st (.exit id) n e M | .ret=>kc cx Q st .ret n e M | .panic v=>kc cx Q st (.panic v) n e M
 | .cut J::st=>fun x n e M=>match x with | .normal=>J n e M | .exit id=>kc cx Q st (.exit id) n e M | .ret=>kc cx Q st .ret n e M | .panic v=>kc cx Q st (.panic v) n e M
section
variable (cx:Cx) (Q:Post) (st:List Frm) (nm:Nat) (e:Env) (M:ap)
def go (c:Code):Prop:=vc cx Q.b0 c (kc cx Q st) nm e M
def dZ (x:Ex):Prop:=kc cx Q st x nm e M
def aK (d:Bool)(fs:List (List Nat))(ops r:List Oper)(i:Nat):Prop:=cA cx ops d (fun n e M v=>d=false/\kc cx Q st (.panic v) n e M) r nm i e M fs (fun n e M fs=>(d=true->kw cx.P ops fs)/\kc cx Q st .normal n e M)
def EG (fs:List (List Nat))(ops:List Oper):Prop:=kw cx.P ops fs/\kc cx Q st .normal nm e M
def hZ (d:Bool)(fs:List (List Nat))(ops:List Oper)(o:Oper)(r:List Oper)(i:Nat):Prop:=aK cx Q st nm e M d fs ops (o::r) i
def cF (d:Bool)(fs:List (List Nat))(ops:List Oper)(o:Oper)(r:List Oper)(i:Nat):Prop:=∃ v eff ft,ExtDoes cx o (nm+16*i) e M v eff ft/\aK cx Q st nm (e.putD o.dst v) (M.app eff) d (fs++[ft]) ops r (i+1)
def qQ (d:Bool)(fs:List (List Nat))(c:Bool)(ops:List Oper)(o:Oper)(r:List Oper)(i:Nat):Prop:=(∃ v ft,(ft≠[]->gM o.op=false)/\(c=true->ExtDoes cx o (nm+16*i) e M v [] ft)/\aK cx Q st nm (e.putD o.dst (.gd c v)) M d (fs++[ft]) ops r (i+1)) \/
 ((c=true->cF cx Q st nm e M d fs ops o r i)/\(c=false->aK cx Q st nm (e.putD o.dst .any) M d (fs++[[]]) ops r (i+1)))
def Sm (d:Bool)(fs:List (List Nat))(ops:List Oper)(o:Oper)(r:List Oper)(i:Nat):Prop:=∃ v eff,CommDoes cx o (nm+16*i) e M v eff/\aK cx Q st nm (e.putD o.dst v) (M.app eff) d (fs++[am eff]) ops r (i+1)
def bX (d:Bool)(fs:List (List Nat))(gv:V)(want:Bool)(ops:List Oper)(o:Oper)(r:List Oper)(i:Nat):Prop:=match jN gv want with
 | some c=>if fT o.op=true then iE cx c e M (nm+16*i) o (fun v l=>aK cx Q st nm (e.putD o.dst (.gd c v)) M d (fs++[l]) ops r (i+1))\/(c=true/\fW cx true e M (nm+16*i) o (fun v eff l=>aK cx Q st nm (e.putD o.dst v) (M.app eff) d (fs++[l++am eff]) ops r (i+1)))
  else if jO cx.P o.op=true then qQ cx Q st nm e M d fs c ops o r i
  else if nX o.op=true then (c=true->bQ cx c e M o)/\aK cx Q st nm (e.putD o.dst (.gd c (eP cx c e M (nm+16*i) o))) M d (fs++[ij cx c e (nm+16*i) o]) ops r (i+1)
  else (c=true->bQ cx true e M o/\aK cx Q st nm (e.putD o.dst (eP cx true e M (nm+16*i) o)) (M.app (fQ cx true e M (nm+16*i) o)) d (fs++[ij cx true e (nm+16*i) o]) ops r (i+1))/\(c=false->aK cx Q st nm (e.putD o.dst .any) M d (fs++[[]]) ops r (i+1))
 | none=>False
def eA (d:Bool)(fs:List (List Nat))(c:Bool)(ops:List Oper)(o:Oper)(r:List Oper)(i:Nat):Prop:=iE cx c e M (nm+16*i) o (fun v l=>aK cx Q st nm (e.putD o.dst (.gd c v)) M d (fs++[l]) ops r (i+1))\/(c=true/\fW cx true e M (nm+16*i) o (fun v eff l=>aK cx Q st nm (e.putD o.dst v) (M.app eff) d (fs++[l++am eff]) ops r (i+1)))
def qU (c:Code):Prop:=vc cx Q.b0 (.loop c) (kc cx Q st) nm e M
def oN (v:V)(a b:Code):Prop:=match v with
 | .bool t=>(t=true->go cx Q st nm e M a)/\(t=false->go cx Q st nm e M b)
 | .bit t f=>(t=true->go cx Q st nm e M a)/\(f=true->go cx Q st nm e M b)
 | _=>False
def NF:go cx Q st nm e M .skip=dZ cx Q st nm e M .normal:=propext Iff.rfl
def JD (l:Nat):go cx Q st nm e M (.label l)=dZ cx Q st nm e M .normal:=propext Iff.rfl
def ND (id:Nat):go cx Q st nm e M (.exit id)=dZ cx Q st nm e M (.exit id):=propext Iff.rfl
def go_ret:go cx Q st nm e M .ret=dZ cx Q st nm e M .ret:=propext Iff.rfl
def P4 (a b:Code):go cx Q st nm e M (.seq a b)=go cx Q (.code b::st) nm e M a:=propext Iff.rfl
def JE (c:Code):go cx Q st nm e M (.scope c)=go cx Q st nm e M c:=propext Iff.rfl
def JB (id:Nat)(c:Code):go cx Q st nm e M (.block id c)=go cx Q (.blk id::st) nm e M c:=propext Iff.rfl
def NC (c:Operand)(a b:Code):go cx Q st nm e M (.cond c a b)=oN cx Q st nm e M (aw cx.G true e c) a b:=propext Iff.rfl
def NE (c:Code):go cx Q st nm e M (.loop c)=qU cx Q st nm e M c:=propext Iff.rfl
def GI (id:Nat)(ops:Array Oper)(d:Bool):go cx Q st nm e M (.region id ops d)=aK cx Q st nm e M d [] ops.toList ops.toList 0:=propext Iff.rfl
def Aj (a b:Code):oN cx Q st nm e M (.bool true) a b=go cx Q st nm e M a:=by simp only[oN,true_implies,Bool.true_eq_false,false_implies,and_true]
def x5 (a b:Code):oN cx Q st nm e M (.bool false) a b=go cx Q st nm e M b:=by simp only[oN,true_implies,Bool.false_eq_true,false_implies,true_and]
def iN (x:Ex):dZ cx Q [] nm e M x=Q.q x nm e M:=propext Iff.rfl
def GB (c:Code):dZ cx Q (.code c::st) nm e M .normal=go cx Q st nm e M c:=propext Iff.rfl
def ub (c:Code)(id:Nat):dZ cx Q (.code c::st) nm e M (.exit id)=dZ cx Q st nm e M (.exit id):=propext Iff.rfl
def vF (c:Code):dZ cx Q (.code c::st) nm e M .ret=dZ cx Q st nm e M .ret:=propext Iff.rfl
def JA (id:Nat):dZ cx Q (.blk id::st) nm e M .normal=dZ cx Q st nm e M .normal:=propext Iff.rfl
def vE (id id':Nat):dZ cx Q (.blk id::st) nm e M (.exit id')=if id'=id then dZ cx Q st nm e M .normal else dZ cx Q st nm e M (.exit id'):=propext Iff.rfl
def x6 (id:Nat):dZ cx Q (.blk id::st) nm e M .ret=dZ cx Q st nm e M .ret:=propext Iff.rfl
def sj (J:Nat->Nat->Env->ap->Prop)(g:Nat)(id:Nat):dZ cx Q (.again J g::st) nm e M (.exit id)=dZ cx Q st nm e M (.exit id):=propext Iff.rfl
def ua (J:Nat->Nat->Env->ap->Prop)(g:Nat):dZ cx Q (.again J g::st) nm e M .ret=dZ cx Q st nm e M .ret:=propext Iff.rfl
def vG (J:Nat->Env->ap->Prop)(id:Nat):dZ cx Q (.cut J::st) nm e M (.exit id)=dZ cx Q st nm e M (.exit id):=propext Iff.rfl
def x7 (J:Nat->Env->ap->Prop):dZ cx Q (.cut J::st) nm e M .ret=dZ cx Q st nm e M .ret:=propext Iff.rfl
def ax (c:Code)(v:V):dZ cx Q (.code c::st) nm e M (.panic v)=dZ cx Q st nm e M (.panic v):=propext Iff.rfl
def aB (id:Nat)(v:V):dZ cx Q (.blk id::st) nm e M (.panic v)=dZ cx Q st nm e M (.panic v):=propext Iff.rfl
def av (J:Nat->Nat->Env->ap->Prop)(g:Nat)(v:V):dZ cx Q (.again J g::st) nm e M (.panic v)=dZ cx Q st nm e M (.panic v):=propext Iff.rfl
def EH (d:Bool)(i:Nat)(v:V):Prop:=match v with
 | .iface t u=>d=false/\dZ cx Q st (nm+16*(i+1)) e M (.panic (.iface t u))
 | _=>False
def aH (i:Nat)(t:TypeId)(u:V):EH cx Q st nm e M false i (.iface t u)=dZ cx Q st (nm+16*(i+1)) e M (.panic (.iface t u)):=by simp only[EH,true_and]
def aG (d:Bool)(fs:List (List Nat))(ops:List Oper)(dst:Option Tmp)(x:Operand)(t:TypeId)(pos:String)(af:Array Edge)(r:List Oper)(i:Nat):aK cx Q st nm e M d fs ops (⟨dst,.panic x,t,pos,af,none⟩::r) i=EH cx Q st nm e M d i (aw cx.G true e x):=by
 unfold aK EH
 simp only[cA,fT,if_true,fW,qo,vf,false_or,and_false,or_false]
 have hl:∀ M:ap,M.app (jQ [])=M:=fun M=>rfl
 simp only[hl]
 rfl
def GH (fs:List (List Nat))(ops:List Oper)(i:Nat):aK cx Q st nm e M false fs ops [] i=dZ cx Q st (nm+16*i) e M .normal:=by
 simp only[aK,cA,dZ,Bool.false_eq_true,false_implies,true_and]
def ug (fs:List (List Nat))(ops:List Oper)(i:Nat):aK cx Q st nm e M true fs ops [] i=EG cx Q st (nm+16*i) e M fs ops:=by
 simp only[aK,cA,EG,true_implies]
def CK (d:Bool)(fs:List (List Nat))(ops:List Oper)(dst:Option Tmp)(f:Operand)(args:Array Operand)(ats:Array TypeId)(t:TypeId)(pos:String)(af:Array Edge)(r:List Oper)(i:Nat) :
  aK cx Q st nm e M d fs ops (⟨dst,.call ⟨.value f,args,ats⟩,t,pos,af,none⟩::r) i=hZ cx Q st nm e M d fs ops ⟨dst,.call ⟨.value f,args,ats⟩,t,pos,af,none⟩ r i:=propext Iff.rfl
def Aq (d:Bool)(fs:List (List Nat))(ops:List Oper)(dst:Option Tmp)(op:Op)(t:TypeId)(pos:String)(af:Array Edge)(j:Nat)(want:Bool)(r:List Oper)(i:Nat) :
  aK cx Q st nm e M d fs ops (⟨dst,op,t,pos,af,some (j,want)⟩::r) i=bX cx Q st nm e M d fs (jb ops e j) want ops ⟨dst,op,t,pos,af,some (j,want)⟩ r i:=by
 unfold aK bX
 simp only[cA,aK,qQ,cF]
 cases jN (jb ops e j) want<;>rfl
def ud (d:Bool)(fs:List (List Nat))(c x want:Bool)(ops:List Oper)(o:Oper)(r:List Oper)(i:Nat):bX cx Q st nm e M d fs (.gd c (.bool x)) want ops o r i=bX cx Q st nm e M d fs (.bool (c&&(x==want))) true ops o r i:=by
 have h:∀ y:Bool,(y==true)=y:=fun y=>by cases y<;>rfl
 simp only[bX,jN,h]
def Ak (d:Bool)(fs:List (List Nat))(v:V)(want:Bool)(ops:List Oper)(o:Oper)(r:List Oper)(i:Nat):bX cx Q st nm e M d fs (.gd false v) want ops o r i=bX cx Q st nm e M d fs (.bool false) true ops o r i:=by
 have h1:jN (.gd false v) want=some false:=by cases v<;>rfl
 have h2:jN (.bool false) true=some false:=rfl
 simp only[bX,h1,h2]
variable {cx Q st nm e M}
def ba {t:Bool}{a b:Code}(h1:t=true->go cx Q st nm e M a)(h2:t=false->go cx Q st nm e M b):oN cx Q st nm e M (.bool t) a b:=⟨h1,h2⟩
def bh {t f:Bool}{a b:Code}(h1:t=true->go cx Q st nm e M a)(h2:f=true->go cx Q st nm e M b):oN cx Q st nm e M (.bit t f) a b:=⟨h1,h2⟩
def cE {d:Bool}{fs:List (List Nat)}{ops:List Oper}{dst:Option Tmp}{f:Operand}{args:Array Operand}{ats:Array TypeId}{t:TypeId}{pos:String}{af:Array Edge}{r:List Oper}{i:Nat}{g:FuncId}{caps:List V}{as:List V}(hf:aw cx.G true e f = .fn g caps)
  (has:args.toList.map (aw cx.G true e)++caps=as) (l:List Nat) {v:V} {eff:List (Nat×Option Blk)} (hev:Ev cx g (nm+16*i) as (M.only l) v eff) (he:∀ x∈am eff,(x∈l/\(M x).isSome=true)\/cg (nm+16*i) x)
  (h:aK cx Q st nm (e.putD dst v) (M.app eff) d (fs++[l++am eff]) ops r (i+1)):hZ cx Q st nm e M d fs ops ⟨dst,.call ⟨.value f,args,ats⟩,t,pos,af,none⟩ r i:=by
 subst has
 show cA _ _ _ _ _ _ _ _ _ _ _
 simp only[cA,fT,if_true,fW,hf,V.tgt,List.nil_append]
 exact .inl ⟨l,v,eff,hev,he,h⟩
def c5 {d:Bool}{fs:List (List Nat)}{ops:List Oper}{dst:Option Tmp}{f:Operand}{args:Array Operand}{ats:Array TypeId}{t:TypeId}{pos:String}{af:Array Edge}{r:List Oper}{i:Nat}{g:FuncId}{caps:List V}{as:List V}(hf:aw cx.G true e f = .fn g caps)
  (has:args.toList.map (aw cx.G true e)++caps=as) {v:V} (hev:Ev cx g (nm+16*i) as ap.nil v []) (h:aK cx Q st nm (e.putD dst v) M d (fs++[[]]) ops r (i+1)):hZ cx Q st nm e M d fs ops ⟨dst,.call ⟨.value f,args,ats⟩,t,pos,af,none⟩ r i :=
 cE hf has [] (by rw[ap.only_nil];exact hev) (fun x hx=>by simp[am]at hx) h
def B9 {d:Bool}{fs:List (List Nat)}{ops:List Oper}{c:Bool}{dst:Option Tmp}{f:Operand}{args:Array Operand}{ats:Array TypeId}{t:TypeId}{pos:String}{af:Array Edge}{gd:Option (Nat×Bool)}{r:List Oper}{i:Nat}{g:FuncId}{caps:List V}{as:List V}(hf:aw cx.G c e f = .fn g caps)
  (has:args.toList.map (aw cx.G c e)++caps=as) {v:V} (hev:c=true->Ev cx g (nm+16*i) as ap.nil v []) (h:aK cx Q st nm (e.putD dst (.gd c v)) M d (fs++[[]]) ops r (i+1)):eA cx Q st nm e M d fs c ops ⟨dst,.call ⟨.value f,args,ats⟩,t,pos,af,gd⟩ r i:=by
 subst has
 unfold eA iE
 refine .inl ?_
 simp only[hf,V.tgt,List.nil_append]
 exact⟨[],v,by rw[ap.only_nil];exact hev,h⟩
def MX {d:Bool}{fs:List (List Nat)}{ops:List Oper}{dst:Option Tmp}{f:Operand}{args:Array Operand}{ats:Array TypeId}{t:TypeId}{pos:String}{af:Array Edge}{gd:Option (Nat×Bool)}{r:List Oper}{i:Nat}{g:FuncId}{caps fi:List V}{as:List V}(hf:(aw cx.G true e f).tgt=some (g,caps,fi))
  (has:fi++(args.toList.map (aw cx.G true e)++caps)=as) (l:List Nat) {v:V} {eff:List (Nat×Option Blk)} (hev:Ev cx g (nm+16*i) as (M.only l) v eff) (he:∀ x∈am eff,(x∈l/\(M x).isSome=true)\/cg (nm+16*i) x)
  (h:aK cx Q st nm (e.putD dst v) (M.app eff) d (fs++[l++am eff]) ops r (i+1)):eA cx Q st nm e M d fs true ops ⟨dst,.call ⟨.value f,args,ats⟩,t,pos,af,gd⟩ r i:=by
 subst has
 unfold eA fW
 refine .inr ⟨rfl,?_⟩
 simp only[hf]
 exact⟨l,v,eff,hev,he,h⟩
def eF {d:Bool}{fs:List (List Nat)}{ops:List Oper}{dst:Option Tmp}{f:Operand}{args:Array Operand}{ats:Array TypeId}{t:TypeId}{pos:String}{af:Array Edge}{r:List Oper}{i:Nat}{g:FuncId}{fi:List V}{as:List V}(hf:aw cx.G true e f = .fnb g fi)
  (has:fi++args.toList.map (aw cx.G true e)=as) (l:List Nat) {v:V} {eff:List (Nat×Option Blk)} (hev:Ev cx g (nm+16*i) as (M.only l) v eff) (he:∀ x∈am eff,(x∈l/\(M x).isSome=true)\/cg (nm+16*i) x)
  (h:aK cx Q st nm (e.putD dst v) (M.app eff) d (fs++[l++am eff]) ops r (i+1)):hZ cx Q st nm e M d fs ops ⟨dst,.call ⟨.value f,args,ats⟩,t,pos,af,none⟩ r i:=by
 subst has
 show cA _ _ _ _ _ _ _ _ _ _ _
 simp only[cA,fT,if_true,fW,hf,V.tgt,List.append_nil]
 exact .inl ⟨l,v,eff,hev,he,h⟩
def cX {fs:List (List Nat)}{ops:List Oper}{dst:Option Tmp}{g:FuncId}{args:Array Operand}{ats:Array TypeId}{t:TypeId}{pos:String}{af:Array Edge}{r:List Oper}{i:Nat}{as:List V}
  (has:args.toList.map (aw cx.G true e)=as) (l:List Nat) {v:V} (hev:y5 cx g (nm+16*i) as (M.only l) v)
  (h:dZ cx Q st (nm+16*(i+1)) e (M.app (jQ l)) (.panic v)):hZ cx Q st nm e M false fs ops ⟨dst,.call ⟨.value (.func g),args,ats⟩,t,pos,af,none⟩ r i:=by
 subst has
 show cA _ _ _ _ _ _ _ _ _ _ _
 simp only[cA,fT,if_true,qo,aw,V.tgt,List.nil_append,List.append_nil]
 exact .inr (.inl ⟨l,v,hev,trivial,h⟩)
def FU {fs:List (List Nat)}{ops:List Oper}{dst:Option Tmp}{g:FuncId}{args:Array Operand}{ats:Array TypeId}{t:TypeId}{pos:String}{af:Array Edge}{r:List Oper}{i:Nat}{as:List V}
  (has:args.toList.map (aw cx.G true e)=as) (l:List Nat) {R:V->Prop} {eff:List (Nat×Option Blk)} (hev:Pf cx g (nm+16*i) as (M.only l) R eff) (he:∀ x∈am eff,(x∈l/\(M x).isSome=true)\/cg (nm+16*i) x)
  (h:∀ v,R v->aK cx Q st nm (e.putD dst v) (M.app eff) false (fs++[l++am eff]) ops r (i+1)):hZ cx Q st nm e M false fs ops ⟨dst,.call ⟨.value (.func g),args,ats⟩,t,pos,af,none⟩ r i:=by
 subst has
 show cA _ _ _ _ _ _ _ _ _ _ _
 refine Or.inr (Or.inr ⟨rfl,?_⟩)
 exact⟨l,R,eff,by rw[List.append_nil];exact hev,he,h⟩
def mu {d:Bool}{fs:List (List Nat)}{ops:List Oper}{dst:Option Tmp}{f:Operand}{args:Array Operand}{ats:Array TypeId}{t:TypeId}{pos:String}{af:Array Edge}{gd:Option (Nat×Bool)}{r:List Oper}{i:Nat}{g:FuncId}{fi:List V}{as:List V}(hf:aw cx.G true e f = .fnb g fi)
  (has:fi++args.toList.map (aw cx.G true e)=as) (l:List Nat) {v:V} {eff:List (Nat×Option Blk)} (hev:Ev cx g (nm+16*i) as (M.only l) v eff) (he:∀ x∈am eff,(x∈l/\(M x).isSome=true)\/cg (nm+16*i) x)
  (h:aK cx Q st nm (e.putD dst v) (M.app eff) d (fs++[l++am eff]) ops r (i+1)):eA cx Q st nm e M d fs true ops ⟨dst,.call ⟨.value f,args,ats⟩,t,pos,af,gd⟩ r i :=
 MX (caps:=[]) (by rw[hf];rfl) (by rw[List.append_nil];exact has) l hev he h
def ad {d:Bool}{fs:List (List Nat)}{ops:List Oper}{dst:Option Tmp}{g:FuncId}{args:Array Operand}{ats:Array TypeId}{t:TypeId}{pos:String}{af:Array Edge}{r:List Oper}{i:Nat}{as:List V}
  (has:args.toList.map (aw cx.G true e)=as) {v:V} (hev:Ev cx g (nm+16*i) as ap.nil v []) (h:aK cx Q st nm (e.putD dst v) M d (fs++[[]]) ops r (i+1)):hZ cx Q st nm e M d fs ops ⟨dst,.call ⟨.value (.func g),args,ats⟩,t,pos,af,none⟩ r i :=
 c5 (caps:=[]) rfl (by rw[List.append_nil];exact has) hev h
def ab {d:Bool}{fs:List (List Nat)}{ops:List Oper}{c:Bool}{dst:Option Tmp}{g:FuncId}{args:Array Operand}{ats:Array TypeId}{t:TypeId}{pos:String}{af:Array Edge}{gd:Option (Nat×Bool)}{r:List Oper}{i:Nat}{as:List V}
  (has:args.toList.map (aw cx.G c e)=as) {v:V} (hev:c=true->Ev cx g (nm+16*i) as ap.nil v []) (h:aK cx Q st nm (e.putD dst (.gd c v)) M d (fs++[[]]) ops r (i+1)):eA cx Q st nm e M d fs c ops ⟨dst,.call ⟨.value (.func g),args,ats⟩,t,pos,af,gd⟩ r i :=
 B9 (caps:=[]) rfl (by rw[List.append_nil];exact has) hev h
def ac {d:Bool}{fs:List (List Nat)}{ops:List Oper}{dst:Option Tmp}{g:FuncId}{args:Array Operand}{ats:Array TypeId}{t:TypeId}{pos:String}{af:Array Edge}{r:List Oper}{i:Nat}{as:List V}
  (has:args.toList.map (aw cx.G true e)=as) (l:List Nat) {v:V} {eff:List (Nat×Option Blk)} (hev:Ev cx g (nm+16*i) as (M.only l) v eff) (he:∀ x∈am eff,(x∈l/\(M x).isSome=true)\/cg (nm+16*i) x)
  (h:aK cx Q st nm (e.putD dst v) (M.app eff) d (fs++[l++am eff]) ops r (i+1)):hZ cx Q st nm e M d fs ops ⟨dst,.call ⟨.value (.func g),args,ats⟩,t,pos,af,none⟩ r i :=
 cE (caps:=[]) rfl (by rw[List.append_nil];exact has) l hev he h
def aA {fs:List (List Nat)}{ops:List Oper}(hp:wM cx.P ops=[])(h:dZ cx Q st nm e M .normal):EG cx Q st nm e M fs ops:=⟨Dm hp,h⟩
def bc {fs:List (List Nat)}{ops:List Oper}{ps:List (Nat×Nat)}(hp:wM cx.P ops=ps)(hps:∀ p∈ps,∀ x∈fs.getD p.1 [],x ∉ fs.getD p.2 [])(h:dZ cx Q st nm e M .normal):EG cx Q st nm e M fs ops:=⟨by unfold kw;rw[hp];exact hps,h⟩
def ET {c:Code}(J:Nat->Nat->Env->ap->Prop)(g:Nat){n:Nat}{e':Env}{M':ap}(hw:ow cx Q.b0 nm e M n e' M')(h0:J g n e' M')(hr:∀ g nm e M,J g nm e M->go cx Q (.again J g::st) nm e M c):qU cx Q st nm e M c:=⟨J,g,⟨_,_,_,hw,h0⟩,hr⟩
def za {J:Nat->Nat->Env->ap->Prop}{g:Nat}(g':Nat)(hg:g'<g){n:Nat}{e':Env}{M':ap}(hw:ow cx Q.b0 nm e M n e' M')(h:J g' n e' M'):dZ cx Q (.again J g::st) nm e M .normal:=⟨g',hg,_,_,_,hw,h⟩
end
def vA (cx:Cx)(fn:Func)(nm:Nat)(M:ap)(v:V)(eff:List (Nat×Option Blk))(b0:Nat):Post:=⟨b0,l8 cx fn nm M v eff b0⟩
def PU (cx:Cx)(fn:Func)(nm:Nat)(M:ap)(v:V)(eff:List (Nat×Option Blk))(b0:Nat):(vA cx fn nm M v eff b0).q=l8 cx fn nm M v eff b0:=rfl
def Ew (cx:Cx)(fn:Func)(nm:Nat)(M:ap)(v:V)(eff:List (Nat×Option Blk))(b0:Nat):(vA cx fn nm M v eff b0).b0=b0:=rfl
def Rx {cx:Cx}(hD:cx.D=[]){f:FuncId}{nm:Nat}{args:List V}{M:ap}{v:V}{eff:List (Nat×Option Blk)}{fn:Func}{c:Code}
  (hcall:∀ cargs w,(callFunc f cargs).run cx.P w = .ok (.enter f cargs) w) (hf:cx.P.funcs[f]? = some fn) (hb:fn.body=some c) (hm:cx.P.follows .mixedOrders=true) (hin:dj fn.ntmps c=true) (hargs:decide (args.length<=fn.ntmps)=true)
  (hvc:∀ b0,(∀ x,b0<=x->M x=none)->go cx (vA cx fn nm M v eff b0) [] b0 (eZ args) M c):Ev cx f nm args M v eff :=
 Ja hD hcall hf hb hm hin (of_decide_eq_true hargs) hvc
def Qx (v:V)(b0:Nat):Post:=⟨b0,Iw v⟩
def E7 (v:V)(b0:Nat):(Qx v b0).b0=b0:=rfl
def bg (cx:Cx)(v:V)(b0 nm:Nat)(e:Env)(M:ap):dZ cx (Qx v b0) [] nm e M (.panic v)=True:=eq_true rfl
def jI {cx:Cx}(hD:cx.D=[])(hG:∀ g,(cx.G g).plain=true){f:FuncId}{nm:Nat}{args:List V}{M:ap}{v:V}{fn:Func}{c:Code}(hpl:v.plain=true)
  (hcall:∀ cargs w,(callFunc f cargs).run cx.P w = .ok (.enter f cargs) w) (hf:cx.P.funcs[f]? = some fn) (hb:fn.body=some c) (hm:cx.P.follows .mixedOrders=true) (hin:dj fn.ntmps c=true) (hargs:decide (args.length<=fn.ntmps)=true)
  (hvc:∀ b0,(∀ x,b0<=x->M x=none)->go cx (Qx v b0) [] b0 (eZ args) M c):y5 cx f nm args M v :=
 Gb hD hcall hf hb hm hin (of_decide_eq_true hargs) hG hpl hvc
def Ho (e:Env)(t:Nat)(v:V):e.putD (some t) v=e.put t v:=rfl
def Hn (e:Env)(v:V):e.putD none v=e:=rfl
def Qz (e:Env)(t x:Nat)(v:V):(e.put t v) x=if x=t then v else e x:=rfl
def vW (c:Bool)(v:V):(V.gd c v).strip c=v:=by cases c<;>simp[V.strip]
def oh (c:Bool)(v:V):(V.gd true v).strip c=v:=by simp[V.strip]
def HL (c:Bool):V.any.strip c = .any:=rfl
def DU (c b:Bool):(V.bool b).strip c = .bool b:=rfl
def HM (c t f:Bool):(V.bit t f).strip c = .bit t f:=rfl
def HO (c:Bool)(k:IntKind)(n:Int):(V.int k n).strip c = .int k n:=rfl
def HR (c:Bool)(s:List UInt8):(V.str s).strip c = .str s:=rfl
def DW (c:Bool):V.nilp.strip c = .nilp:=rfl
def HT (c:Bool):V.upt.strip c = .upt:=rfl
def HQ (c:Bool)(a b d:Nat):(V.ptr a b d).strip c = .ptr a b d:=rfl
def LK (c:Bool)(l:List V):(V.rp l).strip c = .rp l:=rfl
def DX (c:Bool):V.nils.strip c = .nils:=rfl
def LL (c t:Bool)(s:Nat)(l:List (List V)):(V.sl t s l).strip c = .sl t s l:=rfl
def HP (c:Bool)(a b d:Nat):(V.own a b d).strip c = .own a b d:=rfl
def DY (c:Bool)(a b d e:Nat):(V.ownc a b d e).strip c = .ownc a b d e:=rfl
def DV (c:Bool)(a:Nat):(V.chan a).strip c = .chan a:=rfl
def LJ (c:Bool)(a:Nat):(V.mp a).strip c = .mp a:=rfl
def HN (c:Bool)(f:Nat)(l:List V):(V.fnb f l).strip c = .fnb f l:=rfl
def Bp (c:Bool)(t:TypeId)(v:V):(V.iface t v).strip c = .iface t v:=rfl
def LI (c:Bool)(f:Nat)(l:List V):(V.fn f l).strip c = .fn f l:=rfl
def HK (c:Bool)(l:List V):(V.agg l).strip c = .agg l:=rfl
def HS (c:Bool)(l:List V):(V.tup l).strip c = .tup l:=rfl
def HU (c:Bool)(v:Value):(V.val v).strip c = .val v:=rfl
def Kz  : V.isNilI (.any )=false:=rfl
def G6 (a0:Bool):V.isNilI (.bool a0)=false:=rfl
def KA (a0:Bool)(a1:Bool):V.isNilI (.bit a0 a1)=false:=rfl
def KD (a0:IntKind)(a1:Int):V.isNilI (.int a0 a1)=false:=rfl
def KH (a0:List UInt8):V.isNilI (.str a0)=false:=rfl
def G8  : V.isNilI (.nilp )=false:=rfl
def KJ  : V.isNilI (.upt )=false:=rfl
def KG (a0:Nat)(a1:Nat)(a2:Nat):V.isNilI (.ptr a0 a1 a2)=false:=rfl
def N8 (a0:List V):V.isNilI (.rp a0)=false:=rfl
def G9  : V.isNilI (.nils )=false:=rfl
def N9 (a0:Bool)(a1:Nat)(a2:List (List V)):V.isNilI (.sl a0 a1 a2)=false:=rfl
def KF (a0:Nat)(a1:Nat)(a2:Nat):V.isNilI (.own a0 a1 a2)=false:=rfl
def Ha (a0:Nat)(a1:Nat)(a2:Nat)(a3:Nat):V.isNilI (.ownc a0 a1 a2 a3)=false:=rfl
def G7 (a0:Nat):V.isNilI (.chan a0)=false:=rfl
def N7 (a0:Nat):V.isNilI (.mp a0)=false:=rfl
def N5 (a0:Nat)(a1:List V):V.isNilI (.fn a0 a1)=false:=rfl
def KC (a0:Nat)(a1:List V):V.isNilI (.fnb a0 a1)=false:=rfl
def Ky (a0:List V):V.isNilI (.agg a0)=false:=rfl
def KI (a0:List V):V.isNilI (.tup a0)=false:=rfl
def N6 (a0:Bool)(a1:V):V.isNilI (.gd a0 a1)=false:=rfl
def Dd (a0:TypeId)(a1:V):V.isNilI (.iface a0 a1)=false:=rfl
def KE:V.isNilI (.val .nilIface)=true:=rfl
def Hl (c x y:Bool):jh c (.bool x) (.bool y) = .bool (if c then x else y):=rfl
def K3 (c x:Bool):jh c (.gd c (.bool x)) (.bool false) = .bool (c&&x):=by cases c<;>simp[jh,V.strip]
def On (c x:Bool):jh c (.bool true) (.gd (!c) (.bool x)) = .bool (c||x):=by cases c<;>simp[jh,V.strip]
def Hk (c x:Bool):jh c ((V.gd c (.bool x)).strip true) (.bool false) = .bool (c&&x):=by cases c<;>simp[jh,V.strip]
def K4 (c x:Bool):jh c (.bool true) ((V.gd (!c) (.bool x)).strip true) = .bool (c||x):=by cases c<;>simp[jh,V.strip]
def FM (b:Bool):(b==true)=b:=by cases b<;>rfl
def B7 (b:Bool):(b==false) = !b:=by cases b<;>rfl
def y8 (a b c:Nat):a+b+c=a+(b+c):=Nat.add_assoc a b c
def Iq (l:List V)(t:Nat):eZ l t=(l[t]?).getD .any:=rfl
def My (M:ap):M.app []=M:=rfl
def ze (M:ap)(x:Nat)(k:Option Blk)(r:List (Nat×Option Blk)):M.app ((x,k)::r)=(M.put x k).app r:=rfl
def N4 (M:ap)(nm x:Nat)(k:Option Blk):(M.put nm k) x=if x=nm then k else M x:=rfl
def Qs (x:Nat):ap.nil x=none:=rfl
mutual
def V.flat:V->Bool
 | .any | .bool _ | .bit _ _ | .int _ _ | .str _ | .nilp | .upt | .nils | .val _=>true
 | .agg cs=>flatL cs
 | .tup cs=>flatL cs
 | .gd _ v=>v.flat
 | .iface _ v=>v.flat
 | _=>false
def flatL:List V->Bool
 | []=>true
 | v::r=>v.flat&&flatL r
end
def nF {l:List V}(h:flatL l=true){i:Nat}{u:V}(hi:l[i]? = some u):u.flat=true:=by
 induction l generalizing i with
 | nil=>simp at hi
 | cons v r ih =>
  simp only[flatL,Bool.and_eq_true]at h
  cases i with
  | zero=>simp at hi;subst hi;exact h.1
  | succ i=>exact ih h.2 (by simpa using hi)
def Is.flat {Y Y':Names}{D D':Nat->Prop}{w w':World}{v:V}{cv:Value}(h:Is Y D w v cv)(hp:v.flat=true):Is Y' D' w' v cv:=by
 induction h with
 | any cv=>exact .any _
 | bool b=>exact .bool _
 | bit b ht hf=>exact .bit b ht hf
 | int k n=>exact .int _ _
 | str s=>exact .str _
 | nilp=>exact .nilp
 | upt p=>exact .upt p
 | ptr h=>simp[V.flat]at hp
 | rp cv hd hb hc _ ih=>simp[V.flat]at hp
 | nils=>exact .nils
 | sl0 ht=>simp[V.flat]at hp
 | sl cv hc ht hd hb hr hx _ ih=>simp[V.flat]at hp
 | own0=>simp[V.flat]at hp
 | own h hl hc=>simp[V.flat]at hp
 | ownc0=>simp[V.flat]at hp
 | ownc h hl hc=>simp[V.flat]at hp
 | chan h=>simp[V.flat]at hp
 | mp h=>simp[V.flat]at hp
 | fn hn _ ih=>simp[V.flat]at hp
 | fnb hn _ ih=>simp[V.flat]at hp
 | iface _ ih=>exact .iface (ih (by simpa [V.flat] using hp))
 | agg hn _ ih=>exact .agg hn (fun i u cv hi hc=>ih i u cv hi hc (nF (by simpa [V.flat] using hp) hi))
 | tup hn _ ih=>exact .tup hn (fun i u cv hi hc=>ih i u cv hi hc (nF (by simpa [V.flat] using hp) hi))
 | gd _ h0 ih=>exact .gd (fun hb=>ih hb (by simpa [V.flat] using hp)) h0
 | val v=>exact .val _
def Ev.view {cx:Cx}{f:FuncId}{nm:Nat}{args:List V}{M:ap}{v:V}(h:Ev cx f nm (finL [] M args) ap.nil v [])(hok:finLOk [] M args)(hv:v.flat=true):Ev cx f nm args M v []:=by
  refine⟨h.1,fun X w Y cargs B hr hfresh hB hn hargs=>?_⟩
  have hdom:∀ b,bM X Y ap.nil b->bM X Y M b:=by
    rintro b (hx|⟨nm,l,h1,_⟩)
    · exact .inl hx
    · simp[ap.nil]at h1
  have hr0:Rel cx.G X w (bL Y ap.nil) Y ap.nil w :=
    { size:=Nat.le_refl _,os:=rfl,tape:=rfl,output:=rfl,old:=fun _ _ _=>rfl
      live:=fun nm k hk=>by simp[ap.nil]at hk
      inj:=fun nm nm' l l' h1=>by simp[ap.nil]at h1
      hX:=fun b hb=>⟨(hr.hX b hb).1,by rintro ⟨nm,q,h1,_⟩;simp[ap.nil]at h1⟩
      glob:=fun g=>(hr.glob g).step (fun _ _ h=>h) (Nat.le_refl _) (fun _ _ _=>rfl) (fun b _ hb=>hdom b hb) }
  refine(h.2 X w Y cargs B hr0 hfresh (fun x hx=>⟨rfl,(hB x hx).2⟩) (by rw[dF];exact hn) ?_).mono ?_
  · intro i u cv hi hc
    rw[fZ]at hi
    obtain⟨u',h1,rfl⟩:=Option.map_eq_some_iff.1 hi
    refine oH (cx:=cx) hr (fun nm y hy=>by simp[aU]at hy) hdom (fun nm l _ hM hl=>?_) (hargs i u' cv h1 hc) (eh hok h1)
    rintro (hx|⟨nm',q,h2,_⟩)
    · exact(hr.block_lt hM hl).2.1 hx
    · simp[ap.nil]at h2
  · rintro e' w' ⟨cv,rfl,Y',r,m,hvv,hn'⟩
    have hkept:∀ b,b<w.heap.size->w'.heap[b]? = w.heap[b]?:=fun b hb=>m.kept b hb (fun nm l h1=>by simp[ap.nil]at h1)
    have mv:Moves Y M w Y M w':=⟨fun _ _ h=>h,m.size,m.os,m.tape,m.output,fun b hb _=>hkept b hb,fun nm l h1 h2 _=>⟨nm,l,h1,h2,rfl⟩⟩
    refine⟨cv,rfl,Y,?_,mv,hvv.flat hv,fun _ _=>rfl⟩
    exact hr.move mv hr.inj (fun nm k hk=>.inl ⟨hk,id,fun l hl=>hkept l.b (hr.block_lt (by rw[show M nm=some k from hk];rfl) hl).1⟩)
section
variable {cx:Cx} {Q:Post} {st:List Frm} {nm:Nat} {e:Env} {M:ap}
def FT {d:Bool}{fs:List (List Nat)}{ops:List Oper}{dst:Option Tmp}{g:FuncId}{args:Array Operand}{ats:Array TypeId}{t:TypeId}{pos:String}{af:Array Edge}{r:List Oper}{i:Nat}{as as':List V}
  (l:List Nat) (has:args.toList.map (aw cx.G true e)=as) (has':finL [] (M.only l) as=as') (hok:finLOk [] (M.only l) as) {v:V} (hv:v.flat=true) (hev:Ev cx g (nm+16*i) as' ap.nil v []) (h:aK cx Q st nm (e.putD dst v) M d (fs++[l]) ops r (i+1)):hZ cx Q st nm e M d fs ops ⟨dst,.call ⟨.value (.func g),args,ats⟩,t,pos,af,none⟩ r i :=
 ac has l (Ev.view (by rw[has'];exact hev) hok hv) (fun x hx=>by simp[am]at hx) (by simpa [am,ap.app] using h)
def gA {d:Bool}{fs:List (List Nat)}{ops:List Oper}{dst:Option Tmp}{g:FuncId}{args:Array Operand}{ats:Array TypeId}{t:TypeId}{pos:String}{af:Array Edge}{r:List Oper}{i:Nat}{as:List V}
  (has:args.toList.map (aw cx.G true e)=as) {v:V} {eff:List (Nat×Option Blk)} (hev:Ev cx g (nm+16*i) as ap.nil v eff) (he:∀ x∈am eff,nm+16*i<=x/\x<nm+16*i+16)
  (h:aK cx Q st nm (e.putD dst v) (M.app eff) d (fs++[am eff]) ops r (i+1)):hZ cx Q st nm e M d fs ops ⟨dst,.call ⟨.value (.func g),args,ats⟩,t,pos,af,none⟩ r i :=
 ac has [] (by rw[ap.only_nil];exact hev) (fun x hx=>.inr (he x hx)) (by simpa using h)
def B8 {d:Bool}{fs:List (List Nat)}{ops:List Oper}{c:Bool}{dst:Option Tmp}{g:FuncId}{args:Array Operand}{ats:Array TypeId}{t:TypeId}{pos:String}{af:Array Edge}{gd:Option (Nat×Bool)}{r:List Oper}{i:Nat}{as as':List V}
  (l:List Nat) (has:args.toList.map (aw cx.G c e)=as) (has':c=true->finL [] (M.only l) as=as') (hok:c=true->finLOk [] (M.only l) as) {v:V} (hv:v.flat=true) (hev:c=true->Ev cx g (nm+16*i) as' ap.nil v []) (h:aK cx Q st nm (e.putD dst (.gd c v)) M d (fs++[l]) ops r (i+1)):eA cx Q st nm e M d fs c ops ⟨dst,.call ⟨.value (.func g),args,ats⟩,t,pos,af,gd⟩ r i:=by
 subst has
 unfold eA iE
 refine .inl ?_
 simp only[aw,V.tgt,List.nil_append,List.append_nil]
 exact⟨l,v,fun hc=>Ev.view (by rw[has' hc];exact hev hc) (hok hc) hv,h⟩
end
def og (b0:Nat)(M:ap):List (Nat×Nat)->Prop
 | []=>True
 |(x,j)::r=>(j<16/\b0<=x/\(M x).isSome=true/\Oc M x=true/\plainLL (bH M x)=true)/\(∀ p∈r,p.1≠x/\p.2≠j)/\og b0 M r
def Lz (nm:Nat)(M:ap)(O:List (Nat×Nat)):List (Nat×Option Blk):=O.map (fun p=>(nm+p.2,M p.1))
def ql (nm:Nat)(O:List (Nat×Nat)):List (Nat×Nat):=O.map (fun p=>(p.1,nm+p.2))
def HI {b0:Nat}{M:ap}{O:List (Nat×Nat)}(h:og b0 M O):∀ p∈O,p.2<16/\b0<=p.1/\(M p.1).isSome=true/\Oc M p.1=true/\plainLL (bH M p.1)=true:=by
 induction O with
 | nil=>intro p hp;cases hp
 | cons q r ih =>
  intro p hp
  simp only[og]at h
  rcases List.mem_cons.1 hp with rfl|hp
  ·exact h.1
  ·exact ih h.2.2 p hp
def sc {b0:Nat}{M:ap}(nm:Nat){O:List (Nat×Nat)}(h:og b0 M O):((ql nm O).map (·.1)).Nodup/\((ql nm O).map (·.2)).Nodup:=by
 induction O with
 | nil=>exact⟨List.nodup_nil,List.nodup_nil⟩
 | cons q r ih =>
  simp only[og]at h
  obtain⟨a,b⟩:=ih h.2.2
  refine⟨List.nodup_cons.2 ⟨?_,a⟩,List.nodup_cons.2 ⟨?_,b⟩⟩
  ·intro hm
   simp only[ql,List.map_map,List.mem_map,Function.comp_apply]at hm
   obtain⟨p,hp,he⟩:=hm
   exact(h.2.1 p hp).1 he
  ·intro hm
   simp only[ql,List.map_map,List.mem_map,Function.comp_apply]at hm
   obtain⟨p,hp,he⟩:=hm
   exact(h.2.1 p hp).2 (by omega)
def Fin.own {cx:Cx}{N:Nat}{rs:List ResultVar}{nm:Nat}{v:V}{eff:List (Nat×Option Blk)}{b0 n:Nat}{e:Env}{M:ap}(gs:List Nat)(O:List (Nat×Nat))(h1:me cx.P N rs e (M.ghosts n gs))(h2:(mh cx.P rs e (M.ghosts n gs)).finOk (ql nm O) (M.ghosts n gs))(h3:((mh cx.P rs e (M.ghosts n gs)).fin (ql nm O) (M.ghosts n gs)).le v)(h4:Lz nm (M.ghosts n gs) O=eff)(h5:og b0 (M.ghosts n gs) O):ph cx N rs nm ap.nil v eff b0 n e M:=by
 refine⟨gs,Fin.two ⟨h1,ql nm O,h2,h3,?_,(sc nm h5).1,(sc nm h5).2,?_,fun x hx=>by simp[ap.nil]at hx⟩⟩
 ·rw[<- h4];simp[Lz,ql]
 ·intro p hp
  simp only[ql,List.mem_map]at hp
  obtain⟨q,hq,rfl⟩:=hp
  obtain⟨g1,g2,g3,g5,g4⟩:=HI h5 q hq
  refine⟨.inr ⟨⟨by simp,by simp;omega⟩,g2⟩,?_⟩
  obtain⟨k,hk⟩:=Option.isSome_iff_exists.1 g3
  refine⟨k,hk,?_,?_⟩
  ·simpa [Oc,hk] using g5
  ·simpa [bH,hk] using g4
def ct {α β:Type}(f:α->β)(l:List α):(l.map f).take l.length=l.map f:=by rw[<- List.length_map (f:=f),List.take_length]
def CG (M:ap)(n:Nat):M.ghosts n []=M:=rfl
def Ah (M:ap)(n s:Nat)(r:List Nat):M.ghosts n (s::r)=(M.put n (some ⟨s,[]⟩)).ghosts (n+1) r:=rfl
def eQ (x:Nat):aU [] x=none:=rfl
def fL (y z x:Nat)(r:List (Nat×Nat)):aU ((y,z)::r) x=if y=x then some z else aU r x:=by
 unfold aU
 rw[List.find?_cons]
 by_cases h:y=x
 ·subst h;simp
 ·have hb:(y==x)=false:=by simpa using h
  simp only[hb,h,if_false]
def lN (M:ap)(l:List Nat)(x:Nat):(M.only l) x=if x∈l then M x else none:=rfl
def cI {α:Type}(f:α->List V)(h:∀ a,plainL (f a)=true)(l:List α):plainLL (l.map f)=true:=by
 rw[fF,List.all_eq_true]
 intro x hx
 obtain⟨a,_,rfl⟩:=List.mem_map.1 hx
 exact h a
def J3 {a b:Nat}(h:a<b):(a=b)=False:=eq_false (by omega)
def C9 {a b:Nat}(h:a<b):(b=a)=False:=eq_false (by omega)
def rj {a b:Nat}(h:a<b)(c:Nat):(a=b+c)=False:=eq_false (by omega)
def oU {a b:Nat}(h:a<b)(c:Nat):(b+c=a)=False:=eq_false (by omega)
def y3 {n:Int}(h1:-9223372036854775808<=n)(h2:n<=9223372036854775807):IntKind.i64.wrap n=n:=IntWalk.i64_in _ ⟨h1,h2⟩
def bf {n:Int}(h1:-9223372036854775808<=n:=by omega)(h2:n<=9223372036854775807:=by omega):IntKind.i64.wrap n=n:=y3 h1 h2
def cn {p:Prop}[Decidable p](h:p:=by omega):decide p=true:=decide_eq_true h
def bo {p:Prop}[Decidable p](h:¬p:=by omega):decide p=false:=decide_eq_false h
def S9 {b n nm:Nat}(h:b+n<=nm)(h0:0<n):(∀ c,(b=nm+c)=False)/\(b=nm)=False/\(∀ j c,j<n->(b+j=nm+c)=False) /\ ∀ j,j<n->(b+j=nm)=False :=
 ⟨fun c=>eq_false (by omega),eq_false (by omega),fun j c hj=>eq_false (by omega),fun j hj=>eq_false (by omega)⟩
section
variable {cx:Cx} {Q:Post} {st:List Frm} {nm:Nat} {e:Env} {M:ap}
end
section
variable (cx:Cx) (Q:Post) (st:List Frm) (nm:Nat) (e:Env) (M:ap)
variable (d:Bool) (fs:List (List Nat)) (ops:List Oper) (dst:Option Tmp) (t:TypeId) (pos:String) (af:Array Edge) (r:List Oper) (i:Nat)
def CN (x:Operand):aK cx Q st nm e M d fs ops (⟨dst,.move x,t,pos,af,none⟩::r) i=(bQ cx true e M ⟨dst,.move x,t,pos,af,none⟩ /\
  aK cx Q st nm (e.putD dst (eP cx true e M (nm+16*i) ⟨dst,.move x,t,pos,af,none⟩)) (M.app (fQ cx true e M (nm+16*i) ⟨dst,.move x,t,pos,af,none⟩)) d (fs++[ij cx true e (nm+16*i) ⟨dst,.move x,t,pos,af,none⟩]) ops r (i+1)):=propext Iff.rfl
def yf (x:Operand):aK cx Q st nm e M d fs ops (⟨dst,.assign x,t,pos,af,none⟩::r) i=(bQ cx true e M ⟨dst,.assign x,t,pos,af,none⟩ /\
  aK cx Q st nm (e.putD dst (eP cx true e M (nm+16*i) ⟨dst,.assign x,t,pos,af,none⟩)) (M.app (fQ cx true e M (nm+16*i) ⟨dst,.assign x,t,pos,af,none⟩)) d (fs++[ij cx true e (nm+16*i) ⟨dst,.assign x,t,pos,af,none⟩]) ops r (i+1)):=propext Iff.rfl
def uf (x:Operand):aK cx Q st nm e M d fs ops (⟨dst,.nilCheck x,t,pos,af,none⟩::r) i=(bQ cx true e M ⟨dst,.nilCheck x,t,pos,af,none⟩ /\
  aK cx Q st nm (e.putD dst (eP cx true e M (nm+16*i) ⟨dst,.nilCheck x,t,pos,af,none⟩)) (M.app (fQ cx true e M (nm+16*i) ⟨dst,.nilCheck x,t,pos,af,none⟩)) d (fs++[ij cx true e (nm+16*i) ⟨dst,.nilCheck x,t,pos,af,none⟩]) ops r (i+1)):=propext Iff.rfl
def CP (x y z:Operand):aK cx Q st nm e M d fs ops (⟨dst,.pick x y z,t,pos,af,none⟩::r) i=(bQ cx true e M ⟨dst,.pick x y z,t,pos,af,none⟩ /\
  aK cx Q st nm (e.putD dst (eP cx true e M (nm+16*i) ⟨dst,.pick x y z,t,pos,af,none⟩)) (M.app (fQ cx true e M (nm+16*i) ⟨dst,.pick x y z,t,pos,af,none⟩)) d (fs++[ij cx true e (nm+16*i) ⟨dst,.pick x y z,t,pos,af,none⟩]) ops r (i+1)):=propext Iff.rfl
def Ap (ty:TypeId)(ps:Array (Nat×Operand)):aK cx Q st nm e M d fs ops (⟨dst,.build ty ps,t,pos,af,none⟩::r) i=(bQ cx true e M ⟨dst,.build ty ps,t,pos,af,none⟩ /\
  aK cx Q st nm (e.putD dst (eP cx true e M (nm+16*i) ⟨dst,.build ty ps,t,pos,af,none⟩)) (M.app (fQ cx true e M (nm+16*i) ⟨dst,.build ty ps,t,pos,af,none⟩)) d (fs++[ij cx true e (nm+16*i) ⟨dst,.build ty ps,t,pos,af,none⟩]) ops r (i+1)):=propext Iff.rfl
def CM (ty:TypeId)(x:Operand):aK cx Q st nm e M d fs ops (⟨dst,.load ty x,t,pos,af,none⟩::r) i=(bQ cx true e M ⟨dst,.load ty x,t,pos,af,none⟩ /\
  aK cx Q st nm (e.putD dst (eP cx true e M (nm+16*i) ⟨dst,.load ty x,t,pos,af,none⟩)) (M.app (fQ cx true e M (nm+16*i) ⟨dst,.load ty x,t,pos,af,none⟩)) d (fs++[ij cx true e (nm+16*i) ⟨dst,.load ty x,t,pos,af,none⟩]) ops r (i+1)):=propext Iff.rfl
def Ao (o:BinOp)(ty:TypeId)(x y:Operand)(yt:TypeId):aK cx Q st nm e M d fs ops (⟨dst,.binOp o ty x y yt,t,pos,af,none⟩::r) i=(bQ cx true e M ⟨dst,.binOp o ty x y yt,t,pos,af,none⟩ /\
  aK cx Q st nm (e.putD dst (eP cx true e M (nm+16*i) ⟨dst,.binOp o ty x y yt,t,pos,af,none⟩)) (M.app (fQ cx true e M (nm+16*i) ⟨dst,.binOp o ty x y yt,t,pos,af,none⟩)) d (fs++[ij cx true e (nm+16*i) ⟨dst,.binOp o ty x y yt,t,pos,af,none⟩]) ops r (i+1)):=propext Iff.rfl
def CQ (o:UnOp)(ty:TypeId)(x:Operand):aK cx Q st nm e M d fs ops (⟨dst,.unOp o ty x,t,pos,af,none⟩::r) i=(bQ cx true e M ⟨dst,.unOp o ty x,t,pos,af,none⟩ /\
  aK cx Q st nm (e.putD dst (eP cx true e M (nm+16*i) ⟨dst,.unOp o ty x,t,pos,af,none⟩)) (M.app (fQ cx true e M (nm+16*i) ⟨dst,.unOp o ty x,t,pos,af,none⟩)) d (fs++[ij cx true e (nm+16*i) ⟨dst,.unOp o ty x,t,pos,af,none⟩]) ops r (i+1)):=propext Iff.rfl
def sn (ty:TypeId)(x:Operand)(f:Nat):aK cx Q st nm e M d fs ops (⟨dst,.fieldAddr ty x f,t,pos,af,none⟩::r) i=(bQ cx true e M ⟨dst,.fieldAddr ty x f,t,pos,af,none⟩ /\
  aK cx Q st nm (e.putD dst (eP cx true e M (nm+16*i) ⟨dst,.fieldAddr ty x f,t,pos,af,none⟩)) (M.app (fQ cx true e M (nm+16*i) ⟨dst,.fieldAddr ty x f,t,pos,af,none⟩)) d (fs++[ij cx true e (nm+16*i) ⟨dst,.fieldAddr ty x f,t,pos,af,none⟩]) ops r (i+1)):=propext Iff.rfl
def so (ty:TypeId)(x k:Operand):aK cx Q st nm e M d fs ops (⟨dst,.indexAddr ty x k,t,pos,af,none⟩::r) i=(bQ cx true e M ⟨dst,.indexAddr ty x k,t,pos,af,none⟩ /\
  aK cx Q st nm (e.putD dst (eP cx true e M (nm+16*i) ⟨dst,.indexAddr ty x k,t,pos,af,none⟩)) (M.app (fQ cx true e M (nm+16*i) ⟨dst,.indexAddr ty x k,t,pos,af,none⟩)) d (fs++[ij cx true e (nm+16*i) ⟨dst,.indexAddr ty x k,t,pos,af,none⟩]) ops r (i+1)):=propext Iff.rfl
def Ar (ty:TypeId)(x k:Operand):aK cx Q st nm e M d fs ops (⟨dst,.index ty x k,t,pos,af,none⟩::r) i=(bQ cx true e M ⟨dst,.index ty x k,t,pos,af,none⟩ /\
  aK cx Q st nm (e.putD dst (eP cx true e M (nm+16*i) ⟨dst,.index ty x k,t,pos,af,none⟩)) (M.app (fQ cx true e M (nm+16*i) ⟨dst,.index ty x k,t,pos,af,none⟩)) d (fs++[ij cx true e (nm+16*i) ⟨dst,.index ty x k,t,pos,af,none⟩]) ops r (i+1)):=propext Iff.rfl
def vL (x:Operand)(k:Nat):aK cx Q st nm e M d fs ops (⟨dst,.extract x k,t,pos,af,none⟩::r) i=(bQ cx true e M ⟨dst,.extract x k,t,pos,af,none⟩ /\
  aK cx Q st nm (e.putD dst (eP cx true e M (nm+16*i) ⟨dst,.extract x k,t,pos,af,none⟩)) (M.app (fQ cx true e M (nm+16*i) ⟨dst,.extract x k,t,pos,af,none⟩)) d (fs++[ij cx true e (nm+16*i) ⟨dst,.extract x k,t,pos,af,none⟩]) ops r (i+1)):=propext Iff.rfl
def ue (f:FuncId)(a c:Array Operand):aK cx Q st nm e M d fs ops (⟨dst,.makeFunc (.func f) a c,t,pos,af,none⟩::r) i=(bQ cx true e M ⟨dst,.makeFunc (.func f) a c,t,pos,af,none⟩ /\
  aK cx Q st nm (e.putD dst (eP cx true e M (nm+16*i) ⟨dst,.makeFunc (.func f) a c,t,pos,af,none⟩)) (M.app (fQ cx true e M (nm+16*i) ⟨dst,.makeFunc (.func f) a c,t,pos,af,none⟩)) d (fs++[ij cx true e (nm+16*i) ⟨dst,.makeFunc (.func f) a c,t,pos,af,none⟩]) ops r (i+1)):=propext Iff.rfl
def GE (as:Array Operand)(ts:Array TypeId):aK cx Q st nm e M d fs ops (⟨dst,.call ⟨.builtin .len,as,ts⟩,t,pos,af,none⟩::r) i=(bQ cx true e M ⟨dst,.call ⟨.builtin .len,as,ts⟩,t,pos,af,none⟩ /\
  aK cx Q st nm (e.putD dst (eP cx true e M (nm+16*i) ⟨dst,.call ⟨.builtin .len,as,ts⟩,t,pos,af,none⟩)) (M.app (fQ cx true e M (nm+16*i) ⟨dst,.call ⟨.builtin .len,as,ts⟩,t,pos,af,none⟩)) d (fs++[ij cx true e (nm+16*i) ⟨dst,.call ⟨.builtin .len,as,ts⟩,t,pos,af,none⟩]) ops r (i+1)):=propext Iff.rfl
def GF (as:Array Operand)(ts:Array TypeId):aK cx Q st nm e M d fs ops (⟨dst,.call ⟨.builtin .max,as,ts⟩,t,pos,af,none⟩::r) i=(bQ cx true e M ⟨dst,.call ⟨.builtin .max,as,ts⟩,t,pos,af,none⟩ /\
  aK cx Q st nm (e.putD dst (eP cx true e M (nm+16*i) ⟨dst,.call ⟨.builtin .max,as,ts⟩,t,pos,af,none⟩)) (M.app (fQ cx true e M (nm+16*i) ⟨dst,.call ⟨.builtin .max,as,ts⟩,t,pos,af,none⟩)) d (fs++[ij cx true e (nm+16*i) ⟨dst,.call ⟨.builtin .max,as,ts⟩,t,pos,af,none⟩]) ops r (i+1)):=propext Iff.rfl
def GG (as:Array Operand)(ts:Array TypeId):aK cx Q st nm e M d fs ops (⟨dst,.call ⟨.builtin .min,as,ts⟩,t,pos,af,none⟩::r) i=(bQ cx true e M ⟨dst,.call ⟨.builtin .min,as,ts⟩,t,pos,af,none⟩ /\
  aK cx Q st nm (e.putD dst (eP cx true e M (nm+16*i) ⟨dst,.call ⟨.builtin .min,as,ts⟩,t,pos,af,none⟩)) (M.app (fQ cx true e M (nm+16*i) ⟨dst,.call ⟨.builtin .min,as,ts⟩,t,pos,af,none⟩)) d (fs++[ij cx true e (nm+16*i) ⟨dst,.call ⟨.builtin .min,as,ts⟩,t,pos,af,none⟩]) ops r (i+1)):=propext Iff.rfl
def GD (as:Array Operand)(ts:Array TypeId):aK cx Q st nm e M d fs ops (⟨dst,.call ⟨.builtin .cap,as,ts⟩,t,pos,af,none⟩::r) i=(bQ cx true e M ⟨dst,.call ⟨.builtin .cap,as,ts⟩,t,pos,af,none⟩ /\
  aK cx Q st nm (e.putD dst (eP cx true e M (nm+16*i) ⟨dst,.call ⟨.builtin .cap,as,ts⟩,t,pos,af,none⟩)) (M.app (fQ cx true e M (nm+16*i) ⟨dst,.call ⟨.builtin .cap,as,ts⟩,t,pos,af,none⟩)) d (fs++[ij cx true e (nm+16*i) ⟨dst,.call ⟨.builtin .cap,as,ts⟩,t,pos,af,none⟩]) ops r (i+1)):=propext Iff.rfl
def An (ty:TypeId):aK cx Q st nm e M d fs ops (⟨dst,.alloc ty,t,pos,af,none⟩::r) i=(bQ cx true e M ⟨dst,.alloc ty,t,pos,af,none⟩ /\
  aK cx Q st nm (e.putD dst (eP cx true e M (nm+16*i) ⟨dst,.alloc ty,t,pos,af,none⟩)) (M.app (fQ cx true e M (nm+16*i) ⟨dst,.alloc ty,t,pos,af,none⟩)) d (fs++[ij cx true e (nm+16*i) ⟨dst,.alloc ty,t,pos,af,none⟩]) ops r (i+1)):=propext Iff.rfl
def GC (ty:TypeId)(x:Operand):aK cx Q st nm e M d fs ops (⟨dst,.box ty x,t,pos,af,none⟩::r) i=(bQ cx true e M ⟨dst,.box ty x,t,pos,af,none⟩ /\
  aK cx Q st nm (e.putD dst (eP cx true e M (nm+16*i) ⟨dst,.box ty x,t,pos,af,none⟩)) (M.app (fQ cx true e M (nm+16*i) ⟨dst,.box ty x,t,pos,af,none⟩)) d (fs++[ij cx true e (nm+16*i) ⟨dst,.box ty x,t,pos,af,none⟩]) ops r (i+1)):=propext Iff.rfl
def qV (ty:TypeId)(n:Nat)(ps:Array (Nat×Operand)):aK cx Q st nm e M d fs ops (⟨dst,.buildSlice ty n ps,t,pos,af,none⟩::r) i=(bQ cx true e M ⟨dst,.buildSlice ty n ps,t,pos,af,none⟩ /\
  aK cx Q st nm (e.putD dst (eP cx true e M (nm+16*i) ⟨dst,.buildSlice ty n ps,t,pos,af,none⟩)) (M.app (fQ cx true e M (nm+16*i) ⟨dst,.buildSlice ty n ps,t,pos,af,none⟩)) d (fs++[ij cx true e (nm+16*i) ⟨dst,.buildSlice ty n ps,t,pos,af,none⟩]) ops r (i+1)):=propext Iff.rfl
def Av (ty:TypeId)(x v:Operand):aK cx Q st nm e M d fs ops (⟨dst,.store ty x v,t,pos,af,none⟩::r) i=(bQ cx true e M ⟨dst,.store ty x v,t,pos,af,none⟩ /\
  aK cx Q st nm (e.putD dst (eP cx true e M (nm+16*i) ⟨dst,.store ty x v,t,pos,af,none⟩)) (M.app (fQ cx true e M (nm+16*i) ⟨dst,.store ty x v,t,pos,af,none⟩)) d (fs++[ij cx true e (nm+16*i) ⟨dst,.store ty x v,t,pos,af,none⟩]) ops r (i+1)):=propext Iff.rfl
def ye (as:Array Operand)(ts:Array TypeId):aK cx Q st nm e M d fs ops (⟨dst,.call ⟨.builtin .append,as,ts⟩,t,pos,af,none⟩::r) i=(bQ cx true e M ⟨dst,.call ⟨.builtin .append,as,ts⟩,t,pos,af,none⟩ /\
  aK cx Q st nm (e.putD dst (eP cx true e M (nm+16*i) ⟨dst,.call ⟨.builtin .append,as,ts⟩,t,pos,af,none⟩)) (M.app (fQ cx true e M (nm+16*i) ⟨dst,.call ⟨.builtin .append,as,ts⟩,t,pos,af,none⟩)) d (fs++[ij cx true e (nm+16*i) ⟨dst,.call ⟨.builtin .append,as,ts⟩,t,pos,af,none⟩]) ops r (i+1)):=propext Iff.rfl
def CL (as:Array Operand)(ts:Array TypeId):aK cx Q st nm e M d fs ops (⟨dst,.call ⟨.builtin .copy,as,ts⟩,t,pos,af,none⟩::r) i=(bQ cx true e M ⟨dst,.call ⟨.builtin .copy,as,ts⟩,t,pos,af,none⟩ /\
  aK cx Q st nm (e.putD dst (eP cx true e M (nm+16*i) ⟨dst,.call ⟨.builtin .copy,as,ts⟩,t,pos,af,none⟩)) (M.app (fQ cx true e M (nm+16*i) ⟨dst,.call ⟨.builtin .copy,as,ts⟩,t,pos,af,none⟩)) d (fs++[ij cx true e (nm+16*i) ⟨dst,.call ⟨.builtin .copy,as,ts⟩,t,pos,af,none⟩]) ops r (i+1)):=propext Iff.rfl
def yb (b want:Bool)(x:Operand)(gd:Option (Nat×Bool)):bX cx Q st nm e M d fs (.bool b) want ops ⟨dst,.move x,t,pos,af,gd⟩ r i=(((b==want)=true->bQ cx (b==want) e M ⟨dst,.move x,t,pos,af,gd⟩) /\
  aK cx Q st nm (e.putD dst (.gd (b==want) (eP cx (b==want) e M (nm+16*i) ⟨dst,.move x,t,pos,af,gd⟩))) M d (fs++[ij cx (b==want) e (nm+16*i) ⟨dst,.move x,t,pos,af,gd⟩]) ops r (i+1)):=propext Iff.rfl
def qT (b want:Bool)(x:Operand)(gd:Option (Nat×Bool)):bX cx Q st nm e M d fs (.bool b) want ops ⟨dst,.nilCheck x,t,pos,af,gd⟩ r i=(((b==want)=true->bQ cx (b==want) e M ⟨dst,.nilCheck x,t,pos,af,gd⟩) /\
  aK cx Q st nm (e.putD dst (.gd (b==want) (eP cx (b==want) e M (nm+16*i) ⟨dst,.nilCheck x,t,pos,af,gd⟩))) M d (fs++[ij cx (b==want) e (nm+16*i) ⟨dst,.nilCheck x,t,pos,af,gd⟩]) ops r (i+1)):=propext Iff.rfl
def yc (b want:Bool)(x y z:Operand)(gd:Option (Nat×Bool)):bX cx Q st nm e M d fs (.bool b) want ops ⟨dst,.pick x y z,t,pos,af,gd⟩ r i=(((b==want)=true->bQ cx (b==want) e M ⟨dst,.pick x y z,t,pos,af,gd⟩) /\
  aK cx Q st nm (e.putD dst (.gd (b==want) (eP cx (b==want) e M (nm+16*i) ⟨dst,.pick x y z,t,pos,af,gd⟩))) M d (fs++[ij cx (b==want) e (nm+16*i) ⟨dst,.pick x y z,t,pos,af,gd⟩]) ops r (i+1)):=propext Iff.rfl
def ya (b want:Bool)(ty:TypeId)(x:Operand)(gd:Option (Nat×Bool)):bX cx Q st nm e M d fs (.bool b) want ops ⟨dst,.load ty x,t,pos,af,gd⟩ r i=(((b==want)=true->bQ cx (b==want) e M ⟨dst,.load ty x,t,pos,af,gd⟩) /\
  aK cx Q st nm (e.putD dst (.gd (b==want) (eP cx (b==want) e M (nm+16*i) ⟨dst,.load ty x,t,pos,af,gd⟩))) M d (fs++[ij cx (b==want) e (nm+16*i) ⟨dst,.load ty x,t,pos,af,gd⟩]) ops r (i+1)):=propext Iff.rfl
def vH (b want:Bool)(o:BinOp)(ty:TypeId)(x y:Operand)(yt:TypeId)(gd:Option (Nat×Bool)):bX cx Q st nm e M d fs (.bool b) want ops ⟨dst,.binOp o ty x y yt,t,pos,af,gd⟩ r i=(((b==want)=true->bQ cx (b==want) e M ⟨dst,.binOp o ty x y yt,t,pos,af,gd⟩) /\
  aK cx Q st nm (e.putD dst (.gd (b==want) (eP cx (b==want) e M (nm+16*i) ⟨dst,.binOp o ty x y yt,t,pos,af,gd⟩))) M d (fs++[ij cx (b==want) e (nm+16*i) ⟨dst,.binOp o ty x y yt,t,pos,af,gd⟩]) ops r (i+1)):=propext Iff.rfl
def yd (b want:Bool)(o:UnOp)(ty:TypeId)(x:Operand)(gd:Option (Nat×Bool)):bX cx Q st nm e M d fs (.bool b) want ops ⟨dst,.unOp o ty x,t,pos,af,gd⟩ r i=(((b==want)=true->bQ cx (b==want) e M ⟨dst,.unOp o ty x,t,pos,af,gd⟩) /\
  aK cx Q st nm (e.putD dst (.gd (b==want) (eP cx (b==want) e M (nm+16*i) ⟨dst,.unOp o ty x,t,pos,af,gd⟩))) M d (fs++[ij cx (b==want) e (nm+16*i) ⟨dst,.unOp o ty x,t,pos,af,gd⟩]) ops r (i+1)):=propext Iff.rfl
def pM (b want:Bool)(ty:TypeId)(x:Operand)(f:Nat)(gd:Option (Nat×Bool)):bX cx Q st nm e M d fs (.bool b) want ops ⟨dst,.fieldAddr ty x f,t,pos,af,gd⟩ r i=(((b==want)=true->bQ cx (b==want) e M ⟨dst,.fieldAddr ty x f,t,pos,af,gd⟩) /\
  aK cx Q st nm (e.putD dst (.gd (b==want) (eP cx (b==want) e M (nm+16*i) ⟨dst,.fieldAddr ty x f,t,pos,af,gd⟩))) M d (fs++[ij cx (b==want) e (nm+16*i) ⟨dst,.fieldAddr ty x f,t,pos,af,gd⟩]) ops r (i+1)):=propext Iff.rfl
def pN (b want:Bool)(ty:TypeId)(x k:Operand)(gd:Option (Nat×Bool)):bX cx Q st nm e M d fs (.bool b) want ops ⟨dst,.indexAddr ty x k,t,pos,af,gd⟩ r i=(((b==want)=true->bQ cx (b==want) e M ⟨dst,.indexAddr ty x k,t,pos,af,gd⟩) /\
  aK cx Q st nm (e.putD dst (.gd (b==want) (eP cx (b==want) e M (nm+16*i) ⟨dst,.indexAddr ty x k,t,pos,af,gd⟩))) M d (fs++[ij cx (b==want) e (nm+16*i) ⟨dst,.indexAddr ty x k,t,pos,af,gd⟩]) ops r (i+1)):=propext Iff.rfl
def vI (b want:Bool)(ty:TypeId)(x k:Operand)(gd:Option (Nat×Bool)):bX cx Q st nm e M d fs (.bool b) want ops ⟨dst,.index ty x k,t,pos,af,gd⟩ r i=(((b==want)=true->bQ cx (b==want) e M ⟨dst,.index ty x k,t,pos,af,gd⟩) /\
  aK cx Q st nm (e.putD dst (.gd (b==want) (eP cx (b==want) e M (nm+16*i) ⟨dst,.index ty x k,t,pos,af,gd⟩))) M d (fs++[ij cx (b==want) e (nm+16*i) ⟨dst,.index ty x k,t,pos,af,gd⟩]) ops r (i+1)):=propext Iff.rfl
def qS (b want:Bool)(f:FuncId)(a c:Array Operand)(gd:Option (Nat×Bool)):bX cx Q st nm e M d fs (.bool b) want ops ⟨dst,.makeFunc (.func f) a c,t,pos,af,gd⟩ r i=(((b==want)=true->bQ cx (b==want) e M ⟨dst,.makeFunc (.func f) a c,t,pos,af,gd⟩) /\
  aK cx Q st nm (e.putD dst (.gd (b==want) (eP cx (b==want) e M (nm+16*i) ⟨dst,.makeFunc (.func f) a c,t,pos,af,gd⟩))) M d (fs++[ij cx (b==want) e (nm+16*i) ⟨dst,.makeFunc (.func f) a c,t,pos,af,gd⟩]) ops r (i+1)):=propext Iff.rfl
def Al (b want:Bool)(as:Array Operand)(ts:Array TypeId)(gd:Option (Nat×Bool)):bX cx Q st nm e M d fs (.bool b) want ops ⟨dst,.call ⟨.builtin .len,as,ts⟩,t,pos,af,gd⟩ r i=(((b==want)=true->bQ cx (b==want) e M ⟨dst,.call ⟨.builtin .len,as,ts⟩,t,pos,af,gd⟩) /\
  aK cx Q st nm (e.putD dst (.gd (b==want) (eP cx (b==want) e M (nm+16*i) ⟨dst,.call ⟨.builtin .len,as,ts⟩,t,pos,af,gd⟩))) M d (fs++[ij cx (b==want) e (nm+16*i) ⟨dst,.call ⟨.builtin .len,as,ts⟩,t,pos,af,gd⟩]) ops r (i+1)):=propext Iff.rfl
def sq (ty:TypeId)(x y:Operand):aK cx Q st nm e M d fs ops (⟨dst,.makeSlice ty x y,t,pos,af,none⟩::r) i=cF cx Q st nm e M d fs ops ⟨dst,.makeSlice ty x y,t,pos,af,none⟩ r i:=propext Iff.rfl
def vM (ty:TypeId)(x:Option Operand):aK cx Q st nm e M d fs ops (⟨dst,.makeMap ty x,t,pos,af,none⟩::r) i=cF cx Q st nm e M d fs ops ⟨dst,.makeMap ty x,t,pos,af,none⟩ r i:=propext Iff.rfl
def nU (ty:TypeId)(x:Operand):aK cx Q st nm e M d fs ops (⟨dst,.makeInterface ty x,t,pos,af,none⟩::r) i=cF cx Q st nm e M d fs ops ⟨dst,.makeInterface ty x,t,pos,af,none⟩ r i:=propext Iff.rfl
def qW (x:Operand)(ty ty2:TypeId)(ok:Bool):aK cx Q st nm e M d fs ops (⟨dst,.typeAssert x ty ty2 ok,t,pos,af,none⟩::r) i=cF cx Q st nm e M d fs ops ⟨dst,.typeAssert x ty ty2 ok,t,pos,af,none⟩ r i:=propext Iff.rfl
def yh (ty:TypeId)(x y:Operand)(ok:Bool):aK cx Q st nm e M d fs ops (⟨dst,.lookup ty x y ok,t,pos,af,none⟩::r) i=cF cx Q st nm e M d fs ops ⟨dst,.lookup ty x y ok,t,pos,af,none⟩ r i:=propext Iff.rfl
def sr (ty:TypeId)(x y z:Operand):aK cx Q st nm e M d fs ops (⟨dst,.mapUpdate ty x y z,t,pos,af,none⟩::r) i=cF cx Q st nm e M d fs ops ⟨dst,.mapUpdate ty x y z,t,pos,af,none⟩ r i:=propext Iff.rfl
def yg (ty:TypeId)(x y z:Operand):aK cx Q st nm e M d fs ops (⟨dst,.insert ty x y z,t,pos,af,none⟩::r) i=cF cx Q st nm e M d fs ops ⟨dst,.insert ty x y z,t,pos,af,none⟩ r i:=propext Iff.rfl
def As (ty:TypeId)(x:Operand):aK cx Q st nm e M d fs ops (⟨dst,.range ty x,t,pos,af,none⟩::r) i=cF cx Q st nm e M d fs ops ⟨dst,.range ty x,t,pos,af,none⟩ r i:=propext Iff.rfl
def CO (x:Operand)(s:Bool):aK cx Q st nm e M d fs ops (⟨dst,.next x s,t,pos,af,none⟩::r) i=cF cx Q st nm e M d fs ops ⟨dst,.next x s,t,pos,af,none⟩ r i:=propext Iff.rfl
def oO (as:Array Operand)(ts:Array TypeId):aK cx Q st nm e M d fs ops (⟨dst,.call ⟨.builtin .unsafeString,as,ts⟩,t,pos,af,none⟩::r) i=cF cx Q st nm e M d fs ops ⟨dst,.call ⟨.builtin .unsafeString,as,ts⟩,t,pos,af,none⟩ r i:=propext Iff.rfl
def mf (as:Array Operand)(ts:Array TypeId):aK cx Q st nm e M d fs ops (⟨dst,.call ⟨.builtin .unsafeSliceData,as,ts⟩,t,pos,af,none⟩::r) i=cF cx Q st nm e M d fs ops ⟨dst,.call ⟨.builtin .unsafeSliceData,as,ts⟩,t,pos,af,none⟩ r i:=propext Iff.rfl
def vK (ts td:TypeId)(x:Operand):aK cx Q st nm e M d fs ops (⟨dst,.convert ts td x,t,pos,af,none⟩::r) i=if iz (cx.P.underlying ts) (cx.P.underlying td)=true then cF cx Q st nm e M d fs ops ⟨dst,.convert ts td x,t,pos,af,none⟩ r i else (bQ cx true e M ⟨dst,.convert ts td x,t,pos,af,none⟩ /\
  aK cx Q st nm (e.putD dst (eP cx true e M (nm+16*i) ⟨dst,.convert ts td x,t,pos,af,none⟩)) M d (fs++[ij cx true e (nm+16*i) ⟨dst,.convert ts td x,t,pos,af,none⟩]) ops r (i+1)):=by
 unfold aK cF
 simp only[cA,fT,jO,ic,Bool.false_eq_true,if_false]
 split<;>rfl
def sk (b want:Bool)(ts td:TypeId)(x:Operand)(gd:Option (Nat×Bool)):bX cx Q st nm e M d fs (.bool b) want ops ⟨dst,.convert ts td x,t,pos,af,gd⟩ r i=if iz (cx.P.underlying ts) (cx.P.underlying td)=true then qQ cx Q st nm e M d fs (b==want) ops ⟨dst,.convert ts td x,t,pos,af,gd⟩ r i else (((b==want)=true->bQ cx (b==want) e M ⟨dst,.convert ts td x,t,pos,af,gd⟩) /\
  aK cx Q st nm (e.putD dst (.gd (b==want) (eP cx (b==want) e M (nm+16*i) ⟨dst,.convert ts td x,t,pos,af,gd⟩))) M d (fs++[ij cx (b==want) e (nm+16*i) ⟨dst,.convert ts td x,t,pos,af,gd⟩]) ops r (i+1)):=by
 unfold bX
 simp only[jN,fT,jO,nX,Bool.false_eq_true,if_false,if_true]
def z6 (k:IntKind)(x:Option TypeDesc):iz (some (.int k)) x=false:=rfl
def tS (k:IntKind)(x:Option TypeDesc):iz x (some (.int k))=false:=by rcases x with _|x<;>first|rfl|(cases x<;>rfl)
def Ct:iz (some .string) (some .string)=false:=rfl
def Cs (e:TypeId):iz (some .string) (some (.slice e))=true:=rfl
def Cq (e:TypeId):iz (some (.slice e)) (some .string)=true:=rfl
def Cr (e:TypeId):iz (some (.pointer e)) (some .unsafePointer)=true:=rfl
def Cu (e:TypeId):iz (some .unsafePointer) (some (.pointer e))=true:=rfl
def Au (ty:TypeId)(x:Operand)(l h m:Option Operand):aK cx Q st nm e M d fs ops (⟨dst,.slice ty x l h m,t,pos,af,none⟩::r) i=if Fw (cx.P.underlying ty)=true then cF cx Q st nm e M d fs ops ⟨dst,.slice ty x l h m,t,pos,af,none⟩ r i else (bQ cx true e M ⟨dst,.slice ty x l h m,t,pos,af,none⟩ /\
  aK cx Q st nm (e.putD dst (eP cx true e M (nm+16*i) ⟨dst,.slice ty x l h m,t,pos,af,none⟩)) M d (fs++[ij cx true e (nm+16*i) ⟨dst,.slice ty x l h m,t,pos,af,none⟩]) ops r (i+1)):=by
 unfold aK cF
 simp only[cA,fT,jO,ic,Bool.false_eq_true,if_false]
 split<;>rfl
def vJ (b want:Bool)(ty:TypeId)(x:Operand)(l h m:Option Operand)(gd:Option (Nat×Bool)):bX cx Q st nm e M d fs (.bool b) want ops ⟨dst,.slice ty x l h m,t,pos,af,gd⟩ r i=if Fw (cx.P.underlying ty)=true then qQ cx Q st nm e M d fs (b==want) ops ⟨dst,.slice ty x l h m,t,pos,af,gd⟩ r i else (((b==want)=true->bQ cx (b==want) e M ⟨dst,.slice ty x l h m,t,pos,af,gd⟩) /\
  aK cx Q st nm (e.putD dst (.gd (b==want) (eP cx (b==want) e M (nm+16*i) ⟨dst,.slice ty x l h m,t,pos,af,gd⟩))) M d (fs++[ij cx (b==want) e (nm+16*i) ⟨dst,.slice ty x l h m,t,pos,af,gd⟩]) ops r (i+1)):=by
 unfold bX
 simp only[jN,fT,jO,nX,Bool.false_eq_true,if_false,if_true]
def It:Fw (some .string)=false:=rfl
def Mz (e:TypeId):Fw (some (.slice e))=false:=rfl
def Ir (n:Nat)(e:TypeId):Fw (some (.array n e))=true:=rfl
def x9 (d:Bool)(fs:List (List Nat))(b want:Bool)(ops:List Oper)(dst:Option Tmp)(f:Operand)(as:Array Operand)(ts:Array TypeId)(t:TypeId)(pos:String)(af:Array Edge)(r:List Oper)(i:Nat)(gd:Option (Nat×Bool)) :
  bX cx Q st nm e M d fs (.bool b) want ops ⟨dst,.call ⟨.value f,as,ts⟩,t,pos,af,gd⟩ r i=eA cx Q st nm e M d fs (b==want) ops ⟨dst,.call ⟨.value f,as,ts⟩,t,pos,af,gd⟩ r i:=propext Iff.rfl
end
end Go.Proofs.YtlnlopnpcmahgaaGreatDoor.Vm
namespace Go.Proofs.YtlnlopnpcmahgaaGreatDoor.Vm
open And renaming intro->Ai
open Go Go.RowKit
set_option linter.defProp false
def SX :=
 (Ai (Ai (Ai (Ai @It (Ai @Mz @Ir)) (Ai @Cu (Ai @Cr @j5.eq_1))) (Ai (Ai @j5.eq_2 (Ai @j5.eq_3 @j5.eq_4)) (Ai @Blk.ty_typed (Ai @Blk.ty_plain @cS)))) (Ai (Ai (Ai @FQ (Ai @BT.eq_1 @Cq)) (Ai @Cs (Ai @Ct @tS))) @z6))
def SY :=
 (Ai (Ai @mf @oO) (Ai (Ai @CO @As) @yg))
def SZ :=
 (Ai (Ai (Ai @sr (Ai @yh @qW)) (Ai @nU @vM)) (Ai (Ai @sq @ud) (Ai @Ak @x9)))
def S0 :=
 (Ai (Ai (Ai (Ai @Al @qS) (Ai @vI @pN)) (Ai (Ai @pM (Ai @vJ @sk)) (Ai @yd (Ai @vH @ya)))) (Ai (Ai (Ai @yc @qT) (Ai @yb @ye)) (Ai (Ai @Av (Ai @qV @GC)) (Ai @An (Ai @GG @GF)))))
def S3 :=
 (Ai (Ai (Ai (Ai @GE (Ai @ue @vL)) (Ai @Ar @so)) (Ai (Ai @sn (Ai @Au @vK)) (Ai @CQ (Ai @Ao @CM)))) (Ai (Ai (Ai @Ap (Ai @CP @uf)) (Ai @yf (Ai @CN @NF))) (Ai (Ai @JD (Ai @ND @go_ret)) (Ai @P4 (Ai @JB @NC)))))
def S4 :=
 (Ai (Ai (Ai (Ai @NE (Ai @GI @iN)) (Ai @GB (Ai @ub @vF))) (Ai (Ai @JA (Ai @vE @x6)) (Ai @sj (Ai @ua @GH)))) (Ai (Ai (Ai @ug (Ai @CK @Aq)) (Ai @fT.eq_1 (Ai @fT.eq_2 @fT.eq_3))) (Ai (Ai @nX.eq_1 (Ai @nX.eq_2 @nX.eq_3)) (Ai @nX.eq_4 (Ai @nX.eq_5 @nX.eq_6)))))
def S5 :=
 (Ai (Ai (Ai (Ai @nX.eq_7 (Ai @nX.eq_8 @nX.eq_9)) (Ai @nX.eq_10 (Ai @nX.eq_11 @jb.eq_1))) (Ai (Ai @Ho (Ai @Hn @Qz)) (Ai @vW (Ai @oh @HL)))) (Ai (Ai (Ai @DU (Ai @HO @HR)) (Ai @DW (Ai @HQ @LK))) (Ai (Ai @DX (Ai @LL @HP)) (Ai @LI (Ai @HK @HS)))))
def S6 :=
 (Ai (Ai (Ai (Ai @HU (Ai @Hl @K3)) (Ai @On (Ai @Hk @K4))) (Ai (Ai @ge_iff_le.{0} (Ai @gt_iff_lt.{0} @me.eq_1)) (Ai @me.eq_2 (Ai @yK.eq_1 @yK.eq_2)))) (Ai (Ai (Ai @mh.eq_1 (Ai @mh.eq_2 @wY.eq_1)) (Ai @wY.eq_2 (Ai @V.fin.eq_1 @V.fin.eq_2))) (Ai (Ai @V.fin.eq_3 (Ai @V.fin.eq_4 @V.fin.eq_5)) (Ai @V.fin.eq_6 (Ai @V.fin.eq_7 @V.fin.eq_8)))))
def S7 :=
 (Ai (Ai (Ai (Ai @V.fin.eq_9 (Ai @V.fin.eq_10 @V.fin.eq_11)) (Ai @V.fin.eq_12 (Ai @V.finOk.eq_1 @V.finOk.eq_2))) (Ai (Ai @V.finOk.eq_3 (Ai @V.finOk.eq_4 @V.finOk.eq_5)) (Ai @V.finOk.eq_6 (Ai @V.finOk.eq_7 @V.finOk.eq_8)))) (Ai (Ai (Ai @V.finOk.eq_9 (Ai @V.finOk.eq_10 @V.finOk.eq_11)) (Ai @V.finOk.eq_12 (Ai @finL.eq_1 @finL.eq_2))) (Ai (Ai @finLOk.eq_1 (Ai @finLOk.eq_2 @V.plain.eq_1)) (Ai @V.plain.eq_2 (Ai @V.plain.eq_3 @V.plain.eq_4)))))
def S8 :=
 (Ai (Ai (Ai (Ai @V.plain.eq_5 (Ai @V.plain.eq_6 @V.plain.eq_7)) (Ai @V.plain.eq_8 (Ai @V.plain.eq_9 @V.plain.eq_10))) (Ai (Ai @V.plain.eq_11 (Ai @V.plain.eq_12 @V.plain.eq_13)) (Ai @V.plain.eq_14 (Ai @plainL.eq_1 @plainL.eq_2)))) (Ai (Ai (Ai @plainLL.eq_1 (Ai @plainLL.eq_2 @FM)) (Ai @B7 (Ai @y8 @Iq))) (Ai (Ai @My (Ai @ze @N4)) (Ai @Qs (Ai @bQ.eq_1 @eP.eq_1)))))
def Sw :=
 (Ai (Ai (Ai (Ai @EV.eq_1 (Ai @EV.eq_2 @fQ.eq_1)) (Ai @ij.eq_1 (Ai @bp.eq_1 @bp.eq_2))) (Ai (Ai @bp.eq_3 (Ai @bp.eq_4 @bp.eq_5)) (Ai @List.flatMap_cons.{0,0} (Ai @List.flatMap_nil.{0,0} @aw.eq_1)))) (Ai (Ai (Ai @aw.eq_2 (Ai @aw.eq_3 @aw.eq_4)) (Ai @Og.eq_1 (Ai @Og.eq_2 @mg.eq_1))) (Ai (Ai @mg.eq_2 (Ai @mg.eq_3 @mg.eq_4)) (Ai @mg.eq_5 (Ai @mg.eq_6 @kU.eq_1)))))
def Sx :=
 (Ai (Ai (Ai (Ai @kU.eq_2 (Ai @il.eq_1 @bZ.eq_1)) (Ai @bZ.eq_2 (Ai @bZ.eq_3 @bZ.eq_4))) (Ai (Ai @bZ.eq_5 (Ai @bZ.eq_6 @bZ.eq_7)) (Ai @bZ.eq_8 (Ai @bZ.eq_9 @bG.eq_1)))) (Ai (Ai (Ai @bG.eq_2 (Ai @bG.eq_3 @bG.eq_4)) (Ai @bG.eq_5 (Ai @bG.eq_6 @bG.eq_7))) (Ai (Ai @sK.eq_def (Ai @cD.eq_1 @cD.eq_2)) (Ai @cD.eq_3 (Ai @cD.eq_4 @cD.eq_5)))))
def Sy :=
 (Ai (Ai (Ai (Ai @cD.eq_6 (Ai @cD.eq_7 @cD.eq_8)) (Ai @kK.eq_1 (Ai @kK.eq_2 @wD.eq_1))) (Ai (Ai @uv.eq_1 (Ai @target.eq_1 @target.eq_2)) (Ai @target.eq_3 (Ai @rowOf.eq_1 @bH.eq_1)))) (Ai (Ai (Ai @eN.eq_1 (Ai @V.isPtr.eq_1 @V.isPtr.eq_2)) (Ai @V.isPtr.eq_3 (Ai @V.one.eq_1 @V.one.eq_2))) (Ai (Ai @V.one.eq_3 (Ai @V.one.eq_4 @V.one.eq_5)) (Ai @V.one.eq_6 (Ai @V.cellsV.eq_1 @V.cellsV.eq_2)))))
def Sz :=
 (Ai (Ai (Ai (Ai @lU.eq_1 (Ai @lU.eq_2 @br.eq_1)) (Ai @js.eq_1 (Ai @js.eq_2 @PE.eq_1))) (Ai (Ai @gp.eq_1 (Ai @gp.eq_2 @gp.eq_3)) (Ai @mR.eq_1 (Ai @r9.eq_1 @tT.eq_1)))) (Ai (Ai (Ai @tT.eq_2 (Ai @pI.eq_1 @pI.eq_2)) (Ai @yn.eq_1 (Ai @yn.eq_2 @yn.eq_3))) (Ai (Ai @yn.eq_4 (Ai @yn.eq_5 @pR.eq_1)) (Ai @pR.eq_2 (Ai @bV.eq_1 @bV.eq_2)))))
def SA :=
 (Ai (Ai (Ai (Ai @bV.eq_3 (Ai @bV.eq_4 @bV.eq_5)) (Ai @bV.eq_6 (Ai @dH.eq_def @oP.eq_1))) (Ai (Ai @oP.eq_2 (Ai @oP.eq_3 @pQ.eq_1)) (Ai @pQ.eq_2 (Ai @pQ.eq_3 @iu.eq_1)))) (Ai (Ai (Ai @iu.eq_2 (Ai @iu.eq_3 @iu.eq_4)) (Ai @iu.eq_5 (Ai @iu.eq_6 @iu.eq_7))) (Ai (Ai @iu.eq_8 (Ai @sQ.eq_1 @jw.eq_1)) (Ai @jw.eq_2 (Ai @dN.eq_1 @dN.eq_2)))))
def SB :=
 (Ai (Ai (Ai (Ai @dN.eq_3 (Ai @dN.eq_4 @dN.eq_5)) (Ai @dN.eq_6 (Ai @dN.eq_7 @dN.eq_8))) (Ai (Ai @dN.eq_9 (Ai @dN.eq_10 @dN.eq_11)) (Ai @dN.eq_12 (Ai @dN.eq_13 @dN.eq_14)))) (Ai (Ai (Ai @dN.eq_15 (Ai @dN.eq_16 @dN.eq_17)) (Ai @iR.eq_1 (Ai @iR.eq_2 @iR.eq_3))) (Ai (Ai @iR.eq_4 (Ai @iR.eq_5 @kL.eq_1)) (Ai @kL.eq_2 (Ai @kL.eq_3 @kL.eq_4)))))
def SC :=
 (Ai (Ai (Ai (Ai @kL.eq_5 (Ai @kL.eq_6 @kL.eq_7)) (Ai @kL.eq_8 (Ai @fI.eq_1 @fI.eq_2))) (Ai (Ai @fI.eq_3 (Ai @fI.eq_4 @fI.eq_5)) (Ai @fI.eq_6 (Ai @fI.eq_7 @fI.eq_8)))) (Ai (Ai (Ai @Cp.eq_1 (Ai @Cp.eq_2 @Cp.eq_3)) (Ai @Cp.eq_4 (Ai @Np.eq_1 @Np.eq_2))) (Ai (Ai @zT.eq_1 (Ai @zT.eq_2 @j6.eq_1)) (Ai @j6.eq_2 (Ai @j6.eq_3 @j6.eq_4)))))
def SD :=
 (Ai (Ai (Ai (Ai @j6.eq_5 (Ai @j6.eq_6 @j6.eq_7)) (Ai @j6.eq_8 (Ai @j6.eq_9 @j6.eq_10))) (Ai (Ai @j6.eq_11 (Ai @j6.eq_12 @j6.eq_13)) (Ai @j6.eq_14 (Ai @j6.eq_15 @gL.eq_1)))) (Ai (Ai (Ai @gL.eq_2 (Ai @gL.eq_3 @gL.eq_4)) (Ai @gL.eq_5 (Ai @gL.eq_6 @gL.eq_7))) (Ai (Ai @gL.eq_8 (Ai @gL.eq_9 @gL.eq_10)) (Ai @gL.eq_11 (Ai @gL.eq_12 @gL.eq_13)))))
def SE :=
 (Ai (Ai (Ai (Ai @gL.eq_14 (Ai @gL.eq_15 @QX.eq_1)) (Ai @QX.eq_2 (Ai @QX.eq_3 @QX.eq_4))) (Ai (Ai @QX.eq_5 (Ai @BB.eq_1 @BB.eq_2)) (Ai @BB.eq_3 (Ai @BB.eq_4 @BB.eq_5)))) (Ai (Ai (Ai @kP.eq_def (Ai @nx.eq_def @ku.eq_1)) (Ai @ku.eq_2 (Ai @iU.eq_1 @iU.eq_2))) (Ai (Ai @mQ.eq_1 (Ai @mQ.eq_2 @kR.eq_1)) (Ai @kR.eq_2 (Ai @ls.eq_1 @ls.eq_2)))))
def SF :=
 (Ai (Ai (Ai (Ai @kO.eq_1 (Ai @kO.eq_2 @tv.eq_1)) (Ai @sD.eq_1 (Ai @ma.eq_1 @ma.eq_2))) (Ai (Ai @nE.eq_1 (Ai @nE.eq_2 @iF.eq_1)) (Ai @jm.eq_1 (Ai @aP.eq_1 @aP.eq_2)))) (Ai (Ai (Ai @aP.eq_3 (Ai @aP.eq_4 @aP.eq_5)) (Ai @eS.eq_1 (Ai @eS.eq_2 @eS.eq_3))) (Ai (Ai @eS.eq_4 (Ai @eS.eq_5 @eS.eq_6)) (Ai @oa.eq_1 (Ai @oa.eq_2 @oa.eq_3)))))
def SG :=
 (Ai (Ai (Ai (Ai @ew.eq_1 (Ai @fq.eq_1 @fy.eq_1)) (Ai @List.toList_toArray.{0} (Ai @Int.toNat_natCast @Int.natCast_nonneg))) (Ai (Ai @Int.toNat_zero (Ai @Int.toNat_one @Nat.le_refl)) (Ai @Int.le_refl (Ai @Nat.zero_le @Nat.zero_mul)))) (Ai (Ai (Ai @Nat.one_mul (Ai @Nat.mul_one @Nat.add_zero)) (Ai @Nat.zero_add (Ai @Nat.mul_zero @Nat.add_left_cancel_iff))) (Ai (Ai @if_true.{1} (Ai @if_true.{0} @if_false.{1})) (Ai @if_false.{0} (Ai @ite_true.{1} @ite_true.{0})))))
def SH :=
 (Ai (Ai (Ai (Ai @ite_false.{1} (Ai @ite_false.{0} @Bool.false_eq_true)) (Ai @Bool.true_eq_false (Ai @Bool.not_true @Bool.not_false))) (Ai (Ai @decide_true (Ai @decide_false @true_implies)) (Ai @false_implies (Ai @implies_true.{1} @implies_true.{0})))) (Ai (Ai (Ai @and_true (Ai @true_and @and_false)) (Ai @false_and (Ai @and_self @List.getElem?_cons_zero.{0}))) (Ai (Ai @List.getElem?_cons_succ.{0} (Ai @List.getElem?_nil.{0} @List.map_cons.{0,0})) (Ai @List.map_nil.{0,0} (Ai @List.length_cons.{0} @List.length_nil.{0})))))
def SI :=
 (Ai (Ai (Ai (Ai @List.cons_append.{0} (Ai @List.nil_append.{0} @List.append_nil.{0})) (Ai @Option.getD_some.{0} (Ai @Option.getD_none.{0} @Option.isSome_some.{0}))) (Ai (Ai @Option.isSome_none.{0} (Ai @Option.map_some.{0,0} @Option.map_none.{0,0})) (Ai @List.drop_zero.{0} (Ai @List.drop_succ_cons.{0} @List.take_zero.{0})))) (Ai (Ai (Ai @List.take_succ_cons.{0} (Ai @List.set_cons_zero.{0} @List.set_cons_succ.{0})) (Ai @List.all_cons.{0} (Ai @List.all_nil.{0} @Bool.and_true))) (Ai (Ai @Bool.true_and (Ai @List.headD_cons.{0} @l8.eq_1)) (Ai @l8.eq_2 (Ai @l8.eq_3 @Nat.left_eq_add)))))
def SJ :=
 (Ai (Ai (Ai (Ai @Nat.add_eq_left (Ai @List.replicate_zero.{0} @List.replicate_succ.{0})) (Ai @Nat.add_right_cancel_iff (Ai @HM @List.isEmpty_cons.{0}))) (Ai (Ai @List.isEmpty_nil.{0} (Ai @NT @AN)) (Ai @b9 (Ai @Qa @mZ)))) (Ai (Ai (Ai @NQ (Ai @Qc @kI)) (Ai @rh (Ai @NS @Qb))) (Ai (Ai @Qf (Ai @RE @RF)) (Ai @Qe (Ai @RB @RC)))))
def SK :=
 (Ai (Ai (Ai (Ai @Qh (Ai @fK @eJ)) (Ai @eQ (Ai @fL @ct))) (Ai (Ai @List.take_length.{0} (Ai @or_true @true_or)) (Ai @or_false (Ai @false_or @or_self)))) (Ai (Ai (Ai @forall_const.{1} (Ai @forall_const.{0} @List.isEmpty_iff.{0})) (Ai @List.map_eq_nil_iff.{0,0} (Ai @ne_eq.{1} @ne_eq.{0}))) (Ai (Ai @Option.some.injEq.{0} (Ai @not_false_eq_true @am.eq_1)) (Ai @Int.ofNat_lt (Ai @Int.ofNat_le @Nat.lt_irrefl)))))
def SL :=
 (Ai (Ai (Ai (Ai @beq_self_eq_true.{0} (Ai @bne_self_eq_false.{0} @Int.natCast_zero)) (Ai @Int.cast_ofNat_Int (Ai @GD @CL))) (Ai @JE (Ai @DY (Ai @DV @AO)))) (Ai (Ai (Ai @NR (Ai @xL.eq_1 @xL.eq_2)) (Ai @xL.eq_3 (Ai @rQ.eq_1 @rQ.eq_2))) (Ai (Ai @rQ.eq_3 (Ai @rQ.eq_4 @mB.eq_1)) (Ai @iy.eq_1 (Ai @iy.eq_2 @iy.eq_3)))))
def SM :=
 (Ai (Ai (Ai (Ai @iy.eq_4 (Ai @l9.eq_1 @l9.eq_2)) (Ai @l9.eq_3 (Ai @px.eq_1 @iG.eq_1))) (Ai (Ai @NU.eq_1 (Ai @NU.eq_2 @NU.eq_3)) (Ai @gO.eq_1 (Ai @pS @Oc.eq_1)))) (Ai (Ai (Ai @nS.eq_def (Ai @nu.eq_1 @intKind.eq_1)) (Ai @rE.eq_1 (Ai @Nat.sub_zero @Aj))) (Ai (Ai @x5 (Ai @vG @x7)) (Ai @PU (Ai @Ew @LJ)))))
def SN :=
 (Ai (Ai (Ai (Ai @HN (Ai @Bp @RD)) (Ai @Qd (Ai @JX @HT))) (Ai (Ai @Qg (Ai @Kz @G6)) (Ai @KA (Ai @KD @KH)))) (Ai (Ai (Ai @G8 (Ai @KJ @KG)) (Ai @N8 (Ai @G9 @N9))) (Ai (Ai @KF (Ai @Ha @G7)) (Ai @N7 (Ai @N5 @KC)))))
def SO :=
 (Ai (Ai (Ai @Ky @KI) (Ai @N6 @Dd)) (Ai (Ai @KE @isConst.eq_1) (Ai @isConst.eq_2 @qY.eq_1)))
def ai:=(Ai (Ai (Ai (Ai SX (Ai SY SZ)) (Ai (Ai S0 S3) (Ai S4 S5))) (Ai (Ai S6 (Ai S7 S8)) (Ai (Ai Sw Sx) (Ai Sy Sz)))) (Ai (Ai (Ai SA (Ai SB SC)) (Ai (Ai SD SE) (Ai SF SG))) (Ai (Ai (Ai SH SI) (Ai SJ SK)) (Ai (Ai SL SM) (Ai SN SO)))))
end Go.Proofs.YtlnlopnpcmahgaaGreatDoor.Vm
