/-
 Texts joined: XVs,XVt,XVv,XVz,XVu,XVU.
-/
import Derived.IntWalk
import Derived.Test.YtlnlopnpcmahgaaGreatDoorQb
set_option linter.all false
namespace Go.Proofs.YtlnlopnpcmahgaaGreatDoor.Vm
open Go Go.RowKit
def rn (cx:Cx)(N:Nat)(rs:List ResultVar)(nm:Nat)(M0:am)(v:V)(eff:List (Nat×Option Blk))(b0 n:Nat)(e:Env)(M:am):Prop:=∃ gs,HC cx N rs nm M0 v eff b0 e (M.ghosts n gs)
def jk (cx:Cx)(fn:Func)(nm:Nat)(M:am)(v:V)(eff:List (Nat×Option Blk))(b0:Nat):Ex->Nat->Env->am->Prop
 | .exit _,_,_,_=>False
 | .panic _,_,_,_=>False
 | _,n,e,M'=>rn cx fn.ntmps fn.results.toList nm M v eff b0 n e M'
def CL {cx:Cx}(hD:cx.D=[]){f:FuncId}{nm:Nat}{args:List V}{M:am}{v:V}{eff:List (Nat×Option Blk)}{fn:Func}{c:Code}
  (hcall:∀ cargs w,(callFunc f cargs).run cx.P w = .ok (.enter f cargs) w) (hf:cx.P.funcs[f]? = some fn) (hb:fn.body=some c) (hm:cx.P.follows .mixedOrders=true) (hin:cY fn.ntmps c=true) (hargs:args.length<=fn.ntmps)
  (hvc:∀ b0,(∀ x,b0<=x->M x=none)->vc cx b0 c (jk cx fn nm M v eff b0) b0 (jj args) M):Ev cx f nm args M v eff:=by
 refine⟨trivial,?_⟩
 intro X w ρ cargs B hrel hfr hB hlen his
 have hstart:Lies cx fn.ntmps X w (bW ρ M) ρ B B (jj args) M ρ { tmps:=cargs++Array.replicate (fn.ntmps-cargs.size) undef,defers:=[] } w:=by
  refine⟨hrel,⟨by simp;omega,hD.symm,fun t ht=>?_⟩,hB,fun _ _ h=>h,Nat.le_refl _,fun _ _=>rfl,fun x hx=>(hB x hx).2⟩
  simp only[jj,Array.getD_eq_getD_getElem?]
  by_cases hlt:t<args.length
  ·rw[Array.getElem?_append_left (by omega),List.getElem?_eq_getElem hlt,Array.getElem?_eq_getElem (show t<cargs.size by omega)]
   exact his t _ _ (List.getElem?_eq_getElem hlt) (Array.getElem?_eq_getElem (by omega))
  ·rw[List.getElem?_eq_none (by omega)]
   exact .any _
 refine .inl ⟨hcall _ _,?_⟩
 refine lW hf hb (jt.mono (dq hm c _ B (jj args) M ρ _ w hin hstart (hvc B (fun x hx=>(hB x hx).1))) ?_)
 rintro x a w' ⟨n,e,M',ρ',h',hq⟩
 have done:rn cx fn.ntmps fn.results.toList nm M v eff B n e M'->a.defers=[] /\ ∃ cv,(results fn a.tmps).run cx.P w' = .ok cv w' /\ ∃ cv',Ending.returned cv = .returned cv'/\dx cx.G X w (bW ρ M) ρ M w nm v (M.app eff) cv' w':=fun ⟨gs,hfin⟩=>by
  have h':=h'.ghosts gs
  obtain⟨cv,h1,h2⟩:=sV h'.rel h'.env fn hfin.1
  exact⟨h'.env.defers.trans hD,cv,h1,cv,rfl,sn hrel hfr hB h' hfin h2⟩
 cases x<;>simp only[jk]at hq<;>try (exact hq.elim)
 case normal=>exact done hq
 case ret=>exact done hq
 case panic ch=>obtain⟨_,_,_,_,hf⟩:=hq;exact hf.elim
def Fin.pure {cx:Cx}{N:Nat}{rs:List ResultVar}{nm:Nat}{v:V}{b0 n:Nat}{e:Env}{M:am}(h1:jq cx.P N rs e M)(h2:(jy cx.P rs e M).finOk [] M)(h3:((jy cx.P rs e M).fin [] M).le v):rn cx N rs nm am.nil v [] b0 n e M :=
 ⟨[],Fin.two ⟨h1,[],h2,h3,rfl,List.nodup_nil,List.nodup_nil,(fun p hp=>by cases hp),(fun x hx=>by simp[am.nil]at hx)⟩⟩
structure Post where
 b0:Nat
 q:Ex->Nat->Env->am->Prop
inductive Frm where
 | code (c:Code)
 | blk (id:Nat)
 | again (J:Nat->Nat->Env->am->Prop) (g:Nat)
 | cut (J:Nat->Env->am->Prop)
def gM (cx:Cx)(Q:Post):List Frm->Ex->Nat->Env->am->Prop
 | []=>Q.q
 | .code c::st=>fun x n e M=>match x with | .normal=>vc cx Q.b0 c (gM cx Q st) n e M | .exit id=>gM cx Q st (.exit id) n e M | .ret=>gM cx Q st .ret n e M | .panic v=>gM cx Q st (.panic v) n e M
 | .blk id::st=>fun x n e M=>match x with | .normal=>gM cx Q st .normal n e M | .exit id'=>if id'=id then gM cx Q st .normal n e M else gM cx Q st (.exit id') n e M | .ret=>gM cx Q st .ret n e M | .panic v=>gM cx Q st (.panic v) n e M
 | .again J g::st=>fun x n e M=>match x with | .normal=>∃ g',g'<g /\ ∃ nm' e' M',li cx Q.b0 n e M nm' e' M'/\J g' nm' e' M' | .exit id=>gM cx Q st (.exit id) n e M | .ret=>gM cx Q st .ret n e M | .panic v=>gM cx Q st (.panic v) n e M
 | .cut J::st=>fun x n e M=>match x with | .normal=>J n e M | .exit id=>gM cx Q st (.exit id) n e M | .ret=>gM cx Q st .ret n e M | .panic v=>gM cx Q st (.panic v) n e M
section
variable (cx:Cx) (Q:Post) (st:List Frm) (nm:Nat) (e:Env) (M:am)
def go (c:Code):Prop:=vc cx Q.b0 c (gM cx Q st) nm e M
def dR (x:Ex):Prop:=gM cx Q st x nm e M
def aA (d:Bool)(fs:List (List Nat))(ops r:List Oper)(i:Nat):Prop:=bV cx ops d (fun n e M v=>d=false/\gM cx Q st (.panic v) n e M) r nm i e M fs (fun n e M fs=>(d=true->gV cx.P ops fs)/\gM cx Q st .normal n e M)
def yX (fs:List (List Nat))(ops:List Oper):Prop:=gV cx.P ops fs/\gM cx Q st .normal nm e M
def gw (d:Bool)(fs:List (List Nat))(ops:List Oper)(o:Oper)(r:List Oper)(i:Nat):Prop:=aA cx Q st nm e M d fs ops (o::r) i
def b9 (d:Bool)(fs:List (List Nat))(ops:List Oper)(o:Oper)(r:List Oper)(i:Nat):Prop:=∃ v eff ft,ExtDoes cx o (nm+16*i) e M v eff ft/\aA cx Q st nm (e.putD o.dst v) (M.app eff) d (fs++[ft]) ops r (i+1)
def nw (d:Bool)(fs:List (List Nat))(c:Bool)(ops:List Oper)(o:Oper)(r:List Oper)(i:Nat):Prop:=(∃ v ft,(ft≠[]->eT o.op=false)/\(c=true->ExtDoes cx o (nm+16*i) e M v [] ft)/\aA cx Q st nm (e.putD o.dst (.gd c v)) M d (fs++[ft]) ops r (i+1)) \/
 ((c=true->b9 cx Q st nm e M d fs ops o r i)/\(c=false->aA cx Q st nm (e.putD o.dst .any) M d (fs++[[]]) ops r (i+1)))
def K2 (d:Bool)(fs:List (List Nat))(ops:List Oper)(o:Oper)(r:List Oper)(i:Nat):Prop:=∃ v eff,CommDoes cx o (nm+16*i) e M v eff/\aA cx Q st nm (e.putD o.dst v) (M.app eff) d (fs++[ak eff]) ops r (i+1)
def bw (d:Bool)(fs:List (List Nat))(gv:V)(want:Bool)(ops:List Oper)(o:Oper)(r:List Oper)(i:Nat):Prop:=match gx gv want with
 | some c=>if eW o.op=true then gj cx c e M (nm+16*i) o (fun v l=>aA cx Q st nm (e.putD o.dst (.gd c v)) M d (fs++[l]) ops r (i+1))\/(c=true/\fa cx true e M (nm+16*i) o (fun v eff l=>aA cx Q st nm (e.putD o.dst v) (M.app eff) d (fs++[l++ak eff]) ops r (i+1)))
  else if gy cx.P o.op=true then nw cx Q st nm e M d fs c ops o r i
  else if kT o.op=true then (c=true->bp cx c e M o)/\aA cx Q st nm (e.putD o.dst (.gd c (da cx c e M (nm+16*i) o))) M d (fs++[fu cx c e (nm+16*i) o]) ops r (i+1)
  else (c=true->bp cx true e M o/\aA cx Q st nm (e.putD o.dst (da cx true e M (nm+16*i) o)) (M.app (dU cx true e M (nm+16*i) o)) d (fs++[fu cx true e (nm+16*i) o]) ops r (i+1))/\(c=false->aA cx Q st nm (e.putD o.dst .any) M d (fs++[[]]) ops r (i+1))
 | none=>False
def eV (d:Bool)(fs:List (List Nat))(c:Bool)(ops:List Oper)(o:Oper)(r:List Oper)(i:Nat):Prop:=gj cx c e M (nm+16*i) o (fun v l=>aA cx Q st nm (e.putD o.dst (.gd c v)) M d (fs++[l]) ops r (i+1))\/(c=true/\fa cx true e M (nm+16*i) o (fun v eff l=>aA cx Q st nm (e.putD o.dst v) (M.app eff) d (fs++[l++ak eff]) ops r (i+1)))
def nz (c:Code):Prop:=vc cx Q.b0 (.loop c) (gM cx Q st) nm e M
def lA (v:V)(a b:Code):Prop:=match v with
 | .bool t=>(t=true->go cx Q st nm e M a)/\(t=false->go cx Q st nm e M b)
 | .bit t f=>(t=true->go cx Q st nm e M a)/\(f=true->go cx Q st nm e M b)
 | _=>False
def Gk:go cx Q st nm e M .skip=dR cx Q st nm e M .normal:=propext Iff.rfl
def De (l:Nat):go cx Q st nm e M (.label l)=dR cx Q st nm e M .normal:=propext Iff.rfl
def Gi (id:Nat):go cx Q st nm e M (.exit id)=dR cx Q st nm e M (.exit id):=propext Iff.rfl
def go_ret:go cx Q st nm e M .ret=dR cx Q st nm e M .ret:=propext Iff.rfl
def Il (a b:Code):go cx Q st nm e M (.seq a b)=go cx Q (.code b::st) nm e M a:=propext Iff.rfl
def Df (c:Code):go cx Q st nm e M (.scope c)=go cx Q st nm e M c:=propext Iff.rfl
def Dd (id:Nat)(c:Code):go cx Q st nm e M (.block id c)=go cx Q (.blk id::st) nm e M c:=propext Iff.rfl
def Gh (c:Operand)(a b:Code):go cx Q st nm e M (.cond c a b)=lA cx Q st nm e M (aw cx.G true e c) a b:=propext Iff.rfl
def Gj (c:Code):go cx Q st nm e M (.loop c)=nz cx Q st nm e M c:=propext Iff.rfl
def AK (id:Nat)(ops:Array Oper)(d:Bool):go cx Q st nm e M (.region id ops d)=aA cx Q st nm e M d [] ops.toList ops.toList 0:=propext Iff.rfl
def vx (a b:Code):lA cx Q st nm e M (.bool true) a b=go cx Q st nm e M a:=by simp only[lA,true_implies,Bool.true_eq_false,false_implies,and_true]
def tP (a b:Code):lA cx Q st nm e M (.bool false) a b=go cx Q st nm e M b:=by simp only[lA,true_implies,Bool.false_eq_true,false_implies,true_and]
def Dc (x:Ex):dR cx Q [] nm e M x=Q.q x nm e M:=propext Iff.rfl
def AC (c:Code):dR cx Q (.code c::st) nm e M .normal=go cx Q st nm e M c:=propext Iff.rfl
def qf (c:Code)(id:Nat):dR cx Q (.code c::st) nm e M (.exit id)=dR cx Q st nm e M (.exit id):=propext Iff.rfl
def rG (c:Code):dR cx Q (.code c::st) nm e M .ret=dR cx Q st nm e M .ret:=propext Iff.rfl
def Db (id:Nat):dR cx Q (.blk id::st) nm e M .normal=dR cx Q st nm e M .normal:=propext Iff.rfl
def rF (id id':Nat):dR cx Q (.blk id::st) nm e M (.exit id')=if id'=id then dR cx Q st nm e M .normal else dR cx Q st nm e M (.exit id'):=propext Iff.rfl
def tQ (id:Nat):dR cx Q (.blk id::st) nm e M .ret=dR cx Q st nm e M .ret:=propext Iff.rfl
def oN (J:Nat->Nat->Env->am->Prop)(g:Nat)(id:Nat):dR cx Q (.again J g::st) nm e M (.exit id)=dR cx Q st nm e M (.exit id):=propext Iff.rfl
def qe (J:Nat->Nat->Env->am->Prop)(g:Nat):dR cx Q (.again J g::st) nm e M .ret=dR cx Q st nm e M .ret:=propext Iff.rfl
def rH (J:Nat->Env->am->Prop)(id:Nat):dR cx Q (.cut J::st) nm e M (.exit id)=dR cx Q st nm e M (.exit id):=propext Iff.rfl
def tR (J:Nat->Env->am->Prop):dR cx Q (.cut J::st) nm e M .ret=dR cx Q st nm e M .ret:=propext Iff.rfl
def AJ (fs:List (List Nat))(ops:List Oper)(i:Nat):aA cx Q st nm e M false fs ops [] i=dR cx Q st (nm+16*i) e M .normal:=by
 simp only[aA,bV,dR,Bool.false_eq_true,false_implies,true_and]
def qj (fs:List (List Nat))(ops:List Oper)(i:Nat):aA cx Q st nm e M true fs ops [] i=yX cx Q st (nm+16*i) e M fs ops:=by
 simp only[aA,bV,yX,true_implies]
def xy (d:Bool)(fs:List (List Nat))(ops:List Oper)(dst:Option Tmp)(f:Operand)(args:Array Operand)(ats:Array TypeId)(t:TypeId)(pos:String)(af:Array Edge)(r:List Oper)(i:Nat) :
  aA cx Q st nm e M d fs ops (⟨dst,.call ⟨.value f,args,ats⟩,t,pos,af,none⟩::r) i=gw cx Q st nm e M d fs ops ⟨dst,.call ⟨.value f,args,ats⟩,t,pos,af,none⟩ r i:=propext Iff.rfl
def vE (d:Bool)(fs:List (List Nat))(ops:List Oper)(dst:Option Tmp)(op:Op)(t:TypeId)(pos:String)(af:Array Edge)(j:Nat)(want:Bool)(r:List Oper)(i:Nat) :
  aA cx Q st nm e M d fs ops (⟨dst,op,t,pos,af,some (j,want)⟩::r) i=bw cx Q st nm e M d fs (fW ops e j) want ops ⟨dst,op,t,pos,af,some (j,want)⟩ r i:=by
 unfold aA bw
 simp only[bV,aA,nw,b9]
 cases gx (fW ops e j) want<;>rfl
def qg (d:Bool)(fs:List (List Nat))(c x want:Bool)(ops:List Oper)(o:Oper)(r:List Oper)(i:Nat):bw cx Q st nm e M d fs (.gd c (.bool x)) want ops o r i=bw cx Q st nm e M d fs (.bool (c&&(x==want))) true ops o r i:=by
 have h:∀ y:Bool,(y==true)=y:=fun y=>by cases y<;>rfl
 simp only[bw,gx,h]
def vy (d:Bool)(fs:List (List Nat))(v:V)(want:Bool)(ops:List Oper)(o:Oper)(r:List Oper)(i:Nat):bw cx Q st nm e M d fs (.gd false v) want ops o r i=bw cx Q st nm e M d fs (.bool false) true ops o r i:=by
 have h1:gx (.gd false v) want=some false:=by cases v<;>rfl
 have h2:gx (.bool false) true=some false:=rfl
 simp only[bw,h1,h2]
variable {cx Q st nm e M}
def aH {t:Bool}{a b:Code}(h1:t=true->go cx Q st nm e M a)(h2:t=false->go cx Q st nm e M b):lA cx Q st nm e M (.bool t) a b:=⟨h1,h2⟩
def aL {t f:Bool}{a b:Code}(h1:t=true->go cx Q st nm e M a)(h2:f=true->go cx Q st nm e M b):lA cx Q st nm e M (.bit t f) a b:=⟨h1,h2⟩
def cN {d:Bool}{fs:List (List Nat)}{ops:List Oper}{dst:Option Tmp}{f:Operand}{args:Array Operand}{ats:Array TypeId}{t:TypeId}{pos:String}{af:Array Edge}{r:List Oper}{i:Nat}{g:FuncId}{caps:List V}{as:List V}(hf:aw cx.G true e f = .fn g caps)
  (has:args.toList.map (aw cx.G true e)++caps=as) (l:List Nat) {v:V} {eff:List (Nat×Option Blk)} (hev:Ev cx g (nm+16*i) as (M.only l) v eff) (he:∀ x∈ak eff,(x∈l/\(M x).isSome=true)\/bY (nm+16*i) x)
  (h:aA cx Q st nm (e.putD dst v) (M.app eff) d (fs++[l++ak eff]) ops r (i+1)):gw cx Q st nm e M d fs ops ⟨dst,.call ⟨.value f,args,ats⟩,t,pos,af,none⟩ r i:=by
 subst has
 show bV _ _ _ _ _ _ _ _ _ _ _
 simp only[bV,eW,if_true,fa,hf,V.tgt,List.nil_append]
 exact .inl ⟨l,v,eff,hev,he,h⟩
def dP {d:Bool}{fs:List (List Nat)}{ops:List Oper}{dst:Option Tmp}{f:Operand}{args:Array Operand}{ats:Array TypeId}{t:TypeId}{pos:String}{af:Array Edge}{r:List Oper}{i:Nat}{g:FuncId}{caps:List V}{as:List V}(hf:aw cx.G true e f = .fn g caps)
  (has:args.toList.map (aw cx.G true e)++caps=as) {v:V} (hev:Ev cx g (nm+16*i) as am.nil v []) (h:aA cx Q st nm (e.putD dst v) M d (fs++[[]]) ops r (i+1)):gw cx Q st nm e M d fs ops ⟨dst,.call ⟨.value f,args,ats⟩,t,pos,af,none⟩ r i :=
 cN hf has [] (by rw[am.only_nil];exact hev) (fun x hx=>by simp[ak]at hx) h
def wY {d:Bool}{fs:List (List Nat)}{ops:List Oper}{c:Bool}{dst:Option Tmp}{f:Operand}{args:Array Operand}{ats:Array TypeId}{t:TypeId}{pos:String}{af:Array Edge}{gd:Option (Nat×Bool)}{r:List Oper}{i:Nat}{g:FuncId}{caps:List V}{as:List V}(hf:aw cx.G c e f = .fn g caps)
  (has:args.toList.map (aw cx.G c e)++caps=as) {v:V} (hev:c=true->Ev cx g (nm+16*i) as am.nil v []) (h:aA cx Q st nm (e.putD dst (.gd c v)) M d (fs++[[]]) ops r (i+1)):eV cx Q st nm e M d fs c ops ⟨dst,.call ⟨.value f,args,ats⟩,t,pos,af,gd⟩ r i:=by
 subst has
 unfold eV gj
 refine .inl ?_
 simp only[hf,V.tgt,List.nil_append]
 exact⟨[],v,by rw[am.only_nil];exact hev,h⟩
def uV {d:Bool}{fs:List (List Nat)}{ops:List Oper}{dst:Option Tmp}{f:Operand}{args:Array Operand}{ats:Array TypeId}{t:TypeId}{pos:String}{af:Array Edge}{r:List Oper}{i:Nat}{g:FuncId}{fi:List V}{as:List V}(hf:aw cx.G true e f = .fnb g fi)
  (has:fi++args.toList.map (aw cx.G true e)=as) (l:List Nat) {v:V} {eff:List (Nat×Option Blk)} (hev:Ev cx g (nm+16*i) as (M.only l) v eff) (he:∀ x∈ak eff,(x∈l/\(M x).isSome=true)\/bY (nm+16*i) x)
  (h:aA cx Q st nm (e.putD dst v) (M.app eff) d (fs++[l++ak eff]) ops r (i+1)):gw cx Q st nm e M d fs ops ⟨dst,.call ⟨.value f,args,ats⟩,t,pos,af,none⟩ r i:=by
 subst has
 show bV _ _ _ _ _ _ _ _ _ _ _
 simp only[bV,eW,if_true,fa,hf,V.tgt,List.append_nil]
 exact .inl ⟨l,v,eff,hev,he,h⟩
def ac {d:Bool}{fs:List (List Nat)}{ops:List Oper}{dst:Option Tmp}{g:FuncId}{args:Array Operand}{ats:Array TypeId}{t:TypeId}{pos:String}{af:Array Edge}{r:List Oper}{i:Nat}{as:List V}
  (has:args.toList.map (aw cx.G true e)=as) {v:V} (hev:Ev cx g (nm+16*i) as am.nil v []) (h:aA cx Q st nm (e.putD dst v) M d (fs++[[]]) ops r (i+1)):gw cx Q st nm e M d fs ops ⟨dst,.call ⟨.value (.func g),args,ats⟩,t,pos,af,none⟩ r i :=
 dP (caps:=[]) rfl (by rw[List.append_nil];exact has) hev h
def ab {d:Bool}{fs:List (List Nat)}{ops:List Oper}{c:Bool}{dst:Option Tmp}{g:FuncId}{args:Array Operand}{ats:Array TypeId}{t:TypeId}{pos:String}{af:Array Edge}{gd:Option (Nat×Bool)}{r:List Oper}{i:Nat}{as:List V}
  (has:args.toList.map (aw cx.G c e)=as) {v:V} (hev:c=true->Ev cx g (nm+16*i) as am.nil v []) (h:aA cx Q st nm (e.putD dst (.gd c v)) M d (fs++[[]]) ops r (i+1)):eV cx Q st nm e M d fs c ops ⟨dst,.call ⟨.value (.func g),args,ats⟩,t,pos,af,gd⟩ r i :=
 wY (caps:=[]) rfl (by rw[List.append_nil];exact has) hev h
def aJ {d:Bool}{fs:List (List Nat)}{ops:List Oper}{dst:Option Tmp}{g:FuncId}{args:Array Operand}{ats:Array TypeId}{t:TypeId}{pos:String}{af:Array Edge}{r:List Oper}{i:Nat}{as:List V}
  (has:args.toList.map (aw cx.G true e)=as) (l:List Nat) {v:V} {eff:List (Nat×Option Blk)} (hev:Ev cx g (nm+16*i) as (M.only l) v eff) (he:∀ x∈ak eff,(x∈l/\(M x).isSome=true)\/bY (nm+16*i) x)
  (h:aA cx Q st nm (e.putD dst v) (M.app eff) d (fs++[l++ak eff]) ops r (i+1)):gw cx Q st nm e M d fs ops ⟨dst,.call ⟨.value (.func g),args,ats⟩,t,pos,af,none⟩ r i :=
 cN (caps:=[]) rfl (by rw[List.append_nil];exact has) l hev he h
def ao {fs:List (List Nat)}{ops:List Oper}(hp:sJ cx.P ops=[])(h:dR cx Q st nm e M .normal):yX cx Q st nm e M fs ops:=⟨x3 hp,h⟩
def aq {fs:List (List Nat)}{ops:List Oper}{ps:List (Nat×Nat)}(hp:sJ cx.P ops=ps)(hps:∀ p∈ps,∀ x∈fs.getD p.1 [],x ∉ fs.getD p.2 [])(h:dR cx Q st nm e M .normal):yX cx Q st nm e M fs ops:=⟨by unfold gV;rw[hp];exact hps,h⟩
def y8 {c:Code}(J:Nat->Nat->Env->am->Prop)(g:Nat){n:Nat}{e':Env}{M':am}(hw:li cx Q.b0 nm e M n e' M')(h0:J g n e' M')(hr:∀ g nm e M,J g nm e M->go cx Q (.again J g::st) nm e M c):nz cx Q st nm e M c:=⟨J,g,⟨_,_,_,hw,h0⟩,hr⟩
def uK {J:Nat->Nat->Env->am->Prop}{g:Nat}(g':Nat)(hg:g'<g){n:Nat}{e':Env}{M':am}(hw:li cx Q.b0 nm e M n e' M')(h:J g' n e' M'):dR cx Q (.again J g::st) nm e M .normal:=⟨g',hg,_,_,_,hw,h⟩
end
def rA (cx:Cx)(fn:Func)(nm:Nat)(M:am)(v:V)(eff:List (Nat×Option Blk))(b0:Nat):Post:=⟨b0,jk cx fn nm M v eff b0⟩
def Ia (cx:Cx)(fn:Func)(nm:Nat)(M:am)(v:V)(eff:List (Nat×Option Blk))(b0:Nat):(rA cx fn nm M v eff b0).q=jk cx fn nm M v eff b0:=rfl
def yW (cx:Cx)(fn:Func)(nm:Nat)(M:am)(v:V)(eff:List (Nat×Option Blk))(b0:Nat):(rA cx fn nm M v eff b0).b0=b0:=rfl
def JQ {cx:Cx}(hD:cx.D=[]){f:FuncId}{nm:Nat}{args:List V}{M:am}{v:V}{eff:List (Nat×Option Blk)}{fn:Func}{c:Code}
  (hcall:∀ cargs w,(callFunc f cargs).run cx.P w = .ok (.enter f cargs) w) (hf:cx.P.funcs[f]? = some fn) (hb:fn.body=some c) (hm:cx.P.follows .mixedOrders=true) (hin:cY fn.ntmps c=true) (hargs:decide (args.length<=fn.ntmps)=true)
  (hvc:∀ b0,(∀ x,b0<=x->M x=none)->go cx (rA cx fn nm M v eff b0) [] b0 (jj args) M c):Ev cx f nm args M v eff :=
 CL hD hcall hf hb hm hin (of_decide_eq_true hargs) hvc
def Bh (e:Env)(t:Nat)(v:V):e.putD (some t) v=e.put t v:=rfl
def Bg (e:Env)(v:V):e.putD none v=e:=rfl
def IP (e:Env)(t x:Nat)(v:V):(e.put t v) x=if x=t then v else e x:=rfl
def rW (c:Bool)(v:V):(V.gd c v).strip c=v:=by cases c<;>simp[V.strip]
def lc (c:Bool)(v:V):(V.gd true v).strip c=v:=by simp[V.strip]
def BI (c:Bool):V.any.strip c = .any:=rfl
def yx (c b:Bool):(V.bool b).strip c = .bool b:=rfl
def BJ (c t f:Bool):(V.bit t f).strip c = .bit t f:=rfl
def BL (c:Bool)(k:IntKind)(n:Int):(V.int k n).strip c = .int k n:=rfl
def BO (c:Bool)(s:List UInt8):(V.str s).strip c = .str s:=rfl
def yA (c:Bool):V.nilp.strip c = .nilp:=rfl
def BQ (c:Bool):V.upt.strip c = .upt:=rfl
def BN (c:Bool)(a b d:Nat):(V.ptr a b d).strip c = .ptr a b d:=rfl
def EA (c:Bool)(l:List V):(V.rp l).strip c = .rp l:=rfl
def yB (c:Bool):V.nils.strip c = .nils:=rfl
def EB (c t:Bool)(s:Nat)(l:List (List V)):(V.sl t s l).strip c = .sl t s l:=rfl
def BM (c:Bool)(a b d:Nat):(V.own a b d).strip c = .own a b d:=rfl
def yC (c:Bool)(a b d e:Nat):(V.ownc a b d e).strip c = .ownc a b d e:=rfl
def yy (c:Bool)(a:Nat):(V.chan a).strip c = .chan a:=rfl
def Ez (c:Bool)(a:Nat):(V.mp a).strip c = .mp a:=rfl
def BK (c:Bool)(f:Nat)(l:List V):(V.fnb f l).strip c = .fnb f l:=rfl
def wv (c:Bool)(t:TypeId)(v:V):(V.iface t v).strip c = .iface t v:=rfl
def Ey (c:Bool)(f:Nat)(l:List V):(V.fn f l).strip c = .fn f l:=rfl
def BH (c:Bool)(l:List V):(V.agg l).strip c = .agg l:=rfl
def BP (c:Bool)(l:List V):(V.tup l).strip c = .tup l:=rfl
def BR (c:Bool)(v:Value):(V.val v).strip c = .val v:=rfl
def DC  : V.isNilI (.any )=false:=rfl
def A2 (a0:Bool):V.isNilI (.bool a0)=false:=rfl
def DD (a0:Bool)(a1:Bool):V.isNilI (.bit a0 a1)=false:=rfl
def DF (a0:IntKind)(a1:Int):V.isNilI (.int a0 a1)=false:=rfl
def DJ (a0:List UInt8):V.isNilI (.str a0)=false:=rfl
def A4  : V.isNilI (.nilp )=false:=rfl
def DL  : V.isNilI (.upt )=false:=rfl
def DI (a0:Nat)(a1:Nat)(a2:Nat):V.isNilI (.ptr a0 a1 a2)=false:=rfl
def GJ (a0:List V):V.isNilI (.rp a0)=false:=rfl
def A5  : V.isNilI (.nils )=false:=rfl
def GK (a0:Bool)(a1:Nat)(a2:List (List V)):V.isNilI (.sl a0 a1 a2)=false:=rfl
def DH (a0:Nat)(a1:Nat)(a2:Nat):V.isNilI (.own a0 a1 a2)=false:=rfl
def A6 (a0:Nat)(a1:Nat)(a2:Nat)(a3:Nat):V.isNilI (.ownc a0 a1 a2 a3)=false:=rfl
def A3 (a0:Nat):V.isNilI (.chan a0)=false:=rfl
def GI (a0:Nat):V.isNilI (.mp a0)=false:=rfl
def GG (a0:Nat)(a1:List V):V.isNilI (.fn a0 a1)=false:=rfl
def DE (a0:Nat)(a1:List V):V.isNilI (.fnb a0 a1)=false:=rfl
def Dz (a0:List V):V.isNilI (.agg a0)=false:=rfl
def DK (a0:List V):V.isNilI (.tup a0)=false:=rfl
def GH (a0:Bool)(a1:V):V.isNilI (.gd a0 a1)=false:=rfl
def xU (a0:TypeId)(a1:V):V.isNilI (.iface a0 a1)=false:=rfl
def DG:V.isNilI (.val .nilIface)=true:=rfl
def Bd (c x y:Bool):gb c (.bool x) (.bool y) = .bool (if c then x else y):=rfl
def D1 (c x:Bool):gb c (.gd c (.bool x)) (.bool false) = .bool (c&&x):=by cases c<;>simp[gb,V.strip]
def GX (c x:Bool):gb c (.bool true) (.gd (!c) (.bool x)) = .bool (c||x):=by cases c<;>simp[gb,V.strip]
def Bc (c x:Bool):gb c ((V.gd c (.bool x)).strip true) (.bool false) = .bool (c&&x):=by cases c<;>simp[gb,V.strip]
def D2 (c x:Bool):gb c (.bool true) ((V.gd (!c) (.bool x)).strip true) = .bool (c||x):=by cases c<;>simp[gb,V.strip]
def zO (b:Bool):(b==true)=b:=by cases b<;>rfl
def wW (b:Bool):(b==false) = !b:=by cases b<;>rfl
def uG (a b c:Nat):a+b+c=a+(b+c):=Nat.add_assoc a b c
def Ci (l:List V)(t:Nat):jj l t=(l[t]?).getD .any:=rfl
def app_nil (M:am):M.app []=M:=rfl
def uO (M:am)(x:Nat)(k:Option Blk)(r:List (Nat×Option Blk)):M.app ((x,k)::r)=(M.put x k).app r:=rfl
def GF (M:am)(nm x:Nat)(k:Option Blk):(M.put nm k) x=if x=nm then k else M x:=rfl
def II (x:Nat):am.nil x=none:=rfl
mutual
def V.flat:V->Bool
 | .any | .bool _ | .bit _ _ | .int _ _ | .str _ | .nilp | .upt | .nils | .val _=>true
 | .agg cs=>flatL cs
 | .tup cs=>flatL cs
 | .gd _ v=>v.flat
 | .iface _ v=>v.flat
 | _=>false
def flatL:List V->Bool
 | []=>true
 | v::r=>v.flat&&flatL r
end
def kG {l:List V}(h:flatL l=true){i:Nat}{u:V}(hi:l[i]? = some u):u.flat=true:=by
 induction l generalizing i with
 | nil=>simp at hi
 | cons v r ih =>
  simp only[flatL,Bool.and_eq_true]at h
  cases i with
  | zero=>simp at hi;subst hi;exact h.1
  | succ i=>exact ih h.2 (by simpa using hi)
def Is.flat {ρ ρ':Names}{D D':Nat->Prop}{w w':World}{v:V}{cv:Value}(h:Is ρ D w v cv)(hp:v.flat=true):Is ρ' D' w' v cv:=by
 induction h with
 | any cv=>exact .any _
 | bool b=>exact .bool _
 | bit b ht hf=>exact .bit b ht hf
 | int k n=>exact .int _ _
 | str s=>exact .str _
 | nilp=>exact .nilp
 | upt p=>exact .upt p
 | ptr h=>simp[V.flat]at hp
 | rp cv hd hb hc _ ih=>simp[V.flat]at hp
 | nils=>exact .nils
 | sl0 ht=>simp[V.flat]at hp
 | sl cv hc ht hd hb hr hx _ ih=>simp[V.flat]at hp
 | own0=>simp[V.flat]at hp
 | own h hl hc=>simp[V.flat]at hp
 | ownc0=>simp[V.flat]at hp
 | ownc h hl hc=>simp[V.flat]at hp
 | chan h=>simp[V.flat]at hp
 | mp h=>simp[V.flat]at hp
 | fn hn _ ih=>simp[V.flat]at hp
 | fnb hn _ ih=>simp[V.flat]at hp
 | iface _ ih=>exact .iface (ih (by simpa [V.flat] using hp))
 | agg hn _ ih=>exact .agg hn (fun i u cv hi hc=>ih i u cv hi hc (kG (by simpa [V.flat] using hp) hi))
 | tup hn _ ih=>exact .tup hn (fun i u cv hi hc=>ih i u cv hi hc (kG (by simpa [V.flat] using hp) hi))
 | gd _ h0 ih=>exact .gd (fun hb=>ih hb (by simpa [V.flat] using hp)) h0
 | val v=>exact .val _
def Ev.view {cx:Cx}{f:FuncId}{nm:Nat}{args:List V}{M:am}{v:V}(h:Ev cx f nm (finL [] M args) am.nil v [])(hok:finLOk [] M args)(hv:v.flat=true):Ev cx f nm args M v []:=by
  refine⟨h.1,fun X w ρ cargs B hr hfresh hB hn hargs=>?_⟩
  have hdom:∀ b,bt X ρ am.nil b->bt X ρ M b:=by
    rintro b (hx|⟨nm,l,h1,_⟩)
    · exact .inl hx
    · simp[am.nil]at h1
  have hr0:Rel cx.G X w (bW ρ am.nil) ρ am.nil w :=
    { size:=Nat.le_refl _,os:=rfl,tape:=rfl,output:=rfl,old:=fun _ _ _=>rfl
      live:=fun nm k hk=>by simp[am.nil]at hk
      inj:=fun nm nm' l l' h1=>by simp[am.nil]at h1
      hX:=fun b hb=>⟨(hr.hX b hb).1,by rintro ⟨nm,q,h1,_⟩;simp[am.nil]at h1⟩
      glob:=fun g=>(hr.glob g).step (fun _ _ h=>h) (Nat.le_refl _) (fun _ _ _=>rfl) (fun b _ hb=>hdom b hb) }
  refine(h.2 X w ρ cargs B hr0 hfresh (fun x hx=>⟨rfl,(hB x hx).2⟩) (by rw[cu];exact hn) ?_).mono ?_
  · intro i u cv hi hc
    rw[dZ]at hi
    obtain⟨u',h1,rfl⟩:=Option.map_eq_some_iff.1 hi
    refine ls (cx:=cx) hr (fun nm y hy=>by simp[aN]at hy) hdom (fun nm l _ hM hl=>?_) (hargs i u' cv h1 hc) (cT hok h1)
    rintro (hx|⟨nm',q,h2,_⟩)
    · exact(hr.block_lt hM hl).2.1 hx
    · simp[am.nil]at h2
  · rintro e' w' ⟨cv,rfl,ρ',r,m,hvv,hn'⟩
    have hkept:∀ b,b<w.heap.size->w'.heap[b]? = w.heap[b]?:=fun b hb=>m.kept b hb (fun nm l h1=>by simp[am.nil]at h1)
    have mv:Moves ρ M w ρ M w':=⟨fun _ _ h=>h,m.size,m.os,m.tape,m.output,fun b hb _=>hkept b hb,fun nm l h1 h2 _=>⟨nm,l,h1,h2,rfl⟩⟩
    refine⟨cv,rfl,ρ,?_,mv,hvv.flat hv,fun _ _=>rfl⟩
    exact hr.move mv hr.inj (fun nm k hk=>.inl ⟨hk,id,fun l hl=>hkept l.b (hr.block_lt (by rw[show M nm=some k from hk];rfl) hl).1⟩)
section
variable {cx:Cx} {Q:Post} {st:List Frm} {nm:Nat} {e:Env} {M:am}
def zT {d:Bool}{fs:List (List Nat)}{ops:List Oper}{dst:Option Tmp}{g:FuncId}{args:Array Operand}{ats:Array TypeId}{t:TypeId}{pos:String}{af:Array Edge}{r:List Oper}{i:Nat}{as as':List V}
  (l:List Nat) (has:args.toList.map (aw cx.G true e)=as) (has':finL [] (M.only l) as=as') (hok:finLOk [] (M.only l) as) {v:V} (hv:v.flat=true) (hev:Ev cx g (nm+16*i) as' am.nil v []) (h:aA cx Q st nm (e.putD dst v) M d (fs++[l]) ops r (i+1)):gw cx Q st nm e M d fs ops ⟨dst,.call ⟨.value (.func g),args,ats⟩,t,pos,af,none⟩ r i :=
 aJ has l (Ev.view (by rw[has'];exact hev) hok hv) (fun x hx=>by simp[ak]at hx) (by simpa [ak,am.app] using h)
def jG {d:Bool}{fs:List (List Nat)}{ops:List Oper}{dst:Option Tmp}{g:FuncId}{args:Array Operand}{ats:Array TypeId}{t:TypeId}{pos:String}{af:Array Edge}{r:List Oper}{i:Nat}{as:List V}
  (has:args.toList.map (aw cx.G true e)=as) {v:V} {eff:List (Nat×Option Blk)} (hev:Ev cx g (nm+16*i) as am.nil v eff) (he:∀ x∈ak eff,nm+16*i<=x/\x<nm+16*i+16)
  (h:aA cx Q st nm (e.putD dst v) (M.app eff) d (fs++[ak eff]) ops r (i+1)):gw cx Q st nm e M d fs ops ⟨dst,.call ⟨.value (.func g),args,ats⟩,t,pos,af,none⟩ r i :=
 aJ has [] (by rw[am.only_nil];exact hev) (fun x hx=>.inr (he x hx)) (by simpa using h)
def wX {d:Bool}{fs:List (List Nat)}{ops:List Oper}{c:Bool}{dst:Option Tmp}{g:FuncId}{args:Array Operand}{ats:Array TypeId}{t:TypeId}{pos:String}{af:Array Edge}{gd:Option (Nat×Bool)}{r:List Oper}{i:Nat}{as as':List V}
  (l:List Nat) (has:args.toList.map (aw cx.G c e)=as) (has':c=true->finL [] (M.only l) as=as') (hok:c=true->finLOk [] (M.only l) as) {v:V} (hv:v.flat=true) (hev:c=true->Ev cx g (nm+16*i) as' am.nil v []) (h:aA cx Q st nm (e.putD dst (.gd c v)) M d (fs++[l]) ops r (i+1)):eV cx Q st nm e M d fs c ops ⟨dst,.call ⟨.value (.func g),args,ats⟩,t,pos,af,gd⟩ r i:=by
 subst has
 unfold eV gj
 refine .inl ?_
 simp only[aw,V.tgt,List.nil_append,List.append_nil]
 exact⟨l,v,fun hc=>Ev.view (by rw[has' hc];exact hev hc) (hok hc) hv,h⟩
end
def la (b0:Nat)(M:am):List (Nat×Nat)->Prop
 | []=>True
 |(x,j)::r=>(j<16/\b0<=x/\(M x).isSome=true/\GM M x=true/\plainLL (bl M x)=true)/\(∀ p∈r,p.1≠x/\p.2≠j)/\la b0 M r
def Eo (nm:Nat)(M:am)(σ:List (Nat×Nat)):List (Nat×Option Blk):=σ.map (fun p=>(nm+p.2,M p.1))
def mQ (nm:Nat)(σ:List (Nat×Nat)):List (Nat×Nat):=σ.map (fun p=>(p.1,nm+p.2))
def BG {b0:Nat}{M:am}{σ:List (Nat×Nat)}(h:la b0 M σ):∀ p∈σ,p.2<16/\b0<=p.1/\(M p.1).isSome=true/\GM M p.1=true/\plainLL (bl M p.1)=true:=by
 induction σ with
 | nil=>intro p hp;cases hp
 | cons q r ih =>
  intro p hp
  simp only[la]at h
  rcases List.mem_cons.1 hp with rfl|hp
  ·exact h.1
  ·exact ih h.2.2 p hp
def oF {b0:Nat}{M:am}(nm:Nat){σ:List (Nat×Nat)}(h:la b0 M σ):((mQ nm σ).map (·.1)).Nodup/\((mQ nm σ).map (·.2)).Nodup:=by
 induction σ with
 | nil=>exact⟨List.nodup_nil,List.nodup_nil⟩
 | cons q r ih =>
  simp only[la]at h
  obtain⟨a,b⟩:=ih h.2.2
  refine⟨List.nodup_cons.2 ⟨?_,a⟩,List.nodup_cons.2 ⟨?_,b⟩⟩
  ·intro hm
   simp only[mQ,List.map_map,List.mem_map,Function.comp_apply]at hm
   obtain⟨p,hp,he⟩:=hm
   exact(h.2.1 p hp).1 he
  ·intro hm
   simp only[mQ,List.map_map,List.mem_map,Function.comp_apply]at hm
   obtain⟨p,hp,he⟩:=hm
   exact(h.2.1 p hp).2 (by omega)
def Fin.own {cx:Cx}{N:Nat}{rs:List ResultVar}{nm:Nat}{v:V}{eff:List (Nat×Option Blk)}{b0 n:Nat}{e:Env}{M:am}(gs:List Nat)(σ:List (Nat×Nat))(h1:jq cx.P N rs e (M.ghosts n gs))(h2:(jy cx.P rs e (M.ghosts n gs)).finOk (mQ nm σ) (M.ghosts n gs))(h3:((jy cx.P rs e (M.ghosts n gs)).fin (mQ nm σ) (M.ghosts n gs)).le v)(h4:Eo nm (M.ghosts n gs) σ=eff)(h5:la b0 (M.ghosts n gs) σ):rn cx N rs nm am.nil v eff b0 n e M:=by
 refine⟨gs,Fin.two ⟨h1,mQ nm σ,h2,h3,?_,(oF nm h5).1,(oF nm h5).2,?_,fun x hx=>by simp[am.nil]at hx⟩⟩
 ·rw[<- h4];simp[Eo,mQ]
 ·intro p hp
  simp only[mQ,List.mem_map]at hp
  obtain⟨q,hq,rfl⟩:=hp
  obtain⟨g1,g2,g3,g5,g4⟩:=BG h5 q hq
  refine⟨.inr ⟨⟨by simp,by simp;omega⟩,g2⟩,?_⟩
  obtain⟨k,hk⟩:=Option.isSome_iff_exists.1 g3
  refine⟨k,hk,?_,?_⟩
  ·simpa [GM,hk] using g5
  ·simpa [bl,hk] using g4
def bF {α β:Type}(f:α->β)(l:List α):(l.map f).take l.length=l.map f:=by rw[<- List.length_map (f:=f),List.take_length]
def xx (M:am)(n:Nat):M.ghosts n []=M:=rfl
def vw (M:am)(n s:Nat)(r:List Nat):M.ghosts n (s::r)=(M.put n (some ⟨s,[]⟩)).ghosts (n+1) r:=rfl
def db (x:Nat):aN [] x=none:=rfl
def dS (y z x:Nat)(r:List (Nat×Nat)):aN ((y,z)::r) x=if y=x then some z else aN r x:=by
 unfold aN
 rw[List.find?_cons]
 by_cases h:y=x
 ·subst h;simp
 ·have hb:(y==x)=false:=by simpa using h
  simp only[hb,h,if_false]
def iX (M:am)(l:List Nat)(x:Nat):(M.only l) x=if x∈l then M x else none:=rfl
def bR {α:Type}(f:α->List V)(h:∀ a,plainL (f a)=true)(l:List α):plainLL (l.map f)=true:=by
 rw[dI,List.all_eq_true]
 intro x hx
 obtain⟨a,_,rfl⟩:=List.mem_map.1 hx
 exact h a
def Du {a b:Nat}(h:a<b):(a=b)=False:=eq_false (by omega)
def xQ {a b:Nat}(h:a<b):(b=a)=False:=eq_false (by omega)
def nE {a b:Nat}(h:a<b)(c:Nat):(a=b+c)=False:=eq_false (by omega)
def lG {a b:Nat}(h:a<b)(c:Nat):(b+c=a)=False:=eq_false (by omega)
def Hk {n:Int}(h1:-9223372036854775808<=n)(h2:n<=9223372036854775807):IntKind.i64.wrap n=n:=IntWalk.i64_in _ ⟨h1,h2⟩
def aK {n:Int}(h1:-9223372036854775808<=n:=by omega)(h2:n<=9223372036854775807:=by omega):IntKind.i64.wrap n=n:=Hk h1 h2
def cn {p:Prop}[Decidable p](h:p:=by omega):decide p=true:=decide_eq_true h
def aR {p:Prop}[Decidable p](h:¬p:=by omega):decide p=false:=decide_eq_false h
def LU {b n nm:Nat}(h:b+n<=nm)(h0:0<n):(∀ c,(b=nm+c)=False)/\(b=nm)=False/\(∀ j c,j<n->(b+j=nm+c)=False) /\ ∀ j,j<n->(b+j=nm)=False :=
 ⟨fun c=>eq_false (by omega),eq_false (by omega),fun j c hj=>eq_false (by omega),fun j hj=>eq_false (by omega)⟩
section
variable {cx:Cx} {Q:Post} {st:List Frm} {nm:Nat} {e:Env} {M:am}
end
section
variable (cx:Cx) (Q:Post) (st:List Frm) (nm:Nat) (e:Env) (M:am)
variable (d:Bool) (fs:List (List Nat)) (ops:List Oper) (dst:Option Tmp) (t:TypeId) (pos:String) (af:Array Edge) (r:List Oper) (i:Nat)
def xB (x:Operand):aA cx Q st nm e M d fs ops (⟨dst,.move x,t,pos,af,none⟩::r) i=(bp cx true e M ⟨dst,.move x,t,pos,af,none⟩ /\
  aA cx Q st nm (e.putD dst (da cx true e M (nm+16*i) ⟨dst,.move x,t,pos,af,none⟩)) (M.app (dU cx true e M (nm+16*i) ⟨dst,.move x,t,pos,af,none⟩)) d (fs++[fu cx true e (nm+16*i) ⟨dst,.move x,t,pos,af,none⟩]) ops r (i+1)):=propext Iff.rfl
def tY (x:Operand):aA cx Q st nm e M d fs ops (⟨dst,.assign x,t,pos,af,none⟩::r) i=(bp cx true e M ⟨dst,.assign x,t,pos,af,none⟩ /\
  aA cx Q st nm (e.putD dst (da cx true e M (nm+16*i) ⟨dst,.assign x,t,pos,af,none⟩)) (M.app (dU cx true e M (nm+16*i) ⟨dst,.assign x,t,pos,af,none⟩)) d (fs++[fu cx true e (nm+16*i) ⟨dst,.assign x,t,pos,af,none⟩]) ops r (i+1)):=propext Iff.rfl
def qi (x:Operand):aA cx Q st nm e M d fs ops (⟨dst,.nilCheck x,t,pos,af,none⟩::r) i=(bp cx true e M ⟨dst,.nilCheck x,t,pos,af,none⟩ /\
  aA cx Q st nm (e.putD dst (da cx true e M (nm+16*i) ⟨dst,.nilCheck x,t,pos,af,none⟩)) (M.app (dU cx true e M (nm+16*i) ⟨dst,.nilCheck x,t,pos,af,none⟩)) d (fs++[fu cx true e (nm+16*i) ⟨dst,.nilCheck x,t,pos,af,none⟩]) ops r (i+1)):=propext Iff.rfl
def xD (x y z:Operand):aA cx Q st nm e M d fs ops (⟨dst,.pick x y z,t,pos,af,none⟩::r) i=(bp cx true e M ⟨dst,.pick x y z,t,pos,af,none⟩ /\
  aA cx Q st nm (e.putD dst (da cx true e M (nm+16*i) ⟨dst,.pick x y z,t,pos,af,none⟩)) (M.app (dU cx true e M (nm+16*i) ⟨dst,.pick x y z,t,pos,af,none⟩)) d (fs++[fu cx true e (nm+16*i) ⟨dst,.pick x y z,t,pos,af,none⟩]) ops r (i+1)):=propext Iff.rfl
def vD (ty:TypeId)(ps:Array (Nat×Operand)):aA cx Q st nm e M d fs ops (⟨dst,.build ty ps,t,pos,af,none⟩::r) i=(bp cx true e M ⟨dst,.build ty ps,t,pos,af,none⟩ /\
  aA cx Q st nm (e.putD dst (da cx true e M (nm+16*i) ⟨dst,.build ty ps,t,pos,af,none⟩)) (M.app (dU cx true e M (nm+16*i) ⟨dst,.build ty ps,t,pos,af,none⟩)) d (fs++[fu cx true e (nm+16*i) ⟨dst,.build ty ps,t,pos,af,none⟩]) ops r (i+1)):=propext Iff.rfl
def xA (ty:TypeId)(x:Operand):aA cx Q st nm e M d fs ops (⟨dst,.load ty x,t,pos,af,none⟩::r) i=(bp cx true e M ⟨dst,.load ty x,t,pos,af,none⟩ /\
  aA cx Q st nm (e.putD dst (da cx true e M (nm+16*i) ⟨dst,.load ty x,t,pos,af,none⟩)) (M.app (dU cx true e M (nm+16*i) ⟨dst,.load ty x,t,pos,af,none⟩)) d (fs++[fu cx true e (nm+16*i) ⟨dst,.load ty x,t,pos,af,none⟩]) ops r (i+1)):=propext Iff.rfl
def vC (o:BinOp)(ty:TypeId)(x y:Operand)(yt:TypeId):aA cx Q st nm e M d fs ops (⟨dst,.binOp o ty x y yt,t,pos,af,none⟩::r) i=(bp cx true e M ⟨dst,.binOp o ty x y yt,t,pos,af,none⟩ /\
  aA cx Q st nm (e.putD dst (da cx true e M (nm+16*i) ⟨dst,.binOp o ty x y yt,t,pos,af,none⟩)) (M.app (dU cx true e M (nm+16*i) ⟨dst,.binOp o ty x y yt,t,pos,af,none⟩)) d (fs++[fu cx true e (nm+16*i) ⟨dst,.binOp o ty x y yt,t,pos,af,none⟩]) ops r (i+1)):=propext Iff.rfl
def xE (o:UnOp)(ty:TypeId)(x:Operand):aA cx Q st nm e M d fs ops (⟨dst,.unOp o ty x,t,pos,af,none⟩::r) i=(bp cx true e M ⟨dst,.unOp o ty x,t,pos,af,none⟩ /\
  aA cx Q st nm (e.putD dst (da cx true e M (nm+16*i) ⟨dst,.unOp o ty x,t,pos,af,none⟩)) (M.app (dU cx true e M (nm+16*i) ⟨dst,.unOp o ty x,t,pos,af,none⟩)) d (fs++[fu cx true e (nm+16*i) ⟨dst,.unOp o ty x,t,pos,af,none⟩]) ops r (i+1)):=propext Iff.rfl
def oP (ty:TypeId)(x:Operand)(f:Nat):aA cx Q st nm e M d fs ops (⟨dst,.fieldAddr ty x f,t,pos,af,none⟩::r) i=(bp cx true e M ⟨dst,.fieldAddr ty x f,t,pos,af,none⟩ /\
  aA cx Q st nm (e.putD dst (da cx true e M (nm+16*i) ⟨dst,.fieldAddr ty x f,t,pos,af,none⟩)) (M.app (dU cx true e M (nm+16*i) ⟨dst,.fieldAddr ty x f,t,pos,af,none⟩)) d (fs++[fu cx true e (nm+16*i) ⟨dst,.fieldAddr ty x f,t,pos,af,none⟩]) ops r (i+1)):=propext Iff.rfl
def oQ (ty:TypeId)(x k:Operand):aA cx Q st nm e M d fs ops (⟨dst,.indexAddr ty x k,t,pos,af,none⟩::r) i=(bp cx true e M ⟨dst,.indexAddr ty x k,t,pos,af,none⟩ /\
  aA cx Q st nm (e.putD dst (da cx true e M (nm+16*i) ⟨dst,.indexAddr ty x k,t,pos,af,none⟩)) (M.app (dU cx true e M (nm+16*i) ⟨dst,.indexAddr ty x k,t,pos,af,none⟩)) d (fs++[fu cx true e (nm+16*i) ⟨dst,.indexAddr ty x k,t,pos,af,none⟩]) ops r (i+1)):=propext Iff.rfl
def vF (ty:TypeId)(x k:Operand):aA cx Q st nm e M d fs ops (⟨dst,.index ty x k,t,pos,af,none⟩::r) i=(bp cx true e M ⟨dst,.index ty x k,t,pos,af,none⟩ /\
  aA cx Q st nm (e.putD dst (da cx true e M (nm+16*i) ⟨dst,.index ty x k,t,pos,af,none⟩)) (M.app (dU cx true e M (nm+16*i) ⟨dst,.index ty x k,t,pos,af,none⟩)) d (fs++[fu cx true e (nm+16*i) ⟨dst,.index ty x k,t,pos,af,none⟩]) ops r (i+1)):=propext Iff.rfl
def rN (x:Operand)(k:Nat):aA cx Q st nm e M d fs ops (⟨dst,.extract x k,t,pos,af,none⟩::r) i=(bp cx true e M ⟨dst,.extract x k,t,pos,af,none⟩ /\
  aA cx Q st nm (e.putD dst (da cx true e M (nm+16*i) ⟨dst,.extract x k,t,pos,af,none⟩)) (M.app (dU cx true e M (nm+16*i) ⟨dst,.extract x k,t,pos,af,none⟩)) d (fs++[fu cx true e (nm+16*i) ⟨dst,.extract x k,t,pos,af,none⟩]) ops r (i+1)):=propext Iff.rfl
def qh (f:FuncId)(a c:Array Operand):aA cx Q st nm e M d fs ops (⟨dst,.makeFunc (.func f) a c,t,pos,af,none⟩::r) i=(bp cx true e M ⟨dst,.makeFunc (.func f) a c,t,pos,af,none⟩ /\
  aA cx Q st nm (e.putD dst (da cx true e M (nm+16*i) ⟨dst,.makeFunc (.func f) a c,t,pos,af,none⟩)) (M.app (dU cx true e M (nm+16*i) ⟨dst,.makeFunc (.func f) a c,t,pos,af,none⟩)) d (fs++[fu cx true e (nm+16*i) ⟨dst,.makeFunc (.func f) a c,t,pos,af,none⟩]) ops r (i+1)):=propext Iff.rfl
def AF (as:Array Operand)(ts:Array TypeId):aA cx Q st nm e M d fs ops (⟨dst,.call ⟨.builtin .len,as,ts⟩,t,pos,af,none⟩::r) i=(bp cx true e M ⟨dst,.call ⟨.builtin .len,as,ts⟩,t,pos,af,none⟩ /\
  aA cx Q st nm (e.putD dst (da cx true e M (nm+16*i) ⟨dst,.call ⟨.builtin .len,as,ts⟩,t,pos,af,none⟩)) (M.app (dU cx true e M (nm+16*i) ⟨dst,.call ⟨.builtin .len,as,ts⟩,t,pos,af,none⟩)) d (fs++[fu cx true e (nm+16*i) ⟨dst,.call ⟨.builtin .len,as,ts⟩,t,pos,af,none⟩]) ops r (i+1)):=propext Iff.rfl
def AG (as:Array Operand)(ts:Array TypeId):aA cx Q st nm e M d fs ops (⟨dst,.call ⟨.builtin .max,as,ts⟩,t,pos,af,none⟩::r) i=(bp cx true e M ⟨dst,.call ⟨.builtin .max,as,ts⟩,t,pos,af,none⟩ /\
  aA cx Q st nm (e.putD dst (da cx true e M (nm+16*i) ⟨dst,.call ⟨.builtin .max,as,ts⟩,t,pos,af,none⟩)) (M.app (dU cx true e M (nm+16*i) ⟨dst,.call ⟨.builtin .max,as,ts⟩,t,pos,af,none⟩)) d (fs++[fu cx true e (nm+16*i) ⟨dst,.call ⟨.builtin .max,as,ts⟩,t,pos,af,none⟩]) ops r (i+1)):=propext Iff.rfl
def AH (as:Array Operand)(ts:Array TypeId):aA cx Q st nm e M d fs ops (⟨dst,.call ⟨.builtin .min,as,ts⟩,t,pos,af,none⟩::r) i=(bp cx true e M ⟨dst,.call ⟨.builtin .min,as,ts⟩,t,pos,af,none⟩ /\
  aA cx Q st nm (e.putD dst (da cx true e M (nm+16*i) ⟨dst,.call ⟨.builtin .min,as,ts⟩,t,pos,af,none⟩)) (M.app (dU cx true e M (nm+16*i) ⟨dst,.call ⟨.builtin .min,as,ts⟩,t,pos,af,none⟩)) d (fs++[fu cx true e (nm+16*i) ⟨dst,.call ⟨.builtin .min,as,ts⟩,t,pos,af,none⟩]) ops r (i+1)):=propext Iff.rfl
def AE (as:Array Operand)(ts:Array TypeId):aA cx Q st nm e M d fs ops (⟨dst,.call ⟨.builtin .cap,as,ts⟩,t,pos,af,none⟩::r) i=(bp cx true e M ⟨dst,.call ⟨.builtin .cap,as,ts⟩,t,pos,af,none⟩ /\
  aA cx Q st nm (e.putD dst (da cx true e M (nm+16*i) ⟨dst,.call ⟨.builtin .cap,as,ts⟩,t,pos,af,none⟩)) (M.app (dU cx true e M (nm+16*i) ⟨dst,.call ⟨.builtin .cap,as,ts⟩,t,pos,af,none⟩)) d (fs++[fu cx true e (nm+16*i) ⟨dst,.call ⟨.builtin .cap,as,ts⟩,t,pos,af,none⟩]) ops r (i+1)):=propext Iff.rfl
def vB (ty:TypeId):aA cx Q st nm e M d fs ops (⟨dst,.alloc ty,t,pos,af,none⟩::r) i=(bp cx true e M ⟨dst,.alloc ty,t,pos,af,none⟩ /\
  aA cx Q st nm (e.putD dst (da cx true e M (nm+16*i) ⟨dst,.alloc ty,t,pos,af,none⟩)) (M.app (dU cx true e M (nm+16*i) ⟨dst,.alloc ty,t,pos,af,none⟩)) d (fs++[fu cx true e (nm+16*i) ⟨dst,.alloc ty,t,pos,af,none⟩]) ops r (i+1)):=propext Iff.rfl
def AD (ty:TypeId)(x:Operand):aA cx Q st nm e M d fs ops (⟨dst,.box ty x,t,pos,af,none⟩::r) i=(bp cx true e M ⟨dst,.box ty x,t,pos,af,none⟩ /\
  aA cx Q st nm (e.putD dst (da cx true e M (nm+16*i) ⟨dst,.box ty x,t,pos,af,none⟩)) (M.app (dU cx true e M (nm+16*i) ⟨dst,.box ty x,t,pos,af,none⟩)) d (fs++[fu cx true e (nm+16*i) ⟨dst,.box ty x,t,pos,af,none⟩]) ops r (i+1)):=propext Iff.rfl
def nA (ty:TypeId)(n:Nat)(ps:Array (Nat×Operand)):aA cx Q st nm e M d fs ops (⟨dst,.buildSlice ty n ps,t,pos,af,none⟩::r) i=(bp cx true e M ⟨dst,.buildSlice ty n ps,t,pos,af,none⟩ /\
  aA cx Q st nm (e.putD dst (da cx true e M (nm+16*i) ⟨dst,.buildSlice ty n ps,t,pos,af,none⟩)) (M.app (dU cx true e M (nm+16*i) ⟨dst,.buildSlice ty n ps,t,pos,af,none⟩)) d (fs++[fu cx true e (nm+16*i) ⟨dst,.buildSlice ty n ps,t,pos,af,none⟩]) ops r (i+1)):=propext Iff.rfl
def vI (ty:TypeId)(x v:Operand):aA cx Q st nm e M d fs ops (⟨dst,.store ty x v,t,pos,af,none⟩::r) i=(bp cx true e M ⟨dst,.store ty x v,t,pos,af,none⟩ /\
  aA cx Q st nm (e.putD dst (da cx true e M (nm+16*i) ⟨dst,.store ty x v,t,pos,af,none⟩)) (M.app (dU cx true e M (nm+16*i) ⟨dst,.store ty x v,t,pos,af,none⟩)) d (fs++[fu cx true e (nm+16*i) ⟨dst,.store ty x v,t,pos,af,none⟩]) ops r (i+1)):=propext Iff.rfl
def tX (as:Array Operand)(ts:Array TypeId):aA cx Q st nm e M d fs ops (⟨dst,.call ⟨.builtin .append,as,ts⟩,t,pos,af,none⟩::r) i=(bp cx true e M ⟨dst,.call ⟨.builtin .append,as,ts⟩,t,pos,af,none⟩ /\
  aA cx Q st nm (e.putD dst (da cx true e M (nm+16*i) ⟨dst,.call ⟨.builtin .append,as,ts⟩,t,pos,af,none⟩)) (M.app (dU cx true e M (nm+16*i) ⟨dst,.call ⟨.builtin .append,as,ts⟩,t,pos,af,none⟩)) d (fs++[fu cx true e (nm+16*i) ⟨dst,.call ⟨.builtin .append,as,ts⟩,t,pos,af,none⟩]) ops r (i+1)):=propext Iff.rfl
def xz (as:Array Operand)(ts:Array TypeId):aA cx Q st nm e M d fs ops (⟨dst,.call ⟨.builtin .copy,as,ts⟩,t,pos,af,none⟩::r) i=(bp cx true e M ⟨dst,.call ⟨.builtin .copy,as,ts⟩,t,pos,af,none⟩ /\
  aA cx Q st nm (e.putD dst (da cx true e M (nm+16*i) ⟨dst,.call ⟨.builtin .copy,as,ts⟩,t,pos,af,none⟩)) (M.app (dU cx true e M (nm+16*i) ⟨dst,.call ⟨.builtin .copy,as,ts⟩,t,pos,af,none⟩)) d (fs++[fu cx true e (nm+16*i) ⟨dst,.call ⟨.builtin .copy,as,ts⟩,t,pos,af,none⟩]) ops r (i+1)):=propext Iff.rfl
def tU (b want:Bool)(x:Operand)(gd:Option (Nat×Bool)):bw cx Q st nm e M d fs (.bool b) want ops ⟨dst,.move x,t,pos,af,gd⟩ r i=(((b==want)=true->bp cx (b==want) e M ⟨dst,.move x,t,pos,af,gd⟩) /\
  aA cx Q st nm (e.putD dst (.gd (b==want) (da cx (b==want) e M (nm+16*i) ⟨dst,.move x,t,pos,af,gd⟩))) M d (fs++[fu cx (b==want) e (nm+16*i) ⟨dst,.move x,t,pos,af,gd⟩]) ops r (i+1)):=propext Iff.rfl
def ny (b want:Bool)(x:Operand)(gd:Option (Nat×Bool)):bw cx Q st nm e M d fs (.bool b) want ops ⟨dst,.nilCheck x,t,pos,af,gd⟩ r i=(((b==want)=true->bp cx (b==want) e M ⟨dst,.nilCheck x,t,pos,af,gd⟩) /\
  aA cx Q st nm (e.putD dst (.gd (b==want) (da cx (b==want) e M (nm+16*i) ⟨dst,.nilCheck x,t,pos,af,gd⟩))) M d (fs++[fu cx (b==want) e (nm+16*i) ⟨dst,.nilCheck x,t,pos,af,gd⟩]) ops r (i+1)):=propext Iff.rfl
def tV (b want:Bool)(x y z:Operand)(gd:Option (Nat×Bool)):bw cx Q st nm e M d fs (.bool b) want ops ⟨dst,.pick x y z,t,pos,af,gd⟩ r i=(((b==want)=true->bp cx (b==want) e M ⟨dst,.pick x y z,t,pos,af,gd⟩) /\
  aA cx Q st nm (e.putD dst (.gd (b==want) (da cx (b==want) e M (nm+16*i) ⟨dst,.pick x y z,t,pos,af,gd⟩))) M d (fs++[fu cx (b==want) e (nm+16*i) ⟨dst,.pick x y z,t,pos,af,gd⟩]) ops r (i+1)):=propext Iff.rfl
def tT (b want:Bool)(ty:TypeId)(x:Operand)(gd:Option (Nat×Bool)):bw cx Q st nm e M d fs (.bool b) want ops ⟨dst,.load ty x,t,pos,af,gd⟩ r i=(((b==want)=true->bp cx (b==want) e M ⟨dst,.load ty x,t,pos,af,gd⟩) /\
  aA cx Q st nm (e.putD dst (.gd (b==want) (da cx (b==want) e M (nm+16*i) ⟨dst,.load ty x,t,pos,af,gd⟩))) M d (fs++[fu cx (b==want) e (nm+16*i) ⟨dst,.load ty x,t,pos,af,gd⟩]) ops r (i+1)):=propext Iff.rfl
def rI (b want:Bool)(o:BinOp)(ty:TypeId)(x y:Operand)(yt:TypeId)(gd:Option (Nat×Bool)):bw cx Q st nm e M d fs (.bool b) want ops ⟨dst,.binOp o ty x y yt,t,pos,af,gd⟩ r i=(((b==want)=true->bp cx (b==want) e M ⟨dst,.binOp o ty x y yt,t,pos,af,gd⟩) /\
  aA cx Q st nm (e.putD dst (.gd (b==want) (da cx (b==want) e M (nm+16*i) ⟨dst,.binOp o ty x y yt,t,pos,af,gd⟩))) M d (fs++[fu cx (b==want) e (nm+16*i) ⟨dst,.binOp o ty x y yt,t,pos,af,gd⟩]) ops r (i+1)):=propext Iff.rfl
def tW (b want:Bool)(o:UnOp)(ty:TypeId)(x:Operand)(gd:Option (Nat×Bool)):bw cx Q st nm e M d fs (.bool b) want ops ⟨dst,.unOp o ty x,t,pos,af,gd⟩ r i=(((b==want)=true->bp cx (b==want) e M ⟨dst,.unOp o ty x,t,pos,af,gd⟩) /\
  aA cx Q st nm (e.putD dst (.gd (b==want) (da cx (b==want) e M (nm+16*i) ⟨dst,.unOp o ty x,t,pos,af,gd⟩))) M d (fs++[fu cx (b==want) e (nm+16*i) ⟨dst,.unOp o ty x,t,pos,af,gd⟩]) ops r (i+1)):=propext Iff.rfl
def mh (b want:Bool)(ty:TypeId)(x:Operand)(f:Nat)(gd:Option (Nat×Bool)):bw cx Q st nm e M d fs (.bool b) want ops ⟨dst,.fieldAddr ty x f,t,pos,af,gd⟩ r i=(((b==want)=true->bp cx (b==want) e M ⟨dst,.fieldAddr ty x f,t,pos,af,gd⟩) /\
  aA cx Q st nm (e.putD dst (.gd (b==want) (da cx (b==want) e M (nm+16*i) ⟨dst,.fieldAddr ty x f,t,pos,af,gd⟩))) M d (fs++[fu cx (b==want) e (nm+16*i) ⟨dst,.fieldAddr ty x f,t,pos,af,gd⟩]) ops r (i+1)):=propext Iff.rfl
def mi (b want:Bool)(ty:TypeId)(x k:Operand)(gd:Option (Nat×Bool)):bw cx Q st nm e M d fs (.bool b) want ops ⟨dst,.indexAddr ty x k,t,pos,af,gd⟩ r i=(((b==want)=true->bp cx (b==want) e M ⟨dst,.indexAddr ty x k,t,pos,af,gd⟩) /\
  aA cx Q st nm (e.putD dst (.gd (b==want) (da cx (b==want) e M (nm+16*i) ⟨dst,.indexAddr ty x k,t,pos,af,gd⟩))) M d (fs++[fu cx (b==want) e (nm+16*i) ⟨dst,.indexAddr ty x k,t,pos,af,gd⟩]) ops r (i+1)):=propext Iff.rfl
def rJ (b want:Bool)(ty:TypeId)(x k:Operand)(gd:Option (Nat×Bool)):bw cx Q st nm e M d fs (.bool b) want ops ⟨dst,.index ty x k,t,pos,af,gd⟩ r i=(((b==want)=true->bp cx (b==want) e M ⟨dst,.index ty x k,t,pos,af,gd⟩) /\
  aA cx Q st nm (e.putD dst (.gd (b==want) (da cx (b==want) e M (nm+16*i) ⟨dst,.index ty x k,t,pos,af,gd⟩))) M d (fs++[fu cx (b==want) e (nm+16*i) ⟨dst,.index ty x k,t,pos,af,gd⟩]) ops r (i+1)):=propext Iff.rfl
def nx (b want:Bool)(f:FuncId)(a c:Array Operand)(gd:Option (Nat×Bool)):bw cx Q st nm e M d fs (.bool b) want ops ⟨dst,.makeFunc (.func f) a c,t,pos,af,gd⟩ r i=(((b==want)=true->bp cx (b==want) e M ⟨dst,.makeFunc (.func f) a c,t,pos,af,gd⟩) /\
  aA cx Q st nm (e.putD dst (.gd (b==want) (da cx (b==want) e M (nm+16*i) ⟨dst,.makeFunc (.func f) a c,t,pos,af,gd⟩))) M d (fs++[fu cx (b==want) e (nm+16*i) ⟨dst,.makeFunc (.func f) a c,t,pos,af,gd⟩]) ops r (i+1)):=propext Iff.rfl
def vz (b want:Bool)(as:Array Operand)(ts:Array TypeId)(gd:Option (Nat×Bool)):bw cx Q st nm e M d fs (.bool b) want ops ⟨dst,.call ⟨.builtin .len,as,ts⟩,t,pos,af,gd⟩ r i=(((b==want)=true->bp cx (b==want) e M ⟨dst,.call ⟨.builtin .len,as,ts⟩,t,pos,af,gd⟩) /\
  aA cx Q st nm (e.putD dst (.gd (b==want) (da cx (b==want) e M (nm+16*i) ⟨dst,.call ⟨.builtin .len,as,ts⟩,t,pos,af,gd⟩))) M d (fs++[fu cx (b==want) e (nm+16*i) ⟨dst,.call ⟨.builtin .len,as,ts⟩,t,pos,af,gd⟩]) ops r (i+1)):=propext Iff.rfl
def oR (ty:TypeId)(x y:Operand):aA cx Q st nm e M d fs ops (⟨dst,.makeSlice ty x y,t,pos,af,none⟩::r) i=b9 cx Q st nm e M d fs ops ⟨dst,.makeSlice ty x y,t,pos,af,none⟩ r i:=propext Iff.rfl
def rO (ty:TypeId)(x:Option Operand):aA cx Q st nm e M d fs ops (⟨dst,.makeMap ty x,t,pos,af,none⟩::r) i=b9 cx Q st nm e M d fs ops ⟨dst,.makeMap ty x,t,pos,af,none⟩ r i:=propext Iff.rfl
def kS (ty:TypeId)(x:Operand):aA cx Q st nm e M d fs ops (⟨dst,.makeInterface ty x,t,pos,af,none⟩::r) i=b9 cx Q st nm e M d fs ops ⟨dst,.makeInterface ty x,t,pos,af,none⟩ r i:=propext Iff.rfl
def nB (x:Operand)(ty ty2:TypeId)(ok:Bool):aA cx Q st nm e M d fs ops (⟨dst,.typeAssert x ty ty2 ok,t,pos,af,none⟩::r) i=b9 cx Q st nm e M d fs ops ⟨dst,.typeAssert x ty ty2 ok,t,pos,af,none⟩ r i:=propext Iff.rfl
def ua (ty:TypeId)(x y:Operand)(ok:Bool):aA cx Q st nm e M d fs ops (⟨dst,.lookup ty x y ok,t,pos,af,none⟩::r) i=b9 cx Q st nm e M d fs ops ⟨dst,.lookup ty x y ok,t,pos,af,none⟩ r i:=propext Iff.rfl
def oS (ty:TypeId)(x y z:Operand):aA cx Q st nm e M d fs ops (⟨dst,.mapUpdate ty x y z,t,pos,af,none⟩::r) i=b9 cx Q st nm e M d fs ops ⟨dst,.mapUpdate ty x y z,t,pos,af,none⟩ r i:=propext Iff.rfl
def tZ (ty:TypeId)(x y z:Operand):aA cx Q st nm e M d fs ops (⟨dst,.insert ty x y z,t,pos,af,none⟩::r) i=b9 cx Q st nm e M d fs ops ⟨dst,.insert ty x y z,t,pos,af,none⟩ r i:=propext Iff.rfl
def vG (ty:TypeId)(x:Operand):aA cx Q st nm e M d fs ops (⟨dst,.range ty x,t,pos,af,none⟩::r) i=b9 cx Q st nm e M d fs ops ⟨dst,.range ty x,t,pos,af,none⟩ r i:=propext Iff.rfl
def xC (x:Operand)(s:Bool):aA cx Q st nm e M d fs ops (⟨dst,.next x s,t,pos,af,none⟩::r) i=b9 cx Q st nm e M d fs ops ⟨dst,.next x s,t,pos,af,none⟩ r i:=propext Iff.rfl
def lB (as:Array Operand)(ts:Array TypeId):aA cx Q st nm e M d fs ops (⟨dst,.call ⟨.builtin .unsafeString,as,ts⟩,t,pos,af,none⟩::r) i=b9 cx Q st nm e M d fs ops ⟨dst,.call ⟨.builtin .unsafeString,as,ts⟩,t,pos,af,none⟩ r i:=propext Iff.rfl
def jv (as:Array Operand)(ts:Array TypeId):aA cx Q st nm e M d fs ops (⟨dst,.call ⟨.builtin .unsafeSliceData,as,ts⟩,t,pos,af,none⟩::r) i=b9 cx Q st nm e M d fs ops ⟨dst,.call ⟨.builtin .unsafeSliceData,as,ts⟩,t,pos,af,none⟩ r i:=propext Iff.rfl
def rM (ts td:TypeId)(x:Operand):aA cx Q st nm e M d fs ops (⟨dst,.convert ts td x,t,pos,af,none⟩::r) i=if fF (cx.P.underlying ts) (cx.P.underlying td)=true then b9 cx Q st nm e M d fs ops ⟨dst,.convert ts td x,t,pos,af,none⟩ r i else (bp cx true e M ⟨dst,.convert ts td x,t,pos,af,none⟩ /\
  aA cx Q st nm (e.putD dst (da cx true e M (nm+16*i) ⟨dst,.convert ts td x,t,pos,af,none⟩)) M d (fs++[fu cx true e (nm+16*i) ⟨dst,.convert ts td x,t,pos,af,none⟩]) ops r (i+1)):=by
 unfold aA b9
 simp only[bV,eW,gy,fj,Bool.false_eq_true,if_false]
 split<;>rfl
def oO (b want:Bool)(ts td:TypeId)(x:Operand)(gd:Option (Nat×Bool)):bw cx Q st nm e M d fs (.bool b) want ops ⟨dst,.convert ts td x,t,pos,af,gd⟩ r i=if fF (cx.P.underlying ts) (cx.P.underlying td)=true then nw cx Q st nm e M d fs (b==want) ops ⟨dst,.convert ts td x,t,pos,af,gd⟩ r i else (((b==want)=true->bp cx (b==want) e M ⟨dst,.convert ts td x,t,pos,af,gd⟩) /\
  aA cx Q st nm (e.putD dst (.gd (b==want) (da cx (b==want) e M (nm+16*i) ⟨dst,.convert ts td x,t,pos,af,gd⟩))) M d (fs++[fu cx (b==want) e (nm+16*i) ⟨dst,.convert ts td x,t,pos,af,gd⟩]) ops r (i+1)):=by
 unfold bw
 simp only[gx,eW,gy,kT,Bool.false_eq_true,if_false,if_true]
def vk (k:IntKind)(x:Option TypeDesc):fF (some (.int k)) x=false:=rfl
def pX (k:IntKind)(x:Option TypeDesc):fF x (some (.int k))=false:=by rcases x with _|x<;>first|rfl|(cases x<;>rfl)
def xm:fF (some .string) (some .string)=false:=rfl
def xj (e:TypeId):fF (some .string) (some (.slice e))=true:=rfl
def xh (e:TypeId):fF (some (.slice e)) (some .string)=true:=rfl
def xi (e:TypeId):fF (some (.pointer e)) (some .unsafePointer)=true:=rfl
def xo (e:TypeId):fF (some .unsafePointer) (some (.pointer e))=true:=rfl
def vH (ty:TypeId)(x:Operand)(l h m:Option Operand):aA cx Q st nm e M d fs ops (⟨dst,.slice ty x l h m,t,pos,af,none⟩::r) i=if zH (cx.P.underlying ty)=true then b9 cx Q st nm e M d fs ops ⟨dst,.slice ty x l h m,t,pos,af,none⟩ r i else (bp cx true e M ⟨dst,.slice ty x l h m,t,pos,af,none⟩ /\
  aA cx Q st nm (e.putD dst (da cx true e M (nm+16*i) ⟨dst,.slice ty x l h m,t,pos,af,none⟩)) M d (fs++[fu cx true e (nm+16*i) ⟨dst,.slice ty x l h m,t,pos,af,none⟩]) ops r (i+1)):=by
 unfold aA b9
 simp only[bV,eW,gy,fj,Bool.false_eq_true,if_false]
 split<;>rfl
def rL (b want:Bool)(ty:TypeId)(x:Operand)(l h m:Option Operand)(gd:Option (Nat×Bool)):bw cx Q st nm e M d fs (.bool b) want ops ⟨dst,.slice ty x l h m,t,pos,af,gd⟩ r i=if zH (cx.P.underlying ty)=true then nw cx Q st nm e M d fs (b==want) ops ⟨dst,.slice ty x l h m,t,pos,af,gd⟩ r i else (((b==want)=true->bp cx (b==want) e M ⟨dst,.slice ty x l h m,t,pos,af,gd⟩) /\
  aA cx Q st nm (e.putD dst (.gd (b==want) (da cx (b==want) e M (nm+16*i) ⟨dst,.slice ty x l h m,t,pos,af,gd⟩))) M d (fs++[fu cx (b==want) e (nm+16*i) ⟨dst,.slice ty x l h m,t,pos,af,gd⟩]) ops r (i+1)):=by
 unfold bw
 simp only[gx,eW,gy,kT,Bool.false_eq_true,if_false,if_true]
def Cl:zH (some .string)=false:=rfl
def Fr (e:TypeId):zH (some (.slice e))=false:=rfl
def Ck (n:Nat)(e:TypeId):zH (some (.array n e))=true:=rfl
def tS (d:Bool)(fs:List (List Nat))(b want:Bool)(ops:List Oper)(dst:Option Tmp)(f:Operand)(as:Array Operand)(ts:Array TypeId)(t:TypeId)(pos:String)(af:Array Edge)(r:List Oper)(i:Nat)(gd:Option (Nat×Bool)) :
  bw cx Q st nm e M d fs (.bool b) want ops ⟨dst,.call ⟨.value f,as,ts⟩,t,pos,af,gd⟩ r i=eV cx Q st nm e M d fs (b==want) ops ⟨dst,.call ⟨.value f,as,ts⟩,t,pos,af,gd⟩ r i:=propext Iff.rfl
end
end Go.Proofs.YtlnlopnpcmahgaaGreatDoor.Vm
namespace Go.Proofs.YtlnlopnpcmahgaaGreatDoor.Vm
open And renaming intro->Ai
open Go Go.RowKit
set_option linter.defProp false
def LJ :=
 (Ai (Ai (Ai (Ai @Cl (Ai @Fr @Ck)) (Ai @xo (Ai @xi @gI.eq_1))) (Ai (Ai @gI.eq_2 (Ai @gI.eq_3 @gI.eq_4)) (Ai @Blk.ty_typed (Ai @Blk.ty_plain @na)))) (Ai (Ai (Ai @zR (Ai @wO.eq_1 @xh)) (Ai @xj (Ai @xm @pX))) @vk))
def LK :=
 (Ai (Ai @jv @lB) (Ai (Ai @xC @vG) @tZ))
def LL :=
 (Ai (Ai (Ai @oS (Ai @ua @nB)) (Ai @kS @rO)) (Ai (Ai @oR @qg) (Ai @vy @tS)))
def LM :=
 (Ai (Ai (Ai (Ai @vz @nx) (Ai @rJ @mi)) (Ai (Ai @mh (Ai @rL @oO)) (Ai @tW (Ai @rI @tT)))) (Ai (Ai (Ai @tV @ny) (Ai @tU @tX)) (Ai (Ai @vI (Ai @nA @AD)) (Ai @vB (Ai @AH @AG)))))
def LN :=
 (Ai (Ai (Ai (Ai @AF (Ai @qh @rN)) (Ai @vF @oQ)) (Ai (Ai @oP (Ai @vH @rM)) (Ai @xE (Ai @vC @xA)))) (Ai (Ai (Ai @vD (Ai @xD @qi)) (Ai @tY (Ai @xB @Gk))) (Ai (Ai @De (Ai @Gi @go_ret)) (Ai @Il (Ai @Dd @Gh)))))
def LO :=
 (Ai (Ai (Ai (Ai @Gj (Ai @AK @Dc)) (Ai @AC (Ai @qf @rG))) (Ai (Ai @Db (Ai @rF @tQ)) (Ai @oN (Ai @qe @AJ)))) (Ai (Ai (Ai @qj (Ai @xy @vE)) (Ai @eW.eq_1 (Ai @eW.eq_2 @eW.eq_3))) (Ai (Ai @kT.eq_1 (Ai @kT.eq_2 @kT.eq_3)) (Ai @kT.eq_4 (Ai @kT.eq_5 @kT.eq_6)))))
def LP :=
 (Ai (Ai (Ai (Ai @kT.eq_7 (Ai @kT.eq_8 @kT.eq_9)) (Ai @kT.eq_10 (Ai @kT.eq_11 @fW.eq_1))) (Ai (Ai @Bh (Ai @Bg @IP)) (Ai @rW (Ai @lc @BI)))) (Ai (Ai (Ai @yx (Ai @BL @BO)) (Ai @yA (Ai @BN @EA))) (Ai (Ai @yB (Ai @EB @BM)) (Ai @Ey (Ai @BH @BP)))))
def LQ :=
 (Ai (Ai (Ai (Ai @BR (Ai @Bd @D1)) (Ai @GX (Ai @Bc @D2))) (Ai (Ai @ge_iff_le.{0} (Ai @gt_iff_lt.{0} @jq.eq_1)) (Ai @jq.eq_2 (Ai @ut.eq_1 @ut.eq_2)))) (Ai (Ai (Ai @jy.eq_1 (Ai @jy.eq_2 @sU.eq_1)) (Ai @sU.eq_2 (Ai @V.fin.eq_1 @V.fin.eq_2))) (Ai (Ai @V.fin.eq_3 (Ai @V.fin.eq_4 @V.fin.eq_5)) (Ai @V.fin.eq_6 (Ai @V.fin.eq_7 @V.fin.eq_8)))))
def LR :=
 (Ai (Ai (Ai (Ai @V.fin.eq_9 (Ai @V.fin.eq_10 @V.fin.eq_11)) (Ai @V.fin.eq_12 (Ai @V.finOk.eq_1 @V.finOk.eq_2))) (Ai (Ai @V.finOk.eq_3 (Ai @V.finOk.eq_4 @V.finOk.eq_5)) (Ai @V.finOk.eq_6 (Ai @V.finOk.eq_7 @V.finOk.eq_8)))) (Ai (Ai (Ai @V.finOk.eq_9 (Ai @V.finOk.eq_10 @V.finOk.eq_11)) (Ai @V.finOk.eq_12 (Ai @finL.eq_1 @finL.eq_2))) (Ai (Ai @finLOk.eq_1 (Ai @finLOk.eq_2 @V.plain.eq_1)) (Ai @V.plain.eq_2 (Ai @V.plain.eq_3 @V.plain.eq_4)))))
def LS :=
 (Ai (Ai (Ai (Ai @V.plain.eq_5 (Ai @V.plain.eq_6 @V.plain.eq_7)) (Ai @V.plain.eq_8 (Ai @V.plain.eq_9 @V.plain.eq_10))) (Ai (Ai @V.plain.eq_11 (Ai @V.plain.eq_12 @V.plain.eq_13)) (Ai @V.plain.eq_14 (Ai @plainL.eq_1 @plainL.eq_2)))) (Ai (Ai (Ai @plainLL.eq_1 (Ai @plainLL.eq_2 @zO)) (Ai @wW (Ai @uG @Ci))) (Ai (Ai @app_nil (Ai @uO @GF)) (Ai @II (Ai @bp.eq_1 @da.eq_1)))))
def Ld :=
 (Ai (Ai (Ai (Ai @y9.eq_1 (Ai @y9.eq_2 @dU.eq_1)) (Ai @fu.eq_1 (Ai @aX.eq_1 @aX.eq_2))) (Ai (Ai @aX.eq_3 (Ai @aX.eq_4 @aX.eq_5)) (Ai @List.flatMap_cons.{0,0} (Ai @List.flatMap_nil.{0,0} @aw.eq_1)))) (Ai (Ai (Ai @aw.eq_2 (Ai @aw.eq_3 @aw.eq_4)) (Ai @GO.eq_1 (Ai @GO.eq_2 @jx.eq_1))) (Ai (Ai @jx.eq_2 (Ai @jx.eq_3 @jx.eq_4)) (Ai @jx.eq_5 (Ai @jx.eq_6 @im.eq_1)))))
def Le :=
 (Ai (Ai (Ai (Ai @im.eq_2 (Ai @cM.eq_1 @bz.eq_1)) (Ai @bz.eq_2 (Ai @bz.eq_3 @bz.eq_4))) (Ai (Ai @bz.eq_5 (Ai @bz.eq_6 @bz.eq_7)) (Ai @bz.eq_8 (Ai @bz.eq_9 @bj.eq_1)))) (Ai (Ai (Ai @bj.eq_2 (Ai @bj.eq_3 @bj.eq_4)) (Ai @bj.eq_5 (Ai @bj.eq_6 @bj.eq_7))) (Ai (Ai @ph.eq_def (Ai @bH.eq_1 @bH.eq_2)) (Ai @bH.eq_3 (Ai @bH.eq_4 @bH.eq_5)))))
def Lf :=
 (Ai (Ai (Ai (Ai @bH.eq_6 (Ai @bH.eq_7 @bH.eq_8)) (Ai @g9.eq_1 (Ai @g9.eq_2 @sC.eq_1))) (Ai (Ai @qr.eq_1 (Ai @target.eq_1 @target.eq_2)) (Ai @target.eq_3 (Ai @rowOf.eq_1 @bl.eq_1)))) (Ai (Ai (Ai @c8.eq_1 (Ai @V.isPtr.eq_1 @V.isPtr.eq_2)) (Ai @V.isPtr.eq_3 (Ai @V.one.eq_1 @V.one.eq_2))) (Ai (Ai @V.one.eq_3 (Ai @V.one.eq_4 @V.one.eq_5)) (Ai @V.one.eq_6 (Ai @V.cellsV.eq_1 @V.cellsV.eq_2)))))
def Lg :=
 (Ai (Ai (Ai (Ai @je.eq_1 (Ai @je.eq_2 @bc.eq_1)) (Ai @gi.eq_1 (Ai @gi.eq_2 @HV.eq_1))) (Ai (Ai @eB.eq_1 (Ai @eB.eq_2 @eB.eq_3)) (Ai @jS.eq_1 (Ai @oC.eq_1 @p0.eq_1)))) (Ai (Ai (Ai @p0.eq_2 (Ai @mb.eq_1 @mb.eq_2)) (Ai @uf.eq_1 (Ai @uf.eq_2 @uf.eq_3))) (Ai (Ai @uf.eq_4 (Ai @uf.eq_5 @ml.eq_1)) (Ai @ml.eq_2 (Ai @bq.eq_1 @bq.eq_2)))))
def Lh :=
 (Ai (Ai (Ai (Ai @bq.eq_3 (Ai @bq.eq_4 @bq.eq_5)) (Ai @bq.eq_6 (Ai @cB.eq_def @lC.eq_1))) (Ai (Ai @lC.eq_2 (Ai @lC.eq_3 @mj.eq_1)) (Ai @mj.eq_2 (Ai @mj.eq_3 @fB.eq_1)))) (Ai (Ai (Ai @fB.eq_2 (Ai @fB.eq_3 @fB.eq_4)) (Ai @fB.eq_5 (Ai @fB.eq_6 @fB.eq_7))) (Ai (Ai @fB.eq_8 (Ai @pm.eq_1 @gm.eq_1)) (Ai @gm.eq_2 (Ai @cF.eq_1 @cF.eq_2)))))
def Li :=
 (Ai (Ai (Ai (Ai @cF.eq_3 (Ai @cF.eq_4 @cF.eq_5)) (Ai @cF.eq_6 (Ai @cF.eq_7 @cF.eq_8))) (Ai (Ai @cF.eq_9 (Ai @cF.eq_10 @cF.eq_11)) (Ai @cF.eq_12 (Ai @cF.eq_13 @cF.eq_14)))) (Ai (Ai (Ai @cF.eq_15 (Ai @cF.eq_16 @cF.eq_17)) (Ai @fP.eq_1 (Ai @fP.eq_2 @fP.eq_3))) (Ai (Ai @fP.eq_4 (Ai @fP.eq_5 @hH.eq_1)) (Ai @hH.eq_2 (Ai @hH.eq_3 @hH.eq_4)))))
def Lj :=
 (Ai (Ai (Ai (Ai @hH.eq_5 (Ai @hH.eq_6 @hH.eq_7)) (Ai @hH.eq_8 (Ai @dL.eq_1 @dL.eq_2))) (Ai (Ai @dL.eq_3 (Ai @dL.eq_4 @dL.eq_5)) (Ai @dL.eq_6 (Ai @dL.eq_7 @dL.eq_8)))) (Ai (Ai (Ai @xg.eq_1 (Ai @xg.eq_2 @xg.eq_3)) (Ai @xg.eq_4 (Ai @F9.eq_1 @F9.eq_2))) (Ai (Ai @va.eq_1 (Ai @va.eq_2 @gK.eq_1)) (Ai @gK.eq_2 (Ai @gK.eq_3 @gK.eq_4)))))
def Ll :=
 (Ai (Ai (Ai (Ai @gK.eq_5 (Ai @gK.eq_6 @gK.eq_7)) (Ai @gK.eq_8 (Ai @gK.eq_9 @gK.eq_10))) (Ai (Ai @gK.eq_11 (Ai @gK.eq_12 @gK.eq_13)) (Ai @gK.eq_14 (Ai @gK.eq_15 @eR.eq_1)))) (Ai (Ai (Ai @eR.eq_2 (Ai @eR.eq_3 @eR.eq_4)) (Ai @eR.eq_5 (Ai @eR.eq_6 @eR.eq_7))) (Ai (Ai @eR.eq_8 (Ai @eR.eq_9 @eR.eq_10)) (Ai @eR.eq_11 (Ai @eR.eq_12 @eR.eq_13)))))
def Lp :=
 (Ai (Ai (Ai (Ai @eR.eq_14 (Ai @eR.eq_15 @Jf.eq_1)) (Ai @Jf.eq_2 (Ai @Jf.eq_3 @Jf.eq_4))) (Ai (Ai @Jf.eq_5 (Ai @wD.eq_1 @wD.eq_2)) (Ai @wD.eq_3 (Ai @wD.eq_4 @wD.eq_5)))) (Ai (Ai (Ai @ig.eq_def (Ai @kB.eq_def @gU.eq_1)) (Ai @gU.eq_2 (Ai @fS.eq_1 @fS.eq_2))) (Ai (Ai @jR.eq_1 (Ai @jR.eq_2 @ii.eq_1)) (Ai @ii.eq_2 (Ai @iK.eq_1 @iK.eq_2)))))
def Lq :=
 (Ai (Ai (Ai (Ai @ic.eq_1 (Ai @ic.eq_2 @pH.eq_1)) (Ai @pa.eq_1 (Ai @jn.eq_1 @jn.eq_2))) (Ai (Ai @kE.eq_1 (Ai @kE.eq_2 @fK.eq_1)) (Ai @gf.eq_1 (Ai @aD.eq_1 @aD.eq_2)))) (Ai (Ai (Ai @aD.eq_3 (Ai @aD.eq_4 @aD.eq_5)) (Ai @dd.eq_1 (Ai @dd.eq_2 @dd.eq_3))) (Ai (Ai @dd.eq_4 (Ai @dd.eq_5 @dd.eq_6)) (Ai @kW.eq_1 (Ai @kW.eq_2 @kW.eq_3)))))
def Lr :=
 (Ai (Ai (Ai (Ai @cV.eq_1 (Ai @dA.eq_1 @dC.eq_1)) (Ai @List.toList_toArray.{0} (Ai @Int.toNat_natCast @Int.natCast_nonneg))) (Ai (Ai @Int.toNat_zero (Ai @Int.toNat_one @Nat.le_refl)) (Ai @Int.le_refl (Ai @Nat.zero_le @Nat.zero_mul)))) (Ai (Ai (Ai @Nat.one_mul (Ai @Nat.mul_one @Nat.add_zero)) (Ai @Nat.zero_add (Ai @Nat.mul_zero @Nat.add_left_cancel_iff))) (Ai (Ai @if_true.{1} (Ai @if_true.{0} @if_false.{1})) (Ai @if_false.{0} (Ai @ite_true.{1} @ite_true.{0})))))
def Ls :=
 (Ai (Ai (Ai (Ai @ite_false.{1} (Ai @ite_false.{0} @Bool.false_eq_true)) (Ai @Bool.true_eq_false (Ai @Bool.not_true @Bool.not_false))) (Ai (Ai @decide_true (Ai @decide_false @true_implies)) (Ai @false_implies (Ai @implies_true.{1} @implies_true.{0})))) (Ai (Ai (Ai @and_true (Ai @true_and @and_false)) (Ai @false_and (Ai @and_self @List.getElem?_cons_zero.{0}))) (Ai (Ai @List.getElem?_cons_succ.{0} (Ai @List.getElem?_nil.{0} @List.map_cons.{0,0})) (Ai @List.map_nil.{0,0} (Ai @List.length_cons.{0} @List.length_nil.{0})))))
def Lt :=
 (Ai (Ai (Ai (Ai @List.cons_append.{0} (Ai @List.nil_append.{0} @List.append_nil.{0})) (Ai @Option.getD_some.{0} (Ai @Option.getD_none.{0} @Option.isSome_some.{0}))) (Ai (Ai @Option.isSome_none.{0} (Ai @Option.map_some.{0,0} @Option.map_none.{0,0})) (Ai @List.drop_zero.{0} (Ai @List.drop_succ_cons.{0} @List.take_zero.{0})))) (Ai (Ai (Ai @List.take_succ_cons.{0} (Ai @List.set_cons_zero.{0} @List.set_cons_succ.{0})) (Ai @List.all_cons.{0} (Ai @List.all_nil.{0} @Bool.and_true))) (Ai (Ai @Bool.true_and (Ai @List.headD_cons.{0} @jk.eq_1)) (Ai @jk.eq_2 (Ai @jk.eq_3 @Nat.left_eq_add)))))
def Lu :=
 (Ai (Ai (Ai (Ai @Nat.add_eq_left (Ai @List.replicate_zero.{0} @List.replicate_succ.{0})) (Ai @Nat.add_right_cancel_iff (Ai @BJ @List.isEmpty_cons.{0}))) (Ai (Ai @List.isEmpty_nil.{0} (Ai @Gw @vX)) (Ai @b8 (Ai @Iu @qo)))) (Ai (Ai (Ai @Gt (Ai @Iw @iS)) (Ai @nD (Ai @Gv @Iv))) (Ai (Ai @Iz (Ai @JX @JY)) (Ai @Iy (Ai @JU @JV)))))
def Lv :=
 (Ai (Ai (Ai (Ai @IB (Ai @ej @dj)) (Ai @db (Ai @dS @bF))) (Ai (Ai @List.take_length.{0} (Ai @or_true @true_or)) (Ai @or_false (Ai @false_or @or_self)))) (Ai (Ai (Ai @forall_const.{1} (Ai @forall_const.{0} @List.isEmpty_iff.{0})) (Ai @List.map_eq_nil_iff.{0,0} (Ai @ne_eq.{1} @ne_eq.{0}))) (Ai (Ai @Option.some.injEq.{0} (Ai @not_false_eq_true @ak.eq_1)) (Ai @Int.ofNat_lt (Ai @Int.ofNat_le @Nat.lt_irrefl)))))
def Lw :=
 (Ai (Ai (Ai (Ai @beq_self_eq_true.{0} (Ai @bne_self_eq_false.{0} @Int.natCast_zero)) (Ai @Int.cast_ofNat_Int (Ai @AE @xz))) (Ai @Df (Ai @yC (Ai @yy @vY)))) (Ai (Ai (Ai @Gu (Ai @tx.eq_1 @tx.eq_2)) (Ai @tx.eq_3 (Ai @oh.eq_1 @oh.eq_2))) (Ai (Ai @oh.eq_3 (Ai @oh.eq_4 @jJ.eq_1)) (Ai @fE.eq_1 (Ai @fE.eq_2 @fE.eq_3)))))
def Ly :=
 (Ai (Ai (Ai (Ai @fE.eq_4 (Ai @jm.eq_1 @jm.eq_2)) (Ai @jm.eq_3 (Ai @l0.eq_1 @fL.eq_1))) (Ai (Ai @Gx.eq_1 (Ai @Gx.eq_2 @Gx.eq_3)) (Ai @eX.eq_1 (Ai @mm @GM.eq_1)))) (Ai (Ai (Ai @kR.eq_def (Ai @ku.eq_1 @intKind.eq_1)) (Ai @nS.eq_1 (Ai @Nat.sub_zero @vx))) (Ai (Ai @tP (Ai @rH @tR)) (Ai @Ia (Ai @yW @Ez)))))
def Lz :=
 (Ai (Ai (Ai (Ai @BK (Ai @wv @JW)) (Ai @Ix (Ai @Do @BQ))) (Ai (Ai @IA (Ai @DC @A2)) (Ai @DD (Ai @DF @DJ)))) (Ai (Ai (Ai @A4 (Ai @DL @DI)) (Ai @GJ (Ai @A5 @GK))) (Ai (Ai @DH (Ai @A6 @A3)) (Ai @GI (Ai @GG @DE)))))
def LA :=
 (Ai (Ai (Ai @Dz @DK) (Ai @GH @xU)) (Ai (Ai @DG @isConst.eq_1) (Ai @isConst.eq_2 @ql.eq_1)))
def ai:=(Ai (Ai (Ai (Ai LJ (Ai LK LL)) (Ai (Ai LM LN) (Ai LO LP))) (Ai (Ai LQ (Ai LR LS)) (Ai (Ai Ld Le) (Ai Lf Lg)))) (Ai (Ai (Ai Lh (Ai Li Lj)) (Ai (Ai Ll Lp) (Ai Lq Lr))) (Ai (Ai (Ai Ls Lt) (Ai Lu Lv)) (Ai (Ai Lw Ly) (Ai Lz LA)))))
end Go.Proofs.YtlnlopnpcmahgaaGreatDoor.Vm
