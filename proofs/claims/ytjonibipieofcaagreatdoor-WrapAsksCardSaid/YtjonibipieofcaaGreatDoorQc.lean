/-
 Texts joined: XVs,XVt,XVv,XVz,XVu,XVU.
-/
import Derived.IntWalk
import Derived.Test.YtjonibipieofcaaGreatDoorQb
set_option linter.all false
namespace Go.Proofs.YtjonibipieofcaaGreatDoor.Vm
open Go Go.RowKit
def tK (cx:Cx)(N:Nat)(rs:List ResultVar)(nm:Nat)(M0:ao)(v:V)(eff:List (Nat×Option Blk))(b0 n:Nat)(e:Env)(M:ao):Prop:=∃ gs,Ly cx N rs nm M0 v eff b0 e (M.ghosts n gs)
def kR (cx:Cx)(fn:Func)(nm:Nat)(M:ao)(v:V)(eff:List (Nat×Option Blk))(b0:Nat):Ex->Nat->Env->ao->Prop
 | .exit _,_,_,_=>False
 | .panic _,_,_,_=>False
 | _,n,e,M'=>tK cx fn.ntmps fn.results.toList nm M v eff b0 n e M'
def FM {cx:Cx}(hD:cx.D=[]){f:FuncId}{nm:Nat}{args:List V}{M:ao}{v:V}{eff:List (Nat×Option Blk)}{fn:Func}{c:Code}
  (hcall:∀ cargs w,(callFunc f cargs).run cx.P w = .ok (.enter f cargs) w) (hf:cx.P.funcs[f]? = some fn) (hb:fn.body=some c) (hm:cx.P.follows .mixedOrders=true) (hin:dL fn.ntmps c=true) (hargs:args.length<=fn.ntmps)
  (hvc:∀ b0,(∀ x,b0<=x->M x=none)->vc cx b0 c (kR cx fn nm M v eff b0) b0 (kQ args) M):Ev cx f nm args M v eff:=by
 refine⟨trivial,?_⟩
 intro X w ρ cargs B hrel hfr hB hlen his
 have hstart:Lies cx fn.ntmps X w (cG ρ M) ρ B B (kQ args) M ρ { tmps:=cargs++Array.replicate (fn.ntmps-cargs.size) undef,defers:=[] } w:=by
  refine⟨hrel,⟨by simp;omega,hD.symm,fun t ht=>?_⟩,hB,fun _ _ h=>h,Nat.le_refl _,fun _ _=>rfl,fun x hx=>(hB x hx).2⟩
  simp only[kQ,Array.getD_eq_getD_getElem?]
  by_cases hlt:t<args.length
  ·rw[Array.getElem?_append_left (by omega),List.getElem?_eq_getElem hlt,Array.getElem?_eq_getElem (show t<cargs.size by omega)]
   exact his t _ _ (List.getElem?_eq_getElem hlt) (Array.getElem?_eq_getElem (by omega))
  ·rw[List.getElem?_eq_none (by omega)]
   exact .any _
 refine .inl ⟨hcall _ _,?_⟩
 refine nT hf hb (la.mono (ei hm c _ B (kQ args) M ρ _ w hin hstart (hvc B (fun x hx=>(hB x hx).1))) ?_)
 rintro x a w' ⟨n,e,M',ρ',h',hq⟩
 have done:tK cx fn.ntmps fn.results.toList nm M v eff B n e M'->a.defers=[] /\ ∃ cv,(results fn a.tmps).run cx.P w' = .ok cv w' /\ ∃ cv',Ending.returned cv = .returned cv'/\ek cx.G X w (cG ρ M) ρ M w nm v (M.app eff) cv' w':=fun ⟨gs,hfin⟩=>by
  have h':=h'.ghosts gs
  obtain⟨cv,h1,h2⟩:=vo h'.rel h'.env fn hfin.1
  exact⟨h'.env.defers.trans hD,cv,h1,cv,rfl,uL hrel hfr hB h' hfin h2⟩
 cases x<;>simp only[kR]at hq<;>try (exact hq.elim)
 case normal=>exact done hq
 case ret=>exact done hq
 case panic ch=>obtain⟨_,_,_,_,hf⟩:=hq;exact hf.elim
def Fin.pure {cx:Cx}{N:Nat}{rs:List ResultVar}{nm:Nat}{v:V}{b0 n:Nat}{e:Env}{M:ao}(h1:kX cx.P N rs e M)(h2:(li cx.P rs e M).finOk [] M)(h3:((li cx.P rs e M).fin [] M).le v):tK cx N rs nm ao.nil v [] b0 n e M :=
 ⟨[],Fin.two ⟨h1,[],h2,h3,rfl,List.nodup_nil,List.nodup_nil,(fun p hp=>by cases hp),(fun x hx=>by simp[ao.nil]at hx)⟩⟩
structure Post where
 b0:Nat
 q:Ex->Nat->Env->ao->Prop
inductive Frm where
 | code (c:Code)
 | blk (id:Nat)
 | again (J:Nat->Nat->Env->ao->Prop) (g:Nat)
 | cut (J:Nat->Env->ao->Prop)
def jf (cx:Cx)(Q:Post):List Frm->Ex->Nat->Env->ao->Prop
 | []=>Q.q
 | .code c::st=>fun x n e M=>match x with | .normal=>vc cx Q.b0 c (jf cx Q st) n e M | .exit id=>jf cx Q st (.exit id) n e M | .ret=>jf cx Q st .ret n e M | .panic v=>jf cx Q st (.panic v) n e M
 | .blk id::st=>fun x n e M=>match x with | .normal=>jf cx Q st .normal n e M | .exit id'=>if id'=id then jf cx Q st .normal n e M else jf cx Q st (.exit id') n e M | .ret=>jf cx Q st .ret n e M | .panic v=>jf cx Q st (.panic v) n e M
 | .again J g::st=>fun x n e M=>match x with | .normal=>∃ g',g'<g /\ ∃ nm' e' M',mJ cx Q.b0 n e M nm' e' M'/\J g' nm' e' M' | .exit id=>jf cx Q st (.exit id) n e M | .ret=>jf cx Q st .ret n e M | .panic v=>jf cx Q st (.panic v) n e M
 | .cut J::st=>fun x n e M=>match x with | .normal=>J n e M | .exit id=>jf cx Q st (.exit id) n e M | .ret=>jf cx Q st .ret n e M | .panic v=>jf cx Q st (.panic v) n e M
section
variable (cx:Cx) (Q:Post) (st:List Frm) (nm:Nat) (e:Env) (M:ao)
def go (c:Code):Prop:=vc cx Q.b0 c (jf cx Q st) nm e M
def eu (x:Ex):Prop:=jf cx Q st x nm e M
def aG (d:Bool)(fs:List (List Nat))(ops r:List Oper)(i:Nat):Prop:=cE cx ops d (fun n e M v=>d=false/\jf cx Q st (.panic v) n e M) r nm i e M fs (fun n e M fs=>(d=true->jp cx.P ops fs)/\jf cx Q st .normal n e M)
def x9 (fs:List (List Nat))(ops:List Oper):Prop:=jp cx.P ops fs/\jf cx Q st .normal nm e M
def ig (d:Bool)(fs:List (List Nat))(ops:List Oper)(o:Oper)(r:List Oper)(i:Nat):Prop:=aG cx Q st nm e M d fs ops (o::r) i
def cM (d:Bool)(fs:List (List Nat))(ops:List Oper)(o:Oper)(r:List Oper)(i:Nat):Prop:=∃ v eff ft,ExtDoes cx o (nm+16*i) e M v eff ft/\aG cx Q st nm (e.putD o.dst v) (M.app eff) d (fs++[ft]) ops r (i+1)
def pD (d:Bool)(fs:List (List Nat))(c:Bool)(ops:List Oper)(o:Oper)(r:List Oper)(i:Nat):Prop:=(∃ v ft,(ft≠[]->fX o.op=false)/\(c=true->ExtDoes cx o (nm+16*i) e M v [] ft)/\aG cx Q st nm (e.putD o.dst (.gd c v)) M d (fs++[ft]) ops r (i+1)) \/
 ((c=true->cM cx Q st nm e M d fs ops o r i)/\(c=false->aG cx Q st nm (e.putD o.dst .any) M d (fs++[[]]) ops r (i+1)))
def Pb (d:Bool)(fs:List (List Nat))(ops:List Oper)(o:Oper)(r:List Oper)(i:Nat):Prop:=∃ v eff,CommDoes cx o (nm+16*i) e M v eff/\aG cx Q st nm (e.putD o.dst v) (M.app eff) d (fs++[ak eff]) ops r (i+1)
def bL (d:Bool)(fs:List (List Nat))(gv:V)(want:Bool)(ops:List Oper)(o:Oper)(r:List Oper)(i:Nat):Prop:=match iR gv want with
 | some c=>if gc o.op=true then iE cx c e M (nm+16*i) o (fun v l=>aG cx Q st nm (e.putD o.dst (.gd c v)) M d (fs++[l]) ops r (i+1))\/(c=true/\fF cx true e M (nm+16*i) o (fun v eff l=>aG cx Q st nm (e.putD o.dst v) (M.app eff) d (fs++[l++ak eff]) ops r (i+1)))
  else if iS cx.P o.op=true then pD cx Q st nm e M d fs c ops o r i
  else if mN o.op=true then (c=true->bJ cx c e M o)/\aG cx Q st nm (e.putD o.dst (.gd c (dU cx c e M (nm+16*i) o))) M d (fs++[gQ cx c e (nm+16*i) o]) ops r (i+1)
  else (c=true->bJ cx true e M o/\aG cx Q st nm (e.putD o.dst (dU cx true e M (nm+16*i) o)) (M.app (e9 cx true e M (nm+16*i) o)) d (fs++[gQ cx true e (nm+16*i) o]) ops r (i+1))/\(c=false->aG cx Q st nm (e.putD o.dst .any) M d (fs++[[]]) ops r (i+1))
 | none=>False
def eA (d:Bool)(fs:List (List Nat))(c:Bool)(ops:List Oper)(o:Oper)(r:List Oper)(i:Nat):Prop:=iE cx c e M (nm+16*i) o (fun v l=>aG cx Q st nm (e.putD o.dst (.gd c v)) M d (fs++[l]) ops r (i+1))\/(c=true/\fF cx true e M (nm+16*i) o (fun v eff l=>aG cx Q st nm (e.putD o.dst v) (M.app eff) d (fs++[l++ak eff]) ops r (i+1)))
def lJ (c:Code):Prop:=vc cx Q.b0 (.loop c) (jf cx Q st) nm e M
def np (v:V)(a b:Code):Prop:=match v with
 | .bool t=>(t=true->go cx Q st nm e M a)/\(t=false->go cx Q st nm e M b)
 | .bit t f=>(t=true->go cx Q st nm e M a)/\(f=true->go cx Q st nm e M b)
 | _=>False
def Jw:go cx Q st nm e M .skip=eu cx Q st nm e M .normal:=propext Iff.rfl
def Gm (l:Nat):go cx Q st nm e M (.label l)=eu cx Q st nm e M .normal:=propext Iff.rfl
def Ju (id:Nat):go cx Q st nm e M (.exit id)=eu cx Q st nm e M (.exit id):=propext Iff.rfl
def go_ret:go cx Q st nm e M .ret=eu cx Q st nm e M .ret:=propext Iff.rfl
def Mw (a b:Code):go cx Q st nm e M (.seq a b)=go cx Q (.code b::st) nm e M a:=propext Iff.rfl
def Gn (c:Code):go cx Q st nm e M (.scope c)=go cx Q st nm e M c:=propext Iff.rfl
def Gl (id:Nat)(c:Code):go cx Q st nm e M (.block id c)=go cx Q (.blk id::st) nm e M c:=propext Iff.rfl
def Jt (c:Operand)(a b:Code):go cx Q st nm e M (.cond c a b)=np cx Q st nm e M (ax cx.G true e c) a b:=propext Iff.rfl
def Jv (c:Code):go cx Q st nm e M (.loop c)=lJ cx Q st nm e M c:=propext Iff.rfl
def Dy (id:Nat)(ops:Array Oper)(d:Bool):go cx Q st nm e M (.region id ops d)=aG cx Q st nm e M d [] ops.toList ops.toList 0:=propext Iff.rfl
def x8 (a b:Code):np cx Q st nm e M (.bool true) a b=go cx Q st nm e M a:=by simp only[np,true_implies,Bool.true_eq_false,false_implies,and_true]
def wc (a b:Code):np cx Q st nm e M (.bool false) a b=go cx Q st nm e M b:=by simp only[np,true_implies,Bool.false_eq_true,false_implies,true_and]
def Gk (x:Ex):eu cx Q [] nm e M x=Q.q x nm e M:=propext Iff.rfl
def Ds (c:Code):eu cx Q (.code c::st) nm e M .normal=go cx Q st nm e M c:=propext Iff.rfl
def ss (c:Code)(id:Nat):eu cx Q (.code c::st) nm e M (.exit id)=eu cx Q st nm e M (.exit id):=propext Iff.rfl
def ua (c:Code):eu cx Q (.code c::st) nm e M .ret=eu cx Q st nm e M .ret:=propext Iff.rfl
def Gj (id:Nat):eu cx Q (.blk id::st) nm e M .normal=eu cx Q st nm e M .normal:=propext Iff.rfl
def tZ (id id':Nat):eu cx Q (.blk id::st) nm e M (.exit id')=if id'=id then eu cx Q st nm e M .normal else eu cx Q st nm e M (.exit id'):=propext Iff.rfl
def we (id:Nat):eu cx Q (.blk id::st) nm e M .ret=eu cx Q st nm e M .ret:=propext Iff.rfl
def qI (J:Nat->Nat->Env->ao->Prop)(g:Nat)(id:Nat):eu cx Q (.again J g::st) nm e M (.exit id)=eu cx Q st nm e M (.exit id):=propext Iff.rfl
def sr (J:Nat->Nat->Env->ao->Prop)(g:Nat):eu cx Q (.again J g::st) nm e M .ret=eu cx Q st nm e M .ret:=propext Iff.rfl
def ub (J:Nat->Env->ao->Prop)(id:Nat):eu cx Q (.cut J::st) nm e M (.exit id)=eu cx Q st nm e M (.exit id):=propext Iff.rfl
def wg (J:Nat->Env->ao->Prop):eu cx Q (.cut J::st) nm e M .ret=eu cx Q st nm e M .ret:=propext Iff.rfl
def Dx (fs:List (List Nat))(ops:List Oper)(i:Nat):aG cx Q st nm e M false fs ops [] i=eu cx Q st (nm+16*i) e M .normal:=by
 simp only[aG,cE,eu,Bool.false_eq_true,false_implies,true_and]
def sy (fs:List (List Nat))(ops:List Oper)(i:Nat):aG cx Q st nm e M true fs ops [] i=x9 cx Q st (nm+16*i) e M fs ops:=by
 simp only[aG,cE,x9,true_implies]
def Ao (d:Bool)(fs:List (List Nat))(ops:List Oper)(dst:Option Tmp)(f:Operand)(args:Array Operand)(ats:Array TypeId)(t:TypeId)(pos:String)(af:Array Edge)(r:List Oper)(i:Nat) :
  aG cx Q st nm e M d fs ops (⟨dst,.call ⟨.value f,args,ats⟩,t,pos,af,none⟩::r) i=ig cx Q st nm e M d fs ops ⟨dst,.call ⟨.value f,args,ats⟩,t,pos,af,none⟩ r i:=propext Iff.rfl
def yi (d:Bool)(fs:List (List Nat))(ops:List Oper)(dst:Option Tmp)(op:Op)(t:TypeId)(pos:String)(af:Array Edge)(j:Nat)(want:Bool)(r:List Oper)(i:Nat) :
  aG cx Q st nm e M d fs ops (⟨dst,op,t,pos,af,some (j,want)⟩::r) i=bL cx Q st nm e M d fs (ii ops e j) want ops ⟨dst,op,t,pos,af,some (j,want)⟩ r i:=by
 unfold aG bL
 simp only[cE,aG,pD,cM]
 cases iR (ii ops e j) want<;>rfl
def su (d:Bool)(fs:List (List Nat))(c x want:Bool)(ops:List Oper)(o:Oper)(r:List Oper)(i:Nat):bL cx Q st nm e M d fs (.gd c (.bool x)) want ops o r i=bL cx Q st nm e M d fs (.bool (c&&(x==want))) true ops o r i:=by
 have h:∀ y:Bool,(y==true)=y:=fun y=>by cases y<;>rfl
 simp only[bL,iR,h]
def ya (d:Bool)(fs:List (List Nat))(v:V)(want:Bool)(ops:List Oper)(o:Oper)(r:List Oper)(i:Nat):bL cx Q st nm e M d fs (.gd false v) want ops o r i=bL cx Q st nm e M d fs (.bool false) true ops o r i:=by
 have h1:iR (.gd false v) want=some false:=by cases v<;>rfl
 have h2:iR (.bool false) true=some false:=rfl
 simp only[bL,h1,h2]
variable {cx Q st nm e M}
def aI {t:Bool}{a b:Code}(h1:t=true->go cx Q st nm e M a)(h2:t=false->go cx Q st nm e M b):np cx Q st nm e M (.bool t) a b:=⟨h1,h2⟩
def aP {t f:Bool}{a b:Code}(h1:t=true->go cx Q st nm e M a)(h2:f=true->go cx Q st nm e M b):np cx Q st nm e M (.bit t f) a b:=⟨h1,h2⟩
def dv {d:Bool}{fs:List (List Nat)}{ops:List Oper}{dst:Option Tmp}{f:Operand}{args:Array Operand}{ats:Array TypeId}{t:TypeId}{pos:String}{af:Array Edge}{r:List Oper}{i:Nat}{g:FuncId}{caps:List V}{as:List V}(hf:ax cx.G true e f = .fn g caps)
  (has:args.toList.map (ax cx.G true e)++caps=as) (l:List Nat) {v:V} {eff:List (Nat×Option Blk)} (hev:Ev cx g (nm+16*i) as (M.only l) v eff) (he:∀ x∈ak eff,(x∈l/\(M x).isSome=true)\/cm (nm+16*i) x)
  (h:aG cx Q st nm (e.putD dst v) (M.app eff) d (fs++[l++ak eff]) ops r (i+1)):ig cx Q st nm e M d fs ops ⟨dst,.call ⟨.value f,args,ats⟩,t,pos,af,none⟩ r i:=by
 subst has
 show cE _ _ _ _ _ _ _ _ _ _ _
 simp only[cE,gc,if_true,fF,hf,V.tgt,List.nil_append]
 exact .inl ⟨l,v,eff,hev,he,h⟩
def bw {d:Bool}{fs:List (List Nat)}{ops:List Oper}{dst:Option Tmp}{f:Operand}{args:Array Operand}{ats:Array TypeId}{t:TypeId}{pos:String}{af:Array Edge}{r:List Oper}{i:Nat}{g:FuncId}{caps:List V}{as:List V}(hf:ax cx.G true e f = .fn g caps)
  (has:args.toList.map (ax cx.G true e)++caps=as) {v:V} (hev:Ev cx g (nm+16*i) as ao.nil v []) (h:aG cx Q st nm (e.putD dst v) M d (fs++[[]]) ops r (i+1)):ig cx Q st nm e M d fs ops ⟨dst,.call ⟨.value f,args,ats⟩,t,pos,af,none⟩ r i :=
 dv hf has [] (by rw[ao.only_nil];exact hev) (fun x hx=>by simp[ak]at hx) h
def zO {d:Bool}{fs:List (List Nat)}{ops:List Oper}{c:Bool}{dst:Option Tmp}{f:Operand}{args:Array Operand}{ats:Array TypeId}{t:TypeId}{pos:String}{af:Array Edge}{gd:Option (Nat×Bool)}{r:List Oper}{i:Nat}{g:FuncId}{caps:List V}{as:List V}(hf:ax cx.G c e f = .fn g caps)
  (has:args.toList.map (ax cx.G c e)++caps=as) {v:V} (hev:c=true->Ev cx g (nm+16*i) as ao.nil v []) (h:aG cx Q st nm (e.putD dst (.gd c v)) M d (fs++[[]]) ops r (i+1)):eA cx Q st nm e M d fs c ops ⟨dst,.call ⟨.value f,args,ats⟩,t,pos,af,gd⟩ r i:=by
 subst has
 unfold eA iE
 refine .inl ?_
 simp only[hf,V.tgt,List.nil_append]
 exact⟨[],v,by rw[ao.only_nil];exact hev,h⟩
def I3 {d:Bool}{fs:List (List Nat)}{ops:List Oper}{dst:Option Tmp}{f:Operand}{args:Array Operand}{ats:Array TypeId}{t:TypeId}{pos:String}{af:Array Edge}{gd:Option (Nat×Bool)}{r:List Oper}{i:Nat}{g:FuncId}{caps fi:List V}{as:List V}(hf:(ax cx.G true e f).tgt=some (g,caps,fi))
  (has:fi++(args.toList.map (ax cx.G true e)++caps)=as) (l:List Nat) {v:V} {eff:List (Nat×Option Blk)} (hev:Ev cx g (nm+16*i) as (M.only l) v eff) (he:∀ x∈ak eff,(x∈l/\(M x).isSome=true)\/cm (nm+16*i) x)
  (h:aG cx Q st nm (e.putD dst v) (M.app eff) d (fs++[l++ak eff]) ops r (i+1)):eA cx Q st nm e M d fs true ops ⟨dst,.call ⟨.value f,args,ats⟩,t,pos,af,gd⟩ r i:=by
 subst has
 unfold eA fF
 refine .inr ⟨rfl,?_⟩
 simp only[hf]
 exact⟨l,v,eff,hev,he,h⟩
def xz {d:Bool}{fs:List (List Nat)}{ops:List Oper}{dst:Option Tmp}{f:Operand}{args:Array Operand}{ats:Array TypeId}{t:TypeId}{pos:String}{af:Array Edge}{r:List Oper}{i:Nat}{g:FuncId}{fi:List V}{as:List V}(hf:ax cx.G true e f = .fnb g fi)
  (has:fi++args.toList.map (ax cx.G true e)=as) (l:List Nat) {v:V} {eff:List (Nat×Option Blk)} (hev:Ev cx g (nm+16*i) as (M.only l) v eff) (he:∀ x∈ak eff,(x∈l/\(M x).isSome=true)\/cm (nm+16*i) x)
  (h:aG cx Q st nm (e.putD dst v) (M.app eff) d (fs++[l++ak eff]) ops r (i+1)):ig cx Q st nm e M d fs ops ⟨dst,.call ⟨.value f,args,ats⟩,t,pos,af,none⟩ r i:=by
 subst has
 show cE _ _ _ _ _ _ _ _ _ _ _
 simp only[cE,gc,if_true,fF,hf,V.tgt,List.append_nil]
 exact .inl ⟨l,v,eff,hev,he,h⟩
def zP {d:Bool}{fs:List (List Nat)}{ops:List Oper}{dst:Option Tmp}{g:FuncId}{args:Array Operand}{ats:Array TypeId}{t:TypeId}{pos:String}{af:Array Edge}{gd:Option (Nat×Bool)}{r:List Oper}{i:Nat}{as:List V}
  (has:args.toList.map (ax cx.G true e)=as) (l:List Nat) {v:V} {eff:List (Nat×Option Blk)} (hev:Ev cx g (nm+16*i) as (M.only l) v eff) (he:∀ x∈ak eff,(x∈l/\(M x).isSome=true)\/cm (nm+16*i) x)
  (h:aG cx Q st nm (e.putD dst v) (M.app eff) d (fs++[l++ak eff]) ops r (i+1)):eA cx Q st nm e M d fs true ops ⟨dst,.call ⟨.value (.func g),args,ats⟩,t,pos,af,gd⟩ r i :=
 I3 (caps:=[]) (fi:=[]) rfl (by rw[List.append_nil];exact has) l hev he h
def ah {d:Bool}{fs:List (List Nat)}{ops:List Oper}{dst:Option Tmp}{g:FuncId}{args:Array Operand}{ats:Array TypeId}{t:TypeId}{pos:String}{af:Array Edge}{r:List Oper}{i:Nat}{as:List V}
  (has:args.toList.map (ax cx.G true e)=as) {v:V} (hev:Ev cx g (nm+16*i) as ao.nil v []) (h:aG cx Q st nm (e.putD dst v) M d (fs++[[]]) ops r (i+1)):ig cx Q st nm e M d fs ops ⟨dst,.call ⟨.value (.func g),args,ats⟩,t,pos,af,none⟩ r i :=
 bw (caps:=[]) rfl (by rw[List.append_nil];exact has) hev h
def ac {d:Bool}{fs:List (List Nat)}{ops:List Oper}{c:Bool}{dst:Option Tmp}{g:FuncId}{args:Array Operand}{ats:Array TypeId}{t:TypeId}{pos:String}{af:Array Edge}{gd:Option (Nat×Bool)}{r:List Oper}{i:Nat}{as:List V}
  (has:args.toList.map (ax cx.G c e)=as) {v:V} (hev:c=true->Ev cx g (nm+16*i) as ao.nil v []) (h:aG cx Q st nm (e.putD dst (.gd c v)) M d (fs++[[]]) ops r (i+1)):eA cx Q st nm e M d fs c ops ⟨dst,.call ⟨.value (.func g),args,ats⟩,t,pos,af,gd⟩ r i :=
 zO (caps:=[]) rfl (by rw[List.append_nil];exact has) hev h
def aB {d:Bool}{fs:List (List Nat)}{ops:List Oper}{dst:Option Tmp}{g:FuncId}{args:Array Operand}{ats:Array TypeId}{t:TypeId}{pos:String}{af:Array Edge}{r:List Oper}{i:Nat}{as:List V}
  (has:args.toList.map (ax cx.G true e)=as) (l:List Nat) {v:V} {eff:List (Nat×Option Blk)} (hev:Ev cx g (nm+16*i) as (M.only l) v eff) (he:∀ x∈ak eff,(x∈l/\(M x).isSome=true)\/cm (nm+16*i) x)
  (h:aG cx Q st nm (e.putD dst v) (M.app eff) d (fs++[l++ak eff]) ops r (i+1)):ig cx Q st nm e M d fs ops ⟨dst,.call ⟨.value (.func g),args,ats⟩,t,pos,af,none⟩ r i :=
 dv (caps:=[]) rfl (by rw[List.append_nil];exact has) l hev he h
def av {fs:List (List Nat)}{ops:List Oper}(hp:sP cx.P ops=[])(h:eu cx Q st nm e M .normal):x9 cx Q st nm e M fs ops:=⟨AW hp,h⟩
def ag {fs:List (List Nat)}{ops:List Oper}{ps:List (Nat×Nat)}(hp:sP cx.P ops=ps)(hps:∀ p∈ps,∀ x∈fs.getD p.1 [],x ∉ fs.getD p.2 [])(h:eu cx Q st nm e M .normal):x9 cx Q st nm e M fs ops:=⟨by unfold jp;rw[hp];exact hps,h⟩
def B7 {c:Code}(J:Nat->Nat->Env->ao->Prop)(g:Nat){n:Nat}{e':Env}{M':ao}(hw:mJ cx Q.b0 nm e M n e' M')(h0:J g n e' M')(hr:∀ g nm e M,J g nm e M->go cx Q (.again J g::st) nm e M c):lJ cx Q st nm e M c:=⟨J,g,⟨_,_,_,hw,h0⟩,hr⟩
def xi {J:Nat->Nat->Env->ao->Prop}{g:Nat}(g':Nat)(hg:g'<g){n:Nat}{e':Env}{M':ao}(hw:mJ cx Q.b0 nm e M n e' M')(h:J g' n e' M'):eu cx Q (.again J g::st) nm e M .normal:=⟨g',hg,_,_,_,hw,h⟩
end
def sc (cx:Cx)(fn:Func)(nm:Nat)(M:ao)(v:V)(eff:List (Nat×Option Blk))(b0:Nat):Post:=⟨b0,kR cx fn nm M v eff b0⟩
def Mm (cx:Cx)(fn:Func)(nm:Nat)(M:ao)(v:V)(eff:List (Nat×Option Blk))(b0:Nat):(sc cx fn nm M v eff b0).q=kR cx fn nm M v eff b0:=rfl
def BU (cx:Cx)(fn:Func)(nm:Nat)(M:ao)(v:V)(eff:List (Nat×Option Blk))(b0:Nat):(sc cx fn nm M v eff b0).b0=b0:=rfl
def N1 {cx:Cx}(hD:cx.D=[]){f:FuncId}{nm:Nat}{args:List V}{M:ao}{v:V}{eff:List (Nat×Option Blk)}{fn:Func}{c:Code}
  (hcall:∀ cargs w,(callFunc f cargs).run cx.P w = .ok (.enter f cargs) w) (hf:cx.P.funcs[f]? = some fn) (hb:fn.body=some c) (hm:cx.P.follows .mixedOrders=true) (hin:dL fn.ntmps c=true) (hargs:decide (args.length<=fn.ntmps)=true)
  (hvc:∀ b0,(∀ x,b0<=x->M x=none)->go cx (sc cx fn nm M v eff b0) [] b0 (kQ args) M c):Ev cx f nm args M v eff :=
 FM hD hcall hf hb hm hin (of_decide_eq_true hargs) hvc
def Eg (e:Env)(t:Nat)(v:V):e.putD (some t) v=e.put t v:=rfl
def Ef (e:Env)(v:V):e.putD none v=e:=rfl
def MX (e:Env)(t x:Nat)(v:V):(e.put t v) x=if x=t then v else e x:=rfl
def uo (c:Bool)(v:V):(V.gd c v).strip c=v:=by cases c<;>simp[V.strip]
def mY (c:Bool)(v:V):(V.gd true v).strip c=v:=by simp[V.strip]
def EF (c:Bool):V.any.strip c = .any:=rfl
def Bq (c b:Bool):(V.bool b).strip c = .bool b:=rfl
def EG (c t f:Bool):(V.bit t f).strip c = .bit t f:=rfl
def EI (c:Bool)(k:IntKind)(n:Int):(V.int k n).strip c = .int k n:=rfl
def EL (c:Bool)(s:List UInt8):(V.str s).strip c = .str s:=rfl
def Bs (c:Bool):V.nilp.strip c = .nilp:=rfl
def EO (c:Bool):V.upt.strip c = .upt:=rfl
def HS (c:Bool)(a b:Nat)(r:List (List V)):(V.ys a b r).strip c = .ys a b r:=rfl
def EK (c:Bool)(a b d:Nat):(V.ptr a b d).strip c = .ptr a b d:=rfl
def HQ (c:Bool)(l:List V):(V.rp l).strip c = .rp l:=rfl
def Bu (c:Bool):V.nils.strip c = .nils:=rfl
def HR (c t:Bool)(s:Nat)(l:List (List V)):(V.sl t s l).strip c = .sl t s l:=rfl
def EJ (c:Bool)(a b d:Nat):(V.own a b d).strip c = .own a b d:=rfl
def Bv (c:Bool)(a b d e:Nat):(V.ownc a b d e).strip c = .ownc a b d e:=rfl
def Br (c:Bool)(a:Nat):(V.chan a).strip c = .chan a:=rfl
def HP (c:Bool)(a:Nat):(V.mp a).strip c = .mp a:=rfl
def EH (c:Bool)(f:Nat)(l:List V):(V.fnb f l).strip c = .fnb f l:=rfl
def zb (c:Bool)(t:TypeId)(v:V):(V.iface t v).strip c = .iface t v:=rfl
def HO (c:Bool)(f:Nat)(l:List V):(V.fn f l).strip c = .fn f l:=rfl
def EE (c:Bool)(l:List V):(V.agg l).strip c = .agg l:=rfl
def EM (c:Bool)(l:List V):(V.tup l).strip c = .tup l:=rfl
def EP (c:Bool)(v:Value):(V.val v).strip c = .val v:=rfl
def GQ : V.isNilI (.any )=false:=rfl
def DY (a0:Bool):V.isNilI (.bool a0)=false:=rfl
def GR (a0:Bool)(a1:Bool):V.isNilI (.bit a0 a1)=false:=rfl
def GT (a0:IntKind)(a1:Int):V.isNilI (.int a0 a1)=false:=rfl
def GX (a0:List UInt8):V.isNilI (.str a0)=false:=rfl
def D1 : V.isNilI (.nilp )=false:=rfl
def GZ : V.isNilI (.upt )=false:=rfl
def J2 (a b:Nat)(r:List (List V)):V.isNilI (.ys a b r)=false:=rfl
def GW (a0:Nat)(a1:Nat)(a2:Nat):V.isNilI (.ptr a0 a1 a2)=false:=rfl
def J0 (a0:List V):V.isNilI (.rp a0)=false:=rfl
def D2 : V.isNilI (.nils )=false:=rfl
def J1 (a0:Bool)(a1:Nat)(a2:List (List V)):V.isNilI (.sl a0 a1 a2)=false:=rfl
def GV (a0:Nat)(a1:Nat)(a2:Nat):V.isNilI (.own a0 a1 a2)=false:=rfl
def D3 (a0:Nat)(a1:Nat)(a2:Nat)(a3:Nat):V.isNilI (.ownc a0 a1 a2 a3)=false:=rfl
def DZ (a0:Nat):V.isNilI (.chan a0)=false:=rfl
def JZ (a0:Nat):V.isNilI (.mp a0)=false:=rfl
def JX (a0:Nat)(a1:List V):V.isNilI (.fn a0 a1)=false:=rfl
def GS (a0:Nat)(a1:List V):V.isNilI (.fnb a0 a1)=false:=rfl
def GP (a0:List V):V.isNilI (.agg a0)=false:=rfl
def GY (a0:List V):V.isNilI (.tup a0)=false:=rfl
def JY (a0:Bool)(a1:V):V.isNilI (.gd a0 a1)=false:=rfl
def AN (a0:TypeId)(a1:V):V.isNilI (.iface a0 a1)=false:=rfl
def GU:V.isNilI (.val .nilIface)=true:=rfl
def Ea (c x y:Bool):iw c (.bool x) (.bool y) = .bool (if c then x else y):=rfl
def Hg (c x:Bool):iw c (.gd c (.bool x)) (.bool false) = .bool (c&&x):=by cases c<;>simp[iw,V.strip]
def Ky (c x:Bool):iw c (.bool true) (.gd (!c) (.bool x)) = .bool (c||x):=by cases c<;>simp[iw,V.strip]
def D9 (c x:Bool):iw c ((V.gd c (.bool x)).strip true) (.bool false) = .bool (c&&x):=by cases c<;>simp[iw,V.strip]
def Hh (c x:Bool):iw c (.bool true) ((V.gd (!c) (.bool x)).strip true) = .bool (c||x):=by cases c<;>simp[iw,V.strip]
def CK (b:Bool):(b==true)=b:=by cases b<;>rfl
def zM (b:Bool):(b==false) = !b:=by cases b<;>rfl
def xd (a b c:Nat):a+b+c=a+(b+c):=Nat.add_assoc a b c
def Fc (l:List V)(t:Nat):kQ l t=(l[t]?).getD .any:=rfl
def app_nil (M:ao):M.app []=M:=rfl
def xo (M:ao)(x:Nat)(k:Option Blk)(r:List (Nat×Option Blk)):M.app ((x,k)::r)=(M.put x k).app r:=rfl
def JV (M:ao)(nm x:Nat)(k:Option Blk):(M.put nm k) x=if x=nm then k else M x:=rfl
def MS (x:Nat):ao.nil x=none:=rfl
mutual
def V.flat:V->Bool
 | .any | .bool _ | .bit _ _ | .int _ _ | .str _ | .nilp | .upt | .nils | .val _=>true
 | .agg cs=>flatL cs
 | .tup cs=>flatL cs
 | .gd _ v=>v.flat
 | .iface _ v=>v.flat
 | _=>false
def flatL:List V->Bool
 | []=>true
 | v::r=>v.flat&&flatL r
end
def mn {l:List V}(h:flatL l=true){i:Nat}{u:V}(hi:l[i]? = some u):u.flat=true:=by
 induction l generalizing i with
 | nil=>simp at hi
 | cons v r ih =>
  simp only[flatL,Bool.and_eq_true]at h
  cases i with
  | zero=>simp at hi;subst hi;exact h.1
  | succ i=>exact ih h.2 (by simpa using hi)
def Is.flat {ρ ρ':Names}{D D':Nat->Prop}{w w':World}{v:V}{cv:Value}(h:Is ρ D w v cv)(hp:v.flat=true):Is ρ' D' w' v cv:=by
 induction h with
 | any cv=>exact .any _
 | bool b=>exact .bool _
 | bit b ht hf=>exact .bit b ht hf
 | int k n=>exact .int _ _
 | str s=>exact .str _
 | nilp=>exact .nilp
 | upt p=>exact .upt p
 | ys0=>simp[V.flat]at hp
 | ys=>simp[V.flat]at hp
 | ptr h=>simp[V.flat]at hp
 | rp cv hd hb hc _ ih=>simp[V.flat]at hp
 | nils=>exact .nils
 | sl0 ht=>simp[V.flat]at hp
 | sl cv hc ht hd hb hr hx _ ih=>simp[V.flat]at hp
 | own0=>simp[V.flat]at hp
 | own h hl hc=>simp[V.flat]at hp
 | ownc0=>simp[V.flat]at hp
 | ownc h hl hc=>simp[V.flat]at hp
 | chan h=>simp[V.flat]at hp
 | mp h=>simp[V.flat]at hp
 | fn hn _ ih=>simp[V.flat]at hp
 | fnb hn _ ih=>simp[V.flat]at hp
 | iface _ ih=>exact .iface (ih (by simpa [V.flat] using hp))
 | agg hn _ ih=>exact .agg hn (fun i u cv hi hc=>ih i u cv hi hc (mn (by simpa [V.flat] using hp) hi))
 | tup hn _ ih=>exact .tup hn (fun i u cv hi hc=>ih i u cv hi hc (mn (by simpa [V.flat] using hp) hi))
 | gd _ h0 ih=>exact .gd (fun hb=>ih hb (by simpa [V.flat] using hp)) h0
 | val v=>exact .val _
def Ev.view {cx:Cx}{f:FuncId}{nm:Nat}{args:List V}{M:ao}{v:V}(h:Ev cx f nm (finL [] M args) ao.nil v [])(hok:finLOk [] M args)(hv:v.flat=true):Ev cx f nm args M v []:=by
  refine⟨h.1,fun X w ρ cargs B hr hfresh hB hn hargs=>?_⟩
  have hdom:∀ b,bP X ρ ao.nil b->bP X ρ M b:=by
    rintro b (hx|⟨nm,l,h1,_⟩)
    · exact .inl hx
    · simp[ao.nil]at h1
  have hr0:Rel cx.G X w (cG ρ ao.nil) ρ ao.nil w :=
    { size:=Nat.le_refl _,os:=rfl,tape:=rfl,output:=rfl,old:=fun _ _ _=>rfl
      live:=fun nm k hk=>by simp[ao.nil]at hk
      inj:=fun nm nm' l l' h1=>by simp[ao.nil]at h1
      hX:=fun b hb=>⟨(hr.hX b hb).1,by rintro ⟨nm,q,h1,_⟩;simp[ao.nil]at h1⟩
      glob:=fun g=>(hr.glob g).step (fun _ _ h=>h) (Nat.le_refl _) (fun _ _ _=>rfl) (fun b _ hb=>hdom b hb) }
  refine(h.2 X w ρ cargs B hr0 hfresh (fun x hx=>⟨rfl,(hB x hx).2⟩) (by rw[cY];exact hn) ?_).mono ?_
  · intro i u cv hi hc
    rw[fg]at hi
    obtain⟨u',h1,rfl⟩:=Option.map_eq_some_iff.1 hi
    refine ni (cx:=cx) hr (fun nm y hy=>by simp[aS]at hy) hdom (fun nm l _ hM hl=>?_) (hargs i u' cv h1 hc) (dE hok h1)
    rintro (hx|⟨nm',q,h2,_⟩)
    · exact(hr.block_lt hM hl).2.1 hx
    · simp[ao.nil]at h2
  · rintro e' w' ⟨cv,rfl,ρ',r,m,hvv,hn'⟩
    have hkept:∀ b,b<w.heap.size->w'.heap[b]? = w.heap[b]?:=fun b hb=>m.kept b hb (fun nm l h1=>by simp[ao.nil]at h1)
    have mv:Moves ρ M w ρ M w':=⟨fun _ _ h=>h,m.size,m.os,m.tape,m.output,fun b hb _=>hkept b hb,fun nm l h1 h2 _=>⟨nm,l,h1,h2,rfl⟩⟩
    refine⟨cv,rfl,ρ,?_,mv,hvv.flat hv,fun _ _=>rfl⟩
    exact hr.move mv hr.inj (fun nm k hk=>.inl ⟨hk,id,fun l hl=>hkept l.b (hr.block_lt (by rw[show M nm=some k from hk];rfl) hl).1⟩)
section
variable {cx:Cx} {Q:Post} {st:List Frm} {nm:Nat} {e:Env} {M:ao}
def CP {d:Bool}{fs:List (List Nat)}{ops:List Oper}{dst:Option Tmp}{g:FuncId}{args:Array Operand}{ats:Array TypeId}{t:TypeId}{pos:String}{af:Array Edge}{r:List Oper}{i:Nat}{as as':List V}
  (l:List Nat) (has:args.toList.map (ax cx.G true e)=as) (has':finL [] (M.only l) as=as') (hok:finLOk [] (M.only l) as) {v:V} (hv:v.flat=true) (hev:Ev cx g (nm+16*i) as' ao.nil v []) (h:aG cx Q st nm (e.putD dst v) M d (fs++[l]) ops r (i+1)):ig cx Q st nm e M d fs ops ⟨dst,.call ⟨.value (.func g),args,ats⟩,t,pos,af,none⟩ r i :=
 aB has l (Ev.view (by rw[has'];exact hev) hok hv) (fun x hx=>by simp[ak]at hx) (by simpa [ak,ao.app] using h)
def ay {d:Bool}{fs:List (List Nat)}{ops:List Oper}{dst:Option Tmp}{g:FuncId}{args:Array Operand}{ats:Array TypeId}{t:TypeId}{pos:String}{af:Array Edge}{r:List Oper}{i:Nat}{as:List V}
  (has:args.toList.map (ax cx.G true e)=as) {v:V} {eff:List (Nat×Option Blk)} (hev:Ev cx g (nm+16*i) as ao.nil v eff) (he:∀ x∈ak eff,nm+16*i<=x/\x<nm+16*i+16)
  (h:aG cx Q st nm (e.putD dst v) (M.app eff) d (fs++[ak eff]) ops r (i+1)):ig cx Q st nm e M d fs ops ⟨dst,.call ⟨.value (.func g),args,ats⟩,t,pos,af,none⟩ r i :=
 aB has [] (by rw[ao.only_nil];exact hev) (fun x hx=>.inr (he x hx)) (by simpa using h)
def zN {d:Bool}{fs:List (List Nat)}{ops:List Oper}{c:Bool}{dst:Option Tmp}{g:FuncId}{args:Array Operand}{ats:Array TypeId}{t:TypeId}{pos:String}{af:Array Edge}{gd:Option (Nat×Bool)}{r:List Oper}{i:Nat}{as as':List V}
  (l:List Nat) (has:args.toList.map (ax cx.G c e)=as) (has':c=true->finL [] (M.only l) as=as') (hok:c=true->finLOk [] (M.only l) as) {v:V} (hv:v.flat=true) (hev:c=true->Ev cx g (nm+16*i) as' ao.nil v []) (h:aG cx Q st nm (e.putD dst (.gd c v)) M d (fs++[l]) ops r (i+1)):eA cx Q st nm e M d fs c ops ⟨dst,.call ⟨.value (.func g),args,ats⟩,t,pos,af,gd⟩ r i:=by
 subst has
 unfold eA iE
 refine .inl ?_
 simp only[ax,V.tgt,List.nil_append,List.append_nil]
 exact⟨l,v,fun hc=>Ev.view (by rw[has' hc];exact hev hc) (hok hc) hv,h⟩
end
def mX (b0:Nat)(M:ao):List (Nat×Nat)->Prop
 | []=>True
 |(x,j)::r=>(j<16/\b0<=x/\(M x).isSome=true/\J4 M x=true/\plainLL (bE M x)=true)/\(∀ p∈r,p.1≠x/\p.2≠j)/\mX b0 M r
def HH (nm:Nat)(M:ao)(σ:List (Nat×Nat)):List (Nat×Option Blk):=σ.map (fun p=>(nm+p.2,M p.1))
def oY (nm:Nat)(σ:List (Nat×Nat)):List (Nat×Nat):=σ.map (fun p=>(p.1,nm+p.2))
def ED {b0:Nat}{M:ao}{σ:List (Nat×Nat)}(h:mX b0 M σ):∀ p∈σ,p.2<16/\b0<=p.1/\(M p.1).isSome=true/\J4 M p.1=true/\plainLL (bE M p.1)=true:=by
 induction σ with
 | nil=>intro p hp;cases hp
 | cons q r ih =>
  intro p hp
  simp only[mX]at h
  rcases List.mem_cons.1 hp with rfl|hp
  ·exact h.1
  ·exact ih h.2.2 p hp
def qA {b0:Nat}{M:ao}(nm:Nat){σ:List (Nat×Nat)}(h:mX b0 M σ):((oY nm σ).map (·.1)).Nodup/\((oY nm σ).map (·.2)).Nodup:=by
 induction σ with
 | nil=>exact⟨List.nodup_nil,List.nodup_nil⟩
 | cons q r ih =>
  simp only[mX]at h
  obtain⟨a,b⟩:=ih h.2.2
  refine⟨List.nodup_cons.2 ⟨?_,a⟩,List.nodup_cons.2 ⟨?_,b⟩⟩
  ·intro hm
   simp only[oY,List.map_map,List.mem_map,Function.comp_apply]at hm
   obtain⟨p,hp,he⟩:=hm
   exact(h.2.1 p hp).1 he
  ·intro hm
   simp only[oY,List.map_map,List.mem_map,Function.comp_apply]at hm
   obtain⟨p,hp,he⟩:=hm
   exact(h.2.1 p hp).2 (by omega)
def Fin.own {cx:Cx}{N:Nat}{rs:List ResultVar}{nm:Nat}{v:V}{eff:List (Nat×Option Blk)}{b0 n:Nat}{e:Env}{M:ao}(gs:List Nat)(σ:List (Nat×Nat))(h1:kX cx.P N rs e (M.ghosts n gs))(h2:(li cx.P rs e (M.ghosts n gs)).finOk (oY nm σ) (M.ghosts n gs))(h3:((li cx.P rs e (M.ghosts n gs)).fin (oY nm σ) (M.ghosts n gs)).le v)(h4:HH nm (M.ghosts n gs) σ=eff)(h5:mX b0 (M.ghosts n gs) σ):tK cx N rs nm ao.nil v eff b0 n e M:=by
 refine⟨gs,Fin.two ⟨h1,oY nm σ,h2,h3,?_,(qA nm h5).1,(qA nm h5).2,?_,fun x hx=>by simp[ao.nil]at hx⟩⟩
 ·rw[<- h4];simp[HH,oY]
 ·intro p hp
  simp only[oY,List.mem_map]at hp
  obtain⟨q,hq,rfl⟩:=hp
  obtain⟨g1,g2,g3,g5,g4⟩:=ED h5 q hq
  refine⟨.inr ⟨⟨by simp,by simp;omega⟩,g2⟩,?_⟩
  obtain⟨k,hk⟩:=Option.isSome_iff_exists.1 g3
  refine⟨k,hk,?_,?_⟩
  ·simpa [J4,hk] using g5
  ·simpa [bE,hk] using g4
def ba {α β:Type}(f:α->β)(l:List α):(l.map f).take l.length=l.map f:=by rw[<- List.length_map (f:=f),List.take_length]
def An (M:ao)(n:Nat):M.ghosts n []=M:=rfl
def x7 (M:ao)(n s:Nat)(r:List Nat):M.ghosts n (s::r)=(M.put n (some ⟨s,[]⟩)).ghosts (n+1) r:=rfl
def dT (x:Nat):aS [] x=none:=rfl
def eV (y z x:Nat)(r:List (Nat×Nat)):aS ((y,z)::r) x=if y=x then some z else aS r x:=by
 unfold aS
 rw[List.find?_cons]
 by_cases h:y=x
 ·subst h;simp
 ·have hb:(y==x)=false:=by simpa using h
  simp only[hb,h,if_false]
def kB (M:ao)(l:List Nat)(x:Nat):(M.only l) x=if x∈l then M x else none:=rfl
def ce {α:Type}(f:α->List V)(h:∀ a,plainL (f a)=true)(l:List α):plainLL (l.map f)=true:=by
 rw[c9,List.all_eq_true]
 intro x hx
 obtain⟨a,_,rfl⟩:=List.mem_map.1 hx
 exact h a
def qt {a b:Nat}(h:a<b):(a=b)=False:=eq_false (by omega)
def lR {a b:Nat}(h:a<b):(b=a)=False:=eq_false (by omega)
def fM {a b:Nat}(h:a<b)(c:Nat):(a=b+c)=False:=eq_false (by omega)
def eK {a b:Nat}(h:a<b)(c:Nat):(b+c=a)=False:=eq_false (by omega)
def K6 {n:Int}(h1:-9223372036854775808<=n)(h2:n<=9223372036854775807):IntKind.i64.wrap n=n:=IntWalk.i64_in _ ⟨h1,h2⟩
def bH {n:Int}(h1:-9223372036854775808<=n:=by omega)(h2:n<=9223372036854775807:=by omega):IntKind.i64.wrap n=n:=K6 h1 h2
def dh {p:Prop}[Decidable p](h:p:=by omega):decide p=true:=decide_eq_true h
def bi {p:Prop}[Decidable p](h:¬p:=by omega):decide p=false:=decide_eq_false h
def P0 {b n nm:Nat}(h:b+n<=nm)(h0:0<n):(∀ c,(b=nm+c)=False)/\(b=nm)=False/\(∀ j c,j<n->(b+j=nm+c)=False) /\ ∀ j,j<n->(b+j=nm)=False :=
 ⟨fun c=>eq_false (by omega),eq_false (by omega),fun j c hj=>eq_false (by omega),fun j hj=>eq_false (by omega)⟩
section
variable {cx:Cx} {Q:Post} {st:List Frm} {nm:Nat} {e:Env} {M:ao}
end
section
variable (cx:Cx) (Q:Post) (st:List Frm) (nm:Nat) (e:Env) (M:ao)
variable (d:Bool) (fs:List (List Nat)) (ops:List Oper) (dst:Option Tmp) (t:TypeId) (pos:String) (af:Array Edge) (r:List Oper) (i:Nat)
def Aq (x:Operand):aG cx Q st nm e M d fs ops (⟨dst,.move x,t,pos,af,none⟩::r) i=(bJ cx true e M ⟨dst,.move x,t,pos,af,none⟩ /\
  aG cx Q st nm (e.putD dst (dU cx true e M (nm+16*i) ⟨dst,.move x,t,pos,af,none⟩)) (M.app (e9 cx true e M (nm+16*i) ⟨dst,.move x,t,pos,af,none⟩)) d (fs++[gQ cx true e (nm+16*i) ⟨dst,.move x,t,pos,af,none⟩]) ops r (i+1)):=propext Iff.rfl
def wr (x:Operand):aG cx Q st nm e M d fs ops (⟨dst,.assign x,t,pos,af,none⟩::r) i=(bJ cx true e M ⟨dst,.assign x,t,pos,af,none⟩ /\
  aG cx Q st nm (e.putD dst (dU cx true e M (nm+16*i) ⟨dst,.assign x,t,pos,af,none⟩)) (M.app (e9 cx true e M (nm+16*i) ⟨dst,.assign x,t,pos,af,none⟩)) d (fs++[gQ cx true e (nm+16*i) ⟨dst,.assign x,t,pos,af,none⟩]) ops r (i+1)):=propext Iff.rfl
def sw (x:Operand):aG cx Q st nm e M d fs ops (⟨dst,.nilCheck x,t,pos,af,none⟩::r) i=(bJ cx true e M ⟨dst,.nilCheck x,t,pos,af,none⟩ /\
  aG cx Q st nm (e.putD dst (dU cx true e M (nm+16*i) ⟨dst,.nilCheck x,t,pos,af,none⟩)) (M.app (e9 cx true e M (nm+16*i) ⟨dst,.nilCheck x,t,pos,af,none⟩)) d (fs++[gQ cx true e (nm+16*i) ⟨dst,.nilCheck x,t,pos,af,none⟩]) ops r (i+1)):=propext Iff.rfl
def As (x y z:Operand):aG cx Q st nm e M d fs ops (⟨dst,.pick x y z,t,pos,af,none⟩::r) i=(bJ cx true e M ⟨dst,.pick x y z,t,pos,af,none⟩ /\
  aG cx Q st nm (e.putD dst (dU cx true e M (nm+16*i) ⟨dst,.pick x y z,t,pos,af,none⟩)) (M.app (e9 cx true e M (nm+16*i) ⟨dst,.pick x y z,t,pos,af,none⟩)) d (fs++[gQ cx true e (nm+16*i) ⟨dst,.pick x y z,t,pos,af,none⟩]) ops r (i+1)):=propext Iff.rfl
def yh (ty:TypeId)(ps:Array (Nat×Operand)):aG cx Q st nm e M d fs ops (⟨dst,.build ty ps,t,pos,af,none⟩::r) i=(bJ cx true e M ⟨dst,.build ty ps,t,pos,af,none⟩ /\
  aG cx Q st nm (e.putD dst (dU cx true e M (nm+16*i) ⟨dst,.build ty ps,t,pos,af,none⟩)) (M.app (e9 cx true e M (nm+16*i) ⟨dst,.build ty ps,t,pos,af,none⟩)) d (fs++[gQ cx true e (nm+16*i) ⟨dst,.build ty ps,t,pos,af,none⟩]) ops r (i+1)):=propext Iff.rfl
def Ap (ty:TypeId)(x:Operand):aG cx Q st nm e M d fs ops (⟨dst,.load ty x,t,pos,af,none⟩::r) i=(bJ cx true e M ⟨dst,.load ty x,t,pos,af,none⟩ /\
  aG cx Q st nm (e.putD dst (dU cx true e M (nm+16*i) ⟨dst,.load ty x,t,pos,af,none⟩)) (M.app (e9 cx true e M (nm+16*i) ⟨dst,.load ty x,t,pos,af,none⟩)) d (fs++[gQ cx true e (nm+16*i) ⟨dst,.load ty x,t,pos,af,none⟩]) ops r (i+1)):=propext Iff.rfl
def yg (o:BinOp)(ty:TypeId)(x y:Operand)(yt:TypeId):aG cx Q st nm e M d fs ops (⟨dst,.binOp o ty x y yt,t,pos,af,none⟩::r) i=(bJ cx true e M ⟨dst,.binOp o ty x y yt,t,pos,af,none⟩ /\
  aG cx Q st nm (e.putD dst (dU cx true e M (nm+16*i) ⟨dst,.binOp o ty x y yt,t,pos,af,none⟩)) (M.app (e9 cx true e M (nm+16*i) ⟨dst,.binOp o ty x y yt,t,pos,af,none⟩)) d (fs++[gQ cx true e (nm+16*i) ⟨dst,.binOp o ty x y yt,t,pos,af,none⟩]) ops r (i+1)):=propext Iff.rfl
def Au (o:UnOp)(ty:TypeId)(x:Operand):aG cx Q st nm e M d fs ops (⟨dst,.unOp o ty x,t,pos,af,none⟩::r) i=(bJ cx true e M ⟨dst,.unOp o ty x,t,pos,af,none⟩ /\
  aG cx Q st nm (e.putD dst (dU cx true e M (nm+16*i) ⟨dst,.unOp o ty x,t,pos,af,none⟩)) (M.app (e9 cx true e M (nm+16*i) ⟨dst,.unOp o ty x,t,pos,af,none⟩)) d (fs++[gQ cx true e (nm+16*i) ⟨dst,.unOp o ty x,t,pos,af,none⟩]) ops r (i+1)):=propext Iff.rfl
def qK (ty:TypeId)(x:Operand)(f:Nat):aG cx Q st nm e M d fs ops (⟨dst,.fieldAddr ty x f,t,pos,af,none⟩::r) i=(bJ cx true e M ⟨dst,.fieldAddr ty x f,t,pos,af,none⟩ /\
  aG cx Q st nm (e.putD dst (dU cx true e M (nm+16*i) ⟨dst,.fieldAddr ty x f,t,pos,af,none⟩)) (M.app (e9 cx true e M (nm+16*i) ⟨dst,.fieldAddr ty x f,t,pos,af,none⟩)) d (fs++[gQ cx true e (nm+16*i) ⟨dst,.fieldAddr ty x f,t,pos,af,none⟩]) ops r (i+1)):=propext Iff.rfl
def qL (ty:TypeId)(x k:Operand):aG cx Q st nm e M d fs ops (⟨dst,.indexAddr ty x k,t,pos,af,none⟩::r) i=(bJ cx true e M ⟨dst,.indexAddr ty x k,t,pos,af,none⟩ /\
  aG cx Q st nm (e.putD dst (dU cx true e M (nm+16*i) ⟨dst,.indexAddr ty x k,t,pos,af,none⟩)) (M.app (e9 cx true e M (nm+16*i) ⟨dst,.indexAddr ty x k,t,pos,af,none⟩)) d (fs++[gQ cx true e (nm+16*i) ⟨dst,.indexAddr ty x k,t,pos,af,none⟩]) ops r (i+1)):=propext Iff.rfl
def yj (ty:TypeId)(x k:Operand):aG cx Q st nm e M d fs ops (⟨dst,.index ty x k,t,pos,af,none⟩::r) i=(bJ cx true e M ⟨dst,.index ty x k,t,pos,af,none⟩ /\
  aG cx Q st nm (e.putD dst (dU cx true e M (nm+16*i) ⟨dst,.index ty x k,t,pos,af,none⟩)) (M.app (e9 cx true e M (nm+16*i) ⟨dst,.index ty x k,t,pos,af,none⟩)) d (fs++[gQ cx true e (nm+16*i) ⟨dst,.index ty x k,t,pos,af,none⟩]) ops r (i+1)):=propext Iff.rfl
def ug (x:Operand)(k:Nat):aG cx Q st nm e M d fs ops (⟨dst,.extract x k,t,pos,af,none⟩::r) i=(bJ cx true e M ⟨dst,.extract x k,t,pos,af,none⟩ /\
  aG cx Q st nm (e.putD dst (dU cx true e M (nm+16*i) ⟨dst,.extract x k,t,pos,af,none⟩)) (M.app (e9 cx true e M (nm+16*i) ⟨dst,.extract x k,t,pos,af,none⟩)) d (fs++[gQ cx true e (nm+16*i) ⟨dst,.extract x k,t,pos,af,none⟩]) ops r (i+1)):=propext Iff.rfl
def sv (f:FuncId)(a c:Array Operand):aG cx Q st nm e M d fs ops (⟨dst,.makeFunc (.func f) a c,t,pos,af,none⟩::r) i=(bJ cx true e M ⟨dst,.makeFunc (.func f) a c,t,pos,af,none⟩ /\
  aG cx Q st nm (e.putD dst (dU cx true e M (nm+16*i) ⟨dst,.makeFunc (.func f) a c,t,pos,af,none⟩)) (M.app (e9 cx true e M (nm+16*i) ⟨dst,.makeFunc (.func f) a c,t,pos,af,none⟩)) d (fs++[gQ cx true e (nm+16*i) ⟨dst,.makeFunc (.func f) a c,t,pos,af,none⟩]) ops r (i+1)):=propext Iff.rfl
def Du (as:Array Operand)(ts:Array TypeId):aG cx Q st nm e M d fs ops (⟨dst,.call ⟨.builtin .len,as,ts⟩,t,pos,af,none⟩::r) i=(bJ cx true e M ⟨dst,.call ⟨.builtin .len,as,ts⟩,t,pos,af,none⟩ /\
  aG cx Q st nm (e.putD dst (dU cx true e M (nm+16*i) ⟨dst,.call ⟨.builtin .len,as,ts⟩,t,pos,af,none⟩)) (M.app (e9 cx true e M (nm+16*i) ⟨dst,.call ⟨.builtin .len,as,ts⟩,t,pos,af,none⟩)) d (fs++[gQ cx true e (nm+16*i) ⟨dst,.call ⟨.builtin .len,as,ts⟩,t,pos,af,none⟩]) ops r (i+1)):=propext Iff.rfl
def Dv (as:Array Operand)(ts:Array TypeId):aG cx Q st nm e M d fs ops (⟨dst,.call ⟨.builtin .max,as,ts⟩,t,pos,af,none⟩::r) i=(bJ cx true e M ⟨dst,.call ⟨.builtin .max,as,ts⟩,t,pos,af,none⟩ /\
  aG cx Q st nm (e.putD dst (dU cx true e M (nm+16*i) ⟨dst,.call ⟨.builtin .max,as,ts⟩,t,pos,af,none⟩)) (M.app (e9 cx true e M (nm+16*i) ⟨dst,.call ⟨.builtin .max,as,ts⟩,t,pos,af,none⟩)) d (fs++[gQ cx true e (nm+16*i) ⟨dst,.call ⟨.builtin .max,as,ts⟩,t,pos,af,none⟩]) ops r (i+1)):=propext Iff.rfl
def Dw (as:Array Operand)(ts:Array TypeId):aG cx Q st nm e M d fs ops (⟨dst,.call ⟨.builtin .min,as,ts⟩,t,pos,af,none⟩::r) i=(bJ cx true e M ⟨dst,.call ⟨.builtin .min,as,ts⟩,t,pos,af,none⟩ /\
  aG cx Q st nm (e.putD dst (dU cx true e M (nm+16*i) ⟨dst,.call ⟨.builtin .min,as,ts⟩,t,pos,af,none⟩)) (M.app (e9 cx true e M (nm+16*i) ⟨dst,.call ⟨.builtin .min,as,ts⟩,t,pos,af,none⟩)) d (fs++[gQ cx true e (nm+16*i) ⟨dst,.call ⟨.builtin .min,as,ts⟩,t,pos,af,none⟩]) ops r (i+1)):=propext Iff.rfl
def yf (ty:TypeId):aG cx Q st nm e M d fs ops (⟨dst,.alloc ty,t,pos,af,none⟩::r) i=(bJ cx true e M ⟨dst,.alloc ty,t,pos,af,none⟩ /\
  aG cx Q st nm (e.putD dst (dU cx true e M (nm+16*i) ⟨dst,.alloc ty,t,pos,af,none⟩)) (M.app (e9 cx true e M (nm+16*i) ⟨dst,.alloc ty,t,pos,af,none⟩)) d (fs++[gQ cx true e (nm+16*i) ⟨dst,.alloc ty,t,pos,af,none⟩]) ops r (i+1)):=propext Iff.rfl
def Dt (ty:TypeId)(x:Operand):aG cx Q st nm e M d fs ops (⟨dst,.box ty x,t,pos,af,none⟩::r) i=(bJ cx true e M ⟨dst,.box ty x,t,pos,af,none⟩ /\
  aG cx Q st nm (e.putD dst (dU cx true e M (nm+16*i) ⟨dst,.box ty x,t,pos,af,none⟩)) (M.app (e9 cx true e M (nm+16*i) ⟨dst,.box ty x,t,pos,af,none⟩)) d (fs++[gQ cx true e (nm+16*i) ⟨dst,.box ty x,t,pos,af,none⟩]) ops r (i+1)):=propext Iff.rfl
def pE (ty:TypeId)(n:Nat)(ps:Array (Nat×Operand)):aG cx Q st nm e M d fs ops (⟨dst,.buildSlice ty n ps,t,pos,af,none⟩::r) i=(bJ cx true e M ⟨dst,.buildSlice ty n ps,t,pos,af,none⟩ /\
  aG cx Q st nm (e.putD dst (dU cx true e M (nm+16*i) ⟨dst,.buildSlice ty n ps,t,pos,af,none⟩)) (M.app (e9 cx true e M (nm+16*i) ⟨dst,.buildSlice ty n ps,t,pos,af,none⟩)) d (fs++[gQ cx true e (nm+16*i) ⟨dst,.buildSlice ty n ps,t,pos,af,none⟩]) ops r (i+1)):=propext Iff.rfl
def ym (ty:TypeId)(x v:Operand):aG cx Q st nm e M d fs ops (⟨dst,.store ty x v,t,pos,af,none⟩::r) i=(bJ cx true e M ⟨dst,.store ty x v,t,pos,af,none⟩ /\
  aG cx Q st nm (e.putD dst (dU cx true e M (nm+16*i) ⟨dst,.store ty x v,t,pos,af,none⟩)) (M.app (e9 cx true e M (nm+16*i) ⟨dst,.store ty x v,t,pos,af,none⟩)) d (fs++[gQ cx true e (nm+16*i) ⟨dst,.store ty x v,t,pos,af,none⟩]) ops r (i+1)):=propext Iff.rfl
def wq (as:Array Operand)(ts:Array TypeId):aG cx Q st nm e M d fs ops (⟨dst,.call ⟨.builtin .append,as,ts⟩,t,pos,af,none⟩::r) i=(bJ cx true e M ⟨dst,.call ⟨.builtin .append,as,ts⟩,t,pos,af,none⟩ /\
  aG cx Q st nm (e.putD dst (dU cx true e M (nm+16*i) ⟨dst,.call ⟨.builtin .append,as,ts⟩,t,pos,af,none⟩)) (M.app (e9 cx true e M (nm+16*i) ⟨dst,.call ⟨.builtin .append,as,ts⟩,t,pos,af,none⟩)) d (fs++[gQ cx true e (nm+16*i) ⟨dst,.call ⟨.builtin .append,as,ts⟩,t,pos,af,none⟩]) ops r (i+1)):=propext Iff.rfl
def wm (b want:Bool)(x:Operand)(gd:Option (Nat×Bool)):bL cx Q st nm e M d fs (.bool b) want ops ⟨dst,.move x,t,pos,af,gd⟩ r i=(((b==want)=true->bJ cx (b==want) e M ⟨dst,.move x,t,pos,af,gd⟩) /\
  aG cx Q st nm (e.putD dst (.gd (b==want) (dU cx (b==want) e M (nm+16*i) ⟨dst,.move x,t,pos,af,gd⟩))) M d (fs++[gQ cx (b==want) e (nm+16*i) ⟨dst,.move x,t,pos,af,gd⟩]) ops r (i+1)):=propext Iff.rfl
def wn (b want:Bool)(x y z:Operand)(gd:Option (Nat×Bool)):bL cx Q st nm e M d fs (.bool b) want ops ⟨dst,.pick x y z,t,pos,af,gd⟩ r i=(((b==want)=true->bJ cx (b==want) e M ⟨dst,.pick x y z,t,pos,af,gd⟩) /\
  aG cx Q st nm (e.putD dst (.gd (b==want) (dU cx (b==want) e M (nm+16*i) ⟨dst,.pick x y z,t,pos,af,gd⟩))) M d (fs++[gQ cx (b==want) e (nm+16*i) ⟨dst,.pick x y z,t,pos,af,gd⟩]) ops r (i+1)):=propext Iff.rfl
def wl (b want:Bool)(ty:TypeId)(x:Operand)(gd:Option (Nat×Bool)):bL cx Q st nm e M d fs (.bool b) want ops ⟨dst,.load ty x,t,pos,af,gd⟩ r i=(((b==want)=true->bJ cx (b==want) e M ⟨dst,.load ty x,t,pos,af,gd⟩) /\
  aG cx Q st nm (e.putD dst (.gd (b==want) (dU cx (b==want) e M (nm+16*i) ⟨dst,.load ty x,t,pos,af,gd⟩))) M d (fs++[gQ cx (b==want) e (nm+16*i) ⟨dst,.load ty x,t,pos,af,gd⟩]) ops r (i+1)):=propext Iff.rfl
def uc (b want:Bool)(o:BinOp)(ty:TypeId)(x y:Operand)(yt:TypeId)(gd:Option (Nat×Bool)):bL cx Q st nm e M d fs (.bool b) want ops ⟨dst,.binOp o ty x y yt,t,pos,af,gd⟩ r i=(((b==want)=true->bJ cx (b==want) e M ⟨dst,.binOp o ty x y yt,t,pos,af,gd⟩) /\
  aG cx Q st nm (e.putD dst (.gd (b==want) (dU cx (b==want) e M (nm+16*i) ⟨dst,.binOp o ty x y yt,t,pos,af,gd⟩))) M d (fs++[gQ cx (b==want) e (nm+16*i) ⟨dst,.binOp o ty x y yt,t,pos,af,gd⟩]) ops r (i+1)):=propext Iff.rfl
def wo (b want:Bool)(o:UnOp)(ty:TypeId)(x:Operand)(gd:Option (Nat×Bool)):bL cx Q st nm e M d fs (.bool b) want ops ⟨dst,.unOp o ty x,t,pos,af,gd⟩ r i=(((b==want)=true->bJ cx (b==want) e M ⟨dst,.unOp o ty x,t,pos,af,gd⟩) /\
  aG cx Q st nm (e.putD dst (.gd (b==want) (dU cx (b==want) e M (nm+16*i) ⟨dst,.unOp o ty x,t,pos,af,gd⟩))) M d (fs++[gQ cx (b==want) e (nm+16*i) ⟨dst,.unOp o ty x,t,pos,af,gd⟩]) ops r (i+1)):=propext Iff.rfl
def ov (b want:Bool)(ty:TypeId)(x:Operand)(f:Nat)(gd:Option (Nat×Bool)):bL cx Q st nm e M d fs (.bool b) want ops ⟨dst,.fieldAddr ty x f,t,pos,af,gd⟩ r i=(((b==want)=true->bJ cx (b==want) e M ⟨dst,.fieldAddr ty x f,t,pos,af,gd⟩) /\
  aG cx Q st nm (e.putD dst (.gd (b==want) (dU cx (b==want) e M (nm+16*i) ⟨dst,.fieldAddr ty x f,t,pos,af,gd⟩))) M d (fs++[gQ cx (b==want) e (nm+16*i) ⟨dst,.fieldAddr ty x f,t,pos,af,gd⟩]) ops r (i+1)):=propext Iff.rfl
def ow (b want:Bool)(ty:TypeId)(x k:Operand)(gd:Option (Nat×Bool)):bL cx Q st nm e M d fs (.bool b) want ops ⟨dst,.indexAddr ty x k,t,pos,af,gd⟩ r i=(((b==want)=true->bJ cx (b==want) e M ⟨dst,.indexAddr ty x k,t,pos,af,gd⟩) /\
  aG cx Q st nm (e.putD dst (.gd (b==want) (dU cx (b==want) e M (nm+16*i) ⟨dst,.indexAddr ty x k,t,pos,af,gd⟩))) M d (fs++[gQ cx (b==want) e (nm+16*i) ⟨dst,.indexAddr ty x k,t,pos,af,gd⟩]) ops r (i+1)):=propext Iff.rfl
def ud (b want:Bool)(ty:TypeId)(x k:Operand)(gd:Option (Nat×Bool)):bL cx Q st nm e M d fs (.bool b) want ops ⟨dst,.index ty x k,t,pos,af,gd⟩ r i=(((b==want)=true->bJ cx (b==want) e M ⟨dst,.index ty x k,t,pos,af,gd⟩) /\
  aG cx Q st nm (e.putD dst (.gd (b==want) (dU cx (b==want) e M (nm+16*i) ⟨dst,.index ty x k,t,pos,af,gd⟩))) M d (fs++[gQ cx (b==want) e (nm+16*i) ⟨dst,.index ty x k,t,pos,af,gd⟩]) ops r (i+1)):=propext Iff.rfl
def yb (b want:Bool)(as:Array Operand)(ts:Array TypeId)(gd:Option (Nat×Bool)):bL cx Q st nm e M d fs (.bool b) want ops ⟨dst,.call ⟨.builtin .len,as,ts⟩,t,pos,af,gd⟩ r i=(((b==want)=true->bJ cx (b==want) e M ⟨dst,.call ⟨.builtin .len,as,ts⟩,t,pos,af,gd⟩) /\
  aG cx Q st nm (e.putD dst (.gd (b==want) (dU cx (b==want) e M (nm+16*i) ⟨dst,.call ⟨.builtin .len,as,ts⟩,t,pos,af,gd⟩))) M d (fs++[gQ cx (b==want) e (nm+16*i) ⟨dst,.call ⟨.builtin .len,as,ts⟩,t,pos,af,gd⟩]) ops r (i+1)):=propext Iff.rfl
def yc (b want:Bool)(as:Array Operand)(ts:Array TypeId)(gd:Option (Nat×Bool)):bL cx Q st nm e M d fs (.bool b) want ops ⟨dst,.call ⟨.builtin .max,as,ts⟩,t,pos,af,gd⟩ r i=(((b==want)=true->bJ cx (b==want) e M ⟨dst,.call ⟨.builtin .max,as,ts⟩,t,pos,af,gd⟩) /\
  aG cx Q st nm (e.putD dst (.gd (b==want) (dU cx (b==want) e M (nm+16*i) ⟨dst,.call ⟨.builtin .max,as,ts⟩,t,pos,af,gd⟩))) M d (fs++[gQ cx (b==want) e (nm+16*i) ⟨dst,.call ⟨.builtin .max,as,ts⟩,t,pos,af,gd⟩]) ops r (i+1)):=propext Iff.rfl
def yd (b want:Bool)(as:Array Operand)(ts:Array TypeId)(gd:Option (Nat×Bool)):bL cx Q st nm e M d fs (.bool b) want ops ⟨dst,.call ⟨.builtin .min,as,ts⟩,t,pos,af,gd⟩ r i=(((b==want)=true->bJ cx (b==want) e M ⟨dst,.call ⟨.builtin .min,as,ts⟩,t,pos,af,gd⟩) /\
  aG cx Q st nm (e.putD dst (.gd (b==want) (dU cx (b==want) e M (nm+16*i) ⟨dst,.call ⟨.builtin .min,as,ts⟩,t,pos,af,gd⟩))) M d (fs++[gQ cx (b==want) e (nm+16*i) ⟨dst,.call ⟨.builtin .min,as,ts⟩,t,pos,af,gd⟩]) ops r (i+1)):=propext Iff.rfl
def nq (b want:Bool)(ty:TypeId)(n:Nat)(ps:Array (Nat×Operand))(gd:Option (Nat×Bool)):bL cx Q st nm e M d fs (.bool b) want ops ⟨dst,.buildSlice ty n ps,t,pos,af,gd⟩ r i=(((b==want)=true->bJ cx true e M ⟨dst,.buildSlice ty n ps,t,pos,af,gd⟩ /\
  aG cx Q st nm (e.putD dst (dU cx true e M (nm+16*i) ⟨dst,.buildSlice ty n ps,t,pos,af,gd⟩)) (M.app (e9 cx true e M (nm+16*i) ⟨dst,.buildSlice ty n ps,t,pos,af,gd⟩)) d (fs++[gQ cx true e (nm+16*i) ⟨dst,.buildSlice ty n ps,t,pos,af,gd⟩]) ops r (i+1))/\((b==want)=false->aG cx Q st nm (e.putD dst .any) M d (fs++[[]]) ops r (i+1))):=propext Iff.rfl
def qM (ty:TypeId)(x y:Operand):aG cx Q st nm e M d fs ops (⟨dst,.makeSlice ty x y,t,pos,af,none⟩::r) i=cM cx Q st nm e M d fs ops ⟨dst,.makeSlice ty x y,t,pos,af,none⟩ r i:=propext Iff.rfl
def uh (ty:TypeId)(x:Option Operand):aG cx Q st nm e M d fs ops (⟨dst,.makeMap ty x,t,pos,af,none⟩::r) i=cM cx Q st nm e M d fs ops ⟨dst,.makeMap ty x,t,pos,af,none⟩ r i:=propext Iff.rfl
def mM (ty:TypeId)(x:Operand):aG cx Q st nm e M d fs ops (⟨dst,.makeInterface ty x,t,pos,af,none⟩::r) i=cM cx Q st nm e M d fs ops ⟨dst,.makeInterface ty x,t,pos,af,none⟩ r i:=propext Iff.rfl
def pF (x:Operand)(ty ty2:TypeId)(ok:Bool):aG cx Q st nm e M d fs ops (⟨dst,.typeAssert x ty ty2 ok,t,pos,af,none⟩::r) i=cM cx Q st nm e M d fs ops ⟨dst,.typeAssert x ty ty2 ok,t,pos,af,none⟩ r i:=propext Iff.rfl
def wu (ty:TypeId)(x y:Operand)(ok:Bool):aG cx Q st nm e M d fs ops (⟨dst,.lookup ty x y ok,t,pos,af,none⟩::r) i=cM cx Q st nm e M d fs ops ⟨dst,.lookup ty x y ok,t,pos,af,none⟩ r i:=propext Iff.rfl
def qN (ty:TypeId)(x y z:Operand):aG cx Q st nm e M d fs ops (⟨dst,.mapUpdate ty x y z,t,pos,af,none⟩::r) i=cM cx Q st nm e M d fs ops ⟨dst,.mapUpdate ty x y z,t,pos,af,none⟩ r i:=propext Iff.rfl
def ws (ty:TypeId)(x y z:Operand):aG cx Q st nm e M d fs ops (⟨dst,.insert ty x y z,t,pos,af,none⟩::r) i=cM cx Q st nm e M d fs ops ⟨dst,.insert ty x y z,t,pos,af,none⟩ r i:=propext Iff.rfl
def yk (ty:TypeId)(x:Operand):aG cx Q st nm e M d fs ops (⟨dst,.range ty x,t,pos,af,none⟩::r) i=cM cx Q st nm e M d fs ops ⟨dst,.range ty x,t,pos,af,none⟩ r i:=propext Iff.rfl
def Ar (x:Operand)(s:Bool):aG cx Q st nm e M d fs ops (⟨dst,.next x s,t,pos,af,none⟩::r) i=cM cx Q st nm e M d fs ops ⟨dst,.next x s,t,pos,af,none⟩ r i:=propext Iff.rfl
def nt (as:Array Operand)(ts:Array TypeId):aG cx Q st nm e M d fs ops (⟨dst,.call ⟨.builtin .unsafeString,as,ts⟩,t,pos,af,none⟩::r) i=cM cx Q st nm e M d fs ops ⟨dst,.call ⟨.builtin .unsafeString,as,ts⟩,t,pos,af,none⟩ r i:=propext Iff.rfl
def ld (as:Array Operand)(ts:Array TypeId):aG cx Q st nm e M d fs ops (⟨dst,.call ⟨.builtin .unsafeSliceData,as,ts⟩,t,pos,af,none⟩::r) i=cM cx Q st nm e M d fs ops ⟨dst,.call ⟨.builtin .unsafeSliceData,as,ts⟩,t,pos,af,none⟩ r i:=propext Iff.rfl
def uf (ts td:TypeId)(x:Operand):aG cx Q st nm e M d fs ops (⟨dst,.convert ts td x,t,pos,af,none⟩::r) i=if gN (cx.P.underlying ts) (cx.P.underlying td)=true then cM cx Q st nm e M d fs ops ⟨dst,.convert ts td x,t,pos,af,none⟩ r i else (bJ cx true e M ⟨dst,.convert ts td x,t,pos,af,none⟩ /\
  aG cx Q st nm (e.putD dst (dU cx true e M (nm+16*i) ⟨dst,.convert ts td x,t,pos,af,none⟩)) M d (fs++[gQ cx true e (nm+16*i) ⟨dst,.convert ts td x,t,pos,af,none⟩]) ops r (i+1)):=by
 unfold aG cM
 simp only[cE,gc,iS,gx,Bool.false_eq_true,if_false]
 split<;>rfl
def qJ (b want:Bool)(ts td:TypeId)(x:Operand)(gd:Option (Nat×Bool)):bL cx Q st nm e M d fs (.bool b) want ops ⟨dst,.convert ts td x,t,pos,af,gd⟩ r i=if gN (cx.P.underlying ts) (cx.P.underlying td)=true then pD cx Q st nm e M d fs (b==want) ops ⟨dst,.convert ts td x,t,pos,af,gd⟩ r i else (((b==want)=true->bJ cx (b==want) e M ⟨dst,.convert ts td x,t,pos,af,gd⟩) /\
  aG cx Q st nm (e.putD dst (.gd (b==want) (dU cx (b==want) e M (nm+16*i) ⟨dst,.convert ts td x,t,pos,af,gd⟩))) M d (fs++[gQ cx (b==want) e (nm+16*i) ⟨dst,.convert ts td x,t,pos,af,gd⟩]) ops r (i+1)):=by
 unfold bL
 simp only[iR,gc,iS,mN,Bool.false_eq_true,if_false,if_true]
def xV (k:IntKind)(x:Option TypeDesc):gN (some (.int k)) x=false:=rfl
def se (k:IntKind)(x:Option TypeDesc):gN x (some (.int k))=false:=by rcases x with _|x<;>first|rfl|(cases x<;>rfl)
def Ad:gN (some .string) (some .string)=false:=rfl
def Ac (e:TypeId):gN (some .string) (some (.slice e))=true:=rfl
def Aa (e:TypeId):gN (some (.slice e)) (some .string)=true:=rfl
def Ab (e:TypeId):gN (some (.pointer e)) (some .unsafePointer)=true:=rfl
def Ae (e:TypeId):gN (some .unsafePointer) (some (.pointer e))=true:=rfl
def yl (ty:TypeId)(x:Operand)(l h m:Option Operand):aG cx Q st nm e M d fs ops (⟨dst,.slice ty x l h m,t,pos,af,none⟩::r) i=if CD (cx.P.underlying ty)=true then cM cx Q st nm e M d fs ops ⟨dst,.slice ty x l h m,t,pos,af,none⟩ r i else (bJ cx true e M ⟨dst,.slice ty x l h m,t,pos,af,none⟩ /\
  aG cx Q st nm (e.putD dst (dU cx true e M (nm+16*i) ⟨dst,.slice ty x l h m,t,pos,af,none⟩)) M d (fs++[gQ cx true e (nm+16*i) ⟨dst,.slice ty x l h m,t,pos,af,none⟩]) ops r (i+1)):=by
 unfold aG cM
 simp only[cE,gc,iS,gx,Bool.false_eq_true,if_false]
 split<;>rfl
def ue (b want:Bool)(ty:TypeId)(x:Operand)(l h m:Option Operand)(gd:Option (Nat×Bool)):bL cx Q st nm e M d fs (.bool b) want ops ⟨dst,.slice ty x l h m,t,pos,af,gd⟩ r i=if CD (cx.P.underlying ty)=true then pD cx Q st nm e M d fs (b==want) ops ⟨dst,.slice ty x l h m,t,pos,af,gd⟩ r i else (((b==want)=true->bJ cx (b==want) e M ⟨dst,.slice ty x l h m,t,pos,af,gd⟩) /\
  aG cx Q st nm (e.putD dst (.gd (b==want) (dU cx (b==want) e M (nm+16*i) ⟨dst,.slice ty x l h m,t,pos,af,gd⟩))) M d (fs++[gQ cx (b==want) e (nm+16*i) ⟨dst,.slice ty x l h m,t,pos,af,gd⟩]) ops r (i+1)):=by
 unfold bL
 simp only[iR,gc,iS,mN,Bool.false_eq_true,if_false,if_true]
def Fg:CD (some .string)=false:=rfl
def IF (e:TypeId):CD (some (.slice e))=false:=rfl
def Ff (n:Nat)(e:TypeId):CD (some (.array n e))=true:=rfl
def wh (d:Bool)(fs:List (List Nat))(b want:Bool)(ops:List Oper)(dst:Option Tmp)(f:Operand)(as:Array Operand)(ts:Array TypeId)(t:TypeId)(pos:String)(af:Array Edge)(r:List Oper)(i:Nat)(gd:Option (Nat×Bool)) :
  bL cx Q st nm e M d fs (.bool b) want ops ⟨dst,.call ⟨.value f,as,ts⟩,t,pos,af,gd⟩ r i=eA cx Q st nm e M d fs (b==want) ops ⟨dst,.call ⟨.value f,as,ts⟩,t,pos,af,gd⟩ r i:=propext Iff.rfl
end
end Go.Proofs.YtjonibipieofcaaGreatDoor.Vm
namespace Go.Proofs.YtjonibipieofcaaGreatDoor.Vm
open And renaming intro->Ai
open Go Go.RowKit
set_option linter.defProp false
def PP :=
 (Ai (Ai (Ai (Ai @Fg (Ai @IF @Ff)) (Ai @Ae (Ai @Ab @jc.eq_1))) (Ai (Ai @jc.eq_2 (Ai @jc.eq_3 @jc.eq_4)) (Ai @Blk.ty_typed (Ai @Blk.ty_plain @pj)))) (Ai (Ai (Ai @CN (Ai @zC.eq_1 @Aa)) (Ai @Ac (Ai @Ad @se))) @xV))
def PQ :=
 (Ai (Ai @ld @nt) (Ai (Ai @Ar @yk) @ws))
def PR :=
 (Ai (Ai (Ai @qN (Ai @wu @pF)) (Ai @mM @uh)) (Ai (Ai (Ai @qM @su) (Ai @ya @wh)) (Ai @nq (Ai @yd @yc))))
def PS :=
 (Ai (Ai (Ai @yb (Ai @ud @ow)) (Ai (Ai @ov (Ai @ue @qJ)) (Ai @wo (Ai @uc @wl)))) (Ai (Ai @wn (Ai @wm @wq)) (Ai (Ai @ym (Ai @pE @Dt)) (Ai @yf (Ai @Dw @Dv)))))
def PT :=
 (Ai (Ai (Ai (Ai @Du (Ai @sv @ug)) (Ai @yj @qL)) (Ai (Ai @qK (Ai @yl @uf)) (Ai @Au (Ai @yg @Ap)))) (Ai (Ai (Ai @yh (Ai @As @sw)) (Ai @wr (Ai @Aq @Jw))) (Ai (Ai @Gm (Ai @Ju @go_ret)) (Ai @Mw (Ai @Gl @Jt)))))
def PU :=
 (Ai (Ai (Ai (Ai @Jv (Ai @Dy @Gk)) (Ai @Ds (Ai @ss @ua))) (Ai (Ai @Gj (Ai @tZ @we)) (Ai @qI (Ai @sr @Dx)))) (Ai (Ai (Ai @sy (Ai @Ao @yi)) (Ai @gc.eq_1 (Ai @gc.eq_2 @gc.eq_3))) (Ai (Ai @mN.eq_1 (Ai @mN.eq_2 @mN.eq_3)) (Ai @mN.eq_4 (Ai @mN.eq_5 @mN.eq_6)))))
def PV :=
 (Ai (Ai (Ai (Ai @mN.eq_7 (Ai @mN.eq_8 @mN.eq_9)) (Ai @mN.eq_10 (Ai @mN.eq_11 @ii.eq_1))) (Ai (Ai @Eg (Ai @Ef @MX)) (Ai @uo (Ai @mY @EF)))) (Ai (Ai (Ai @Bq (Ai @EI @EL)) (Ai @Bs (Ai @EK @HQ))) (Ai (Ai @Bu (Ai @HR @EJ)) (Ai @HO (Ai @EE @EM)))))
def PW :=
 (Ai (Ai (Ai (Ai @EP (Ai @Ea @Hg)) (Ai @Ky (Ai @D9 @Hh))) (Ai (Ai @ge_iff_le.{0} (Ai @gt_iff_lt.{0} @kX.eq_1)) (Ai @kX.eq_2 (Ai @wU.eq_1 @wU.eq_2)))) (Ai (Ai (Ai @li.eq_1 (Ai @li.eq_2 @vn.eq_1)) (Ai @vn.eq_2 (Ai @V.fin.eq_1 @V.fin.eq_2))) (Ai (Ai @V.fin.eq_3 (Ai @V.fin.eq_4 @V.fin.eq_5)) (Ai @V.fin.eq_6 (Ai @V.fin.eq_7 @V.fin.eq_8)))))
def PX :=
 (Ai (Ai (Ai (Ai @V.fin.eq_9 (Ai @V.fin.eq_10 @V.fin.eq_11)) (Ai @V.fin.eq_12 (Ai @V.finOk.eq_1 @V.finOk.eq_2))) (Ai (Ai @V.finOk.eq_3 (Ai @V.finOk.eq_4 @V.finOk.eq_5)) (Ai @V.finOk.eq_6 (Ai @V.finOk.eq_7 @V.finOk.eq_8)))) (Ai (Ai (Ai @V.finOk.eq_9 (Ai @V.finOk.eq_10 @V.finOk.eq_11)) (Ai @V.finOk.eq_12 (Ai @V.finOk.eq_13 @finL.eq_1))) (Ai (Ai @finL.eq_2 (Ai @finLOk.eq_1 @finLOk.eq_2)) (Ai @V.plain.eq_1 (Ai @V.plain.eq_2 @V.plain.eq_3)))))
def PY :=
 (Ai (Ai (Ai (Ai @V.plain.eq_4 (Ai @V.plain.eq_5 @V.plain.eq_6)) (Ai @V.plain.eq_7 (Ai @V.plain.eq_8 @V.plain.eq_9))) (Ai (Ai @V.plain.eq_10 (Ai @V.plain.eq_11 @V.plain.eq_12)) (Ai @V.plain.eq_13 (Ai @V.plain.eq_14 @V.plain.eq_15)))) (Ai (Ai (Ai @plainL.eq_1 (Ai @plainL.eq_2 @plainLL.eq_1)) (Ai @plainLL.eq_2 (Ai @CK @zM))) (Ai (Ai @xd (Ai @Fc @app_nil)) (Ai @xo (Ai @JV @MS)))))
def Pm :=
 (Ai (Ai (Ai (Ai @bJ.eq_1 (Ai @dU.eq_1 @B8.eq_1)) (Ai @B8.eq_2 (Ai @e9.eq_1 @gQ.eq_1))) (Ai (Ai @bq.eq_1 (Ai @bq.eq_2 @bq.eq_3)) (Ai @bq.eq_4 (Ai @bq.eq_5 @List.flatMap_cons.{0,0})))) (Ai (Ai (Ai @List.flatMap_nil.{0,0} (Ai @ax.eq_1 @ax.eq_2)) (Ai @ax.eq_3 (Ai @ax.eq_4 @J6.eq_1))) (Ai (Ai @J6.eq_2 (Ai @lh.eq_1 @lh.eq_2)) (Ai @lh.eq_3 (Ai @lh.eq_4 @lh.eq_5)))))
def Pn :=
 (Ai (Ai (Ai (Ai @lh.eq_6 (Ai @jN.eq_1 @jN.eq_2)) (Ai @dq.eq_1 (Ai @bR.eq_1 @bR.eq_2))) (Ai (Ai @bR.eq_3 (Ai @bR.eq_4 @bR.eq_5)) (Ai @bR.eq_6 (Ai @bR.eq_7 @bR.eq_8)))) (Ai (Ai (Ai @bR.eq_9 (Ai @bD.eq_1 @bD.eq_2)) (Ai @bD.eq_3 (Ai @bD.eq_4 @bD.eq_5))) (Ai (Ai @bD.eq_6 (Ai @bD.eq_7 @rh.eq_def)) (Ai @b9.eq_1 (Ai @b9.eq_2 @b9.eq_3)))))
def Po :=
 (Ai (Ai (Ai (Ai @b9.eq_4 (Ai @b9.eq_5 @b9.eq_6)) (Ai @b9.eq_7 (Ai @b9.eq_8 @jy.eq_1))) (Ai (Ai @jy.eq_2 (Ai @uV.eq_1 @sG.eq_1)) (Ai @target.eq_1 (Ai @target.eq_2 @target.eq_3)))) (Ai (Ai (Ai @rowOf.eq_1 (Ai @bE.eq_1 @dQ.eq_1)) (Ai @V.isPtr.eq_1 (Ai @V.isPtr.eq_2 @V.isPtr.eq_3))) (Ai (Ai @V.one.eq_1 (Ai @V.one.eq_2 @V.one.eq_3)) (Ai @V.one.eq_4 (Ai @V.one.eq_5 @V.one.eq_6)))))
def Pq :=
 (Ai (Ai (Ai (Ai @V.cellsV.eq_1 (Ai @V.cellsV.eq_2 @kK.eq_1)) (Ai @kK.eq_2 (Ai @bv.eq_1 @iD.eq_1))) (Ai (Ai @iD.eq_2 (Ai @LW.eq_1 @fB.eq_1)) (Ai @fB.eq_2 (Ai @fB.eq_3 @lH.eq_1)))) (Ai (Ai (Ai @c8.eq_1 (Ai @si.eq_1 @si.eq_2)) (Ai @om.eq_1 (Ai @om.eq_2 @wB.eq_1))) (Ai (Ai @wB.eq_2 (Ai @wB.eq_3 @wB.eq_4)) (Ai @wB.eq_5 (Ai @oB.eq_1 @oB.eq_2)))))
def Ps :=
 (Ai (Ai (Ai (Ai @bM.eq_1 (Ai @bM.eq_2 @bM.eq_3)) (Ai @bM.eq_4 (Ai @bM.eq_5 @bM.eq_6))) (Ai (Ai @c7.eq_def (Ai @nv.eq_1 @nv.eq_2)) (Ai @nv.eq_3 (Ai @oA.eq_1 @oA.eq_2)))) (Ai (Ai (Ai @oA.eq_3 (Ai @gJ.eq_1 @gJ.eq_2)) (Ai @gJ.eq_3 (Ai @gJ.eq_4 @gJ.eq_5))) (Ai (Ai @gJ.eq_6 (Ai @gJ.eq_7 @gJ.eq_8)) (Ai @rl.eq_1 (Ai @iH.eq_1 @iH.eq_2)))))
def Pt :=
 (Ai (Ai (Ai (Ai @dc.eq_1 (Ai @dc.eq_2 @dc.eq_3)) (Ai @dc.eq_4 (Ai @dc.eq_5 @dc.eq_6))) (Ai (Ai @dc.eq_7 (Ai @dc.eq_8 @dc.eq_9)) (Ai @dc.eq_10 (Ai @dc.eq_11 @dc.eq_12)))) (Ai (Ai (Ai @dc.eq_13 (Ai @dc.eq_14 @dc.eq_15)) (Ai @dc.eq_16 (Ai @dc.eq_17 @gZ.eq_1))) (Ai (Ai @gZ.eq_2 (Ai @gZ.eq_3 @gZ.eq_4)) (Ai @gZ.eq_5 (Ai @jz.eq_1 @jz.eq_2)))))
def Pu :=
 (Ai (Ai (Ai (Ai @jz.eq_3 (Ai @jz.eq_4 @jz.eq_5)) (Ai @jz.eq_6 (Ai @jz.eq_7 @jz.eq_8))) (Ai (Ai @eP.eq_1 (Ai @eP.eq_2 @eP.eq_3)) (Ai @eP.eq_4 (Ai @eP.eq_5 @eP.eq_6)))) (Ai (Ai (Ai @eP.eq_7 (Ai @eP.eq_8 @z8.eq_1)) (Ai @z8.eq_2 (Ai @z8.eq_3 @z8.eq_4))) (Ai (Ai @Ji.eq_1 (Ai @Ji.eq_2 @xN.eq_1)) (Ai @xN.eq_2 (Ai @je.eq_1 @je.eq_2)))))
def Pv :=
 (Ai (Ai (Ai (Ai @je.eq_3 (Ai @je.eq_4 @je.eq_5)) (Ai @je.eq_6 (Ai @je.eq_7 @je.eq_8))) (Ai (Ai @je.eq_9 (Ai @je.eq_10 @je.eq_11)) (Ai @je.eq_12 (Ai @je.eq_13 @je.eq_14)))) (Ai (Ai (Ai @je.eq_15 (Ai @fV.eq_1 @fV.eq_2)) (Ai @fV.eq_3 (Ai @fV.eq_4 @fV.eq_5))) (Ai (Ai @fV.eq_6 (Ai @fV.eq_7 @fV.eq_8)) (Ai @fV.eq_9 (Ai @fV.eq_10 @fV.eq_11)))))
def Pw :=
 (Ai (Ai (Ai (Ai @fV.eq_12 (Ai @fV.eq_13 @fV.eq_14)) (Ai @fV.eq_15 (Ai @Nn.eq_1 @Nn.eq_2))) (Ai (Ai @Nn.eq_3 (Ai @Nn.eq_4 @Nn.eq_5)) (Ai @zl.eq_1 (Ai @zl.eq_2 @zl.eq_3)))) (Ai (Ai (Ai @zl.eq_4 (Ai @zl.eq_5 @jH.eq_def)) (Ai @mi.eq_def (Ai @jo.eq_1 @jo.eq_2))) (Ai (Ai @g9.eq_1 (Ai @g9.eq_2 @lG.eq_1)) (Ai @lG.eq_2 (Ai @jJ.eq_1 @jJ.eq_2)))))
def Px :=
 (Ai (Ai (Ai (Ai @kg.eq_1 (Ai @kg.eq_2 @jG.eq_1)) (Ai @jG.eq_2 (Ai @rL.eq_1 @ra.eq_1))) (Ai (Ai @kU.eq_1 (Ai @kU.eq_2 @mm.eq_1)) (Ai @mm.eq_2 (Ai @gU.eq_1 @iy.eq_1)))) (Ai (Ai (Ai @aK.eq_1 (Ai @aK.eq_2 @aK.eq_3)) (Ai @aK.eq_4 (Ai @aK.eq_5 @dW.eq_1))) (Ai (Ai @dW.eq_2 (Ai @dW.eq_3 @dW.eq_4)) (Ai @dW.eq_5 (Ai @dW.eq_6 @mR.eq_1)))))
def Py :=
 (Ai (Ai (Ai (Ai @mR.eq_2 (Ai @mR.eq_3 @dI.eq_1)) (Ai @ez.eq_1 (Ai @eG.eq_1 @List.toList_toArray.{0}))) (Ai (Ai @Int.toNat_natCast (Ai @Int.natCast_nonneg @Int.toNat_zero)) (Ai @Int.toNat_one (Ai @Nat.le_refl @Int.le_refl)))) (Ai (Ai (Ai @Nat.zero_le (Ai @Nat.zero_mul @Nat.one_mul)) (Ai @Nat.mul_one (Ai @Nat.add_zero @Nat.zero_add))) (Ai (Ai @Nat.mul_zero (Ai @Nat.add_left_cancel_iff @if_true.{1})) (Ai @if_true.{0} (Ai @if_false.{1} @if_false.{0})))))
def Pz :=
 (Ai (Ai (Ai (Ai @ite_true.{1} (Ai @ite_true.{0} @ite_false.{1})) (Ai @ite_false.{0} (Ai @Bool.false_eq_true @Bool.true_eq_false))) (Ai (Ai @Bool.not_true (Ai @Bool.not_false @decide_true)) (Ai @decide_false (Ai @true_implies @false_implies)))) (Ai (Ai (Ai @implies_true.{1} (Ai @implies_true.{0} @and_true)) (Ai @true_and (Ai @and_false @false_and))) (Ai (Ai @and_self (Ai @List.getElem?_cons_zero.{0} @List.getElem?_cons_succ.{0})) (Ai @List.getElem?_nil.{0} (Ai @List.map_cons.{0,0} @List.map_nil.{0,0})))))
def PA :=
 (Ai (Ai (Ai (Ai @List.length_cons.{0} (Ai @List.length_nil.{0} @List.cons_append.{0})) (Ai @List.nil_append.{0} (Ai @List.append_nil.{0} @Option.getD_some.{0}))) (Ai (Ai @Option.getD_none.{0} (Ai @Option.isSome_some.{0} @Option.isSome_none.{0})) (Ai @Option.map_some.{0,0} (Ai @Option.map_none.{0,0} @List.drop_zero.{0})))) (Ai (Ai (Ai @List.drop_succ_cons.{0} (Ai @List.take_zero.{0} @List.take_succ_cons.{0})) (Ai @List.set_cons_zero.{0} (Ai @List.set_cons_succ.{0} @List.all_cons.{0}))) (Ai (Ai @List.all_nil.{0} (Ai @Bool.and_true @Bool.true_and)) (Ai @List.headD_cons.{0} (Ai @kR.eq_1 @kR.eq_2)))))
def PB :=
 (Ai (Ai (Ai (Ai @kR.eq_3 (Ai @Nat.left_eq_add @Nat.add_eq_left)) (Ai @List.replicate_zero.{0} (Ai @List.replicate_succ.{0} @Nat.add_right_cancel_iff))) (Ai (Ai @EG (Ai @List.isEmpty_cons.{0} @List.isEmpty_nil.{0})) (Ai @JK (Ai @yG @ct)))) (Ai (Ai (Ai @ME (Ai @pI @JH)) (Ai @MG (Ai @jx @pH))) (Ai (Ai @JJ (Ai @MF @MJ)) (Ai @N9 (Ai @Oa @MI)))))
def PC :=
 (Ai (Ai (Ai (Ai @N6 (Ai @N7 @ML)) (Ai @eU (Ai @dO @dT))) (Ai (Ai @eV (Ai @ba @List.take_length.{0})) (Ai @or_true (Ai @true_or @or_false)))) (Ai (Ai (Ai @false_or (Ai @or_self @forall_const.{1})) (Ai @forall_const.{0} (Ai @List.isEmpty_iff.{0} @List.map_eq_nil_iff.{0,0}))) (Ai (Ai @ne_eq.{1} (Ai @ne_eq.{0} @Option.some.injEq.{0})) (Ai @not_false_eq_true (Ai @ak.eq_1 @Int.ofNat_lt)))))
def PD :=
 (Ai (Ai (Ai (Ai @Int.ofNat_le (Ai @Nat.lt_irrefl @beq_self_eq_true.{0})) (Ai @bne_self_eq_false.{0} (Ai @Int.natCast_zero @Int.cast_ofNat_Int))) (Ai @Gn @Bv)) (Ai (Ai (Ai @Br (Ai @yH @JI)) (Ai @vN.eq_1 (Ai @vN.eq_2 @vN.eq_3))) (Ai (Ai @qi.eq_1 (Ai @qi.eq_2 @qi.eq_3)) (Ai @qi.eq_4 (Ai @lz.eq_1 @gM.eq_1)))))
def PE :=
 (Ai (Ai (Ai (Ai @gM.eq_2 (Ai @gM.eq_3 @gM.eq_4)) (Ai @kT.eq_1 (Ai @kT.eq_2 @kT.eq_3))) (Ai (Ai @nY.eq_1 (Ai @gV.eq_1 @JL.eq_1)) (Ai @JL.eq_2 (Ai @JL.eq_3 @gf.eq_1)))) (Ai (Ai (Ai @oC (Ai @J4.eq_1 @mH.eq_def)) (Ai @mf.eq_1 (Ai @intKind.eq_1 @pW.eq_1))) (Ai (Ai @Nat.sub_zero (Ai @x8 @wc)) (Ai @ub (Ai @wg @Mm)))))
def PF :=
 (Ai (Ai (Ai (Ai @BU (Ai @HP @EH)) (Ai @zb (Ai @N8 @MH))) (Ai (Ai @GC (Ai @EO @HS)) (Ai @MK (Ai @Oc @GD)))) (Ai (Ai (Ai @AF (Ai @GQ @DY)) (Ai @GR (Ai @GT @GX))) (Ai (Ai @D1 (Ai @GZ @J2)) (Ai @GW (Ai @J0 @D2)))))
def PG :=
 (Ai (Ai (Ai @J1 (Ai @GV @D3)) (Ai (Ai @DZ @JZ) (Ai @JX @GS))) (Ai (Ai (Ai @GP @GY) (Ai @JY @AN)) (Ai (Ai @GU @isConst.eq_1) (Ai @isConst.eq_2 @sD.eq_1))))
def aj:=(Ai (Ai (Ai (Ai PP (Ai PQ PR)) (Ai (Ai PS PT) (Ai PU PV))) (Ai (Ai PW (Ai PX PY)) (Ai (Ai Pm Pn) (Ai Po Pq)))) (Ai (Ai (Ai Ps (Ai Pt Pu)) (Ai (Ai Pv Pw) (Ai Px Py))) (Ai (Ai (Ai Pz PA) (Ai PB PC)) (Ai (Ai PD PE) (Ai PF PG)))))
end Go.Proofs.YtjonibipieofcaaGreatDoor.Vm
