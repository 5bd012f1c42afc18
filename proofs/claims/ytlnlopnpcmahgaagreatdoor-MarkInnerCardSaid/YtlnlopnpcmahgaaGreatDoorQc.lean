/-
 Texts joined: XVs,XVt,XVv,XVz,XVu,XVU.
-/
import Derived.IntWalk
import Derived.Test.YtlnlopnpcmahgaaGreatDoorQb
set_option linter.all false
namespace Go.Proofs.YtlnlopnpcmahgaaGreatDoor.Vm
open Go Go.RowKit
def po (cx:Cx)(N:Nat)(rs:List ResultVar)(nm:Nat)(M0:am)(v:V)(eff:List (Nat×Option Blk))(b0 n:Nat)(e:Env)(M:am):Prop:=∃ gs,O8 cx N rs nm M0 v eff b0 e (M.ghosts n gs)
def ma (cx:Cx)(fn:Func)(nm:Nat)(M:am)(v:V)(eff:List (Nat×Option Blk))(b0:Nat):Ex->Nat->Env->am->Prop
 | .exit _,_,_,_=>False
 | .panic _,_,_,_=>False
 | _,n,e,M'=>po cx fn.ntmps fn.results.toList nm M v eff b0 n e M'
def IR {cx:Cx}(hD:cx.D=[]){f:FuncId}{nm:Nat}{args:List V}{M:am}{v:V}{eff:List (Nat×Option Blk)}{fn:Func}{c:Code}
  (hcall:∀ cargs w,(callFunc f cargs).run cx.P w = .ok (.enter f cargs) w) (hf:cx.P.funcs[f]? = some fn) (hb:fn.body=some c) (hm:cx.P.follows .mixedOrders=true) (hin:de fn.ntmps c=true) (hargs:args.length<=fn.ntmps)
  (hvc:∀ b0,(∀ x,b0<=x->M x=none)->vc cx b0 c (ma cx fn nm M v eff b0) b0 (eW args) M):Ev cx f nm args M v eff:=by
 refine⟨trivial,?_⟩
 intro X w Y cargs B hrel hfr hB hlen his
 have hstart:Lies cx fn.ntmps X w (bG Y M) Y B B (eW args) M Y { tmps:=cargs++Array.replicate (fn.ntmps-cargs.size) undef,defers:=[] } w:=by
  refine⟨hrel,⟨by simp;omega,hD.symm,fun t ht=>?_⟩,hB,fun _ _ h=>h,Nat.le_refl _,fun _ _=>rfl,fun x hx=>(hB x hx).2⟩
  simp only[eW,Array.getD_eq_getD_getElem?]
  by_cases hlt:t<args.length
  ·rw[Array.getElem?_append_left (by omega),List.getElem?_eq_getElem hlt,Array.getElem?_eq_getElem (show t<cargs.size by omega)]
   exact his t _ _ (List.getElem?_eq_getElem hlt) (Array.getElem?_eq_getElem (by omega))
  ·rw[List.getElem?_eq_none (by omega)]
   exact .any _
 refine .inl ⟨hcall _ _,?_⟩
 refine lr hf hb (ju.mono (dA hm c _ B (eW args) M Y _ w hin hstart (hvc B (fun x hx=>(hB x hx).1))) ?_)
 rintro x a w' ⟨n,e,M',Y',h',hq⟩
 have done:po cx fn.ntmps fn.results.toList nm M v eff B n e M'->a.defers=[] /\ ∃ cv,(results fn a.tmps).run cx.P w' = .ok cv w' /\ ∃ cv',Ending.returned cv = .returned cv'/\eB cx.G X w (bG Y M) Y M w nm v (M.app eff) cv' w':=fun ⟨gs,hfin⟩=>by
  have h':=h'.ghosts gs
  obtain⟨cv,h1,h2⟩:=rq h'.rel h'.env fn hfin.1
  exact⟨h'.env.defers.trans hD,cv,h1,cv,rfl,qK hrel hfr hB h' hfin h2⟩
 cases x<;>simp only[ma]at hq<;>try (exact hq.elim)
 case normal=>exact done hq
 case ret=>exact done hq
 case panic ch=>obtain⟨_,_,_,_,hf⟩:=hq;exact hf.elim
def N7 {cx:Cx}{N:Nat}{X:Nat->Prop}{w:World}{Y:Names}{M:am}{B nm n:Nat}{e:Env}{M':am}{Y':Names}{a:Act}{w':World}{v:V}{cv:Value}(hrel:Rel cx.G X w (bG Y M) Y M w)(h':Lies cx N X w (bG Y M) Y B n e M' Y' a w')(hG:∀ g,(cx.G g).plain=true)(hpl:v.plain=true)(hv:Is Y' (bH X Y' M') w' v cv):eB cx.G X w (bG Y M) Y M w nm v am.nil cv w':=by
 have hd:∀ b,bH X Y am.nil b->bH X Y' M' b:=fun b hb=>by
  rcases hb with hb|⟨x,l,h,_⟩
  ·exact .inl hb
  ·cases h
 refine⟨Y,⟨h'.rel.size,h'.rel.os,h'.rel.tape,h'.rel.output,h'.rel.old,fun x k h=>(by cases h),fun x y l l' h=>(by cases h),h'.rel.hX,fun g=>(h'.rel.glob g).plain (Nat.le_refl _) (fun _ _ _=>rfl) (fun b _ hb=>hd b hb) (hG g)⟩,⟨fun _ _ h=>h,h'.rel.size,h'.rel.os,h'.rel.tape,h'.rel.output,fun b hb hk=>h'.rel.old b hb ?_,fun x l h=>(by cases h)⟩,hv.plain (Nat.le_refl _) (fun _ _ _=>rfl) (fun b _ hb=>hd b hb) hpl,fun _ _=>rfl⟩
 rintro ⟨x,l,h1,h2,h3⟩
 exact hk x l h1 h2 h3
def Ia (v:V):Ex->Nat->Env->am->Prop
 | .panic u,_,_,_=>u=v
 | _,_,_,_=>False
def FR {cx:Cx}(hD:cx.D=[]){f:FuncId}{nm:Nat}{args:List V}{M:am}{v:V}{fn:Func}{c:Code}
  (hcall:∀ cargs w,(callFunc f cargs).run cx.P w = .ok (.enter f cargs) w) (hf:cx.P.funcs[f]? = some fn) (hb:fn.body=some c) (hm:cx.P.follows .mixedOrders=true) (hin:de fn.ntmps c=true) (hargs:args.length<=fn.ntmps) (hG:∀ g,(cx.G g).plain=true) (hpl:v.plain=true)
  (hvc:∀ b0,(∀ x,b0<=x->M x=none)->vc cx b0 c (Ia v) b0 (eW args) M):yT cx f nm args M v:=by
 refine⟨trivial,?_⟩
 intro X w Y cargs B hrel hfr hB hlen his
 have hstart:Lies cx fn.ntmps X w (bG Y M) Y B B (eW args) M Y { tmps:=cargs++Array.replicate (fn.ntmps-cargs.size) undef,defers:=[] } w:=by
  refine⟨hrel,⟨by simp;omega,hD.symm,fun t ht=>?_⟩,hB,fun _ _ h=>h,Nat.le_refl _,fun _ _=>rfl,fun x hx=>(hB x hx).2⟩
  simp only[eW,Array.getD_eq_getD_getElem?]
  by_cases hlt:t<args.length
  ·rw[Array.getElem?_append_left (by omega),List.getElem?_eq_getElem hlt,Array.getElem?_eq_getElem (show t<cargs.size by omega)]
   exact his t _ _ (List.getElem?_eq_getElem hlt) (Array.getElem?_eq_getElem (by omega))
  ·rw[List.getElem?_eq_none (by omega)]
   exact .any _
 refine .inl ⟨hcall _ _,?_⟩
 refine lr hf hb (ju.mono (dA hm c _ B (eW args) M Y _ w hin hstart (hvc B (fun x hx=>(hB x hx).1))) ?_)
 rintro x a w' ⟨n,e,M',Y',h',hq⟩
 cases x<;>simp only[Ia]at hq<;>try (exact hq.elim)
 case panic ch =>
  obtain⟨u,cv,rfl,hv,rfl⟩:=hq
  refine⟨h'.env.defers.trans hD,cv,rfl,?_⟩
  exact N7 hrel h' hG hpl hv
def Fin.pure {cx:Cx}{N:Nat}{rs:List ResultVar}{nm:Nat}{v:V}{b0 n:Nat}{e:Env}{M:am}(h1:mf cx.P N rs e M)(h2:(mj cx.P rs e M).finOk [] M)(h3:((mj cx.P rs e M).fin [] M).le v):po cx N rs nm am.nil v [] b0 n e M :=
 ⟨[],Fin.two ⟨h1,[],h2,h3,rfl,List.nodup_nil,List.nodup_nil,(fun p hp=>by cases hp),(fun x hx=>by simp[am.nil]at hx)⟩⟩
structure Post where
 b0:Nat
 q:Ex->Nat->Env->am->Prop
inductive Frm where
 | code (c:Code)
 | blk (id:Nat)
 | again (J:Nat->Nat->Env->am->Prop) (g:Nat)
 | cut (J:Nat->Env->am->Prop)
def j0 (cx:Cx)(Q:Post):List Frm->Ex->Nat->Env->am->Prop
 | []=>Q.q
 | .code c::st=>fun x n e M=>match x with | .normal=>vc cx Q.b0 c (j0 cx Q st) n e M | .exit id=>j0 cx Q st (.exit id) n e M | .ret=>j0 cx Q st .ret n e M | .panic v=>j0 cx Q st (.panic v) n e M
 | .blk id::st=>fun x n e M=>match x with | .normal=>j0 cx Q st .normal n e M | .exit id'=>if id'=id then j0 cx Q st .normal n e M else j0 cx Q st (.exit id') n e M | .ret=>j0 cx Q st .ret n e M | .panic v=>j0 cx Q st (.panic v) n e M
 | .again J g::st=>fun x n e M=>match x with | .normal=>∃ g',g'<g /\ ∃ nm' e' M',oG cx Q.b0 n e M nm' e' M'/\J g' nm' e' M' | .exit id=>j0 cx Q st (.exit id) n e M | .ret=>j0 cx Q st .ret n e M | .panic v=>j0 cx Q st (.panic v) n e M
 | .cut J::st=>fun x n e M=>match x with | .normal=>J n e M | .exit id=>j0 cx Q st (.exit id) n e M | .ret=>j0 cx Q st .ret n e M | .panic v=>j0 cx Q st (.panic v) n e M
section
variable (cx:Cx) (Q:Post) (st:List Frm) (nm:Nat) (e:Env) (M:am)
def go (c:Code):Prop:=vc cx Q.b0 c (j0 cx Q st) nm e M
def dY (x:Ex):Prop:=j0 cx Q st x nm e M
def aK (d:Bool)(fs:List (List Nat))(ops r:List Oper)(i:Nat):Prop:=cj cx ops d (fun n e M v=>d=false/\j0 cx Q st (.panic v) n e M) r nm i e M fs (fun n e M fs=>(d=true->ko cx.P ops fs)/\j0 cx Q st .normal n e M)
def Em (fs:List (List Nat))(ops:List Oper):Prop:=ko cx.P ops fs/\j0 cx Q st .normal nm e M
def gc (d:Bool)(fs:List (List Nat))(ops:List Oper)(o:Oper)(r:List Oper)(i:Nat):Prop:=aK cx Q st nm e M d fs ops (o::r) i
def cp (d:Bool)(fs:List (List Nat))(ops:List Oper)(o:Oper)(r:List Oper)(i:Nat):Prop:=∃ v eff ft,ExtDoes cx o (nm+16*i) e M v eff ft/\aK cx Q st nm (e.putD o.dst v) (M.app eff) d (fs++[ft]) ops r (i+1)
def qP (d:Bool)(fs:List (List Nat))(c:Bool)(ops:List Oper)(o:Oper)(r:List Oper)(i:Nat):Prop:=(∃ v ft,(ft≠[]->gG o.op=false)/\(c=true->ExtDoes cx o (nm+16*i) e M v [] ft)/\aK cx Q st nm (e.putD o.dst (.gd c v)) M d (fs++[ft]) ops r (i+1)) \/
 ((c=true->cp cx Q st nm e M d fs ops o r i)/\(c=false->aK cx Q st nm (e.putD o.dst .any) M d (fs++[[]]) ops r (i+1)))
def Sk (d:Bool)(fs:List (List Nat))(ops:List Oper)(o:Oper)(r:List Oper)(i:Nat):Prop:=∃ v eff,CommDoes cx o (nm+16*i) e M v eff/\aK cx Q st nm (e.putD o.dst v) (M.app eff) d (fs++[ao eff]) ops r (i+1)
def bU (d:Bool)(fs:List (List Nat))(gv:V)(want:Bool)(ops:List Oper)(o:Oper)(r:List Oper)(i:Nat):Prop:=match jE gv want with
 | some c=>if fL o.op=true then iv cx c e M (nm+16*i) o (fun v l=>aK cx Q st nm (e.putD o.dst (.gd c v)) M d (fs++[l]) ops r (i+1))\/(c=true/\fN cx true e M (nm+16*i) o (fun v eff l=>aK cx Q st nm (e.putD o.dst v) (M.app eff) d (fs++[l++ao eff]) ops r (i+1)))
  else if jF cx.P o.op=true then qP cx Q st nm e M d fs c ops o r i
  else if oh o.op=true then (c=true->bO cx c e M o)/\aK cx Q st nm (e.putD o.dst (.gd c (eN cx c e M (nm+16*i) o))) M d (fs++[ib cx c e (nm+16*i) o]) ops r (i+1)
  else (c=true->bO cx true e M o/\aK cx Q st nm (e.putD o.dst (eN cx true e M (nm+16*i) o)) (M.app (fK cx true e M (nm+16*i) o)) d (fs++[ib cx true e (nm+16*i) o]) ops r (i+1))/\(c=false->aK cx Q st nm (e.putD o.dst .any) M d (fs++[[]]) ops r (i+1))
 | none=>False
def ez (d:Bool)(fs:List (List Nat))(c:Bool)(ops:List Oper)(o:Oper)(r:List Oper)(i:Nat):Prop:=iv cx c e M (nm+16*i) o (fun v l=>aK cx Q st nm (e.putD o.dst (.gd c v)) M d (fs++[l]) ops r (i+1))\/(c=true/\fN cx true e M (nm+16*i) o (fun v eff l=>aK cx Q st nm (e.putD o.dst v) (M.app eff) d (fs++[l++ao eff]) ops r (i+1)))
def qS (c:Code):Prop:=vc cx Q.b0 (.loop c) (j0 cx Q st) nm e M
def oU (v:V)(a b:Code):Prop:=match v with
 | .bool t=>(t=true->go cx Q st nm e M a)/\(t=false->go cx Q st nm e M b)
 | .bit t f=>(t=true->go cx Q st nm e M a)/\(f=true->go cx Q st nm e M b)
 | _=>False
def Np:go cx Q st nm e M .skip=dY cx Q st nm e M .normal:=propext Iff.rfl
def Jn (l:Nat):go cx Q st nm e M (.label l)=dY cx Q st nm e M .normal:=propext Iff.rfl
def Nm (id:Nat):go cx Q st nm e M (.exit id)=dY cx Q st nm e M (.exit id):=propext Iff.rfl
def go_ret:go cx Q st nm e M .ret=dY cx Q st nm e M .ret:=propext Iff.rfl
def PW (a b:Code):go cx Q st nm e M (.seq a b)=go cx Q (.code b::st) nm e M a:=propext Iff.rfl
def Jo (c:Code):go cx Q st nm e M (.scope c)=go cx Q st nm e M c:=propext Iff.rfl
def Jl (id:Nat)(c:Code):go cx Q st nm e M (.block id c)=go cx Q (.blk id::st) nm e M c:=propext Iff.rfl
def Nl (c:Operand)(a b:Code):go cx Q st nm e M (.cond c a b)=oU cx Q st nm e M (aw cx.G true e c) a b:=propext Iff.rfl
def Nn (c:Code):go cx Q st nm e M (.loop c)=qS cx Q st nm e M c:=propext Iff.rfl
def Gm (id:Nat)(ops:Array Oper)(d:Bool):go cx Q st nm e M (.region id ops d)=aK cx Q st nm e M d [] ops.toList ops.toList 0:=propext Iff.rfl
def zX (a b:Code):oU cx Q st nm e M (.bool true) a b=go cx Q st nm e M a:=by simp only[oU,true_implies,Bool.true_eq_false,false_implies,and_true]
def xQ (a b:Code):oU cx Q st nm e M (.bool false) a b=go cx Q st nm e M b:=by simp only[oU,true_implies,Bool.false_eq_true,false_implies,true_and]
def iE (x:Ex):dY cx Q [] nm e M x=Q.q x nm e M:=propext Iff.rfl
def Gf (c:Code):dY cx Q (.code c::st) nm e M .normal=go cx Q st nm e M c:=propext Iff.rfl
def tV (c:Code)(id:Nat):dY cx Q (.code c::st) nm e M (.exit id)=dY cx Q st nm e M (.exit id):=propext Iff.rfl
def vw (c:Code):dY cx Q (.code c::st) nm e M .ret=dY cx Q st nm e M .ret:=propext Iff.rfl
def Jj (id:Nat):dY cx Q (.blk id::st) nm e M .normal=dY cx Q st nm e M .normal:=propext Iff.rfl
def vv (id id':Nat):dY cx Q (.blk id::st) nm e M (.exit id')=if id'=id then dY cx Q st nm e M .normal else dY cx Q st nm e M (.exit id'):=propext Iff.rfl
def xR (id:Nat):dY cx Q (.blk id::st) nm e M .ret=dY cx Q st nm e M .ret:=propext Iff.rfl
def sd (J:Nat->Nat->Env->am->Prop)(g:Nat)(id:Nat):dY cx Q (.again J g::st) nm e M (.exit id)=dY cx Q st nm e M (.exit id):=propext Iff.rfl
def tU (J:Nat->Nat->Env->am->Prop)(g:Nat):dY cx Q (.again J g::st) nm e M .ret=dY cx Q st nm e M .ret:=propext Iff.rfl
def vx (J:Nat->Env->am->Prop)(id:Nat):dY cx Q (.cut J::st) nm e M (.exit id)=dY cx Q st nm e M (.exit id):=propext Iff.rfl
def xS (J:Nat->Env->am->Prop):dY cx Q (.cut J::st) nm e M .ret=dY cx Q st nm e M .ret:=propext Iff.rfl
def ax (c:Code)(v:V):dY cx Q (.code c::st) nm e M (.panic v)=dY cx Q st nm e M (.panic v):=propext Iff.rfl
def aA (id:Nat)(v:V):dY cx Q (.blk id::st) nm e M (.panic v)=dY cx Q st nm e M (.panic v):=propext Iff.rfl
def av (J:Nat->Nat->Env->am->Prop)(g:Nat)(v:V):dY cx Q (.again J g::st) nm e M (.panic v)=dY cx Q st nm e M (.panic v):=propext Iff.rfl
def En (d:Bool)(i:Nat)(v:V):Prop:=match v with
 | .iface t u=>d=false/\dY cx Q st (nm+16*(i+1)) e M (.panic (.iface t u))
 | _=>False
def aG (i:Nat)(t:TypeId)(u:V):En cx Q st nm e M false i (.iface t u)=dY cx Q st (nm+16*(i+1)) e M (.panic (.iface t u)):=by simp only[En,true_and]
def aF (d:Bool)(fs:List (List Nat))(ops:List Oper)(dst:Option Tmp)(x:Operand)(t:TypeId)(pos:String)(af:Array Edge)(r:List Oper)(i:Nat):aK cx Q st nm e M d fs ops (⟨dst,.panic x,t,pos,af,none⟩::r) i=En cx Q st nm e M d i (aw cx.G true e x):=by
 unfold aK En
 simp only[cj,fL,if_true,fN,qq,u1,false_or,and_false,or_false]
 have hl:∀ M:am,M.app (jH [])=M:=fun M=>rfl
 simp only[hl]
 rfl
def Gl (fs:List (List Nat))(ops:List Oper)(i:Nat):aK cx Q st nm e M false fs ops [] i=dY cx Q st (nm+16*i) e M .normal:=by
 simp only[aK,cj,dY,Bool.false_eq_true,false_implies,true_and]
def tZ (fs:List (List Nat))(ops:List Oper)(i:Nat):aK cx Q st nm e M true fs ops [] i=Em cx Q st (nm+16*i) e M fs ops:=by
 simp only[aK,cj,Em,true_implies]
def Cw (d:Bool)(fs:List (List Nat))(ops:List Oper)(dst:Option Tmp)(f:Operand)(args:Array Operand)(ats:Array TypeId)(t:TypeId)(pos:String)(af:Array Edge)(r:List Oper)(i:Nat) :
  aK cx Q st nm e M d fs ops (⟨dst,.call ⟨.value f,args,ats⟩,t,pos,af,none⟩::r) i=gc cx Q st nm e M d fs ops ⟨dst,.call ⟨.value f,args,ats⟩,t,pos,af,none⟩ r i:=propext Iff.rfl
def z9 (d:Bool)(fs:List (List Nat))(ops:List Oper)(dst:Option Tmp)(op:Op)(t:TypeId)(pos:String)(af:Array Edge)(j:Nat)(want:Bool)(r:List Oper)(i:Nat) :
  aK cx Q st nm e M d fs ops (⟨dst,op,t,pos,af,some (j,want)⟩::r) i=bU cx Q st nm e M d fs (iT ops e j) want ops ⟨dst,op,t,pos,af,some (j,want)⟩ r i:=by
 unfold aK bU
 simp only[cj,aK,qP,cp]
 cases jE (iT ops e j) want<;>rfl
def tW (d:Bool)(fs:List (List Nat))(c x want:Bool)(ops:List Oper)(o:Oper)(r:List Oper)(i:Nat):bU cx Q st nm e M d fs (.gd c (.bool x)) want ops o r i=bU cx Q st nm e M d fs (.bool (c&&(x==want))) true ops o r i:=by
 have h:∀ y:Bool,(y==true)=y:=fun y=>by cases y<;>rfl
 simp only[bU,jE,h]
def zY (d:Bool)(fs:List (List Nat))(v:V)(want:Bool)(ops:List Oper)(o:Oper)(r:List Oper)(i:Nat):bU cx Q st nm e M d fs (.gd false v) want ops o r i=bU cx Q st nm e M d fs (.bool false) true ops o r i:=by
 have h1:jE (.gd false v) want=some false:=by cases v<;>rfl
 have h2:jE (.bool false) true=some false:=rfl
 simp only[bU,h1,h2]
variable {cx Q st nm e M}
def aW {t:Bool}{a b:Code}(h1:t=true->go cx Q st nm e M a)(h2:t=false->go cx Q st nm e M b):oU cx Q st nm e M (.bool t) a b:=⟨h1,h2⟩
def bf {t f:Bool}{a b:Code}(h1:t=true->go cx Q st nm e M a)(h2:f=true->go cx Q st nm e M b):oU cx Q st nm e M (.bit t f) a b:=⟨h1,h2⟩
def cn {d:Bool}{fs:List (List Nat)}{ops:List Oper}{dst:Option Tmp}{f:Operand}{args:Array Operand}{ats:Array TypeId}{t:TypeId}{pos:String}{af:Array Edge}{r:List Oper}{i:Nat}{g:FuncId}{caps:List V}{as:List V}(hf:aw cx.G true e f = .fn g caps)
  (has:args.toList.map (aw cx.G true e)++caps=as) (l:List Nat) {v:V} {eff:List (Nat×Option Blk)} (hev:Ev cx g (nm+16*i) as (M.only l) v eff) (he:∀ x∈ao eff,(x∈l/\(M x).isSome=true)\/b7 (nm+16*i) x)
  (h:aK cx Q st nm (e.putD dst v) (M.app eff) d (fs++[l++ao eff]) ops r (i+1)):gc cx Q st nm e M d fs ops ⟨dst,.call ⟨.value f,args,ats⟩,t,pos,af,none⟩ r i:=by
 subst has
 show cj _ _ _ _ _ _ _ _ _ _ _
 simp only[cj,fL,if_true,fN,hf,V.tgt,List.nil_append]
 exact .inl ⟨l,v,eff,hev,he,h⟩
def eD {d:Bool}{fs:List (List Nat)}{ops:List Oper}{dst:Option Tmp}{f:Operand}{args:Array Operand}{ats:Array TypeId}{t:TypeId}{pos:String}{af:Array Edge}{r:List Oper}{i:Nat}{g:FuncId}{caps:List V}{as:List V}(hf:aw cx.G true e f = .fn g caps)
  (has:args.toList.map (aw cx.G true e)++caps=as) {v:V} (hev:Ev cx g (nm+16*i) as am.nil v []) (h:aK cx Q st nm (e.putD dst v) M d (fs++[[]]) ops r (i+1)):gc cx Q st nm e M d fs ops ⟨dst,.call ⟨.value f,args,ats⟩,t,pos,af,none⟩ r i :=
 cn hf has [] (by rw[am.only_nil];exact hev) (fun x hx=>by simp[ao]at hx) h
def BO {d:Bool}{fs:List (List Nat)}{ops:List Oper}{c:Bool}{dst:Option Tmp}{f:Operand}{args:Array Operand}{ats:Array TypeId}{t:TypeId}{pos:String}{af:Array Edge}{gd:Option (Nat×Bool)}{r:List Oper}{i:Nat}{g:FuncId}{caps:List V}{as:List V}(hf:aw cx.G c e f = .fn g caps)
  (has:args.toList.map (aw cx.G c e)++caps=as) {v:V} (hev:c=true->Ev cx g (nm+16*i) as am.nil v []) (h:aK cx Q st nm (e.putD dst (.gd c v)) M d (fs++[[]]) ops r (i+1)):ez cx Q st nm e M d fs c ops ⟨dst,.call ⟨.value f,args,ats⟩,t,pos,af,gd⟩ r i:=by
 subst has
 unfold ez iv
 refine .inl ?_
 simp only[hf,V.tgt,List.nil_append]
 exact⟨[],v,by rw[am.only_nil];exact hev,h⟩
def MJ {d:Bool}{fs:List (List Nat)}{ops:List Oper}{dst:Option Tmp}{f:Operand}{args:Array Operand}{ats:Array TypeId}{t:TypeId}{pos:String}{af:Array Edge}{gd:Option (Nat×Bool)}{r:List Oper}{i:Nat}{g:FuncId}{caps fi:List V}{as:List V}(hf:(aw cx.G true e f).tgt=some (g,caps,fi))
  (has:fi++(args.toList.map (aw cx.G true e)++caps)=as) (l:List Nat) {v:V} {eff:List (Nat×Option Blk)} (hev:Ev cx g (nm+16*i) as (M.only l) v eff) (he:∀ x∈ao eff,(x∈l/\(M x).isSome=true)\/b7 (nm+16*i) x)
  (h:aK cx Q st nm (e.putD dst v) (M.app eff) d (fs++[l++ao eff]) ops r (i+1)):ez cx Q st nm e M d fs true ops ⟨dst,.call ⟨.value f,args,ats⟩,t,pos,af,gd⟩ r i:=by
 subst has
 unfold ez fN
 refine .inr ⟨rfl,?_⟩
 simp only[hf]
 exact⟨l,v,eff,hev,he,h⟩
def eC {d:Bool}{fs:List (List Nat)}{ops:List Oper}{dst:Option Tmp}{f:Operand}{args:Array Operand}{ats:Array TypeId}{t:TypeId}{pos:String}{af:Array Edge}{r:List Oper}{i:Nat}{g:FuncId}{fi:List V}{as:List V}(hf:aw cx.G true e f = .fnb g fi)
  (has:fi++args.toList.map (aw cx.G true e)=as) (l:List Nat) {v:V} {eff:List (Nat×Option Blk)} (hev:Ev cx g (nm+16*i) as (M.only l) v eff) (he:∀ x∈ao eff,(x∈l/\(M x).isSome=true)\/b7 (nm+16*i) x)
  (h:aK cx Q st nm (e.putD dst v) (M.app eff) d (fs++[l++ao eff]) ops r (i+1)):gc cx Q st nm e M d fs ops ⟨dst,.call ⟨.value f,args,ats⟩,t,pos,af,none⟩ r i:=by
 subst has
 show cj _ _ _ _ _ _ _ _ _ _ _
 simp only[cj,fL,if_true,fN,hf,V.tgt,List.append_nil]
 exact .inl ⟨l,v,eff,hev,he,h⟩
def cW {fs:List (List Nat)}{ops:List Oper}{dst:Option Tmp}{g:FuncId}{args:Array Operand}{ats:Array TypeId}{t:TypeId}{pos:String}{af:Array Edge}{r:List Oper}{i:Nat}{as:List V}
  (has:args.toList.map (aw cx.G true e)=as) (l:List Nat) {v:V} (hev:yT cx g (nm+16*i) as (M.only l) v)
  (h:dY cx Q st (nm+16*(i+1)) e (M.app (jH l)) (.panic v)):gc cx Q st nm e M false fs ops ⟨dst,.call ⟨.value (.func g),args,ats⟩,t,pos,af,none⟩ r i:=by
 subst has
 show cj _ _ _ _ _ _ _ _ _ _ _
 simp only[cj,fL,if_true,qq,aw,V.tgt,List.nil_append,List.append_nil]
 exact .inr (.inl ⟨l,v,hev,trivial,h⟩)
def FA {fs:List (List Nat)}{ops:List Oper}{dst:Option Tmp}{g:FuncId}{args:Array Operand}{ats:Array TypeId}{t:TypeId}{pos:String}{af:Array Edge}{r:List Oper}{i:Nat}{as:List V}
  (has:args.toList.map (aw cx.G true e)=as) (l:List Nat) {R:V->Prop} {eff:List (Nat×Option Blk)} (hev:O6 cx g (nm+16*i) as (M.only l) R eff) (he:∀ x∈ao eff,(x∈l/\(M x).isSome=true)\/b7 (nm+16*i) x)
  (h:∀ v,R v->aK cx Q st nm (e.putD dst v) (M.app eff) false (fs++[l++ao eff]) ops r (i+1)):gc cx Q st nm e M false fs ops ⟨dst,.call ⟨.value (.func g),args,ats⟩,t,pos,af,none⟩ r i:=by
 subst has
 show cj _ _ _ _ _ _ _ _ _ _ _
 refine Or.inr (Or.inr ⟨rfl,?_⟩)
 exact⟨l,R,eff,by rw[List.append_nil];exact hev,he,h⟩
def mB {d:Bool}{fs:List (List Nat)}{ops:List Oper}{dst:Option Tmp}{f:Operand}{args:Array Operand}{ats:Array TypeId}{t:TypeId}{pos:String}{af:Array Edge}{gd:Option (Nat×Bool)}{r:List Oper}{i:Nat}{g:FuncId}{fi:List V}{as:List V}(hf:aw cx.G true e f = .fnb g fi)
  (has:fi++args.toList.map (aw cx.G true e)=as) (l:List Nat) {v:V} {eff:List (Nat×Option Blk)} (hev:Ev cx g (nm+16*i) as (M.only l) v eff) (he:∀ x∈ao eff,(x∈l/\(M x).isSome=true)\/b7 (nm+16*i) x)
  (h:aK cx Q st nm (e.putD dst v) (M.app eff) d (fs++[l++ao eff]) ops r (i+1)):ez cx Q st nm e M d fs true ops ⟨dst,.call ⟨.value f,args,ats⟩,t,pos,af,gd⟩ r i :=
 MJ (caps:=[]) (by rw[hf];rfl) (by rw[List.append_nil];exact has) l hev he h
def ae {d:Bool}{fs:List (List Nat)}{ops:List Oper}{dst:Option Tmp}{g:FuncId}{args:Array Operand}{ats:Array TypeId}{t:TypeId}{pos:String}{af:Array Edge}{r:List Oper}{i:Nat}{as:List V}
  (has:args.toList.map (aw cx.G true e)=as) {v:V} (hev:Ev cx g (nm+16*i) as am.nil v []) (h:aK cx Q st nm (e.putD dst v) M d (fs++[[]]) ops r (i+1)):gc cx Q st nm e M d fs ops ⟨dst,.call ⟨.value (.func g),args,ats⟩,t,pos,af,none⟩ r i :=
 eD (caps:=[]) rfl (by rw[List.append_nil];exact has) hev h
def ab {d:Bool}{fs:List (List Nat)}{ops:List Oper}{c:Bool}{dst:Option Tmp}{g:FuncId}{args:Array Operand}{ats:Array TypeId}{t:TypeId}{pos:String}{af:Array Edge}{gd:Option (Nat×Bool)}{r:List Oper}{i:Nat}{as:List V}
  (has:args.toList.map (aw cx.G c e)=as) {v:V} (hev:c=true->Ev cx g (nm+16*i) as am.nil v []) (h:aK cx Q st nm (e.putD dst (.gd c v)) M d (fs++[[]]) ops r (i+1)):ez cx Q st nm e M d fs c ops ⟨dst,.call ⟨.value (.func g),args,ats⟩,t,pos,af,gd⟩ r i :=
 BO (caps:=[]) rfl (by rw[List.append_nil];exact has) hev h
def ac {d:Bool}{fs:List (List Nat)}{ops:List Oper}{dst:Option Tmp}{g:FuncId}{args:Array Operand}{ats:Array TypeId}{t:TypeId}{pos:String}{af:Array Edge}{r:List Oper}{i:Nat}{as:List V}
  (has:args.toList.map (aw cx.G true e)=as) (l:List Nat) {v:V} {eff:List (Nat×Option Blk)} (hev:Ev cx g (nm+16*i) as (M.only l) v eff) (he:∀ x∈ao eff,(x∈l/\(M x).isSome=true)\/b7 (nm+16*i) x)
  (h:aK cx Q st nm (e.putD dst v) (M.app eff) d (fs++[l++ao eff]) ops r (i+1)):gc cx Q st nm e M d fs ops ⟨dst,.call ⟨.value (.func g),args,ats⟩,t,pos,af,none⟩ r i :=
 cn (caps:=[]) rfl (by rw[List.append_nil];exact has) l hev he h
def az {fs:List (List Nat)}{ops:List Oper}(hp:wD cx.P ops=[])(h:dY cx Q st nm e M .normal):Em cx Q st nm e M fs ops:=⟨C9 hp,h⟩
def aZ {fs:List (List Nat)}{ops:List Oper}{ps:List (Nat×Nat)}(hp:wD cx.P ops=ps)(hps:∀ p∈ps,∀ x∈fs.getD p.1 [],x ∉ fs.getD p.2 [])(h:dY cx Q st nm e M .normal):Em cx Q st nm e M fs ops:=⟨by unfold ko;rw[hp];exact hps,h⟩
def ED {c:Code}(J:Nat->Nat->Env->am->Prop)(g:Nat){n:Nat}{e':Env}{M':am}(hw:oG cx Q.b0 nm e M n e' M')(h0:J g n e' M')(hr:∀ g nm e M,J g nm e M->go cx Q (.again J g::st) nm e M c):qS cx Q st nm e M c:=⟨J,g,⟨_,_,_,hw,h0⟩,hr⟩
def yY {J:Nat->Nat->Env->am->Prop}{g:Nat}(g':Nat)(hg:g'<g){n:Nat}{e':Env}{M':am}(hw:oG cx Q.b0 nm e M n e' M')(h:J g' n e' M'):dY cx Q (.again J g::st) nm e M .normal:=⟨g',hg,_,_,_,hw,h⟩
end
def vq (cx:Cx)(fn:Func)(nm:Nat)(M:am)(v:V)(eff:List (Nat×Option Blk))(b0:Nat):Post:=⟨b0,ma cx fn nm M v eff b0⟩
def PM (cx:Cx)(fn:Func)(nm:Nat)(M:am)(v:V)(eff:List (Nat×Option Blk))(b0:Nat):(vq cx fn nm M v eff b0).q=ma cx fn nm M v eff b0:=rfl
def Ee (cx:Cx)(fn:Func)(nm:Nat)(M:am)(v:V)(eff:List (Nat×Option Blk))(b0:Nat):(vq cx fn nm M v eff b0).b0=b0:=rfl
def Rv {cx:Cx}(hD:cx.D=[]){f:FuncId}{nm:Nat}{args:List V}{M:am}{v:V}{eff:List (Nat×Option Blk)}{fn:Func}{c:Code}
  (hcall:∀ cargs w,(callFunc f cargs).run cx.P w = .ok (.enter f cargs) w) (hf:cx.P.funcs[f]? = some fn) (hb:fn.body=some c) (hm:cx.P.follows .mixedOrders=true) (hin:de fn.ntmps c=true) (hargs:decide (args.length<=fn.ntmps)=true)
  (hvc:∀ b0,(∀ x,b0<=x->M x=none)->go cx (vq cx fn nm M v eff b0) [] b0 (eW args) M c):Ev cx f nm args M v eff :=
 IR hD hcall hf hb hm hin (of_decide_eq_true hargs) hvc
def Qr (v:V)(b0:Nat):Post:=⟨b0,Ia v⟩
def ER (v:V)(b0:Nat):(Qr v b0).b0=b0:=rfl
def bg (cx:Cx)(v:V)(b0 nm:Nat)(e:Env)(M:am):dY cx (Qr v b0) [] nm e M (.panic v)=True:=eq_true rfl
def jz {cx:Cx}(hD:cx.D=[])(hG:∀ g,(cx.G g).plain=true){f:FuncId}{nm:Nat}{args:List V}{M:am}{v:V}{fn:Func}{c:Code}(hpl:v.plain=true)
  (hcall:∀ cargs w,(callFunc f cargs).run cx.P w = .ok (.enter f cargs) w) (hf:cx.P.funcs[f]? = some fn) (hb:fn.body=some c) (hm:cx.P.follows .mixedOrders=true) (hin:de fn.ntmps c=true) (hargs:decide (args.length<=fn.ntmps)=true)
  (hvc:∀ b0,(∀ x,b0<=x->M x=none)->go cx (Qr v b0) [] b0 (eW args) M c):yT cx f nm args M v :=
 FR hD hcall hf hb hm hin (of_decide_eq_true hargs) hG hpl hvc
def G8 (e:Env)(t:Nat)(v:V):e.putD (some t) v=e.put t v:=rfl
def G7 (e:Env)(v:V):e.putD none v=e:=rfl
def Qt (e:Env)(t x:Nat)(v:V):(e.put t v) x=if x=t then v else e x:=rfl
def vL (c:Bool)(v:V):(V.gd c v).strip c=v:=by cases c<;>simp[V.strip]
def oB (c:Bool)(v:V):(V.gd true v).strip c=v:=by simp[V.strip]
def Hu (c:Bool):V.any.strip c = .any:=rfl
def DG (c b:Bool):(V.bool b).strip c = .bool b:=rfl
def Hv (c t f:Bool):(V.bit t f).strip c = .bit t f:=rfl
def Hx (c:Bool)(k:IntKind)(n:Int):(V.int k n).strip c = .int k n:=rfl
def HA (c:Bool)(s:List UInt8):(V.str s).strip c = .str s:=rfl
def DI (c:Bool):V.nilp.strip c = .nilp:=rfl
def HC (c:Bool):V.upt.strip c = .upt:=rfl
def Hz (c:Bool)(a b d:Nat):(V.ptr a b d).strip c = .ptr a b d:=rfl
def Ls (c:Bool)(l:List V):(V.rp l).strip c = .rp l:=rfl
def DJ (c:Bool):V.nils.strip c = .nils:=rfl
def Lt (c t:Bool)(s:Nat)(l:List (List V)):(V.sl t s l).strip c = .sl t s l:=rfl
def Hy (c:Bool)(a b d:Nat):(V.own a b d).strip c = .own a b d:=rfl
def DK (c:Bool)(a b d e:Nat):(V.ownc a b d e).strip c = .ownc a b d e:=rfl
def DH (c:Bool)(a:Nat):(V.chan a).strip c = .chan a:=rfl
def Lr (c:Bool)(a:Nat):(V.mp a).strip c = .mp a:=rfl
def Hw (c:Bool)(f:Nat)(l:List V):(V.fnb f l).strip c = .fnb f l:=rfl
def A3 (c:Bool)(t:TypeId)(v:V):(V.iface t v).strip c = .iface t v:=rfl
def Lq (c:Bool)(f:Nat)(l:List V):(V.fn f l).strip c = .fn f l:=rfl
def Ht (c:Bool)(l:List V):(V.agg l).strip c = .agg l:=rfl
def HB (c:Bool)(l:List V):(V.tup l).strip c = .tup l:=rfl
def HD (c:Bool)(v:Value):(V.val v).strip c = .val v:=rfl
def J0  : V.isNilI (.any )=false:=rfl
def GP (a0:Bool):V.isNilI (.bool a0)=false:=rfl
def J1 (a0:Bool)(a1:Bool):V.isNilI (.bit a0 a1)=false:=rfl
def J3 (a0:IntKind)(a1:Int):V.isNilI (.int a0 a1)=false:=rfl
def J7 (a0:List UInt8):V.isNilI (.str a0)=false:=rfl
def GR  : V.isNilI (.nilp )=false:=rfl
def J9  : V.isNilI (.upt )=false:=rfl
def J6 (a0:Nat)(a1:Nat)(a2:Nat):V.isNilI (.ptr a0 a1 a2)=false:=rfl
def NV (a0:List V):V.isNilI (.rp a0)=false:=rfl
def GS  : V.isNilI (.nils )=false:=rfl
def NW (a0:Bool)(a1:Nat)(a2:List (List V)):V.isNilI (.sl a0 a1 a2)=false:=rfl
def J5 (a0:Nat)(a1:Nat)(a2:Nat):V.isNilI (.own a0 a1 a2)=false:=rfl
def GT (a0:Nat)(a1:Nat)(a2:Nat)(a3:Nat):V.isNilI (.ownc a0 a1 a2 a3)=false:=rfl
def GQ (a0:Nat):V.isNilI (.chan a0)=false:=rfl
def NU (a0:Nat):V.isNilI (.mp a0)=false:=rfl
def NS (a0:Nat)(a1:List V):V.isNilI (.fn a0 a1)=false:=rfl
def J2 (a0:Nat)(a1:List V):V.isNilI (.fnb a0 a1)=false:=rfl
def JZ (a0:List V):V.isNilI (.agg a0)=false:=rfl
def J8 (a0:List V):V.isNilI (.tup a0)=false:=rfl
def NT (a0:Bool)(a1:V):V.isNilI (.gd a0 a1)=false:=rfl
def C0 (a0:TypeId)(a1:V):V.isNilI (.iface a0 a1)=false:=rfl
def J4:V.isNilI (.val .nilIface)=true:=rfl
def G5 (c x y:Bool):iY c (.bool x) (.bool y) = .bool (if c then x else y):=rfl
def KO (c x:Bool):iY c (.gd c (.bool x)) (.bool false) = .bool (c&&x):=by cases c<;>simp[iY,V.strip]
def N8 (c x:Bool):iY c (.bool true) (.gd (!c) (.bool x)) = .bool (c||x):=by cases c<;>simp[iY,V.strip]
def G4 (c x:Bool):iY c ((V.gd c (.bool x)).strip true) (.bool false) = .bool (c&&x):=by cases c<;>simp[iY,V.strip]
def KP (c x:Bool):iY c (.bool true) ((V.gd (!c) (.bool x)).strip true) = .bool (c||x):=by cases c<;>simp[iY,V.strip]
def Fq (b:Bool):(b==true)=b:=by cases b<;>rfl
def BL (b:Bool):(b==false) = !b:=by cases b<;>rfl
def yW (a b c:Nat):a+b+c=a+(b+c):=Nat.add_assoc a b c
def H4 (l:List V)(t:Nat):eW l t=(l[t]?).getD .any:=rfl
def app_nil (M:am):M.app []=M:=rfl
def y4 (M:am)(x:Nat)(k:Option Blk)(r:List (Nat×Option Blk)):M.app ((x,k)::r)=(M.put x k).app r:=rfl
def NQ (M:am)(nm x:Nat)(k:Option Blk):(M.put nm k) x=if x=nm then k else M x:=rfl
def Qk (x:Nat):am.nil x=none:=rfl
mutual
def V.flat:V->Bool
 | .any | .bool _ | .bit _ _ | .int _ _ | .str _ | .nilp | .upt | .nils | .val _=>true
 | .agg cs=>flatL cs
 | .tup cs=>flatL cs
 | .gd _ v=>v.flat
 | .iface _ v=>v.flat
 | _=>false
def flatL:List V->Bool
 | []=>true
 | v::r=>v.flat&&flatL r
end
def nL {l:List V}(h:flatL l=true){i:Nat}{u:V}(hi:l[i]? = some u):u.flat=true:=by
 induction l generalizing i with
 | nil=>simp at hi
 | cons v r ih =>
  simp only[flatL,Bool.and_eq_true]at h
  cases i with
  | zero=>simp at hi;subst hi;exact h.1
  | succ i=>exact ih h.2 (by simpa using hi)
def Is.flat {Y Y':Names}{D D':Nat->Prop}{w w':World}{v:V}{cv:Value}(h:Is Y D w v cv)(hp:v.flat=true):Is Y' D' w' v cv:=by
 induction h with
 | any cv=>exact .any _
 | bool b=>exact .bool _
 | bit b ht hf=>exact .bit b ht hf
 | int k n=>exact .int _ _
 | str s=>exact .str _
 | nilp=>exact .nilp
 | upt p=>exact .upt p
 | ptr h=>simp[V.flat]at hp
 | rp cv hd hb hc _ ih=>simp[V.flat]at hp
 | nils=>exact .nils
 | sl0 ht=>simp[V.flat]at hp
 | sl cv hc ht hd hb hr hx _ ih=>simp[V.flat]at hp
 | own0=>simp[V.flat]at hp
 | own h hl hc=>simp[V.flat]at hp
 | ownc0=>simp[V.flat]at hp
 | ownc h hl hc=>simp[V.flat]at hp
 | chan h=>simp[V.flat]at hp
 | mp h=>simp[V.flat]at hp
 | fn hn _ ih=>simp[V.flat]at hp
 | fnb hn _ ih=>simp[V.flat]at hp
 | iface _ ih=>exact .iface (ih (by simpa [V.flat] using hp))
 | agg hn _ ih=>exact .agg hn (fun i u cv hi hc=>ih i u cv hi hc (nL (by simpa [V.flat] using hp) hi))
 | tup hn _ ih=>exact .tup hn (fun i u cv hi hc=>ih i u cv hi hc (nL (by simpa [V.flat] using hp) hi))
 | gd _ h0 ih=>exact .gd (fun hb=>ih hb (by simpa [V.flat] using hp)) h0
 | val v=>exact .val _
def Ev.view {cx:Cx}{f:FuncId}{nm:Nat}{args:List V}{M:am}{v:V}(h:Ev cx f nm (finL [] M args) am.nil v [])(hok:finLOk [] M args)(hv:v.flat=true):Ev cx f nm args M v []:=by
  refine⟨h.1,fun X w Y cargs B hr hfresh hB hn hargs=>?_⟩
  have hdom:∀ b,bH X Y am.nil b->bH X Y M b:=by
    rintro b (hx|⟨nm,l,h1,_⟩)
    · exact .inl hx
    · simp[am.nil]at h1
  have hr0:Rel cx.G X w (bG Y am.nil) Y am.nil w :=
    { size:=Nat.le_refl _,os:=rfl,tape:=rfl,output:=rfl,old:=fun _ _ _=>rfl
      live:=fun nm k hk=>by simp[am.nil]at hk
      inj:=fun nm nm' l l' h1=>by simp[am.nil]at h1
      hX:=fun b hb=>⟨(hr.hX b hb).1,by rintro ⟨nm,q,h1,_⟩;simp[am.nil]at h1⟩
      glob:=fun g=>(hr.glob g).step (fun _ _ h=>h) (Nat.le_refl _) (fun _ _ _=>rfl) (fun b _ hb=>hdom b hb) }
  refine(h.2 X w Y cargs B hr0 hfresh (fun x hx=>⟨rfl,(hB x hx).2⟩) (by rw[df];exact hn) ?_).mono ?_
  · intro i u cv hi hc
    rw[fu]at hi
    obtain⟨u',h1,rfl⟩:=Option.map_eq_some_iff.1 hi
    refine lE (cx:=cx) hr (fun nm y hy=>by simp[aT]at hy) hdom (fun nm l _ hM hl=>?_) (hargs i u' cv h1 hc) (dG hok h1)
    rintro (hx|⟨nm',q,h2,_⟩)
    · exact(hr.block_lt hM hl).2.1 hx
    · simp[am.nil]at h2
  · rintro e' w' ⟨cv,rfl,Y',r,m,hvv,hn'⟩
    have hkept:∀ b,b<w.heap.size->w'.heap[b]? = w.heap[b]?:=fun b hb=>m.kept b hb (fun nm l h1=>by simp[am.nil]at h1)
    have mv:Moves Y M w Y M w':=⟨fun _ _ h=>h,m.size,m.os,m.tape,m.output,fun b hb _=>hkept b hb,fun nm l h1 h2 _=>⟨nm,l,h1,h2,rfl⟩⟩
    refine⟨cv,rfl,Y,?_,mv,hvv.flat hv,fun _ _=>rfl⟩
    exact hr.move mv hr.inj (fun nm k hk=>.inl ⟨hk,id,fun l hl=>hkept l.b (hr.block_lt (by rw[show M nm=some k from hk];rfl) hl).1⟩)
section
variable {cx:Cx} {Q:Post} {st:List Frm} {nm:Nat} {e:Env} {M:am}
def Fx {d:Bool}{fs:List (List Nat)}{ops:List Oper}{dst:Option Tmp}{g:FuncId}{args:Array Operand}{ats:Array TypeId}{t:TypeId}{pos:String}{af:Array Edge}{r:List Oper}{i:Nat}{as as':List V}
  (l:List Nat) (has:args.toList.map (aw cx.G true e)=as) (has':finL [] (M.only l) as=as') (hok:finLOk [] (M.only l) as) {v:V} (hv:v.flat=true) (hev:Ev cx g (nm+16*i) as' am.nil v []) (h:aK cx Q st nm (e.putD dst v) M d (fs++[l]) ops r (i+1)):gc cx Q st nm e M d fs ops ⟨dst,.call ⟨.value (.func g),args,ats⟩,t,pos,af,none⟩ r i :=
 ac has l (Ev.view (by rw[has'];exact hev) hok hv) (fun x hx=>by simp[ao]at hx) (by simpa [ao,am.app] using h)
def b8 {d:Bool}{fs:List (List Nat)}{ops:List Oper}{dst:Option Tmp}{g:FuncId}{args:Array Operand}{ats:Array TypeId}{t:TypeId}{pos:String}{af:Array Edge}{r:List Oper}{i:Nat}{as:List V}
  (has:args.toList.map (aw cx.G true e)=as) {v:V} {eff:List (Nat×Option Blk)} (hev:Ev cx g (nm+16*i) as am.nil v eff) (he:∀ x∈ao eff,nm+16*i<=x/\x<nm+16*i+16)
  (h:aK cx Q st nm (e.putD dst v) (M.app eff) d (fs++[ao eff]) ops r (i+1)):gc cx Q st nm e M d fs ops ⟨dst,.call ⟨.value (.func g),args,ats⟩,t,pos,af,none⟩ r i :=
 ac has [] (by rw[am.only_nil];exact hev) (fun x hx=>.inr (he x hx)) (by simpa using h)
def BM {d:Bool}{fs:List (List Nat)}{ops:List Oper}{c:Bool}{dst:Option Tmp}{g:FuncId}{args:Array Operand}{ats:Array TypeId}{t:TypeId}{pos:String}{af:Array Edge}{gd:Option (Nat×Bool)}{r:List Oper}{i:Nat}{as as':List V}
  (l:List Nat) (has:args.toList.map (aw cx.G c e)=as) (has':c=true->finL [] (M.only l) as=as') (hok:c=true->finLOk [] (M.only l) as) {v:V} (hv:v.flat=true) (hev:c=true->Ev cx g (nm+16*i) as' am.nil v []) (h:aK cx Q st nm (e.putD dst (.gd c v)) M d (fs++[l]) ops r (i+1)):ez cx Q st nm e M d fs c ops ⟨dst,.call ⟨.value (.func g),args,ats⟩,t,pos,af,gd⟩ r i:=by
 subst has
 unfold ez iv
 refine .inl ?_
 simp only[aw,V.tgt,List.nil_append,List.append_nil]
 exact⟨l,v,fun hc=>Ev.view (by rw[has' hc];exact hev hc) (hok hc) hv,h⟩
end
def oz (b0:Nat)(M:am):List (Nat×Nat)->Prop
 | []=>True
 |(x,j)::r=>(j<16/\b0<=x/\(M x).isSome=true/\NY M x=true/\plainLL (bl M x)=true)/\(∀ p∈r,p.1≠x/\p.2≠j)/\oz b0 M r
def Le (nm:Nat)(M:am)(O:List (Nat×Nat)):List (Nat×Option Blk):=O.map (fun p=>(nm+p.2,M p.1))
def qm (nm:Nat)(O:List (Nat×Nat)):List (Nat×Nat):=O.map (fun p=>(p.1,nm+p.2))
def Hs {b0:Nat}{M:am}{O:List (Nat×Nat)}(h:oz b0 M O):∀ p∈O,p.2<16/\b0<=p.1/\(M p.1).isSome=true/\NY M p.1=true/\plainLL (bl M p.1)=true:=by
 induction O with
 | nil=>intro p hp;cases hp
 | cons q r ih =>
  intro p hp
  simp only[oz]at h
  rcases List.mem_cons.1 hp with rfl|hp
  ·exact h.1
  ·exact ih h.2.2 p hp
def rZ {b0:Nat}{M:am}(nm:Nat){O:List (Nat×Nat)}(h:oz b0 M O):((qm nm O).map (·.1)).Nodup/\((qm nm O).map (·.2)).Nodup:=by
 induction O with
 | nil=>exact⟨List.nodup_nil,List.nodup_nil⟩
 | cons q r ih =>
  simp only[oz]at h
  obtain⟨a,b⟩:=ih h.2.2
  refine⟨List.nodup_cons.2 ⟨?_,a⟩,List.nodup_cons.2 ⟨?_,b⟩⟩
  ·intro hm
   simp only[qm,List.map_map,List.mem_map,Function.comp_apply]at hm
   obtain⟨p,hp,he⟩:=hm
   exact(h.2.1 p hp).1 he
  ·intro hm
   simp only[qm,List.map_map,List.mem_map,Function.comp_apply]at hm
   obtain⟨p,hp,he⟩:=hm
   exact(h.2.1 p hp).2 (by omega)
def Fin.own {cx:Cx}{N:Nat}{rs:List ResultVar}{nm:Nat}{v:V}{eff:List (Nat×Option Blk)}{b0 n:Nat}{e:Env}{M:am}(gs:List Nat)(O:List (Nat×Nat))(h1:mf cx.P N rs e (M.ghosts n gs))(h2:(mj cx.P rs e (M.ghosts n gs)).finOk (qm nm O) (M.ghosts n gs))(h3:((mj cx.P rs e (M.ghosts n gs)).fin (qm nm O) (M.ghosts n gs)).le v)(h4:Le nm (M.ghosts n gs) O=eff)(h5:oz b0 (M.ghosts n gs) O):po cx N rs nm am.nil v eff b0 n e M:=by
 refine⟨gs,Fin.two ⟨h1,qm nm O,h2,h3,?_,(rZ nm h5).1,(rZ nm h5).2,?_,fun x hx=>by simp[am.nil]at hx⟩⟩
 ·rw[<- h4];simp[Le,qm]
 ·intro p hp
  simp only[qm,List.mem_map]at hp
  obtain⟨q,hq,rfl⟩:=hp
  obtain⟨g1,g2,g3,g5,g4⟩:=Hs h5 q hq
  refine⟨.inr ⟨⟨by simp,by simp;omega⟩,g2⟩,?_⟩
  obtain⟨k,hk⟩:=Option.isSome_iff_exists.1 g3
  refine⟨k,hk,?_,?_⟩
  ·simpa [NY,hk] using g5
  ·simpa [bl,hk] using g4
def bz {α β:Type}(f:α->β)(l:List α):(l.map f).take l.length=l.map f:=by rw[<- List.length_map (f:=f),List.take_length]
def Cs (M:am)(n:Nat):M.ghosts n []=M:=rfl
def zW (M:am)(n s:Nat)(r:List Nat):M.ghosts n (s::r)=(M.put n (some ⟨s,[]⟩)).ghosts (n+1) r:=rfl
def ec (x:Nat):aT [] x=none:=rfl
def fG (y z x:Nat)(r:List (Nat×Nat)):aT ((y,z)::r) x=if y=x then some z else aT r x:=by
 unfold aT
 rw[List.find?_cons]
 by_cases h:y=x
 ·subst h;simp
 ·have hb:(y==x)=false:=by simpa using h
  simp only[hb,h,if_false]
def lN (M:am)(l:List Nat)(x:Nat):(M.only l) x=if x∈l then M x else none:=rfl
def cA {α:Type}(f:α->List V)(h:∀ a,plainL (f a)=true)(l:List α):plainLL (l.map f)=true:=by
 rw[dF,List.all_eq_true]
 intro x hx
 obtain⟨a,_,rfl⟩:=List.mem_map.1 hx
 exact h a
def JO {a b:Nat}(h:a<b):(a=b)=False:=eq_false (by omega)
def CV {a b:Nat}(h:a<b):(b=a)=False:=eq_false (by omega)
def rh {a b:Nat}(h:a<b)(c:Nat):(a=b+c)=False:=eq_false (by omega)
def o7 {a b:Nat}(h:a<b)(c:Nat):(b+c=a)=False:=eq_false (by omega)
def yR {n:Int}(h1:-9223372036854775808<=n)(h2:n<=9223372036854775807):IntKind.i64.wrap n=n:=IntWalk.i64_in _ ⟨h1,h2⟩
def bd {n:Int}(h1:-9223372036854775808<=n:=by omega)(h2:n<=9223372036854775807:=by omega):IntKind.i64.wrap n=n:=yR h1 h2
def bR {p:Prop}[Decidable p](h:p:=by omega):decide p=true:=decide_eq_true h
def bm {p:Prop}[Decidable p](h:¬p:=by omega):decide p=false:=decide_eq_false h
def Te {b n nm:Nat}(h:b+n<=nm)(h0:0<n):(∀ c,(b=nm+c)=False)/\(b=nm)=False/\(∀ j c,j<n->(b+j=nm+c)=False) /\ ∀ j,j<n->(b+j=nm)=False :=
 ⟨fun c=>eq_false (by omega),eq_false (by omega),fun j c hj=>eq_false (by omega),fun j hj=>eq_false (by omega)⟩
section
variable {cx:Cx} {Q:Post} {st:List Frm} {nm:Nat} {e:Env} {M:am}
end
section
variable (cx:Cx) (Q:Post) (st:List Frm) (nm:Nat) (e:Env) (M:am)
variable (d:Bool) (fs:List (List Nat)) (ops:List Oper) (dst:Option Tmp) (t:TypeId) (pos:String) (af:Array Edge) (r:List Oper) (i:Nat)
def CA (x:Operand):aK cx Q st nm e M d fs ops (⟨dst,.move x,t,pos,af,none⟩::r) i=(bO cx true e M ⟨dst,.move x,t,pos,af,none⟩ /\
  aK cx Q st nm (e.putD dst (eN cx true e M (nm+16*i) ⟨dst,.move x,t,pos,af,none⟩)) (M.app (fK cx true e M (nm+16*i) ⟨dst,.move x,t,pos,af,none⟩)) d (fs++[ib cx true e (nm+16*i) ⟨dst,.move x,t,pos,af,none⟩]) ops r (i+1)):=propext Iff.rfl
def x4 (x:Operand):aK cx Q st nm e M d fs ops (⟨dst,.assign x,t,pos,af,none⟩::r) i=(bO cx true e M ⟨dst,.assign x,t,pos,af,none⟩ /\
  aK cx Q st nm (e.putD dst (eN cx true e M (nm+16*i) ⟨dst,.assign x,t,pos,af,none⟩)) (M.app (fK cx true e M (nm+16*i) ⟨dst,.assign x,t,pos,af,none⟩)) d (fs++[ib cx true e (nm+16*i) ⟨dst,.assign x,t,pos,af,none⟩]) ops r (i+1)):=propext Iff.rfl
def tY (x:Operand):aK cx Q st nm e M d fs ops (⟨dst,.nilCheck x,t,pos,af,none⟩::r) i=(bO cx true e M ⟨dst,.nilCheck x,t,pos,af,none⟩ /\
  aK cx Q st nm (e.putD dst (eN cx true e M (nm+16*i) ⟨dst,.nilCheck x,t,pos,af,none⟩)) (M.app (fK cx true e M (nm+16*i) ⟨dst,.nilCheck x,t,pos,af,none⟩)) d (fs++[ib cx true e (nm+16*i) ⟨dst,.nilCheck x,t,pos,af,none⟩]) ops r (i+1)):=propext Iff.rfl
def CC (x y z:Operand):aK cx Q st nm e M d fs ops (⟨dst,.pick x y z,t,pos,af,none⟩::r) i=(bO cx true e M ⟨dst,.pick x y z,t,pos,af,none⟩ /\
  aK cx Q st nm (e.putD dst (eN cx true e M (nm+16*i) ⟨dst,.pick x y z,t,pos,af,none⟩)) (M.app (fK cx true e M (nm+16*i) ⟨dst,.pick x y z,t,pos,af,none⟩)) d (fs++[ib cx true e (nm+16*i) ⟨dst,.pick x y z,t,pos,af,none⟩]) ops r (i+1)):=propext Iff.rfl
def z8 (ty:TypeId)(ps:Array (Nat×Operand)):aK cx Q st nm e M d fs ops (⟨dst,.build ty ps,t,pos,af,none⟩::r) i=(bO cx true e M ⟨dst,.build ty ps,t,pos,af,none⟩ /\
  aK cx Q st nm (e.putD dst (eN cx true e M (nm+16*i) ⟨dst,.build ty ps,t,pos,af,none⟩)) (M.app (fK cx true e M (nm+16*i) ⟨dst,.build ty ps,t,pos,af,none⟩)) d (fs++[ib cx true e (nm+16*i) ⟨dst,.build ty ps,t,pos,af,none⟩]) ops r (i+1)):=propext Iff.rfl
def Cz (ty:TypeId)(x:Operand):aK cx Q st nm e M d fs ops (⟨dst,.load ty x,t,pos,af,none⟩::r) i=(bO cx true e M ⟨dst,.load ty x,t,pos,af,none⟩ /\
  aK cx Q st nm (e.putD dst (eN cx true e M (nm+16*i) ⟨dst,.load ty x,t,pos,af,none⟩)) (M.app (fK cx true e M (nm+16*i) ⟨dst,.load ty x,t,pos,af,none⟩)) d (fs++[ib cx true e (nm+16*i) ⟨dst,.load ty x,t,pos,af,none⟩]) ops r (i+1)):=propext Iff.rfl
def z7 (o:BinOp)(ty:TypeId)(x y:Operand)(yt:TypeId):aK cx Q st nm e M d fs ops (⟨dst,.binOp o ty x y yt,t,pos,af,none⟩::r) i=(bO cx true e M ⟨dst,.binOp o ty x y yt,t,pos,af,none⟩ /\
  aK cx Q st nm (e.putD dst (eN cx true e M (nm+16*i) ⟨dst,.binOp o ty x y yt,t,pos,af,none⟩)) (M.app (fK cx true e M (nm+16*i) ⟨dst,.binOp o ty x y yt,t,pos,af,none⟩)) d (fs++[ib cx true e (nm+16*i) ⟨dst,.binOp o ty x y yt,t,pos,af,none⟩]) ops r (i+1)):=propext Iff.rfl
def CD (o:UnOp)(ty:TypeId)(x:Operand):aK cx Q st nm e M d fs ops (⟨dst,.unOp o ty x,t,pos,af,none⟩::r) i=(bO cx true e M ⟨dst,.unOp o ty x,t,pos,af,none⟩ /\
  aK cx Q st nm (e.putD dst (eN cx true e M (nm+16*i) ⟨dst,.unOp o ty x,t,pos,af,none⟩)) (M.app (fK cx true e M (nm+16*i) ⟨dst,.unOp o ty x,t,pos,af,none⟩)) d (fs++[ib cx true e (nm+16*i) ⟨dst,.unOp o ty x,t,pos,af,none⟩]) ops r (i+1)):=propext Iff.rfl
def sf (ty:TypeId)(x:Operand)(f:Nat):aK cx Q st nm e M d fs ops (⟨dst,.fieldAddr ty x f,t,pos,af,none⟩::r) i=(bO cx true e M ⟨dst,.fieldAddr ty x f,t,pos,af,none⟩ /\
  aK cx Q st nm (e.putD dst (eN cx true e M (nm+16*i) ⟨dst,.fieldAddr ty x f,t,pos,af,none⟩)) (M.app (fK cx true e M (nm+16*i) ⟨dst,.fieldAddr ty x f,t,pos,af,none⟩)) d (fs++[ib cx true e (nm+16*i) ⟨dst,.fieldAddr ty x f,t,pos,af,none⟩]) ops r (i+1)):=propext Iff.rfl
def sg (ty:TypeId)(x k:Operand):aK cx Q st nm e M d fs ops (⟨dst,.indexAddr ty x k,t,pos,af,none⟩::r) i=(bO cx true e M ⟨dst,.indexAddr ty x k,t,pos,af,none⟩ /\
  aK cx Q st nm (e.putD dst (eN cx true e M (nm+16*i) ⟨dst,.indexAddr ty x k,t,pos,af,none⟩)) (M.app (fK cx true e M (nm+16*i) ⟨dst,.indexAddr ty x k,t,pos,af,none⟩)) d (fs++[ib cx true e (nm+16*i) ⟨dst,.indexAddr ty x k,t,pos,af,none⟩]) ops r (i+1)):=propext Iff.rfl
def Aa (ty:TypeId)(x k:Operand):aK cx Q st nm e M d fs ops (⟨dst,.index ty x k,t,pos,af,none⟩::r) i=(bO cx true e M ⟨dst,.index ty x k,t,pos,af,none⟩ /\
  aK cx Q st nm (e.putD dst (eN cx true e M (nm+16*i) ⟨dst,.index ty x k,t,pos,af,none⟩)) (M.app (fK cx true e M (nm+16*i) ⟨dst,.index ty x k,t,pos,af,none⟩)) d (fs++[ib cx true e (nm+16*i) ⟨dst,.index ty x k,t,pos,af,none⟩]) ops r (i+1)):=propext Iff.rfl
def vC (x:Operand)(k:Nat):aK cx Q st nm e M d fs ops (⟨dst,.extract x k,t,pos,af,none⟩::r) i=(bO cx true e M ⟨dst,.extract x k,t,pos,af,none⟩ /\
  aK cx Q st nm (e.putD dst (eN cx true e M (nm+16*i) ⟨dst,.extract x k,t,pos,af,none⟩)) (M.app (fK cx true e M (nm+16*i) ⟨dst,.extract x k,t,pos,af,none⟩)) d (fs++[ib cx true e (nm+16*i) ⟨dst,.extract x k,t,pos,af,none⟩]) ops r (i+1)):=propext Iff.rfl
def tX (f:FuncId)(a c:Array Operand):aK cx Q st nm e M d fs ops (⟨dst,.makeFunc (.func f) a c,t,pos,af,none⟩::r) i=(bO cx true e M ⟨dst,.makeFunc (.func f) a c,t,pos,af,none⟩ /\
  aK cx Q st nm (e.putD dst (eN cx true e M (nm+16*i) ⟨dst,.makeFunc (.func f) a c,t,pos,af,none⟩)) (M.app (fK cx true e M (nm+16*i) ⟨dst,.makeFunc (.func f) a c,t,pos,af,none⟩)) d (fs++[ib cx true e (nm+16*i) ⟨dst,.makeFunc (.func f) a c,t,pos,af,none⟩]) ops r (i+1)):=propext Iff.rfl
def Gi (as:Array Operand)(ts:Array TypeId):aK cx Q st nm e M d fs ops (⟨dst,.call ⟨.builtin .len,as,ts⟩,t,pos,af,none⟩::r) i=(bO cx true e M ⟨dst,.call ⟨.builtin .len,as,ts⟩,t,pos,af,none⟩ /\
  aK cx Q st nm (e.putD dst (eN cx true e M (nm+16*i) ⟨dst,.call ⟨.builtin .len,as,ts⟩,t,pos,af,none⟩)) (M.app (fK cx true e M (nm+16*i) ⟨dst,.call ⟨.builtin .len,as,ts⟩,t,pos,af,none⟩)) d (fs++[ib cx true e (nm+16*i) ⟨dst,.call ⟨.builtin .len,as,ts⟩,t,pos,af,none⟩]) ops r (i+1)):=propext Iff.rfl
def Gj (as:Array Operand)(ts:Array TypeId):aK cx Q st nm e M d fs ops (⟨dst,.call ⟨.builtin .max,as,ts⟩,t,pos,af,none⟩::r) i=(bO cx true e M ⟨dst,.call ⟨.builtin .max,as,ts⟩,t,pos,af,none⟩ /\
  aK cx Q st nm (e.putD dst (eN cx true e M (nm+16*i) ⟨dst,.call ⟨.builtin .max,as,ts⟩,t,pos,af,none⟩)) (M.app (fK cx true e M (nm+16*i) ⟨dst,.call ⟨.builtin .max,as,ts⟩,t,pos,af,none⟩)) d (fs++[ib cx true e (nm+16*i) ⟨dst,.call ⟨.builtin .max,as,ts⟩,t,pos,af,none⟩]) ops r (i+1)):=propext Iff.rfl
def Gk (as:Array Operand)(ts:Array TypeId):aK cx Q st nm e M d fs ops (⟨dst,.call ⟨.builtin .min,as,ts⟩,t,pos,af,none⟩::r) i=(bO cx true e M ⟨dst,.call ⟨.builtin .min,as,ts⟩,t,pos,af,none⟩ /\
  aK cx Q st nm (e.putD dst (eN cx true e M (nm+16*i) ⟨dst,.call ⟨.builtin .min,as,ts⟩,t,pos,af,none⟩)) (M.app (fK cx true e M (nm+16*i) ⟨dst,.call ⟨.builtin .min,as,ts⟩,t,pos,af,none⟩)) d (fs++[ib cx true e (nm+16*i) ⟨dst,.call ⟨.builtin .min,as,ts⟩,t,pos,af,none⟩]) ops r (i+1)):=propext Iff.rfl
def Gh (as:Array Operand)(ts:Array TypeId):aK cx Q st nm e M d fs ops (⟨dst,.call ⟨.builtin .cap,as,ts⟩,t,pos,af,none⟩::r) i=(bO cx true e M ⟨dst,.call ⟨.builtin .cap,as,ts⟩,t,pos,af,none⟩ /\
  aK cx Q st nm (e.putD dst (eN cx true e M (nm+16*i) ⟨dst,.call ⟨.builtin .cap,as,ts⟩,t,pos,af,none⟩)) (M.app (fK cx true e M (nm+16*i) ⟨dst,.call ⟨.builtin .cap,as,ts⟩,t,pos,af,none⟩)) d (fs++[ib cx true e (nm+16*i) ⟨dst,.call ⟨.builtin .cap,as,ts⟩,t,pos,af,none⟩]) ops r (i+1)):=propext Iff.rfl
def z6 (ty:TypeId):aK cx Q st nm e M d fs ops (⟨dst,.alloc ty,t,pos,af,none⟩::r) i=(bO cx true e M ⟨dst,.alloc ty,t,pos,af,none⟩ /\
  aK cx Q st nm (e.putD dst (eN cx true e M (nm+16*i) ⟨dst,.alloc ty,t,pos,af,none⟩)) (M.app (fK cx true e M (nm+16*i) ⟨dst,.alloc ty,t,pos,af,none⟩)) d (fs++[ib cx true e (nm+16*i) ⟨dst,.alloc ty,t,pos,af,none⟩]) ops r (i+1)):=propext Iff.rfl
def Gg (ty:TypeId)(x:Operand):aK cx Q st nm e M d fs ops (⟨dst,.box ty x,t,pos,af,none⟩::r) i=(bO cx true e M ⟨dst,.box ty x,t,pos,af,none⟩ /\
  aK cx Q st nm (e.putD dst (eN cx true e M (nm+16*i) ⟨dst,.box ty x,t,pos,af,none⟩)) (M.app (fK cx true e M (nm+16*i) ⟨dst,.box ty x,t,pos,af,none⟩)) d (fs++[ib cx true e (nm+16*i) ⟨dst,.box ty x,t,pos,af,none⟩]) ops r (i+1)):=propext Iff.rfl
def qT (ty:TypeId)(n:Nat)(ps:Array (Nat×Operand)):aK cx Q st nm e M d fs ops (⟨dst,.buildSlice ty n ps,t,pos,af,none⟩::r) i=(bO cx true e M ⟨dst,.buildSlice ty n ps,t,pos,af,none⟩ /\
  aK cx Q st nm (e.putD dst (eN cx true e M (nm+16*i) ⟨dst,.buildSlice ty n ps,t,pos,af,none⟩)) (M.app (fK cx true e M (nm+16*i) ⟨dst,.buildSlice ty n ps,t,pos,af,none⟩)) d (fs++[ib cx true e (nm+16*i) ⟨dst,.buildSlice ty n ps,t,pos,af,none⟩]) ops r (i+1)):=propext Iff.rfl
def Ad (ty:TypeId)(x v:Operand):aK cx Q st nm e M d fs ops (⟨dst,.store ty x v,t,pos,af,none⟩::r) i=(bO cx true e M ⟨dst,.store ty x v,t,pos,af,none⟩ /\
  aK cx Q st nm (e.putD dst (eN cx true e M (nm+16*i) ⟨dst,.store ty x v,t,pos,af,none⟩)) (M.app (fK cx true e M (nm+16*i) ⟨dst,.store ty x v,t,pos,af,none⟩)) d (fs++[ib cx true e (nm+16*i) ⟨dst,.store ty x v,t,pos,af,none⟩]) ops r (i+1)):=propext Iff.rfl
def xZ (as:Array Operand)(ts:Array TypeId):aK cx Q st nm e M d fs ops (⟨dst,.call ⟨.builtin .append,as,ts⟩,t,pos,af,none⟩::r) i=(bO cx true e M ⟨dst,.call ⟨.builtin .append,as,ts⟩,t,pos,af,none⟩ /\
  aK cx Q st nm (e.putD dst (eN cx true e M (nm+16*i) ⟨dst,.call ⟨.builtin .append,as,ts⟩,t,pos,af,none⟩)) (M.app (fK cx true e M (nm+16*i) ⟨dst,.call ⟨.builtin .append,as,ts⟩,t,pos,af,none⟩)) d (fs++[ib cx true e (nm+16*i) ⟨dst,.call ⟨.builtin .append,as,ts⟩,t,pos,af,none⟩]) ops r (i+1)):=propext Iff.rfl
def Cy (as:Array Operand)(ts:Array TypeId):aK cx Q st nm e M d fs ops (⟨dst,.call ⟨.builtin .copy,as,ts⟩,t,pos,af,none⟩::r) i=(bO cx true e M ⟨dst,.call ⟨.builtin .copy,as,ts⟩,t,pos,af,none⟩ /\
  aK cx Q st nm (e.putD dst (eN cx true e M (nm+16*i) ⟨dst,.call ⟨.builtin .copy,as,ts⟩,t,pos,af,none⟩)) (M.app (fK cx true e M (nm+16*i) ⟨dst,.call ⟨.builtin .copy,as,ts⟩,t,pos,af,none⟩)) d (fs++[ib cx true e (nm+16*i) ⟨dst,.call ⟨.builtin .copy,as,ts⟩,t,pos,af,none⟩]) ops r (i+1)):=propext Iff.rfl
def xW (b want:Bool)(x:Operand)(gd:Option (Nat×Bool)):bU cx Q st nm e M d fs (.bool b) want ops ⟨dst,.move x,t,pos,af,gd⟩ r i=(((b==want)=true->bO cx (b==want) e M ⟨dst,.move x,t,pos,af,gd⟩) /\
  aK cx Q st nm (e.putD dst (.gd (b==want) (eN cx (b==want) e M (nm+16*i) ⟨dst,.move x,t,pos,af,gd⟩))) M d (fs++[ib cx (b==want) e (nm+16*i) ⟨dst,.move x,t,pos,af,gd⟩]) ops r (i+1)):=propext Iff.rfl
def qR (b want:Bool)(x:Operand)(gd:Option (Nat×Bool)):bU cx Q st nm e M d fs (.bool b) want ops ⟨dst,.nilCheck x,t,pos,af,gd⟩ r i=(((b==want)=true->bO cx (b==want) e M ⟨dst,.nilCheck x,t,pos,af,gd⟩) /\
  aK cx Q st nm (e.putD dst (.gd (b==want) (eN cx (b==want) e M (nm+16*i) ⟨dst,.nilCheck x,t,pos,af,gd⟩))) M d (fs++[ib cx (b==want) e (nm+16*i) ⟨dst,.nilCheck x,t,pos,af,gd⟩]) ops r (i+1)):=propext Iff.rfl
def xX (b want:Bool)(x y z:Operand)(gd:Option (Nat×Bool)):bU cx Q st nm e M d fs (.bool b) want ops ⟨dst,.pick x y z,t,pos,af,gd⟩ r i=(((b==want)=true->bO cx (b==want) e M ⟨dst,.pick x y z,t,pos,af,gd⟩) /\
  aK cx Q st nm (e.putD dst (.gd (b==want) (eN cx (b==want) e M (nm+16*i) ⟨dst,.pick x y z,t,pos,af,gd⟩))) M d (fs++[ib cx (b==want) e (nm+16*i) ⟨dst,.pick x y z,t,pos,af,gd⟩]) ops r (i+1)):=propext Iff.rfl
def xV (b want:Bool)(ty:TypeId)(x:Operand)(gd:Option (Nat×Bool)):bU cx Q st nm e M d fs (.bool b) want ops ⟨dst,.load ty x,t,pos,af,gd⟩ r i=(((b==want)=true->bO cx (b==want) e M ⟨dst,.load ty x,t,pos,af,gd⟩) /\
  aK cx Q st nm (e.putD dst (.gd (b==want) (eN cx (b==want) e M (nm+16*i) ⟨dst,.load ty x,t,pos,af,gd⟩))) M d (fs++[ib cx (b==want) e (nm+16*i) ⟨dst,.load ty x,t,pos,af,gd⟩]) ops r (i+1)):=propext Iff.rfl
def vy (b want:Bool)(o:BinOp)(ty:TypeId)(x y:Operand)(yt:TypeId)(gd:Option (Nat×Bool)):bU cx Q st nm e M d fs (.bool b) want ops ⟨dst,.binOp o ty x y yt,t,pos,af,gd⟩ r i=(((b==want)=true->bO cx (b==want) e M ⟨dst,.binOp o ty x y yt,t,pos,af,gd⟩) /\
  aK cx Q st nm (e.putD dst (.gd (b==want) (eN cx (b==want) e M (nm+16*i) ⟨dst,.binOp o ty x y yt,t,pos,af,gd⟩))) M d (fs++[ib cx (b==want) e (nm+16*i) ⟨dst,.binOp o ty x y yt,t,pos,af,gd⟩]) ops r (i+1)):=propext Iff.rfl
def xY (b want:Bool)(o:UnOp)(ty:TypeId)(x:Operand)(gd:Option (Nat×Bool)):bU cx Q st nm e M d fs (.bool b) want ops ⟨dst,.unOp o ty x,t,pos,af,gd⟩ r i=(((b==want)=true->bO cx (b==want) e M ⟨dst,.unOp o ty x,t,pos,af,gd⟩) /\
  aK cx Q st nm (e.putD dst (.gd (b==want) (eN cx (b==want) e M (nm+16*i) ⟨dst,.unOp o ty x,t,pos,af,gd⟩))) M d (fs++[ib cx (b==want) e (nm+16*i) ⟨dst,.unOp o ty x,t,pos,af,gd⟩]) ops r (i+1)):=propext Iff.rfl
def pQ (b want:Bool)(ty:TypeId)(x:Operand)(f:Nat)(gd:Option (Nat×Bool)):bU cx Q st nm e M d fs (.bool b) want ops ⟨dst,.fieldAddr ty x f,t,pos,af,gd⟩ r i=(((b==want)=true->bO cx (b==want) e M ⟨dst,.fieldAddr ty x f,t,pos,af,gd⟩) /\
  aK cx Q st nm (e.putD dst (.gd (b==want) (eN cx (b==want) e M (nm+16*i) ⟨dst,.fieldAddr ty x f,t,pos,af,gd⟩))) M d (fs++[ib cx (b==want) e (nm+16*i) ⟨dst,.fieldAddr ty x f,t,pos,af,gd⟩]) ops r (i+1)):=propext Iff.rfl
def pR (b want:Bool)(ty:TypeId)(x k:Operand)(gd:Option (Nat×Bool)):bU cx Q st nm e M d fs (.bool b) want ops ⟨dst,.indexAddr ty x k,t,pos,af,gd⟩ r i=(((b==want)=true->bO cx (b==want) e M ⟨dst,.indexAddr ty x k,t,pos,af,gd⟩) /\
  aK cx Q st nm (e.putD dst (.gd (b==want) (eN cx (b==want) e M (nm+16*i) ⟨dst,.indexAddr ty x k,t,pos,af,gd⟩))) M d (fs++[ib cx (b==want) e (nm+16*i) ⟨dst,.indexAddr ty x k,t,pos,af,gd⟩]) ops r (i+1)):=propext Iff.rfl
def vz (b want:Bool)(ty:TypeId)(x k:Operand)(gd:Option (Nat×Bool)):bU cx Q st nm e M d fs (.bool b) want ops ⟨dst,.index ty x k,t,pos,af,gd⟩ r i=(((b==want)=true->bO cx (b==want) e M ⟨dst,.index ty x k,t,pos,af,gd⟩) /\
  aK cx Q st nm (e.putD dst (.gd (b==want) (eN cx (b==want) e M (nm+16*i) ⟨dst,.index ty x k,t,pos,af,gd⟩))) M d (fs++[ib cx (b==want) e (nm+16*i) ⟨dst,.index ty x k,t,pos,af,gd⟩]) ops r (i+1)):=propext Iff.rfl
def qQ (b want:Bool)(f:FuncId)(a c:Array Operand)(gd:Option (Nat×Bool)):bU cx Q st nm e M d fs (.bool b) want ops ⟨dst,.makeFunc (.func f) a c,t,pos,af,gd⟩ r i=(((b==want)=true->bO cx (b==want) e M ⟨dst,.makeFunc (.func f) a c,t,pos,af,gd⟩) /\
  aK cx Q st nm (e.putD dst (.gd (b==want) (eN cx (b==want) e M (nm+16*i) ⟨dst,.makeFunc (.func f) a c,t,pos,af,gd⟩))) M d (fs++[ib cx (b==want) e (nm+16*i) ⟨dst,.makeFunc (.func f) a c,t,pos,af,gd⟩]) ops r (i+1)):=propext Iff.rfl
def zZ (b want:Bool)(as:Array Operand)(ts:Array TypeId)(gd:Option (Nat×Bool)):bU cx Q st nm e M d fs (.bool b) want ops ⟨dst,.call ⟨.builtin .len,as,ts⟩,t,pos,af,gd⟩ r i=(((b==want)=true->bO cx (b==want) e M ⟨dst,.call ⟨.builtin .len,as,ts⟩,t,pos,af,gd⟩) /\
  aK cx Q st nm (e.putD dst (.gd (b==want) (eN cx (b==want) e M (nm+16*i) ⟨dst,.call ⟨.builtin .len,as,ts⟩,t,pos,af,gd⟩))) M d (fs++[ib cx (b==want) e (nm+16*i) ⟨dst,.call ⟨.builtin .len,as,ts⟩,t,pos,af,gd⟩]) ops r (i+1)):=propext Iff.rfl
def si (ty:TypeId)(x y:Operand):aK cx Q st nm e M d fs ops (⟨dst,.makeSlice ty x y,t,pos,af,none⟩::r) i=cp cx Q st nm e M d fs ops ⟨dst,.makeSlice ty x y,t,pos,af,none⟩ r i:=propext Iff.rfl
def vD (ty:TypeId)(x:Option Operand):aK cx Q st nm e M d fs ops (⟨dst,.makeMap ty x,t,pos,af,none⟩::r) i=cp cx Q st nm e M d fs ops ⟨dst,.makeMap ty x,t,pos,af,none⟩ r i:=propext Iff.rfl
def oa (ty:TypeId)(x:Operand):aK cx Q st nm e M d fs ops (⟨dst,.makeInterface ty x,t,pos,af,none⟩::r) i=cp cx Q st nm e M d fs ops ⟨dst,.makeInterface ty x,t,pos,af,none⟩ r i:=propext Iff.rfl
def qU (x:Operand)(ty ty2:TypeId)(ok:Bool):aK cx Q st nm e M d fs ops (⟨dst,.typeAssert x ty ty2 ok,t,pos,af,none⟩::r) i=cp cx Q st nm e M d fs ops ⟨dst,.typeAssert x ty ty2 ok,t,pos,af,none⟩ r i:=propext Iff.rfl
def x6 (ty:TypeId)(x y:Operand)(ok:Bool):aK cx Q st nm e M d fs ops (⟨dst,.lookup ty x y ok,t,pos,af,none⟩::r) i=cp cx Q st nm e M d fs ops ⟨dst,.lookup ty x y ok,t,pos,af,none⟩ r i:=propext Iff.rfl
def sj (ty:TypeId)(x y z:Operand):aK cx Q st nm e M d fs ops (⟨dst,.mapUpdate ty x y z,t,pos,af,none⟩::r) i=cp cx Q st nm e M d fs ops ⟨dst,.mapUpdate ty x y z,t,pos,af,none⟩ r i:=propext Iff.rfl
def x5 (ty:TypeId)(x y z:Operand):aK cx Q st nm e M d fs ops (⟨dst,.insert ty x y z,t,pos,af,none⟩::r) i=cp cx Q st nm e M d fs ops ⟨dst,.insert ty x y z,t,pos,af,none⟩ r i:=propext Iff.rfl
def Ab (ty:TypeId)(x:Operand):aK cx Q st nm e M d fs ops (⟨dst,.range ty x,t,pos,af,none⟩::r) i=cp cx Q st nm e M d fs ops ⟨dst,.range ty x,t,pos,af,none⟩ r i:=propext Iff.rfl
def CB (x:Operand)(s:Bool):aK cx Q st nm e M d fs ops (⟨dst,.next x s,t,pos,af,none⟩::r) i=cp cx Q st nm e M d fs ops ⟨dst,.next x s,t,pos,af,none⟩ r i:=propext Iff.rfl
def oV (as:Array Operand)(ts:Array TypeId):aK cx Q st nm e M d fs ops (⟨dst,.call ⟨.builtin .unsafeString,as,ts⟩,t,pos,af,none⟩::r) i=cp cx Q st nm e M d fs ops ⟨dst,.call ⟨.builtin .unsafeString,as,ts⟩,t,pos,af,none⟩ r i:=propext Iff.rfl
def mh (as:Array Operand)(ts:Array TypeId):aK cx Q st nm e M d fs ops (⟨dst,.call ⟨.builtin .unsafeSliceData,as,ts⟩,t,pos,af,none⟩::r) i=cp cx Q st nm e M d fs ops ⟨dst,.call ⟨.builtin .unsafeSliceData,as,ts⟩,t,pos,af,none⟩ r i:=propext Iff.rfl
def vB (ts td:TypeId)(x:Operand):aK cx Q st nm e M d fs ops (⟨dst,.convert ts td x,t,pos,af,none⟩::r) i=if io (cx.P.underlying ts) (cx.P.underlying td)=true then cp cx Q st nm e M d fs ops ⟨dst,.convert ts td x,t,pos,af,none⟩ r i else (bO cx true e M ⟨dst,.convert ts td x,t,pos,af,none⟩ /\
  aK cx Q st nm (e.putD dst (eN cx true e M (nm+16*i) ⟨dst,.convert ts td x,t,pos,af,none⟩)) M d (fs++[ib cx true e (nm+16*i) ⟨dst,.convert ts td x,t,pos,af,none⟩]) ops r (i+1)):=by
 unfold aK cp
 simp only[cj,fL,jF,hH,Bool.false_eq_true,if_false]
 split<;>rfl
def se (b want:Bool)(ts td:TypeId)(x:Operand)(gd:Option (Nat×Bool)):bU cx Q st nm e M d fs (.bool b) want ops ⟨dst,.convert ts td x,t,pos,af,gd⟩ r i=if io (cx.P.underlying ts) (cx.P.underlying td)=true then qP cx Q st nm e M d fs (b==want) ops ⟨dst,.convert ts td x,t,pos,af,gd⟩ r i else (((b==want)=true->bO cx (b==want) e M ⟨dst,.convert ts td x,t,pos,af,gd⟩) /\
  aK cx Q st nm (e.putD dst (.gd (b==want) (eN cx (b==want) e M (nm+16*i) ⟨dst,.convert ts td x,t,pos,af,gd⟩))) M d (fs++[ib cx (b==want) e (nm+16*i) ⟨dst,.convert ts td x,t,pos,af,gd⟩]) ops r (i+1)):=by
 unfold bU
 simp only[jE,fL,jF,oh,Bool.false_eq_true,if_false,if_true]
def zM (k:IntKind)(x:Option TypeDesc):io (some (.int k)) x=false:=rfl
def tL (k:IntKind)(x:Option TypeDesc):io x (some (.int k))=false:=by rcases x with _|x<;>first|rfl|(cases x<;>rfl)
def Cg:io (some .string) (some .string)=false:=rfl
def Cf (e:TypeId):io (some .string) (some (.slice e))=true:=rfl
def Cd (e:TypeId):io (some (.slice e)) (some .string)=true:=rfl
def Ce (e:TypeId):io (some (.pointer e)) (some .unsafePointer)=true:=rfl
def Ch (e:TypeId):io (some .unsafePointer) (some (.pointer e))=true:=rfl
def Ac (ty:TypeId)(x:Operand)(l h m:Option Operand):aK cx Q st nm e M d fs ops (⟨dst,.slice ty x l h m,t,pos,af,none⟩::r) i=if Fc (cx.P.underlying ty)=true then cp cx Q st nm e M d fs ops ⟨dst,.slice ty x l h m,t,pos,af,none⟩ r i else (bO cx true e M ⟨dst,.slice ty x l h m,t,pos,af,none⟩ /\
  aK cx Q st nm (e.putD dst (eN cx true e M (nm+16*i) ⟨dst,.slice ty x l h m,t,pos,af,none⟩)) M d (fs++[ib cx true e (nm+16*i) ⟨dst,.slice ty x l h m,t,pos,af,none⟩]) ops r (i+1)):=by
 unfold aK cp
 simp only[cj,fL,jF,hH,Bool.false_eq_true,if_false]
 split<;>rfl
def vA (b want:Bool)(ty:TypeId)(x:Operand)(l h m:Option Operand)(gd:Option (Nat×Bool)):bU cx Q st nm e M d fs (.bool b) want ops ⟨dst,.slice ty x l h m,t,pos,af,gd⟩ r i=if Fc (cx.P.underlying ty)=true then qP cx Q st nm e M d fs (b==want) ops ⟨dst,.slice ty x l h m,t,pos,af,gd⟩ r i else (((b==want)=true->bO cx (b==want) e M ⟨dst,.slice ty x l h m,t,pos,af,gd⟩) /\
  aK cx Q st nm (e.putD dst (.gd (b==want) (eN cx (b==want) e M (nm+16*i) ⟨dst,.slice ty x l h m,t,pos,af,gd⟩))) M d (fs++[ib cx (b==want) e (nm+16*i) ⟨dst,.slice ty x l h m,t,pos,af,gd⟩]) ops r (i+1)):=by
 unfold bU
 simp only[jE,fL,jF,oh,Bool.false_eq_true,if_false,if_true]
def H6:Fc (some .string)=false:=rfl
def Mi (e:TypeId):Fc (some (.slice e))=false:=rfl
def H5 (n:Nat)(e:TypeId):Fc (some (.array n e))=true:=rfl
def xU (d:Bool)(fs:List (List Nat))(b want:Bool)(ops:List Oper)(dst:Option Tmp)(f:Operand)(as:Array Operand)(ts:Array TypeId)(t:TypeId)(pos:String)(af:Array Edge)(r:List Oper)(i:Nat)(gd:Option (Nat×Bool)) :
  bU cx Q st nm e M d fs (.bool b) want ops ⟨dst,.call ⟨.value f,as,ts⟩,t,pos,af,gd⟩ r i=ez cx Q st nm e M d fs (b==want) ops ⟨dst,.call ⟨.value f,as,ts⟩,t,pos,af,gd⟩ r i:=propext Iff.rfl
end
end Go.Proofs.YtlnlopnpcmahgaaGreatDoor.Vm
namespace Go.Proofs.YtlnlopnpcmahgaaGreatDoor.Vm
open And renaming intro->Ai
open Go Go.RowKit
set_option linter.defProp false
def S4 :=
 (Ai (Ai (Ai (Ai @H6 (Ai @Mi @H5)) (Ai @Ch (Ai @Ce @jV.eq_1))) (Ai (Ai @jV.eq_2 (Ai @jV.eq_3 @jV.eq_4)) (Ai @Blk.ty_typed (Ai @Blk.ty_plain @cL)))) (Ai (Ai (Ai @Fu (Ai @BA.eq_1 @Cd)) (Ai @Cf (Ai @Cg @tL))) @zM))
def S5 :=
 (Ai (Ai @mh @oV) (Ai (Ai @CB @Ab) @x5))
def S6 :=
 (Ai (Ai (Ai @sj (Ai @x6 @qU)) (Ai @oa @vD)) (Ai (Ai @si @tW) (Ai @zY @xU)))
def S7 :=
 (Ai (Ai (Ai (Ai @zZ @qQ) (Ai @vz @pR)) (Ai (Ai @pQ (Ai @vA @se)) (Ai @xY (Ai @vy @xV)))) (Ai (Ai (Ai @xX @qR) (Ai @xW @xZ)) (Ai (Ai @Ad (Ai @qT @Gg)) (Ai @z6 (Ai @Gk @Gj)))))
def S8 :=
 (Ai (Ai (Ai (Ai @Gi (Ai @tX @vC)) (Ai @Aa @sg)) (Ai (Ai @sf (Ai @Ac @vB)) (Ai @CD (Ai @z7 @Cz)))) (Ai (Ai (Ai @z8 (Ai @CC @tY)) (Ai @x4 (Ai @CA @Np))) (Ai (Ai @Jn (Ai @Nm @go_ret)) (Ai @PW (Ai @Jl @Nl)))))
def S9 :=
 (Ai (Ai (Ai (Ai @Nn (Ai @Gm @iE)) (Ai @Gf (Ai @tV @vw))) (Ai (Ai @Jj (Ai @vv @xR)) (Ai @sd (Ai @tU @Gl)))) (Ai (Ai (Ai @tZ (Ai @Cw @z9)) (Ai @fL.eq_1 (Ai @fL.eq_2 @fL.eq_3))) (Ai (Ai @oh.eq_1 (Ai @oh.eq_2 @oh.eq_3)) (Ai @oh.eq_4 (Ai @oh.eq_5 @oh.eq_6)))))
def Ta :=
 (Ai (Ai (Ai (Ai @oh.eq_7 (Ai @oh.eq_8 @oh.eq_9)) (Ai @oh.eq_10 (Ai @oh.eq_11 @iT.eq_1))) (Ai (Ai @G8 (Ai @G7 @Qt)) (Ai @vL (Ai @oB @Hu)))) (Ai (Ai (Ai @DG (Ai @Hx @HA)) (Ai @DI (Ai @Hz @Ls))) (Ai (Ai @DJ (Ai @Lt @Hy)) (Ai @Lq (Ai @Ht @HB)))))
def Tb :=
 (Ai (Ai (Ai (Ai @HD (Ai @G5 @KO)) (Ai @N8 (Ai @G4 @KP))) (Ai (Ai @ge_iff_le.{0} (Ai @gt_iff_lt.{0} @mf.eq_1)) (Ai @mf.eq_2 (Ai @yA.eq_1 @yA.eq_2)))) (Ai (Ai (Ai @mj.eq_1 (Ai @mj.eq_2 @wO.eq_1)) (Ai @wO.eq_2 (Ai @V.fin.eq_1 @V.fin.eq_2))) (Ai (Ai @V.fin.eq_3 (Ai @V.fin.eq_4 @V.fin.eq_5)) (Ai @V.fin.eq_6 (Ai @V.fin.eq_7 @V.fin.eq_8)))))
def Tc :=
 (Ai (Ai (Ai (Ai @V.fin.eq_9 (Ai @V.fin.eq_10 @V.fin.eq_11)) (Ai @V.fin.eq_12 (Ai @V.finOk.eq_1 @V.finOk.eq_2))) (Ai (Ai @V.finOk.eq_3 (Ai @V.finOk.eq_4 @V.finOk.eq_5)) (Ai @V.finOk.eq_6 (Ai @V.finOk.eq_7 @V.finOk.eq_8)))) (Ai (Ai (Ai @V.finOk.eq_9 (Ai @V.finOk.eq_10 @V.finOk.eq_11)) (Ai @V.finOk.eq_12 (Ai @finL.eq_1 @finL.eq_2))) (Ai (Ai @finLOk.eq_1 (Ai @finLOk.eq_2 @V.plain.eq_1)) (Ai @V.plain.eq_2 (Ai @V.plain.eq_3 @V.plain.eq_4)))))
def Td :=
 (Ai (Ai (Ai (Ai @V.plain.eq_5 (Ai @V.plain.eq_6 @V.plain.eq_7)) (Ai @V.plain.eq_8 (Ai @V.plain.eq_9 @V.plain.eq_10))) (Ai (Ai @V.plain.eq_11 (Ai @V.plain.eq_12 @V.plain.eq_13)) (Ai @V.plain.eq_14 (Ai @plainL.eq_1 @plainL.eq_2)))) (Ai (Ai (Ai @plainLL.eq_1 (Ai @plainLL.eq_2 @Fq)) (Ai @BL (Ai @yW @H4))) (Ai (Ai @app_nil (Ai @y4 @NQ)) (Ai @Qk (Ai @bO.eq_1 @eN.eq_1)))))
def Ss :=
 (Ai (Ai (Ai (Ai @EF.eq_1 (Ai @EF.eq_2 @fK.eq_1)) (Ai @ib.eq_1 (Ai @bq.eq_1 @bq.eq_2))) (Ai (Ai @bq.eq_3 (Ai @bq.eq_4 @bq.eq_5)) (Ai @List.flatMap_cons.{0,0} (Ai @List.flatMap_nil.{0,0} @aw.eq_1)))) (Ai (Ai (Ai @aw.eq_2 (Ai @aw.eq_3 @aw.eq_4)) (Ai @N2.eq_1 (Ai @N2.eq_2 @mi.eq_1))) (Ai (Ai @mi.eq_2 (Ai @mi.eq_3 @mi.eq_4)) (Ai @mi.eq_5 (Ai @mi.eq_6 @kP.eq_1)))))
def Su :=
 (Ai (Ai (Ai (Ai @kP.eq_2 (Ai @ic.eq_1 @bW.eq_1)) (Ai @bW.eq_2 (Ai @bW.eq_3 @bW.eq_4))) (Ai (Ai @bW.eq_5 (Ai @bW.eq_6 @bW.eq_7)) (Ai @bW.eq_8 (Ai @bW.eq_9 @bI.eq_1)))) (Ai (Ai (Ai @bI.eq_2 (Ai @bI.eq_3 @bI.eq_4)) (Ai @bI.eq_5 (Ai @bI.eq_6 @bI.eq_7))) (Ai (Ai @sG.eq_def (Ai @cm.eq_1 @cm.eq_2)) (Ai @cm.eq_3 (Ai @cm.eq_4 @cm.eq_5)))))
def Sv :=
 (Ai (Ai (Ai (Ai @cm.eq_6 (Ai @cm.eq_7 @cm.eq_8)) (Ai @kE.eq_1 (Ai @kE.eq_2 @wv.eq_1))) (Ai (Ai @uj.eq_1 (Ai @target.eq_1 @target.eq_2)) (Ai @target.eq_3 (Ai @rowOf.eq_1 @bl.eq_1)))) (Ai (Ai (Ai @dP.eq_1 (Ai @V.isPtr.eq_1 @V.isPtr.eq_2)) (Ai @V.isPtr.eq_3 (Ai @V.one.eq_1 @V.one.eq_2))) (Ai (Ai @V.one.eq_3 (Ai @V.one.eq_4 @V.one.eq_5)) (Ai @V.one.eq_6 (Ai @V.cellsV.eq_1 @V.cellsV.eq_2)))))
def Sw :=
 (Ai (Ai (Ai (Ai @lV.eq_1 (Ai @lV.eq_2 @bt.eq_1)) (Ai @jk.eq_1 (Ai @jk.eq_2 @Pw.eq_1))) (Ai (Ai @gb.eq_1 (Ai @gb.eq_2 @gb.eq_3)) (Ai @mT.eq_1 (Ai @rX.eq_1 @tM.eq_1)))) (Ai (Ai (Ai @tM.eq_2 (Ai @pM.eq_1 @pM.eq_2)) (Ai @yd.eq_1 (Ai @yd.eq_2 @yd.eq_3))) (Ai (Ai @yd.eq_4 (Ai @yd.eq_5 @pV.eq_1)) (Ai @pV.eq_2 (Ai @bP.eq_1 @bP.eq_2)))))
def Sx :=
 (Ai (Ai (Ai (Ai @bP.eq_3 (Ai @bP.eq_4 @bP.eq_5)) (Ai @bP.eq_6 (Ai @dD.eq_def @oW.eq_1))) (Ai (Ai @oW.eq_2 (Ai @oW.eq_3 @pU.eq_1)) (Ai @pU.eq_2 (Ai @pU.eq_3 @ii.eq_1)))) (Ai (Ai (Ai @ii.eq_2 (Ai @ii.eq_3 @ii.eq_4)) (Ai @ii.eq_5 (Ai @ii.eq_6 @ii.eq_7))) (Ai (Ai @ii.eq_8 (Ai @sN.eq_1 @jp.eq_1)) (Ai @jp.eq_2 (Ai @dI.eq_1 @dI.eq_2)))))
def Sy :=
 (Ai (Ai (Ai (Ai @dI.eq_3 (Ai @dI.eq_4 @dI.eq_5)) (Ai @dI.eq_6 (Ai @dI.eq_7 @dI.eq_8))) (Ai (Ai @dI.eq_9 (Ai @dI.eq_10 @dI.eq_11)) (Ai @dI.eq_12 (Ai @dI.eq_13 @dI.eq_14)))) (Ai (Ai (Ai @dI.eq_15 (Ai @dI.eq_16 @dI.eq_17)) (Ai @iH.eq_1 (Ai @iH.eq_2 @iH.eq_3))) (Ai (Ai @iH.eq_4 (Ai @iH.eq_5 @kF.eq_1)) (Ai @kF.eq_2 (Ai @kF.eq_3 @kF.eq_4)))))
def Sz :=
 (Ai (Ai (Ai (Ai @kF.eq_5 (Ai @kF.eq_6 @kF.eq_7)) (Ai @kF.eq_8 (Ai @fC.eq_1 @fC.eq_2))) (Ai (Ai @fC.eq_3 (Ai @fC.eq_4 @fC.eq_5)) (Ai @fC.eq_6 (Ai @fC.eq_7 @fC.eq_8)))) (Ai (Ai (Ai @Cc.eq_1 (Ai @Cc.eq_2 @Cc.eq_3)) (Ai @Cc.eq_4 (Ai @M5.eq_1 @M5.eq_2))) (Ai (Ai @zC.eq_1 (Ai @zC.eq_2 @jX.eq_1)) (Ai @jX.eq_2 (Ai @jX.eq_3 @jX.eq_4)))))
def SA :=
 (Ai (Ai (Ai (Ai @jX.eq_5 (Ai @jX.eq_6 @jX.eq_7)) (Ai @jX.eq_8 (Ai @jX.eq_9 @jX.eq_10))) (Ai (Ai @jX.eq_11 (Ai @jX.eq_12 @jX.eq_13)) (Ai @jX.eq_14 (Ai @jX.eq_15 @gF.eq_1)))) (Ai (Ai (Ai @gF.eq_2 (Ai @gF.eq_3 @gF.eq_4)) (Ai @gF.eq_5 (Ai @gF.eq_6 @gF.eq_7))) (Ai (Ai @gF.eq_8 (Ai @gF.eq_9 @gF.eq_10)) (Ai @gF.eq_11 (Ai @gF.eq_12 @gF.eq_13)))))
def SB :=
 (Ai (Ai (Ai (Ai @gF.eq_14 (Ai @gF.eq_15 @QT.eq_1)) (Ai @QT.eq_2 (Ai @QT.eq_3 @QT.eq_4))) (Ai (Ai @QT.eq_5 (Ai @Be.eq_1 @Be.eq_2)) (Ai @Be.eq_3 (Ai @Be.eq_4 @Be.eq_5)))) (Ai (Ai (Ai @kK.eq_def (Ai @nC.eq_def @kj.eq_1)) (Ai @kj.eq_2 (Ai @iJ.eq_1 @iJ.eq_2))) (Ai (Ai @mS.eq_1 (Ai @mS.eq_2 @kM.eq_1)) (Ai @kM.eq_2 (Ai @lp.eq_1 @lp.eq_2)))))
def SC :=
 (Ai (Ai (Ai (Ai @kI.eq_1 (Ai @kI.eq_2 @tn.eq_1)) (Ai @sw.eq_1 (Ai @mc.eq_1 @mc.eq_2))) (Ai (Ai @nK.eq_1 (Ai @nK.eq_2 @iw.eq_1)) (Ai @jc.eq_1 (Ai @aO.eq_1 @aO.eq_2)))) (Ai (Ai (Ai @aO.eq_3 (Ai @aO.eq_4 @aO.eq_5)) (Ai @eQ.eq_1 (Ai @eQ.eq_2 @eQ.eq_3))) (Ai (Ai @eQ.eq_4 (Ai @eQ.eq_5 @eQ.eq_6)) (Ai @ou.eq_1 (Ai @ou.eq_2 @ou.eq_3)))))
def SD :=
 (Ai (Ai (Ai (Ai @ew.eq_1 (Ai @fg.eq_1 @fk.eq_1)) (Ai @List.toList_toArray.{0} (Ai @Int.toNat_natCast @Int.natCast_nonneg))) (Ai (Ai @Int.toNat_zero (Ai @Int.toNat_one @Nat.le_refl)) (Ai @Int.le_refl (Ai @Nat.zero_le @Nat.zero_mul)))) (Ai (Ai (Ai @Nat.one_mul (Ai @Nat.mul_one @Nat.add_zero)) (Ai @Nat.zero_add (Ai @Nat.mul_zero @Nat.add_left_cancel_iff))) (Ai (Ai @if_true.{1} (Ai @if_true.{0} @if_false.{1})) (Ai @if_false.{0} (Ai @ite_true.{1} @ite_true.{0})))))
def SE :=
 (Ai (Ai (Ai (Ai @ite_false.{1} (Ai @ite_false.{0} @Bool.false_eq_true)) (Ai @Bool.true_eq_false (Ai @Bool.not_true @Bool.not_false))) (Ai (Ai @decide_true (Ai @decide_false @true_implies)) (Ai @false_implies (Ai @implies_true.{1} @implies_true.{0})))) (Ai (Ai (Ai @and_true (Ai @true_and @and_false)) (Ai @false_and (Ai @and_self @List.getElem?_cons_zero.{0}))) (Ai (Ai @List.getElem?_cons_succ.{0} (Ai @List.getElem?_nil.{0} @List.map_cons.{0,0})) (Ai @List.map_nil.{0,0} (Ai @List.length_cons.{0} @List.length_nil.{0})))))
def SF :=
 (Ai (Ai (Ai (Ai @List.cons_append.{0} (Ai @List.nil_append.{0} @List.append_nil.{0})) (Ai @Option.getD_some.{0} (Ai @Option.getD_none.{0} @Option.isSome_some.{0}))) (Ai (Ai @Option.isSome_none.{0} (Ai @Option.map_some.{0,0} @Option.map_none.{0,0})) (Ai @List.drop_zero.{0} (Ai @List.drop_succ_cons.{0} @List.take_zero.{0})))) (Ai (Ai (Ai @List.take_succ_cons.{0} (Ai @List.set_cons_zero.{0} @List.set_cons_succ.{0})) (Ai @List.all_cons.{0} (Ai @List.all_nil.{0} @Bool.and_true))) (Ai (Ai @Bool.true_and (Ai @List.headD_cons.{0} @ma.eq_1)) (Ai @ma.eq_2 (Ai @ma.eq_3 @Nat.left_eq_add)))))
def SG :=
 (Ai (Ai (Ai (Ai @Nat.add_eq_left (Ai @List.replicate_zero.{0} @List.replicate_succ.{0})) (Ai @Nat.add_right_cancel_iff (Ai @Hv @List.isEmpty_cons.{0}))) (Ai (Ai @List.isEmpty_nil.{0} (Ai @NG @Aw)) (Ai @bL (Ai @P2 @lI)))) (Ai (Ai (Ai @ND (Ai @P4 @jG)) (Ai @re (Ai @NF @P3))) (Ai (Ai @P7 (Ai @RC @RD)) (Ai @P6 (Ai @Rz @RA)))))
def SH :=
 (Ai (Ai (Ai (Ai @P9 (Ai @fj @dZ)) (Ai @ec (Ai @fG @bz))) (Ai (Ai @List.take_length.{0} (Ai @or_true @true_or)) (Ai @or_false (Ai @false_or @or_self)))) (Ai (Ai (Ai @forall_const.{1} (Ai @forall_const.{0} @List.isEmpty_iff.{0})) (Ai @List.map_eq_nil_iff.{0,0} (Ai @ne_eq.{1} @ne_eq.{0}))) (Ai (Ai @Option.some.injEq.{0} (Ai @not_false_eq_true @ao.eq_1)) (Ai @Int.ofNat_lt (Ai @Int.ofNat_le @Nat.lt_irrefl)))))
def SI :=
 (Ai (Ai (Ai (Ai @beq_self_eq_true.{0} (Ai @bne_self_eq_false.{0} @Int.natCast_zero)) (Ai @Int.cast_ofNat_Int (Ai @Gh @Cy))) (Ai @Jo (Ai @DK (Ai @DH @Ax)))) (Ai (Ai (Ai @NE (Ai @xA.eq_1 @xA.eq_2)) (Ai @xA.eq_3 (Ai @rM.eq_1 @rM.eq_2))) (Ai (Ai @rM.eq_3 (Ai @rM.eq_4 @mF.eq_1)) (Ai @im.eq_1 (Ai @im.eq_2 @im.eq_3)))))
def SJ :=
 (Ai (Ai (Ai (Ai @im.eq_4 (Ai @mb.eq_1 @mb.eq_2)) (Ai @mb.eq_3 (Ai @pB.eq_1 @iy.eq_1))) (Ai (Ai @NH.eq_1 (Ai @NH.eq_2 @NH.eq_3)) (Ai @gI.eq_1 (Ai @pW @NY.eq_1)))) (Ai (Ai (Ai @nY.eq_def (Ai @nz.eq_1 @intKind.eq_1)) (Ai @rB.eq_1 (Ai @Nat.sub_zero @zX))) (Ai (Ai @xQ (Ai @vx @xS)) (Ai @PM (Ai @Ee @Lr)))))
def SK :=
 (Ai (Ai (Ai (Ai @Hw (Ai @A3 @RB)) (Ai @P5 (Ai @JJ @HC))) (Ai (Ai @P8 (Ai @J0 @GP)) (Ai @J1 (Ai @J3 @J7)))) (Ai (Ai (Ai @GR (Ai @J9 @J6)) (Ai @NV (Ai @GS @NW))) (Ai (Ai @J5 (Ai @GT @GQ)) (Ai @NU (Ai @NS @J2)))))
def SL :=
 (Ai (Ai (Ai @JZ @J8) (Ai @NT @C0)) (Ai (Ai @J4 @isConst.eq_1) (Ai @isConst.eq_2 @qW.eq_1)))
def ai:=(Ai (Ai (Ai (Ai S4 (Ai S5 S6)) (Ai (Ai S7 S8) (Ai S9 Ta))) (Ai (Ai Tb (Ai Tc Td)) (Ai (Ai Ss Su) (Ai Sv Sw)))) (Ai (Ai (Ai Sx (Ai Sy Sz)) (Ai (Ai SA SB) (Ai SC SD))) (Ai (Ai (Ai SE SF) (Ai SG SH)) (Ai (Ai SI SJ) (Ai SK SL)))))
end Go.Proofs.YtlnlopnpcmahgaaGreatDoor.Vm
