/-
 Texts joined: XVs,XVt,XVv,XVz,XVu,XVU.
-/
import Derived.IntWalk
import Derived.Test.YtidmkaalhmeflaaGreatDoorQb
namespace Go.Proofs.YtidmkaalhmeflaaGreatDoor.Vm
set_option linter.unusedSimpArgs false
set_option linter.unusedVariables false
open Go Go.RowKit
def oB (cx:Cx)(N:Nat)(rs:List ResultVar)(nm:Nat)(M0:aq)(v:V)(eff:List (Nat×Option Blk))(b0 n:Nat)(e:Env)(M:aq):Prop:=∃ gs,Nt cx N rs nm M0 v eff b0 e (M.ghosts n gs)
def lc (cx:Cx)(fn:Func)(nm:Nat)(M:aq)(v:V)(eff:List (Nat×Option Blk))(b0:Nat):Ex→Nat→Env→aq→Prop
 | .exit _,_,_,_=>False
 | .panic _,_,_,_=>False
 | _,n,e,M'=>oB cx fn.ntmps fn.results.toList nm M v eff b0 n e M'
theorem Gp {cx:Cx}(hD:cx.D=[]){f:FuncId}{nm:Nat}{args:List V}{M:aq}{v:V}{eff:List (Nat×Option Blk)}{fn:Func}{c:Code}
  (hcall:∀ cargs w,(callFunc f cargs).run cx.P w = .ok (.enter f cargs) w) (hf:cx.P.funcs[f]? = some fn) (hb:fn.body=some c) (hm:cx.P.follows .mixedOrders=true) (hin:cY fn.ntmps c=true) (hargs:args.length≤fn.ntmps)
  (hvc:∀ b0,(∀ x,b0≤x→M x=none)→vc cx b0 c (lc cx fn nm M v eff b0) b0 (eN args) M):Ev cx f nm args M v eff:=by
 refine⟨trivial,?_⟩
 intro X w ρ cargs B hrel hfr hB hlen his
 have hstart:Lies cx fn.ntmps X w (bO ρ M) ρ B B (eN args) M ρ { tmps:=cargs++Array.replicate (fn.ntmps-cargs.size) undef,defers:=[] } w:=by
  refine⟨hrel,⟨by simp;omega,hD.symm,fun t ht=>?_⟩,hB,fun _ _ h=>h,Nat.le_refl _,fun _ _=>rfl,fun x hx=>(hB x hx).2⟩
  simp only[eN,Array.getD_eq_getD_getElem?]
  by_cases hlt:t<args.length
  ·rw[Array.getElem?_append_left (by omega),List.getElem?_eq_getElem hlt,Array.getElem?_eq_getElem (show t<cargs.size by omega)]
   exact his t _ _ (List.getElem?_eq_getElem hlt) (Array.getElem?_eq_getElem (by omega))
  ·rw[List.getElem?_eq_none (by omega)]
   exact .any _
 refine .inl ⟨hcall _ _,?_⟩
 refine kz hf hb (iW.mono (cZ hm c _ B (eN args) M ρ _ w hin hstart (hvc B (fun x hx=>(hB x hx).1))) ?_)
 rintro x a w' ⟨n,e,M',ρ',h',hq⟩
 have done:oB cx fn.ntmps fn.results.toList nm M v eff B n e M'→a.defers=[] ∧ ∃ cv,(results fn a.tmps).run cx.P w' = .ok cv w' ∧ ∃ cv',Ending.returned cv = .returned cv'∧dW cx.G X w (bO ρ M) ρ M w nm v (M.app eff) cv' w':=fun ⟨gs,hfin⟩=>by
  have h':=h'.ghosts gs
  obtain⟨cv,h1,h2⟩:=pZ h'.rel h'.env fn hfin.1
  exact⟨h'.env.defers.trans hD,cv,h1,cv,rfl,pF hrel hfr hB h' hfin h2⟩
 cases x<;>simp only[lc]at hq<;>try (exact hq.elim)
 case normal=>exact done hq
 case ret=>exact done hq
 case panic ch=>obtain⟨_,_,_,_,hf⟩:=hq;exact hf.elim
theorem JC {cx:Cx}{N:Nat}{X:Nat→Prop}{w:World}{ρ:Names}{M:aq}{B nm n:Nat}{e:Env}{M':aq}{ρ':Names}{a:Act}{w':World}{v:V}{cv:Value}(hrel:Rel cx.G X w (bO ρ M) ρ M w)(h':Lies cx N X w (bO ρ M) ρ B n e M' ρ' a w')(hG:∀ g,(cx.G g).plain=true)(hpl:v.plain=true)(hv:Is ρ' (bJ X ρ' M') w' v cv):dW cx.G X w (bO ρ M) ρ M w nm v aq.nil cv w':=by
 have hd:∀ b,bJ X ρ aq.nil b→bJ X ρ' M' b:=fun b hb=>by
  rcases hb with hb|⟨x,l,h,_⟩
  ·exact .inl hb
  ·cases h
 refine⟨ρ,⟨h'.rel.size,h'.rel.os,h'.rel.tape,h'.rel.output,h'.rel.old,fun x k h=>(by cases h),fun x y l l' h=>(by cases h),h'.rel.hX,fun g=>(h'.rel.glob g).plain (Nat.le_refl _) (fun _ _ _=>rfl) (fun b _ hb=>hd b hb) (hG g)⟩,⟨fun _ _ h=>h,h'.rel.size,h'.rel.os,h'.rel.tape,h'.rel.output,fun b hb hk=>h'.rel.old b hb ?_,fun x l h=>(by cases h)⟩,hv.plain (Nat.le_refl _) (fun _ _ _=>rfl) (fun b _ hb=>hd b hb) hpl,fun _ _=>rfl⟩
 rintro ⟨x,l,h1,h2,h3⟩
 exact hk x l h1 h2 h3
def He (v:V):Ex→Nat→Env→aq→Prop
 | .panic u,_,_,_=>u=v
 | _,_,_,_=>False
theorem D3 {cx:Cx}(hD:cx.D=[]){f:FuncId}{nm:Nat}{args:List V}{M:aq}{v:V}{fn:Func}{c:Code}
  (hcall:∀ cargs w,(callFunc f cargs).run cx.P w = .ok (.enter f cargs) w) (hf:cx.P.funcs[f]? = some fn) (hb:fn.body=some c) (hm:cx.P.follows .mixedOrders=true) (hin:cY fn.ntmps c=true) (hargs:args.length≤fn.ntmps) (hG:∀ g,(cx.G g).plain=true) (hpl:v.plain=true)
  (hvc:∀ b0,(∀ x,b0≤x→M x=none)→vc cx b0 c (He v) b0 (eN args) M):xI cx f nm args M v:=by
 refine⟨trivial,?_⟩
 intro X w ρ cargs B hrel hfr hB hlen his
 have hstart:Lies cx fn.ntmps X w (bO ρ M) ρ B B (eN args) M ρ { tmps:=cargs++Array.replicate (fn.ntmps-cargs.size) undef,defers:=[] } w:=by
  refine⟨hrel,⟨by simp;omega,hD.symm,fun t ht=>?_⟩,hB,fun _ _ h=>h,Nat.le_refl _,fun _ _=>rfl,fun x hx=>(hB x hx).2⟩
  simp only[eN,Array.getD_eq_getD_getElem?]
  by_cases hlt:t<args.length
  ·rw[Array.getElem?_append_left (by omega),List.getElem?_eq_getElem hlt,Array.getElem?_eq_getElem (show t<cargs.size by omega)]
   exact his t _ _ (List.getElem?_eq_getElem hlt) (Array.getElem?_eq_getElem (by omega))
  ·rw[List.getElem?_eq_none (by omega)]
   exact .any _
 refine .inl ⟨hcall _ _,?_⟩
 refine kz hf hb (iW.mono (cZ hm c _ B (eN args) M ρ _ w hin hstart (hvc B (fun x hx=>(hB x hx).1))) ?_)
 rintro x a w' ⟨n,e,M',ρ',h',hq⟩
 cases x<;>simp only[He]at hq<;>try (exact hq.elim)
 case panic ch =>
  obtain⟨u,cv,rfl,hv,rfl⟩:=hq
  refine⟨h'.env.defers.trans hD,cv,rfl,?_⟩
  exact JC hrel h' hG hpl hv
theorem Fin.pure {cx:Cx}{N:Nat}{rs:List ResultVar}{nm:Nat}{v:V}{b0 n:Nat}{e:Env}{M:aq}(h1:k8 cx.P N rs e M)(h2:(ln cx.P rs e M).finOk [] M)(h3:((ln cx.P rs e M).fin [] M).le v):oB cx N rs nm aq.nil v [] b0 n e M :=
 ⟨[],Fin.two ⟨h1,[],h2,h3,rfl,List.nodup_nil,List.nodup_nil,(fun p hp=>by cases hp),(fun x hx=>by simp[aq.nil]at hx)⟩⟩
structure Post where
 b0:Nat
 q:Ex→Nat→Env→aq→Prop
inductive Frm where
 | code (c:Code)
 | blk (id:Nat)
 | again (J:Nat→Nat→Env→aq→Prop) (g:Nat)
 | cut (J:Nat→Env→aq→Prop)
def jm (cx:Cx)(Q:Post):List Frm→Ex→Nat→Env→aq→Prop
 | []=>Q.q
 | .code c::st=>fun x n e M=>match x with | .normal=>vc cx Q.b0 c (jm cx Q st) n e M | .exit id=>jm cx Q st (.exit id) n e M | .ret=>jm cx Q st .ret n e M | .panic v=>jm cx Q st (.panic v) n e M
 | .blk id::st=>fun x n e M=>match x with | .normal=>jm cx Q st .normal n e M | .exit id'=>if id'=id then jm cx Q st .normal n e M else jm cx Q st (.exit id') n e M | .ret=>jm cx Q st .ret n e M | .panic v=>jm cx Q st (.panic v) n e M
 | .again J g::st=>fun x n e M=>match x with | .normal=>∃ g',g'<g ∧ ∃ nm' e' M',nH cx Q.b0 n e M nm' e' M'∧J g' nm' e' M' | .exit id=>jm cx Q st (.exit id) n e M | .ret=>jm cx Q st .ret n e M | .panic v=>jm cx Q st (.panic v) n e M
 | .cut J::st=>fun x n e M=>match x with | .normal=>J n e M | .exit id=>jm cx Q st (.exit id) n e M | .ret=>jm cx Q st .ret n e M | .panic v=>jm cx Q st (.panic v) n e M
section
variable (cx:Cx) (Q:Post) (st:List Frm) (nm:Nat) (e:Env) (M:aq)
def go (c:Code):Prop:=vc cx Q.b0 c (jm cx Q st) nm e M
def dL (x:Ex):Prop:=jm cx Q st x nm e M
def aE (d:Bool)(fs:List (List Nat))(ops r:List Oper)(i:Nat):Prop:=b7 cx ops d (fun n e M v=>d=false∧jm cx Q st (.panic v) n e M) r nm i e M fs (fun n e M fs=>(d=true→jq cx.P ops fs)∧jm cx Q st .normal n e M)
def CW (fs:List (List Nat))(ops:List Oper):Prop:=jq cx.P ops fs∧jm cx Q st .normal nm e M
def fO (d:Bool)(fs:List (List Nat))(ops:List Oper)(o:Oper)(r:List Oper)(i:Nat):Prop:=aE cx Q st nm e M d fs ops (o::r) i
def bM (d:Bool)(fs:List (List Nat))(ops:List Oper)(o:Oper)(r:List Oper)(i:Nat):Prop:=∃ v eff ft,ExtDoes cx o (nm+16*i) e M v eff ft∧aE cx Q st nm (e.putD o.dst v) (M.app eff) d (fs++[ft]) ops r (i+1)
def cS (d:Bool)(fs:List (List Nat))(c:Bool)(ops:List Oper)(o:Oper)(r:List Oper)(i:Nat):Prop:=(∃ v ft,(ft≠[]→f9 o.op=false)∧(c=true→ExtDoes cx o (nm+16*i) e M v [] ft)∧aE cx Q st nm (e.putD o.dst (.gd c v)) M d (fs++[ft]) ops r (i+1)) ∨
 ((c=true→bM cx Q st nm e M d fs ops o r i)∧(c=false→aE cx Q st nm (e.putD o.dst .any) M d (fs++[[]]) ops r (i+1)))
def zZ (d:Bool)(fs:List (List Nat))(ops:List Oper)(o:Oper)(r:List Oper)(i:Nat):Prop:=∃ v eff,CommDoes cx o (nm+16*i) e M v eff∧aE cx Q st nm (e.putD o.dst v) (M.app eff) d (fs++[ak eff]) ops r (i+1)
def aW (d:Bool)(fs:List (List Nat))(gv:V)(want:Bool)(ops:List Oper)(o:Oper)(r:List Oper)(i:Nat):Prop:=match kX gv want with
 | some c=>if fy o.op=true then gU cx c e M (nm+16*i) o (fun v l=>aE cx Q st nm (e.putD o.dst (.gd c v)) M d (fs++[l]) ops r (i+1))∨(c=true∧fw cx true e M (nm+16*i) o (fun v eff l=>aE cx Q st nm (e.putD o.dst v) (M.app eff) d (fs++[l++ak eff]) ops r (i+1)))
  else if ji cx.P o.op=true then cS cx Q st nm e M d fs c ops o r i
  else if mS o.op=true then (c=true→bz cx c e M o)∧aE cx Q st nm (e.putD o.dst (.gd c (dv cx c e M (nm+16*i) o))) M d (fs++[fj cx c e (nm+16*i) o]) ops r (i+1)
  else (c=true→bz cx true e M o∧aE cx Q st nm (e.putD o.dst (dv cx true e M (nm+16*i) o)) (M.app (eK cx true e M (nm+16*i) o)) d (fs++[fj cx true e (nm+16*i) o]) ops r (i+1))∧(c=false→aE cx Q st nm (e.putD o.dst .any) M d (fs++[[]]) ops r (i+1))
 | none=>False
def dU (d:Bool)(fs:List (List Nat))(c:Bool)(ops:List Oper)(o:Oper)(r:List Oper)(i:Nat):Prop:=gU cx c e M (nm+16*i) o (fun v l=>aE cx Q st nm (e.putD o.dst (.gd c v)) M d (fs++[l]) ops r (i+1))∨(c=true∧fw cx true e M (nm+16*i) o (fun v eff l=>aE cx Q st nm (e.putD o.dst v) (M.app eff) d (fs++[l++ak eff]) ops r (i+1)))
def pj (c:Code):Prop:=vc cx Q.b0 (.loop c) (jm cx Q st) nm e M
def nJ (v:V)(a b:Code):Prop:=match v with
 | .bool t=>(t=true→go cx Q st nm e M a)∧(t=false→go cx Q st nm e M b)
 | .bit t f=>(t=true→go cx Q st nm e M a)∧(f=true→go cx Q st nm e M b)
 | _=>False
theorem Jq:go cx Q st nm e M .skip=dL cx Q st nm e M .normal:=propext Iff.rfl
theorem HD (l:Nat):go cx Q st nm e M (.label l)=dL cx Q st nm e M .normal:=propext Iff.rfl
theorem K6 (id:Nat):go cx Q st nm e M (.exit id)=dL cx Q st nm e M (.exit id):=propext Iff.rfl
theorem L3:go cx Q st nm e M .ret=dL cx Q st nm e M .ret:=propext Iff.rfl
theorem L1 (a b:Code):go cx Q st nm e M (.seq a b)=go cx Q (.code b::st) nm e M a:=propext Iff.rfl
theorem GY (c:Code):go cx Q st nm e M (.scope c)=go cx Q st nm e M c:=propext Iff.rfl
theorem GI (id:Nat)(c:Code):go cx Q st nm e M (.block id c)=go cx Q (.blk id::st) nm e M c:=propext Iff.rfl
theorem J1 (c:Operand)(a b:Code):go cx Q st nm e M (.cond c a b)=nJ cx Q st nm e M (aA cx.G true e c) a b:=propext Iff.rfl
theorem JN (c:Code):go cx Q st nm e M (.loop c)=pj cx Q st nm e M c:=propext Iff.rfl
theorem Et (id:Nat)(ops:Array Oper)(d:Bool):go cx Q st nm e M (.region id ops d)=aE cx Q st nm e M d [] ops.toList ops.toList 0:=propext Iff.rfl
theorem yi (a b:Code):nJ cx Q st nm e M (.bool true) a b=go cx Q st nm e M a:=by simp only[nJ,true_implies,Bool.true_eq_false,false_implies,and_true]
theorem xx (a b:Code):nJ cx Q st nm e M (.bool false) a b=go cx Q st nm e M b:=by simp only[nJ,true_implies,Bool.false_eq_true,false_implies,true_and]
theorem io (x:Ex):dL cx Q [] nm e M x=Q.q x nm e M:=propext Iff.rfl
theorem Ff (c:Code):dL cx Q (.code c::st) nm e M .normal=go cx Q st nm e M c:=propext Iff.rfl
theorem tx (c:Code)(id:Nat):dL cx Q (.code c::st) nm e M (.exit id)=dL cx Q st nm e M (.exit id):=propext Iff.rfl
theorem uk (c:Code):dL cx Q (.code c::st) nm e M .ret=dL cx Q st nm e M .ret:=propext Iff.rfl
theorem Gx (id:Nat):dL cx Q (.blk id::st) nm e M .normal=dL cx Q st nm e M .normal:=propext Iff.rfl
theorem uG (id id':Nat):dL cx Q (.blk id::st) nm e M (.exit id')=if id'=id then dL cx Q st nm e M .normal else dL cx Q st nm e M (.exit id'):=propext Iff.rfl
theorem ws (id:Nat):dL cx Q (.blk id::st) nm e M .ret=dL cx Q st nm e M .ret:=propext Iff.rfl
theorem qI (J:Nat→Nat→Env→aq→Prop)(g:Nat)(id:Nat):dL cx Q (.again J g::st) nm e M (.exit id)=dL cx Q st nm e M (.exit id):=propext Iff.rfl
theorem so (J:Nat→Nat→Env→aq→Prop)(g:Nat):dL cx Q (.again J g::st) nm e M .ret=dL cx Q st nm e M .ret:=propext Iff.rfl
theorem uK (J:Nat→Env→aq→Prop)(id:Nat):dL cx Q (.cut J::st) nm e M (.exit id)=dL cx Q st nm e M (.exit id):=propext Iff.rfl
theorem xA (J:Nat→Env→aq→Prop):dL cx Q (.cut J::st) nm e M .ret=dL cx Q st nm e M .ret:=propext Iff.rfl
theorem aB (c:Code)(v:V):dL cx Q (.code c::st) nm e M (.panic v)=dL cx Q st nm e M (.panic v):=propext Iff.rfl
theorem aD (id:Nat)(v:V):dL cx Q (.blk id::st) nm e M (.panic v)=dL cx Q st nm e M (.panic v):=propext Iff.rfl
theorem az (J:Nat→Nat→Env→aq→Prop)(g:Nat)(v:V):dL cx Q (.again J g::st) nm e M (.panic v)=dL cx Q st nm e M (.panic v):=propext Iff.rfl
def Cj (d:Bool)(i:Nat)(v:V):Prop:=match v with
 | .iface t u=>d=false∧dL cx Q st (nm+16*(i+1)) e M (.panic (.iface t u))
 | _=>False
theorem aH (i:Nat)(t:TypeId)(u:V):Cj cx Q st nm e M false i (.iface t u)=dL cx Q st (nm+16*(i+1)) e M (.panic (.iface t u)):=by simp only[Cj,true_and]
theorem aG (d:Bool)(fs:List (List Nat))(ops:List Oper)(dst:Option Tmp)(x:Operand)(t:TypeId)(pos:String)(af:Array Edge)(r:List Oper)(i:Nat):aE cx Q st nm e M d fs ops (⟨dst,.panic x,t,pos,af,none⟩::r) i=Cj cx Q st nm e M d i (aA cx.G true e x):=by
 unfold aE Cj
 simp only[b7,fy,if_true,fw,o7,sI,false_or,and_false,or_false]
 have hl:∀ M:aq,M.app (iV [])=M:=fun M=>rfl
 simp only[hl]
 rfl
theorem DR (fs:List (List Nat))(ops:List Oper)(i:Nat):aE cx Q st nm e M false fs ops [] i=dL cx Q st (nm+16*i) e M .normal:=by
 simp only[aE,b7,dL,Bool.false_eq_true,false_implies,true_and]
theorem r7 (fs:List (List Nat))(ops:List Oper)(i:Nat):aE cx Q st nm e M true fs ops [] i=CW cx Q st (nm+16*i) e M fs ops:=by
 simp only[aE,b7,CW,true_implies]
theorem Be (d:Bool)(fs:List (List Nat))(ops:List Oper)(dst:Option Tmp)(f:Operand)(args:Array Operand)(ats:Array TypeId)(t:TypeId)(pos:String)(af:Array Edge)(r:List Oper)(i:Nat) :
  aE cx Q st nm e M d fs ops (⟨dst,.call ⟨.value f,args,ats⟩,t,pos,af,none⟩::r) i=fO cx Q st nm e M d fs ops ⟨dst,.call ⟨.value f,args,ats⟩,t,pos,af,none⟩ r i:=propext Iff.rfl
theorem yx (d:Bool)(fs:List (List Nat))(ops:List Oper)(dst:Option Tmp)(op:Op)(t:TypeId)(pos:String)(af:Array Edge)(j:Nat)(want:Bool)(r:List Oper)(i:Nat) :
  aE cx Q st nm e M d fs ops (⟨dst,op,t,pos,af,some (j,want)⟩::r) i=aW cx Q st nm e M d fs (jg ops e j) want ops ⟨dst,op,t,pos,af,some (j,want)⟩ r i:=by
 unfold aE aW
 simp only[b7,aE,cS,bM]
 cases kX (jg ops e j) want<;>rfl
theorem sa (d:Bool)(fs:List (List Nat))(c x want:Bool)(ops:List Oper)(o:Oper)(r:List Oper)(i:Nat):aW cx Q st nm e M d fs (.gd c (.bool x)) want ops o r i=aW cx Q st nm e M d fs (.bool (c&&(x==want))) true ops o r i:=by
 have h:∀ y:Bool,(y==true)=y:=fun y=>by cases y<;>rfl
 simp only[aW,kX,h]
variable {cx Q st nm e M}
theorem aZ {t:Bool}{a b:Code}(h1:t=true→go cx Q st nm e M a)(h2:t=false→go cx Q st nm e M b):nJ cx Q st nm e M (.bool t) a b:=⟨h1,h2⟩
theorem bj {t f:Bool}{a b:Code}(h1:t=true→go cx Q st nm e M a)(h2:f=true→go cx Q st nm e M b):nJ cx Q st nm e M (.bit t f) a b:=⟨h1,h2⟩
theorem dl {d:Bool}{fs:List (List Nat)}{ops:List Oper}{dst:Option Tmp}{f:Operand}{args:Array Operand}{ats:Array TypeId}{t:TypeId}{pos:String}{af:Array Edge}{r:List Oper}{i:Nat}{g:FuncId}{caps:List V}{as:List V}(hf:aA cx.G true e f = .fn g caps)
  (has:args.toList.map (aA cx.G true e)++caps=as) (l:List Nat) {v:V} {eff:List (Nat×Option Blk)} (hev:Ev cx g (nm+16*i) as (M.only l) v eff) (he:∀ x∈ak eff,(x∈l∧(M x).isSome=true)∨bZ (nm+16*i) x)
  (h:aE cx Q st nm (e.putD dst v) (M.app eff) d (fs++[l++ak eff]) ops r (i+1)):fO cx Q st nm e M d fs ops ⟨dst,.call ⟨.value f,args,ats⟩,t,pos,af,none⟩ r i:=by
 subst has
 show b7 _ _ _ _ _ _ _ _ _ _ _
 simp only[b7,fy,if_true,fw,hf,V.tgt,List.nil_append]
 exact .inl ⟨l,v,eff,hev,he,h⟩
theorem cL {d:Bool}{fs:List (List Nat)}{ops:List Oper}{dst:Option Tmp}{f:Operand}{args:Array Operand}{ats:Array TypeId}{t:TypeId}{pos:String}{af:Array Edge}{r:List Oper}{i:Nat}{g:FuncId}{caps:List V}{as:List V}(hf:aA cx.G true e f = .fn g caps)
  (has:args.toList.map (aA cx.G true e)++caps=as) {v:V} (hev:Ev cx g (nm+16*i) as aq.nil v []) (h:aE cx Q st nm (e.putD dst v) M d (fs++[[]]) ops r (i+1)):fO cx Q st nm e M d fs ops ⟨dst,.call ⟨.value f,args,ats⟩,t,pos,af,none⟩ r i :=
 dl hf has [] (by rw[aq.only_nil];exact hev) (fun x hx=>by simp[ak]at hx) h
theorem Bi {d:Bool}{fs:List (List Nat)}{ops:List Oper}{c:Bool}{dst:Option Tmp}{f:Operand}{args:Array Operand}{ats:Array TypeId}{t:TypeId}{pos:String}{af:Array Edge}{gd:Option (Nat×Bool)}{r:List Oper}{i:Nat}{g:FuncId}{caps:List V}{as:List V}(hf:aA cx.G c e f = .fn g caps)
  (has:args.toList.map (aA cx.G c e)++caps=as) {v:V} (hev:c=true→Ev cx g (nm+16*i) as aq.nil v []) (h:aE cx Q st nm (e.putD dst (.gd c v)) M d (fs++[[]]) ops r (i+1)):dU cx Q st nm e M d fs c ops ⟨dst,.call ⟨.value f,args,ats⟩,t,pos,af,gd⟩ r i:=by
 subst has
 unfold dU gU
 refine .inl ?_
 simp only[hf,V.tgt,List.nil_append]
 exact⟨[],v,by rw[aq.only_nil];exact hev,h⟩
theorem Je {d:Bool}{fs:List (List Nat)}{ops:List Oper}{dst:Option Tmp}{f:Operand}{args:Array Operand}{ats:Array TypeId}{t:TypeId}{pos:String}{af:Array Edge}{gd:Option (Nat×Bool)}{r:List Oper}{i:Nat}{g:FuncId}{caps fi:List V}{as:List V}(hf:(aA cx.G true e f).tgt=some (g,caps,fi))
  (has:fi++(args.toList.map (aA cx.G true e)++caps)=as) (l:List Nat) {v:V} {eff:List (Nat×Option Blk)} (hev:Ev cx g (nm+16*i) as (M.only l) v eff) (he:∀ x∈ak eff,(x∈l∧(M x).isSome=true)∨bZ (nm+16*i) x)
  (h:aE cx Q st nm (e.putD dst v) (M.app eff) d (fs++[l++ak eff]) ops r (i+1)):dU cx Q st nm e M d fs true ops ⟨dst,.call ⟨.value f,args,ats⟩,t,pos,af,gd⟩ r i:=by
 subst has
 unfold dU fw
 refine .inr ⟨rfl,?_⟩
 simp only[hf]
 exact⟨l,v,eff,hev,he,h⟩
theorem eS {d:Bool}{fs:List (List Nat)}{ops:List Oper}{dst:Option Tmp}{f:Operand}{args:Array Operand}{ats:Array TypeId}{t:TypeId}{pos:String}{af:Array Edge}{r:List Oper}{i:Nat}{g:FuncId}{fi:List V}{as:List V}(hf:aA cx.G true e f = .fnb g fi)
  (has:fi++args.toList.map (aA cx.G true e)=as) (l:List Nat) {v:V} {eff:List (Nat×Option Blk)} (hev:Ev cx g (nm+16*i) as (M.only l) v eff) (he:∀ x∈ak eff,(x∈l∧(M x).isSome=true)∨bZ (nm+16*i) x)
  (h:aE cx Q st nm (e.putD dst v) (M.app eff) d (fs++[l++ak eff]) ops r (i+1)):fO cx Q st nm e M d fs ops ⟨dst,.call ⟨.value f,args,ats⟩,t,pos,af,none⟩ r i:=by
 subst has
 show b7 _ _ _ _ _ _ _ _ _ _ _
 simp only[b7,fy,if_true,fw,hf,V.tgt,List.append_nil]
 exact .inl ⟨l,v,eff,hev,he,h⟩
theorem cH {fs:List (List Nat)}{ops:List Oper}{dst:Option Tmp}{g:FuncId}{args:Array Operand}{ats:Array TypeId}{t:TypeId}{pos:String}{af:Array Edge}{r:List Oper}{i:Nat}{as:List V}
  (has:args.toList.map (aA cx.G true e)=as) (l:List Nat) {v:V} (hev:xI cx g (nm+16*i) as (M.only l) v)
  (h:dL cx Q st (nm+16*(i+1)) e (M.app (iV l)) (.panic v)):fO cx Q st nm e M false fs ops ⟨dst,.call ⟨.value (.func g),args,ats⟩,t,pos,af,none⟩ r i:=by
 subst has
 show b7 _ _ _ _ _ _ _ _ _ _ _
 simp only[b7,fy,if_true,o7,aA,V.tgt,List.nil_append,List.append_nil]
 exact .inr (.inl ⟨l,v,hev,trivial,h⟩)
theorem D6 {fs:List (List Nat)}{ops:List Oper}{dst:Option Tmp}{g:FuncId}{args:Array Operand}{ats:Array TypeId}{t:TypeId}{pos:String}{af:Array Edge}{r:List Oper}{i:Nat}{as:List V}
  (has:args.toList.map (aA cx.G true e)=as) (l:List Nat) {R:V→Prop} {eff:List (Nat×Option Blk)} (hev:MD cx g (nm+16*i) as (M.only l) R eff) (he:∀ x∈ak eff,(x∈l∧(M x).isSome=true)∨bZ (nm+16*i) x)
  (h:∀ v,R v→aE cx Q st nm (e.putD dst v) (M.app eff) false (fs++[l++ak eff]) ops r (i+1)):fO cx Q st nm e M false fs ops ⟨dst,.call ⟨.value (.func g),args,ats⟩,t,pos,af,none⟩ r i:=by
 subst has
 show b7 _ _ _ _ _ _ _ _ _ _ _
 refine Or.inr (Or.inr ⟨rfl,?_⟩)
 exact⟨l,R,eff,by rw[List.append_nil];exact hev,he,h⟩
theorem ma {d:Bool}{fs:List (List Nat)}{ops:List Oper}{dst:Option Tmp}{f:Operand}{args:Array Operand}{ats:Array TypeId}{t:TypeId}{pos:String}{af:Array Edge}{gd:Option (Nat×Bool)}{r:List Oper}{i:Nat}{g:FuncId}{fi:List V}{as:List V}(hf:aA cx.G true e f = .fnb g fi)
  (has:fi++args.toList.map (aA cx.G true e)=as) (l:List Nat) {v:V} {eff:List (Nat×Option Blk)} (hev:Ev cx g (nm+16*i) as (M.only l) v eff) (he:∀ x∈ak eff,(x∈l∧(M x).isSome=true)∨bZ (nm+16*i) x)
  (h:aE cx Q st nm (e.putD dst v) (M.app eff) d (fs++[l++ak eff]) ops r (i+1)):dU cx Q st nm e M d fs true ops ⟨dst,.call ⟨.value f,args,ats⟩,t,pos,af,gd⟩ r i :=
 Je (caps:=[]) (by rw[hf];rfl) (by rw[List.append_nil];exact has) l hev he h
theorem ac {d:Bool}{fs:List (List Nat)}{ops:List Oper}{dst:Option Tmp}{g:FuncId}{args:Array Operand}{ats:Array TypeId}{t:TypeId}{pos:String}{af:Array Edge}{r:List Oper}{i:Nat}{as:List V}
  (has:args.toList.map (aA cx.G true e)=as) {v:V} (hev:Ev cx g (nm+16*i) as aq.nil v []) (h:aE cx Q st nm (e.putD dst v) M d (fs++[[]]) ops r (i+1)):fO cx Q st nm e M d fs ops ⟨dst,.call ⟨.value (.func g),args,ats⟩,t,pos,af,none⟩ r i :=
 cL (caps:=[]) rfl (by rw[List.append_nil];exact has) hev h
theorem ab {d:Bool}{fs:List (List Nat)}{ops:List Oper}{c:Bool}{dst:Option Tmp}{g:FuncId}{args:Array Operand}{ats:Array TypeId}{t:TypeId}{pos:String}{af:Array Edge}{gd:Option (Nat×Bool)}{r:List Oper}{i:Nat}{as:List V}
  (has:args.toList.map (aA cx.G c e)=as) {v:V} (hev:c=true→Ev cx g (nm+16*i) as aq.nil v []) (h:aE cx Q st nm (e.putD dst (.gd c v)) M d (fs++[[]]) ops r (i+1)):dU cx Q st nm e M d fs c ops ⟨dst,.call ⟨.value (.func g),args,ats⟩,t,pos,af,gd⟩ r i :=
 Bi (caps:=[]) rfl (by rw[List.append_nil];exact has) hev h
theorem ag {d:Bool}{fs:List (List Nat)}{ops:List Oper}{dst:Option Tmp}{g:FuncId}{args:Array Operand}{ats:Array TypeId}{t:TypeId}{pos:String}{af:Array Edge}{r:List Oper}{i:Nat}{as:List V}
  (has:args.toList.map (aA cx.G true e)=as) (l:List Nat) {v:V} {eff:List (Nat×Option Blk)} (hev:Ev cx g (nm+16*i) as (M.only l) v eff) (he:∀ x∈ak eff,(x∈l∧(M x).isSome=true)∨bZ (nm+16*i) x)
  (h:aE cx Q st nm (e.putD dst v) (M.app eff) d (fs++[l++ak eff]) ops r (i+1)):fO cx Q st nm e M d fs ops ⟨dst,.call ⟨.value (.func g),args,ats⟩,t,pos,af,none⟩ r i :=
 dl (caps:=[]) rfl (by rw[List.append_nil];exact has) l hev he h
theorem aC {fs:List (List Nat)}{ops:List Oper}(hp:vL cx.P ops=[])(h:dL cx Q st nm e M .normal):CW cx Q st nm e M fs ops:=⟨AM hp,h⟩
theorem bn {fs:List (List Nat)}{ops:List Oper}{ps:List (Nat×Nat)}(hp:vL cx.P ops=ps)(hps:∀ p∈ps,∀ x∈fs.getD p.1 [],x ∉ fs.getD p.2 [])(h:dL cx Q st nm e M .normal):CW cx Q st nm e M fs ops:=⟨by unfold jq;rw[hp];exact hps,h⟩
theorem CL {c:Code}(J:Nat→Nat→Env→aq→Prop)(g:Nat){n:Nat}{e':Env}{M':aq}(hw:nH cx Q.b0 nm e M n e' M')(h0:J g n e' M')(hr:∀ g nm e M,J g nm e M→go cx Q (.again J g::st) nm e M c):pj cx Q st nm e M c:=⟨J,g,⟨_,_,_,hw,h0⟩,hr⟩
theorem yh {J:Nat→Nat→Env→aq→Prop}{g:Nat}(g':Nat)(hg:g'<g){n:Nat}{e':Env}{M':aq}(hw:nH cx Q.b0 nm e M n e' M')(h:J g' n e' M'):dL cx Q (.again J g::st) nm e M .normal:=⟨g',hg,_,_,_,hw,h⟩
end
def yo (cx:Cx)(fn:Func)(nm:Nat)(M:aq)(v:V)(eff:List (Nat×Option Blk))(b0:Nat):Post:=⟨b0,lc cx fn nm M v eff b0⟩
theorem Mz (cx:Cx)(fn:Func)(nm:Nat)(M:aq)(v:V)(eff:List (Nat×Option Blk))(b0:Nat):(yo cx fn nm M v eff b0).q=lc cx fn nm M v eff b0:=rfl
theorem Cn (cx:Cx)(fn:Func)(nm:Nat)(M:aq)(v:V)(eff:List (Nat×Option Blk))(b0:Nat):(yo cx fn nm M v eff b0).b0=b0:=rfl
theorem ay {cx:Cx}(hD:cx.D=[]){f:FuncId}{nm:Nat}{args:List V}{M:aq}{v:V}{eff:List (Nat×Option Blk)}{fn:Func}{c:Code}
  (hcall:∀ cargs w,(callFunc f cargs).run cx.P w = .ok (.enter f cargs) w) (hf:cx.P.funcs[f]? = some fn) (hb:fn.body=some c) (hm:cx.P.follows .mixedOrders=true) (hin:cY fn.ntmps c=true) (hargs:decide (args.length≤fn.ntmps)=true)
  (hvc:∀ b0,(∀ x,b0≤x→M x=none)→go cx (yo cx fn nm M v eff b0) [] b0 (eN args) M c):Ev cx f nm args M v eff :=
 Gp hD hcall hf hb hm hin (of_decide_eq_true hargs) hvc
def M6 (v:V)(b0:Nat):Post:=⟨b0,He v⟩
theorem Cw (v:V)(b0:Nat):(M6 v b0).b0=b0:=rfl
theorem bg (cx:Cx)(v:V)(b0 nm:Nat)(e:Env)(M:aq):dL cx (M6 v b0) [] nm e M (.panic v)=True:=eq_true rfl
theorem iY {cx:Cx}(hD:cx.D=[])(hG:∀ g,(cx.G g).plain=true){f:FuncId}{nm:Nat}{args:List V}{M:aq}{v:V}{fn:Func}{c:Code}(hpl:v.plain=true)
  (hcall:∀ cargs w,(callFunc f cargs).run cx.P w = .ok (.enter f cargs) w) (hf:cx.P.funcs[f]? = some fn) (hb:fn.body=some c) (hm:cx.P.follows .mixedOrders=true) (hin:cY fn.ntmps c=true) (hargs:decide (args.length≤fn.ntmps)=true)
  (hvc:∀ b0,(∀ x,b0≤x→M x=none)→go cx (M6 v b0) [] b0 (eN args) M c):xI cx f nm args M v :=
 D3 hD hcall hf hb hm hin (of_decide_eq_true hargs) hG hpl hvc
theorem Eo (e:Env)(t:Nat)(v:V):e.putD (some t) v=e.put t v:=rfl
theorem EA (e:Env)(v:V):e.putD none v=e:=rfl
theorem MW (e:Env)(t x:Nat)(v:V):(e.put t v) x=if x=t then v else e x:=rfl
theorem uB (c:Bool)(v:V):(V.gd c v).strip c=v:=by cases c<;>simp[V.strip]
theorem mT (c:Bool)(v:V):(V.gd true v).strip c=v:=by simp[V.strip]
theorem Dq (c:Bool):V.any.strip c = .any:=rfl
theorem Bk (c b:Bool):(V.bool b).strip c = .bool b:=rfl
theorem DT (c t f:Bool):(V.bit t f).strip c = .bit t f:=rfl
theorem Di (c:Bool)(k:IntKind)(n:Int):(V.int k n).strip c = .int k n:=rfl
theorem E0 (c:Bool)(s:List UInt8):(V.str s).strip c = .str s:=rfl
theorem Bn (c:Bool):V.nilp.strip c = .nilp:=rfl
theorem Fm (c:Bool):V.upt.strip c = .upt:=rfl
theorem Dk (c:Bool)(a b d:Nat):(V.ptr a b d).strip c = .ptr a b d:=rfl
theorem Gt (c:Bool)(l:List V):(V.rp l).strip c = .rp l:=rfl
theorem AQ (c:Bool):V.nils.strip c = .nils:=rfl
theorem Ia (c t:Bool)(s:Nat)(l:List (List V)):(V.sl t s l).strip c = .sl t s l:=rfl
theorem C7 (c:Bool)(a b d:Nat):(V.own a b d).strip c = .own a b d:=rfl
theorem A3 (c:Bool)(a b d e:Nat):(V.ownc a b d e).strip c = .ownc a b d e:=rfl
theorem BB (c:Bool)(a:Nat):(V.chan a).strip c = .chan a:=rfl
theorem Gq (c:Bool)(a:Nat):(V.mp a).strip c = .mp a:=rfl
theorem DM (c:Bool)(f:Nat)(l:List V):(V.fnb f l).strip c = .fnb f l:=rfl
theorem yV (c:Bool)(t:TypeId)(v:V):(V.iface t v).strip c = .iface t v:=rfl
theorem Hm (c:Bool)(f:Nat)(l:List V):(V.fn f l).strip c = .fn f l:=rfl
theorem Fg (c:Bool)(l:List V):(V.agg l).strip c = .agg l:=rfl
theorem FD (c:Bool)(l:List V):(V.tup l).strip c = .tup l:=rfl
theorem Fb (c:Bool)(v:Value):(V.val v).strip c = .val v:=rfl
theorem GT  : V.isNilI (.any )=false:=rfl
theorem EQ (a0:Bool):V.isNilI (.bool a0)=false:=rfl
theorem FJ (a0:Bool)(a1:Bool):V.isNilI (.bit a0 a1)=false:=rfl
theorem F6 (a0:IntKind)(a1:Int):V.isNilI (.int a0 a1)=false:=rfl
theorem IG (a0:List UInt8):V.isNilI (.str a0)=false:=rfl
theorem Fu  : V.isNilI (.nilp )=false:=rfl
theorem H2  : V.isNilI (.upt )=false:=rfl
theorem Gg (a0:Nat)(a1:Nat)(a2:Nat):V.isNilI (.ptr a0 a1 a2)=false:=rfl
theorem Jp (a0:List V):V.isNilI (.rp a0)=false:=rfl
theorem Dj  : V.isNilI (.nils )=false:=rfl
theorem KO (a0:Bool)(a1:Nat)(a2:List (List V)):V.isNilI (.sl a0 a1 a2)=false:=rfl
theorem IA (a0:Nat)(a1:Nat)(a2:Nat):V.isNilI (.own a0 a1 a2)=false:=rfl
theorem EM (a0:Nat)(a1:Nat)(a2:Nat)(a3:Nat):V.isNilI (.ownc a0 a1 a2 a3)=false:=rfl
theorem C2 (a0:Nat):V.isNilI (.chan a0)=false:=rfl
theorem Lb (a0:Nat):V.isNilI (.mp a0)=false:=rfl
theorem Jl (a0:Nat)(a1:List V):V.isNilI (.fn a0 a1)=false:=rfl
theorem IR (a0:Nat)(a1:List V):V.isNilI (.fnb a0 a1)=false:=rfl
theorem IC (a0:List V):V.isNilI (.agg a0)=false:=rfl
theorem G3 (a0:List V):V.isNilI (.tup a0)=false:=rfl
theorem I3 (a0:Bool)(a1:V):V.isNilI (.gd a0 a1)=false:=rfl
theorem Bz (a0:TypeId)(a1:V):V.isNilI (.iface a0 a1)=false:=rfl
theorem Gz:V.isNilI (.val .nilIface)=true:=rfl
theorem ED (c x y:Bool):iy c (.bool x) (.bool y) = .bool (if c then x else y):=rfl
theorem Gm (c x:Bool):iy c (.gd c (.bool x)) (.bool false) = .bool (c&&x):=by cases c<;>simp[iy,V.strip]
theorem K8 (c x:Bool):iy c (.bool true) (.gd (!c) (.bool x)) = .bool (c||x):=by cases c<;>simp[iy,V.strip]
theorem Eu (c x:Bool):iy c ((V.gd c (.bool x)).strip true) (.bool false) = .bool (c&&x):=by cases c<;>simp[iy,V.strip]
theorem Hl (c x:Bool):iy c (.bool true) ((V.gd (!c) (.bool x)).strip true) = .bool (c||x):=by cases c<;>simp[iy,V.strip]
theorem Fq (b:Bool):(b==true)=b:=by cases b<;>rfl
theorem BH (b:Bool):(b==false) = !b:=by cases b<;>rfl
theorem zm (a b c:Nat):a+b+c=a+(b+c):=Nat.add_assoc a b c
theorem Gl (l:List V)(t:Nat):eN l t=(l[t]?).getD .any:=rfl
theorem Ku (M:aq):M.app []=M:=rfl
theorem yE (M:aq)(x:Nat)(k:Option Blk)(r:List (Nat×Option Blk)):M.app ((x,k)::r)=(M.put x k).app r:=rfl
theorem KQ (M:aq)(nm x:Nat)(k:Option Blk):(M.put nm k) x=if x=nm then k else M x:=rfl
theorem Nz (x:Nat):aq.nil x=none:=rfl
mutual
def V.flat:V→Bool
 | .any | .bool _ | .bit _ _ | .int _ _ | .str _ | .nilp | .upt | .nils | .val _=>true
 | .agg cs=>flatL cs
 | .tup cs=>flatL cs
 | .gd _ v=>v.flat
 | .iface _ v=>v.flat
 | _=>false
def flatL:List V→Bool
 | []=>true
 | v::r=>v.flat&&flatL r
end
theorem mI {l:List V}(h:flatL l=true){i:Nat}{u:V}(hi:l[i]? = some u):u.flat=true:=by
 induction l generalizing i with
 | nil=>simp at hi
 | cons v r ih =>
  simp only[flatL,Bool.and_eq_true]at h
  cases i with
  | zero=>simp at hi;subst hi;exact h.1
  | succ i=>exact ih h.2 (by simpa using hi)
theorem Is.flat {ρ ρ':Names}{D D':Nat→Prop}{w w':World}{v:V}{cv:Value}(h:Is ρ D w v cv)(hp:v.flat=true):Is ρ' D' w' v cv:=by
 induction h with
 | any cv=>exact .any _
 | bool b=>exact .bool _
 | bit b ht hf=>exact .bit b ht hf
 | int k n=>exact .int _ _
 | str s=>exact .str _
 | nilp=>exact .nilp
 | upt p=>exact .upt p
 | ptr h=>simp[V.flat]at hp
 | rp cv hd hb hc _ ih=>simp[V.flat]at hp
 | nils=>exact .nils
 | sl0 ht=>simp[V.flat]at hp
 | sl cv hc ht hd hb hr hx _ ih=>simp[V.flat]at hp
 | own0=>simp[V.flat]at hp
 | own h hl hc=>simp[V.flat]at hp
 | ownc0=>simp[V.flat]at hp
 | ownc h hl hc=>simp[V.flat]at hp
 | chan h=>simp[V.flat]at hp
 | mp h=>simp[V.flat]at hp
 | fn hn _ ih=>simp[V.flat]at hp
 | fnb hn _ ih=>simp[V.flat]at hp
 | iface _ ih=>exact .iface (ih (by simpa [V.flat] using hp))
 | agg hn _ ih=>exact .agg hn (fun i u cv hi hc=>ih i u cv hi hc (mI (by simpa [V.flat] using hp) hi))
 | tup hn _ ih=>exact .tup hn (fun i u cv hi hc=>ih i u cv hi hc (mI (by simpa [V.flat] using hp) hi))
 | gd _ h0 ih=>exact .gd (fun hb=>ih hb (by simpa [V.flat] using hp)) h0
 | val v=>exact .val _
theorem Ev.view {cx:Cx}{f:FuncId}{nm:Nat}{args:List V}{M:aq}{v:V}(h:Ev cx f nm (finL [] M args) aq.nil v [])(hok:finLOk [] M args)(hv:v.flat=true):Ev cx f nm args M v []:=by
  refine⟨h.1,fun X w ρ cargs B hr hfresh hB hn hargs=>?_⟩
  have hdom:∀ b,bJ X ρ aq.nil b→bJ X ρ M b:=by
    rintro b (hx|⟨nm,l,h1,_⟩)
    · exact .inl hx
    · simp[aq.nil]at h1
  have hr0:Rel cx.G X w (bO ρ aq.nil) ρ aq.nil w :=
    { size:=Nat.le_refl _,os:=rfl,tape:=rfl,output:=rfl,old:=fun _ _ _=>rfl
      live:=fun nm k hk=>by simp[aq.nil]at hk
      inj:=fun nm nm' l l' h1=>by simp[aq.nil]at h1
      hX:=fun b hb=>⟨(hr.hX b hb).1,by rintro ⟨nm,q,h1,_⟩;simp[aq.nil]at h1⟩
      glob:=fun g=>(hr.glob g).step (fun _ _ h=>h) (Nat.le_refl _) (fun _ _ _=>rfl) (fun b _ hb=>hdom b hb) }
  refine(h.2 X w ρ cargs B hr0 hfresh (fun x hx=>⟨rfl,(hB x hx).2⟩) (by rw[cT];exact hn) ?_).mono ?_
  · intro i u cv hi hc
    rw[eX]at hi
    obtain⟨u',h1,rfl⟩:=Option.map_eq_some_iff.1 hi
    refine kL (cx:=cx) hr (fun nm y hy=>by simp[aX]at hy) hdom (fun nm l _ hM hl=>?_) (hargs i u' cv h1 hc) (dp hok h1)
    rintro (hx|⟨nm',q,h2,_⟩)
    · exact(hr.block_lt hM hl).2.1 hx
    · simp[aq.nil]at h2
  · rintro e' w' ⟨cv,rfl,ρ',r,m,hvv,hn'⟩
    have hkept:∀ b,b<w.heap.size→w'.heap[b]? = w.heap[b]?:=fun b hb=>m.kept b hb (fun nm l h1=>by simp[aq.nil]at h1)
    have mv:Moves ρ M w ρ M w':=⟨fun _ _ h=>h,m.size,m.os,m.tape,m.output,fun b hb _=>hkept b hb,fun nm l h1 h2 _=>⟨nm,l,h1,h2,rfl⟩⟩
    refine⟨cv,rfl,ρ,?_,mv,hvv.flat hv,fun _ _=>rfl⟩
    exact hr.move mv hr.inj (fun nm k hk=>.inl ⟨hk,id,fun l hl=>hkept l.b (hr.block_lt (by rw[show M nm=some k from hk];rfl) hl).1⟩)
section
variable {cx:Cx} {Q:Post} {st:List Frm} {nm:Nat} {e:Env} {M:aq}
theorem Fh {d:Bool}{fs:List (List Nat)}{ops:List Oper}{dst:Option Tmp}{g:FuncId}{args:Array Operand}{ats:Array TypeId}{t:TypeId}{pos:String}{af:Array Edge}{r:List Oper}{i:Nat}{as as':List V}
  (l:List Nat) (has:args.toList.map (aA cx.G true e)=as) (has':finL [] (M.only l) as=as') (hok:finLOk [] (M.only l) as) {v:V} (hv:v.flat=true) (hev:Ev cx g (nm+16*i) as' aq.nil v []) (h:aE cx Q st nm (e.putD dst v) M d (fs++[l]) ops r (i+1)):fO cx Q st nm e M d fs ops ⟨dst,.call ⟨.value (.func g),args,ats⟩,t,pos,af,none⟩ r i :=
 ag has l (Ev.view (by rw[has'];exact hev) hok hv) (fun x hx=>by simp[ak]at hx) (by simpa [ak,aq.app] using h)
theorem jv {d:Bool}{fs:List (List Nat)}{ops:List Oper}{dst:Option Tmp}{g:FuncId}{args:Array Operand}{ats:Array TypeId}{t:TypeId}{pos:String}{af:Array Edge}{r:List Oper}{i:Nat}{as:List V}
  (has:args.toList.map (aA cx.G true e)=as) {v:V} {eff:List (Nat×Option Blk)} (hev:Ev cx g (nm+16*i) as aq.nil v eff) (he:∀ x∈ak eff,nm+16*i≤x∧x<nm+16*i+16)
  (h:aE cx Q st nm (e.putD dst v) (M.app eff) d (fs++[ak eff]) ops r (i+1)):fO cx Q st nm e M d fs ops ⟨dst,.call ⟨.value (.func g),args,ats⟩,t,pos,af,none⟩ r i :=
 ag has [] (by rw[aq.only_nil];exact hev) (fun x hx=>.inr (he x hx)) (by simpa using h)
theorem Bb {d:Bool}{fs:List (List Nat)}{ops:List Oper}{c:Bool}{dst:Option Tmp}{g:FuncId}{args:Array Operand}{ats:Array TypeId}{t:TypeId}{pos:String}{af:Array Edge}{gd:Option (Nat×Bool)}{r:List Oper}{i:Nat}{as as':List V}
  (l:List Nat) (has:args.toList.map (aA cx.G c e)=as) (has':c=true→finL [] (M.only l) as=as') (hok:c=true→finLOk [] (M.only l) as) {v:V} (hv:v.flat=true) (hev:c=true→Ev cx g (nm+16*i) as' aq.nil v []) (h:aE cx Q st nm (e.putD dst (.gd c v)) M d (fs++[l]) ops r (i+1)):dU cx Q st nm e M d fs c ops ⟨dst,.call ⟨.value (.func g),args,ats⟩,t,pos,af,gd⟩ r i:=by
 subst has
 unfold dU gU
 refine .inl ?_
 simp only[aA,V.tgt,List.nil_append,List.append_nil]
 exact⟨l,v,fun hc=>Ev.view (by rw[has' hc];exact hev hc) (hok hc) hv,h⟩
end
def m7 (b0:Nat)(M:aq):List (Nat×Nat)→Prop
 | []=>True
 |(x,j)::r=>(j<16∧b0≤x∧(M x).isSome=true∧KU M x=true∧plainLL (bp M x)=true)∧(∀ p∈r,p.1≠x∧p.2≠j)∧m7 b0 M r
def H5 (nm:Nat)(M:aq)(σ:List (Nat×Nat)):List (Nat×Option Blk):=σ.map (fun p=>(nm+p.2,M p.1))
def nZ (nm:Nat)(σ:List (Nat×Nat)):List (Nat×Nat):=σ.map (fun p=>(p.1,nm+p.2))
theorem DG {b0:Nat}{M:aq}{σ:List (Nat×Nat)}(h:m7 b0 M σ):∀ p∈σ,p.2<16∧b0≤p.1∧(M p.1).isSome=true∧KU M p.1=true∧plainLL (bp M p.1)=true:=by
 induction σ with
 | nil=>intro p hp;cases hp
 | cons q r ih =>
  intro p hp
  simp only[m7]at h
  rcases List.mem_cons.1 hp with rfl|hp
  ·exact h.1
  ·exact ih h.2.2 p hp
theorem qx {b0:Nat}{M:aq}(nm:Nat){σ:List (Nat×Nat)}(h:m7 b0 M σ):((nZ nm σ).map (·.1)).Nodup∧((nZ nm σ).map (·.2)).Nodup:=by
 induction σ with
 | nil=>exact⟨List.nodup_nil,List.nodup_nil⟩
 | cons q r ih =>
  simp only[m7]at h
  obtain⟨a,b⟩:=ih h.2.2
  refine⟨List.nodup_cons.2 ⟨?_,a⟩,List.nodup_cons.2 ⟨?_,b⟩⟩
  ·intro hm
   simp only[nZ,List.map_map,List.mem_map,Function.comp_apply]at hm
   obtain⟨p,hp,he⟩:=hm
   exact(h.2.1 p hp).1 he
  ·intro hm
   simp only[nZ,List.map_map,List.mem_map,Function.comp_apply]at hm
   obtain⟨p,hp,he⟩:=hm
   exact(h.2.1 p hp).2 (by omega)
theorem Fin.own {cx:Cx}{N:Nat}{rs:List ResultVar}{nm:Nat}{v:V}{eff:List (Nat×Option Blk)}{b0 n:Nat}{e:Env}{M:aq}(gs:List Nat)(σ:List (Nat×Nat))(h1:k8 cx.P N rs e (M.ghosts n gs))(h2:(ln cx.P rs e (M.ghosts n gs)).finOk (nZ nm σ) (M.ghosts n gs))(h3:((ln cx.P rs e (M.ghosts n gs)).fin (nZ nm σ) (M.ghosts n gs)).le v)(h4:H5 nm (M.ghosts n gs) σ=eff)(h5:m7 b0 (M.ghosts n gs) σ):oB cx N rs nm aq.nil v eff b0 n e M:=by
 refine⟨gs,Fin.two ⟨h1,nZ nm σ,h2,h3,?_,(qx nm h5).1,(qx nm h5).2,?_,fun x hx=>by simp[aq.nil]at hx⟩⟩
 ·rw[← h4];simp[H5,nZ]
 ·intro p hp
  simp only[nZ,List.mem_map]at hp
  obtain⟨q,hq,rfl⟩:=hp
  obtain⟨g1,g2,g3,g5,g4⟩:=DG h5 q hq
  refine⟨.inr ⟨⟨by simp,by simp;omega⟩,g2⟩,?_⟩
  obtain⟨k,hk⟩:=Option.isSome_iff_exists.1 g3
  refine⟨k,hk,?_,?_⟩
  ·simpa [KU,hk] using g5
  ·simpa [bp,hk] using g4
theorem c7 {α β:Type}(f:α→β)(l:List α):(l.map f).take l.length=l.map f:=by rw[← List.length_map (f:=f),List.take_length]
theorem Bh (M:aq)(n:Nat):M.ghosts n []=M:=rfl
theorem xR (M:aq)(n s:Nat)(r:List Nat):M.ghosts n (s::r)=(M.put n (some ⟨s,[]⟩)).ghosts (n+1) r:=rfl
theorem dJ (x:Nat):aX [] x=none:=rfl
theorem ga (y z x:Nat)(r:List (Nat×Nat)):aX ((y,z)::r) x=if y=x then some z else aX r x:=by
 unfold aX
 rw[List.find?_cons]
 by_cases h:y=x
 ·subst h;simp
 ·have hb:(y==x)=false:=by simpa using h
  simp only[hb,h,if_false]
theorem oF (M:aq)(l:List Nat)(x:Nat):(M.only l) x=if x∈l then M x else none:=rfl
theorem cB {α:Type}(f:α→List V)(h:∀ a,plainL (f a)=true)(l:List α):plainLL (l.map f)=true:=by
 rw[ff,List.all_eq_true]
 intro x hx
 obtain⟨a,_,rfl⟩:=List.mem_map.1 hx
 exact h a
theorem aT {a b:Nat}(h:a<b):(a=b)=False:=eq_false (by omega)
theorem aK {a b:Nat}(h:a<b):(b=a)=False:=eq_false (by omega)
theorem aw {a b:Nat}(h:a<b)(c:Nat):(a=b+c)=False:=eq_false (by omega)
theorem ao {a b:Nat}(h:a<b)(c:Nat):(b+c=a)=False:=eq_false (by omega)
theorem aN {n:Int}(h1:-9223372036854775808≤n)(h2:n≤9223372036854775807):IntKind.i64.wrap n=n:=IntWalk.i64_in _ ⟨h1,h2⟩
section
variable {cx:Cx} {Q:Post} {st:List Frm} {nm:Nat} {e:Env} {M:aq}
end
section
variable (cx:Cx) (Q:Post) (st:List Frm) (nm:Nat) (e:Env) (M:aq)
variable (d:Bool) (fs:List (List Nat)) (ops:List Oper) (dst:Option Tmp) (t:TypeId) (pos:String) (af:Array Edge) (r:List Oper) (i:Nat)
theorem zU (x:Operand):aE cx Q st nm e M d fs ops (⟨dst,.move x,t,pos,af,none⟩::r) i=(bz cx true e M ⟨dst,.move x,t,pos,af,none⟩ ∧
  aE cx Q st nm (e.putD dst (dv cx true e M (nm+16*i) ⟨dst,.move x,t,pos,af,none⟩)) (M.app (eK cx true e M (nm+16*i) ⟨dst,.move x,t,pos,af,none⟩)) d (fs++[fj cx true e (nm+16*i) ⟨dst,.move x,t,pos,af,none⟩]) ops r (i+1)):=propext Iff.rfl
theorem wk (x:Operand):aE cx Q st nm e M d fs ops (⟨dst,.assign x,t,pos,af,none⟩::r) i=(bz cx true e M ⟨dst,.assign x,t,pos,af,none⟩ ∧
  aE cx Q st nm (e.putD dst (dv cx true e M (nm+16*i) ⟨dst,.assign x,t,pos,af,none⟩)) (M.app (eK cx true e M (nm+16*i) ⟨dst,.assign x,t,pos,af,none⟩)) d (fs++[fj cx true e (nm+16*i) ⟨dst,.assign x,t,pos,af,none⟩]) ops r (i+1)):=propext Iff.rfl
theorem tU (x:Operand):aE cx Q st nm e M d fs ops (⟨dst,.nilCheck x,t,pos,af,none⟩::r) i=(bz cx true e M ⟨dst,.nilCheck x,t,pos,af,none⟩ ∧
  aE cx Q st nm (e.putD dst (dv cx true e M (nm+16*i) ⟨dst,.nilCheck x,t,pos,af,none⟩)) (M.app (eK cx true e M (nm+16*i) ⟨dst,.nilCheck x,t,pos,af,none⟩)) d (fs++[fj cx true e (nm+16*i) ⟨dst,.nilCheck x,t,pos,af,none⟩]) ops r (i+1)):=propext Iff.rfl
theorem BQ (x y z:Operand):aE cx Q st nm e M d fs ops (⟨dst,.pick x y z,t,pos,af,none⟩::r) i=(bz cx true e M ⟨dst,.pick x y z,t,pos,af,none⟩ ∧
  aE cx Q st nm (e.putD dst (dv cx true e M (nm+16*i) ⟨dst,.pick x y z,t,pos,af,none⟩)) (M.app (eK cx true e M (nm+16*i) ⟨dst,.pick x y z,t,pos,af,none⟩)) d (fs++[fj cx true e (nm+16*i) ⟨dst,.pick x y z,t,pos,af,none⟩]) ops r (i+1)):=propext Iff.rfl
theorem ym (ty:TypeId)(ps:Array (Nat×Operand)):aE cx Q st nm e M d fs ops (⟨dst,.build ty ps,t,pos,af,none⟩::r) i=(bz cx true e M ⟨dst,.build ty ps,t,pos,af,none⟩ ∧
  aE cx Q st nm (e.putD dst (dv cx true e M (nm+16*i) ⟨dst,.build ty ps,t,pos,af,none⟩)) (M.app (eK cx true e M (nm+16*i) ⟨dst,.build ty ps,t,pos,af,none⟩)) d (fs++[fj cx true e (nm+16*i) ⟨dst,.build ty ps,t,pos,af,none⟩]) ops r (i+1)):=propext Iff.rfl
theorem As (ty:TypeId)(x:Operand):aE cx Q st nm e M d fs ops (⟨dst,.load ty x,t,pos,af,none⟩::r) i=(bz cx true e M ⟨dst,.load ty x,t,pos,af,none⟩ ∧
  aE cx Q st nm (e.putD dst (dv cx true e M (nm+16*i) ⟨dst,.load ty x,t,pos,af,none⟩)) (M.app (eK cx true e M (nm+16*i) ⟨dst,.load ty x,t,pos,af,none⟩)) d (fs++[fj cx true e (nm+16*i) ⟨dst,.load ty x,t,pos,af,none⟩]) ops r (i+1)):=propext Iff.rfl
theorem zQ (o:BinOp)(ty:TypeId)(x y:Operand)(yt:TypeId):aE cx Q st nm e M d fs ops (⟨dst,.binOp o ty x y yt,t,pos,af,none⟩::r) i=(bz cx true e M ⟨dst,.binOp o ty x y yt,t,pos,af,none⟩ ∧
  aE cx Q st nm (e.putD dst (dv cx true e M (nm+16*i) ⟨dst,.binOp o ty x y yt,t,pos,af,none⟩)) (M.app (eK cx true e M (nm+16*i) ⟨dst,.binOp o ty x y yt,t,pos,af,none⟩)) d (fs++[fj cx true e (nm+16*i) ⟨dst,.binOp o ty x y yt,t,pos,af,none⟩]) ops r (i+1)):=propext Iff.rfl
theorem z6 (o:UnOp)(ty:TypeId)(x:Operand):aE cx Q st nm e M d fs ops (⟨dst,.unOp o ty x,t,pos,af,none⟩::r) i=(bz cx true e M ⟨dst,.unOp o ty x,t,pos,af,none⟩ ∧
  aE cx Q st nm (e.putD dst (dv cx true e M (nm+16*i) ⟨dst,.unOp o ty x,t,pos,af,none⟩)) (M.app (eK cx true e M (nm+16*i) ⟨dst,.unOp o ty x,t,pos,af,none⟩)) d (fs++[fj cx true e (nm+16*i) ⟨dst,.unOp o ty x,t,pos,af,none⟩]) ops r (i+1)):=propext Iff.rfl
theorem qV (ty:TypeId)(x:Operand)(f:Nat):aE cx Q st nm e M d fs ops (⟨dst,.fieldAddr ty x f,t,pos,af,none⟩::r) i=(bz cx true e M ⟨dst,.fieldAddr ty x f,t,pos,af,none⟩ ∧
  aE cx Q st nm (e.putD dst (dv cx true e M (nm+16*i) ⟨dst,.fieldAddr ty x f,t,pos,af,none⟩)) (M.app (eK cx true e M (nm+16*i) ⟨dst,.fieldAddr ty x f,t,pos,af,none⟩)) d (fs++[fj cx true e (nm+16*i) ⟨dst,.fieldAddr ty x f,t,pos,af,none⟩]) ops r (i+1)):=propext Iff.rfl
theorem yQ (ty:TypeId)(x:Operand)(f:Nat):aE cx Q st nm e M d fs ops (⟨dst,.field ty x f,t,pos,af,none⟩::r) i=(bz cx true e M ⟨dst,.field ty x f,t,pos,af,none⟩ ∧
  aE cx Q st nm (e.putD dst (dv cx true e M (nm+16*i) ⟨dst,.field ty x f,t,pos,af,none⟩)) (M.app (eK cx true e M (nm+16*i) ⟨dst,.field ty x f,t,pos,af,none⟩)) d (fs++[fj cx true e (nm+16*i) ⟨dst,.field ty x f,t,pos,af,none⟩]) ops r (i+1)):=propext Iff.rfl
theorem qZ (ty:TypeId)(x k:Operand):aE cx Q st nm e M d fs ops (⟨dst,.indexAddr ty x k,t,pos,af,none⟩::r) i=(bz cx true e M ⟨dst,.indexAddr ty x k,t,pos,af,none⟩ ∧
  aE cx Q st nm (e.putD dst (dv cx true e M (nm+16*i) ⟨dst,.indexAddr ty x k,t,pos,af,none⟩)) (M.app (eK cx true e M (nm+16*i) ⟨dst,.indexAddr ty x k,t,pos,af,none⟩)) d (fs++[fj cx true e (nm+16*i) ⟨dst,.indexAddr ty x k,t,pos,af,none⟩]) ops r (i+1)):=propext Iff.rfl
theorem xY (ty:TypeId)(x k:Operand):aE cx Q st nm e M d fs ops (⟨dst,.index ty x k,t,pos,af,none⟩::r) i=(bz cx true e M ⟨dst,.index ty x k,t,pos,af,none⟩ ∧
  aE cx Q st nm (e.putD dst (dv cx true e M (nm+16*i) ⟨dst,.index ty x k,t,pos,af,none⟩)) (M.app (eK cx true e M (nm+16*i) ⟨dst,.index ty x k,t,pos,af,none⟩)) d (fs++[fj cx true e (nm+16*i) ⟨dst,.index ty x k,t,pos,af,none⟩]) ops r (i+1)):=propext Iff.rfl
theorem ur (x:Operand)(k:Nat):aE cx Q st nm e M d fs ops (⟨dst,.extract x k,t,pos,af,none⟩::r) i=(bz cx true e M ⟨dst,.extract x k,t,pos,af,none⟩ ∧
  aE cx Q st nm (e.putD dst (dv cx true e M (nm+16*i) ⟨dst,.extract x k,t,pos,af,none⟩)) (M.app (eK cx true e M (nm+16*i) ⟨dst,.extract x k,t,pos,af,none⟩)) d (fs++[fj cx true e (nm+16*i) ⟨dst,.extract x k,t,pos,af,none⟩]) ops r (i+1)):=propext Iff.rfl
theorem se (f:FuncId)(a c:Array Operand):aE cx Q st nm e M d fs ops (⟨dst,.makeFunc (.func f) a c,t,pos,af,none⟩::r) i=(bz cx true e M ⟨dst,.makeFunc (.func f) a c,t,pos,af,none⟩ ∧
  aE cx Q st nm (e.putD dst (dv cx true e M (nm+16*i) ⟨dst,.makeFunc (.func f) a c,t,pos,af,none⟩)) (M.app (eK cx true e M (nm+16*i) ⟨dst,.makeFunc (.func f) a c,t,pos,af,none⟩)) d (fs++[fj cx true e (nm+16*i) ⟨dst,.makeFunc (.func f) a c,t,pos,af,none⟩]) ops r (i+1)):=propext Iff.rfl
theorem EI (as:Array Operand)(ts:Array TypeId):aE cx Q st nm e M d fs ops (⟨dst,.call ⟨.builtin .len,as,ts⟩,t,pos,af,none⟩::r) i=(bz cx true e M ⟨dst,.call ⟨.builtin .len,as,ts⟩,t,pos,af,none⟩ ∧
  aE cx Q st nm (e.putD dst (dv cx true e M (nm+16*i) ⟨dst,.call ⟨.builtin .len,as,ts⟩,t,pos,af,none⟩)) (M.app (eK cx true e M (nm+16*i) ⟨dst,.call ⟨.builtin .len,as,ts⟩,t,pos,af,none⟩)) d (fs++[fj cx true e (nm+16*i) ⟨dst,.call ⟨.builtin .len,as,ts⟩,t,pos,af,none⟩]) ops r (i+1)):=propext Iff.rfl
theorem EZ (as:Array Operand)(ts:Array TypeId):aE cx Q st nm e M d fs ops (⟨dst,.call ⟨.builtin .max,as,ts⟩,t,pos,af,none⟩::r) i=(bz cx true e M ⟨dst,.call ⟨.builtin .max,as,ts⟩,t,pos,af,none⟩ ∧
  aE cx Q st nm (e.putD dst (dv cx true e M (nm+16*i) ⟨dst,.call ⟨.builtin .max,as,ts⟩,t,pos,af,none⟩)) (M.app (eK cx true e M (nm+16*i) ⟨dst,.call ⟨.builtin .max,as,ts⟩,t,pos,af,none⟩)) d (fs++[fj cx true e (nm+16*i) ⟨dst,.call ⟨.builtin .max,as,ts⟩,t,pos,af,none⟩]) ops r (i+1)):=propext Iff.rfl
theorem Ew (as:Array Operand)(ts:Array TypeId):aE cx Q st nm e M d fs ops (⟨dst,.call ⟨.builtin .min,as,ts⟩,t,pos,af,none⟩::r) i=(bz cx true e M ⟨dst,.call ⟨.builtin .min,as,ts⟩,t,pos,af,none⟩ ∧
  aE cx Q st nm (e.putD dst (dv cx true e M (nm+16*i) ⟨dst,.call ⟨.builtin .min,as,ts⟩,t,pos,af,none⟩)) (M.app (eK cx true e M (nm+16*i) ⟨dst,.call ⟨.builtin .min,as,ts⟩,t,pos,af,none⟩)) d (fs++[fj cx true e (nm+16*i) ⟨dst,.call ⟨.builtin .min,as,ts⟩,t,pos,af,none⟩]) ops r (i+1)):=propext Iff.rfl
theorem DE (as:Array Operand)(ts:Array TypeId):aE cx Q st nm e M d fs ops (⟨dst,.call ⟨.builtin .cap,as,ts⟩,t,pos,af,none⟩::r) i=(bz cx true e M ⟨dst,.call ⟨.builtin .cap,as,ts⟩,t,pos,af,none⟩ ∧
  aE cx Q st nm (e.putD dst (dv cx true e M (nm+16*i) ⟨dst,.call ⟨.builtin .cap,as,ts⟩,t,pos,af,none⟩)) (M.app (eK cx true e M (nm+16*i) ⟨dst,.call ⟨.builtin .cap,as,ts⟩,t,pos,af,none⟩)) d (fs++[fj cx true e (nm+16*i) ⟨dst,.call ⟨.builtin .cap,as,ts⟩,t,pos,af,none⟩]) ops r (i+1)):=propext Iff.rfl
theorem yd (ty:TypeId):aE cx Q st nm e M d fs ops (⟨dst,.alloc ty,t,pos,af,none⟩::r) i=(bz cx true e M ⟨dst,.alloc ty,t,pos,af,none⟩ ∧
  aE cx Q st nm (e.putD dst (dv cx true e M (nm+16*i) ⟨dst,.alloc ty,t,pos,af,none⟩)) (M.app (eK cx true e M (nm+16*i) ⟨dst,.alloc ty,t,pos,af,none⟩)) d (fs++[fj cx true e (nm+16*i) ⟨dst,.alloc ty,t,pos,af,none⟩]) ops r (i+1)):=propext Iff.rfl
theorem Fa (ty:TypeId)(x:Operand):aE cx Q st nm e M d fs ops (⟨dst,.box ty x,t,pos,af,none⟩::r) i=(bz cx true e M ⟨dst,.box ty x,t,pos,af,none⟩ ∧
  aE cx Q st nm (e.putD dst (dv cx true e M (nm+16*i) ⟨dst,.box ty x,t,pos,af,none⟩)) (M.app (eK cx true e M (nm+16*i) ⟨dst,.box ty x,t,pos,af,none⟩)) d (fs++[fj cx true e (nm+16*i) ⟨dst,.box ty x,t,pos,af,none⟩]) ops r (i+1)):=propext Iff.rfl
theorem pY (ty:TypeId)(n:Nat)(ps:Array (Nat×Operand)):aE cx Q st nm e M d fs ops (⟨dst,.buildSlice ty n ps,t,pos,af,none⟩::r) i=(bz cx true e M ⟨dst,.buildSlice ty n ps,t,pos,af,none⟩ ∧
  aE cx Q st nm (e.putD dst (dv cx true e M (nm+16*i) ⟨dst,.buildSlice ty n ps,t,pos,af,none⟩)) (M.app (eK cx true e M (nm+16*i) ⟨dst,.buildSlice ty n ps,t,pos,af,none⟩)) d (fs++[fj cx true e (nm+16*i) ⟨dst,.buildSlice ty n ps,t,pos,af,none⟩]) ops r (i+1)):=propext Iff.rfl
theorem yB (ty:TypeId)(x v:Operand):aE cx Q st nm e M d fs ops (⟨dst,.store ty x v,t,pos,af,none⟩::r) i=(bz cx true e M ⟨dst,.store ty x v,t,pos,af,none⟩ ∧
  aE cx Q st nm (e.putD dst (dv cx true e M (nm+16*i) ⟨dst,.store ty x v,t,pos,af,none⟩)) (M.app (eK cx true e M (nm+16*i) ⟨dst,.store ty x v,t,pos,af,none⟩)) d (fs++[fj cx true e (nm+16*i) ⟨dst,.store ty x v,t,pos,af,none⟩]) ops r (i+1)):=propext Iff.rfl
theorem v5 (as:Array Operand)(ts:Array TypeId):aE cx Q st nm e M d fs ops (⟨dst,.call ⟨.builtin .append,as,ts⟩,t,pos,af,none⟩::r) i=(bz cx true e M ⟨dst,.call ⟨.builtin .append,as,ts⟩,t,pos,af,none⟩ ∧
  aE cx Q st nm (e.putD dst (dv cx true e M (nm+16*i) ⟨dst,.call ⟨.builtin .append,as,ts⟩,t,pos,af,none⟩)) (M.app (eK cx true e M (nm+16*i) ⟨dst,.call ⟨.builtin .append,as,ts⟩,t,pos,af,none⟩)) d (fs++[fj cx true e (nm+16*i) ⟨dst,.call ⟨.builtin .append,as,ts⟩,t,pos,af,none⟩]) ops r (i+1)):=propext Iff.rfl
theorem z8 (as:Array Operand)(ts:Array TypeId):aE cx Q st nm e M d fs ops (⟨dst,.call ⟨.builtin .copy,as,ts⟩,t,pos,af,none⟩::r) i=(bz cx true e M ⟨dst,.call ⟨.builtin .copy,as,ts⟩,t,pos,af,none⟩ ∧
  aE cx Q st nm (e.putD dst (dv cx true e M (nm+16*i) ⟨dst,.call ⟨.builtin .copy,as,ts⟩,t,pos,af,none⟩)) (M.app (eK cx true e M (nm+16*i) ⟨dst,.call ⟨.builtin .copy,as,ts⟩,t,pos,af,none⟩)) d (fs++[fj cx true e (nm+16*i) ⟨dst,.call ⟨.builtin .copy,as,ts⟩,t,pos,af,none⟩]) ops r (i+1)):=propext Iff.rfl
theorem wX (b want:Bool)(x:Operand)(gd:Option (Nat×Bool)):aW cx Q st nm e M d fs (.bool b) want ops ⟨dst,.move x,t,pos,af,gd⟩ r i=(((b==want)=true→bz cx (b==want) e M ⟨dst,.move x,t,pos,af,gd⟩) ∧
  aE cx Q st nm (e.putD dst (.gd (b==want) (dv cx (b==want) e M (nm+16*i) ⟨dst,.move x,t,pos,af,gd⟩))) M d (fs++[fj cx (b==want) e (nm+16*i) ⟨dst,.move x,t,pos,af,gd⟩]) ops r (i+1)):=propext Iff.rfl
theorem sE (b want:Bool)(x:Operand)(gd:Option (Nat×Bool)):aW cx Q st nm e M d fs (.bool b) want ops ⟨dst,.assign x,t,pos,af,gd⟩ r i=(((b==want)=true→bz cx (b==want) e M ⟨dst,.assign x,t,pos,af,gd⟩) ∧
  aE cx Q st nm (e.putD dst (.gd (b==want) (dv cx (b==want) e M (nm+16*i) ⟨dst,.assign x,t,pos,af,gd⟩))) M d (fs++[fj cx (b==want) e (nm+16*i) ⟨dst,.assign x,t,pos,af,gd⟩]) ops r (i+1)):=propext Iff.rfl
theorem pK (b want:Bool)(x:Operand)(gd:Option (Nat×Bool)):aW cx Q st nm e M d fs (.bool b) want ops ⟨dst,.nilCheck x,t,pos,af,gd⟩ r i=(((b==want)=true→bz cx (b==want) e M ⟨dst,.nilCheck x,t,pos,af,gd⟩) ∧
  aE cx Q st nm (e.putD dst (.gd (b==want) (dv cx (b==want) e M (nm+16*i) ⟨dst,.nilCheck x,t,pos,af,gd⟩))) M d (fs++[fj cx (b==want) e (nm+16*i) ⟨dst,.nilCheck x,t,pos,af,gd⟩]) ops r (i+1)):=propext Iff.rfl
theorem xp (b want:Bool)(x y z:Operand)(gd:Option (Nat×Bool)):aW cx Q st nm e M d fs (.bool b) want ops ⟨dst,.pick x y z,t,pos,af,gd⟩ r i=(((b==want)=true→bz cx (b==want) e M ⟨dst,.pick x y z,t,pos,af,gd⟩) ∧
  aE cx Q st nm (e.putD dst (.gd (b==want) (dv cx (b==want) e M (nm+16*i) ⟨dst,.pick x y z,t,pos,af,gd⟩))) M d (fs++[fj cx (b==want) e (nm+16*i) ⟨dst,.pick x y z,t,pos,af,gd⟩]) ops r (i+1)):=propext Iff.rfl
theorem uR (b want:Bool)(ty:TypeId)(ps:Array (Nat×Operand))(gd:Option (Nat×Bool)):aW cx Q st nm e M d fs (.bool b) want ops ⟨dst,.build ty ps,t,pos,af,gd⟩ r i=(((b==want)=true→bz cx (b==want) e M ⟨dst,.build ty ps,t,pos,af,gd⟩) ∧
  aE cx Q st nm (e.putD dst (.gd (b==want) (dv cx (b==want) e M (nm+16*i) ⟨dst,.build ty ps,t,pos,af,gd⟩))) M d (fs++[fj cx (b==want) e (nm+16*i) ⟨dst,.build ty ps,t,pos,af,gd⟩]) ops r (i+1)):=propext Iff.rfl
theorem xy (b want:Bool)(ty:TypeId)(x:Operand)(gd:Option (Nat×Bool)):aW cx Q st nm e M d fs (.bool b) want ops ⟨dst,.load ty x,t,pos,af,gd⟩ r i=(((b==want)=true→bz cx (b==want) e M ⟨dst,.load ty x,t,pos,af,gd⟩) ∧
  aE cx Q st nm (e.putD dst (.gd (b==want) (dv cx (b==want) e M (nm+16*i) ⟨dst,.load ty x,t,pos,af,gd⟩))) M d (fs++[fj cx (b==want) e (nm+16*i) ⟨dst,.load ty x,t,pos,af,gd⟩]) ops r (i+1)):=propext Iff.rfl
theorem uq (b want:Bool)(o:BinOp)(ty:TypeId)(x y:Operand)(yt:TypeId)(gd:Option (Nat×Bool)):aW cx Q st nm e M d fs (.bool b) want ops ⟨dst,.binOp o ty x y yt,t,pos,af,gd⟩ r i=(((b==want)=true→bz cx (b==want) e M ⟨dst,.binOp o ty x y yt,t,pos,af,gd⟩) ∧
  aE cx Q st nm (e.putD dst (.gd (b==want) (dv cx (b==want) e M (nm+16*i) ⟨dst,.binOp o ty x y yt,t,pos,af,gd⟩))) M d (fs++[fj cx (b==want) e (nm+16*i) ⟨dst,.binOp o ty x y yt,t,pos,af,gd⟩]) ops r (i+1)):=propext Iff.rfl
theorem v9 (b want:Bool)(o:UnOp)(ty:TypeId)(x:Operand)(gd:Option (Nat×Bool)):aW cx Q st nm e M d fs (.bool b) want ops ⟨dst,.unOp o ty x,t,pos,af,gd⟩ r i=(((b==want)=true→bz cx (b==want) e M ⟨dst,.unOp o ty x,t,pos,af,gd⟩) ∧
  aE cx Q st nm (e.putD dst (.gd (b==want) (dv cx (b==want) e M (nm+16*i) ⟨dst,.unOp o ty x,t,pos,af,gd⟩))) M d (fs++[fj cx (b==want) e (nm+16*i) ⟨dst,.unOp o ty x,t,pos,af,gd⟩]) ops r (i+1)):=propext Iff.rfl
theorem oA (b want:Bool)(ty:TypeId)(x:Operand)(f:Nat)(gd:Option (Nat×Bool)):aW cx Q st nm e M d fs (.bool b) want ops ⟨dst,.fieldAddr ty x f,t,pos,af,gd⟩ r i=(((b==want)=true→bz cx (b==want) e M ⟨dst,.fieldAddr ty x f,t,pos,af,gd⟩) ∧
  aE cx Q st nm (e.putD dst (.gd (b==want) (dv cx (b==want) e M (nm+16*i) ⟨dst,.fieldAddr ty x f,t,pos,af,gd⟩))) M d (fs++[fj cx (b==want) e (nm+16*i) ⟨dst,.fieldAddr ty x f,t,pos,af,gd⟩]) ops r (i+1)):=propext Iff.rfl
theorem un (b want:Bool)(ty:TypeId)(x:Operand)(f:Nat)(gd:Option (Nat×Bool)):aW cx Q st nm e M d fs (.bool b) want ops ⟨dst,.field ty x f,t,pos,af,gd⟩ r i=(((b==want)=true→bz cx (b==want) e M ⟨dst,.field ty x f,t,pos,af,gd⟩) ∧
  aE cx Q st nm (e.putD dst (.gd (b==want) (dv cx (b==want) e M (nm+16*i) ⟨dst,.field ty x f,t,pos,af,gd⟩))) M d (fs++[fj cx (b==want) e (nm+16*i) ⟨dst,.field ty x f,t,pos,af,gd⟩]) ops r (i+1)):=propext Iff.rfl
theorem n0 (b want:Bool)(ty:TypeId)(x k:Operand)(gd:Option (Nat×Bool)):aW cx Q st nm e M d fs (.bool b) want ops ⟨dst,.indexAddr ty x k,t,pos,af,gd⟩ r i=(((b==want)=true→bz cx (b==want) e M ⟨dst,.indexAddr ty x k,t,pos,af,gd⟩) ∧
  aE cx Q st nm (e.putD dst (.gd (b==want) (dv cx (b==want) e M (nm+16*i) ⟨dst,.indexAddr ty x k,t,pos,af,gd⟩))) M d (fs++[fj cx (b==want) e (nm+16*i) ⟨dst,.indexAddr ty x k,t,pos,af,gd⟩]) ops r (i+1)):=propext Iff.rfl
theorem uF (b want:Bool)(ty:TypeId)(x k:Operand)(gd:Option (Nat×Bool)):aW cx Q st nm e M d fs (.bool b) want ops ⟨dst,.index ty x k,t,pos,af,gd⟩ r i=(((b==want)=true→bz cx (b==want) e M ⟨dst,.index ty x k,t,pos,af,gd⟩) ∧
  aE cx Q st nm (e.putD dst (.gd (b==want) (dv cx (b==want) e M (nm+16*i) ⟨dst,.index ty x k,t,pos,af,gd⟩))) M d (fs++[fj cx (b==want) e (nm+16*i) ⟨dst,.index ty x k,t,pos,af,gd⟩]) ops r (i+1)):=propext Iff.rfl
theorem re (b want:Bool)(x:Operand)(k:Nat)(gd:Option (Nat×Bool)):aW cx Q st nm e M d fs (.bool b) want ops ⟨dst,.extract x k,t,pos,af,gd⟩ r i=(((b==want)=true→bz cx (b==want) e M ⟨dst,.extract x k,t,pos,af,gd⟩) ∧
  aE cx Q st nm (e.putD dst (.gd (b==want) (dv cx (b==want) e M (nm+16*i) ⟨dst,.extract x k,t,pos,af,gd⟩))) M d (fs++[fj cx (b==want) e (nm+16*i) ⟨dst,.extract x k,t,pos,af,gd⟩]) ops r (i+1)):=propext Iff.rfl
theorem pR (b want:Bool)(f:FuncId)(a c:Array Operand)(gd:Option (Nat×Bool)):aW cx Q st nm e M d fs (.bool b) want ops ⟨dst,.makeFunc (.func f) a c,t,pos,af,gd⟩ r i=(((b==want)=true→bz cx (b==want) e M ⟨dst,.makeFunc (.func f) a c,t,pos,af,gd⟩) ∧
  aE cx Q st nm (e.putD dst (.gd (b==want) (dv cx (b==want) e M (nm+16*i) ⟨dst,.makeFunc (.func f) a c,t,pos,af,gd⟩))) M d (fs++[fj cx (b==want) e (nm+16*i) ⟨dst,.makeFunc (.func f) a c,t,pos,af,gd⟩]) ops r (i+1)):=propext Iff.rfl
theorem ya (b want:Bool)(as:Array Operand)(ts:Array TypeId)(gd:Option (Nat×Bool)):aW cx Q st nm e M d fs (.bool b) want ops ⟨dst,.call ⟨.builtin .len,as,ts⟩,t,pos,af,gd⟩ r i=(((b==want)=true→bz cx (b==want) e M ⟨dst,.call ⟨.builtin .len,as,ts⟩,t,pos,af,gd⟩) ∧
  aE cx Q st nm (e.putD dst (.gd (b==want) (dv cx (b==want) e M (nm+16*i) ⟨dst,.call ⟨.builtin .len,as,ts⟩,t,pos,af,gd⟩))) M d (fs++[fj cx (b==want) e (nm+16*i) ⟨dst,.call ⟨.builtin .len,as,ts⟩,t,pos,af,gd⟩]) ops r (i+1)):=propext Iff.rfl
theorem xO (b want:Bool)(as:Array Operand)(ts:Array TypeId)(gd:Option (Nat×Bool)):aW cx Q st nm e M d fs (.bool b) want ops ⟨dst,.call ⟨.builtin .max,as,ts⟩,t,pos,af,gd⟩ r i=(((b==want)=true→bz cx (b==want) e M ⟨dst,.call ⟨.builtin .max,as,ts⟩,t,pos,af,gd⟩) ∧
  aE cx Q st nm (e.putD dst (.gd (b==want) (dv cx (b==want) e M (nm+16*i) ⟨dst,.call ⟨.builtin .max,as,ts⟩,t,pos,af,gd⟩))) M d (fs++[fj cx (b==want) e (nm+16*i) ⟨dst,.call ⟨.builtin .max,as,ts⟩,t,pos,af,gd⟩]) ops r (i+1)):=propext Iff.rfl
theorem yk (b want:Bool)(as:Array Operand)(ts:Array TypeId)(gd:Option (Nat×Bool)):aW cx Q st nm e M d fs (.bool b) want ops ⟨dst,.call ⟨.builtin .min,as,ts⟩,t,pos,af,gd⟩ r i=(((b==want)=true→bz cx (b==want) e M ⟨dst,.call ⟨.builtin .min,as,ts⟩,t,pos,af,gd⟩) ∧
  aE cx Q st nm (e.putD dst (.gd (b==want) (dv cx (b==want) e M (nm+16*i) ⟨dst,.call ⟨.builtin .min,as,ts⟩,t,pos,af,gd⟩))) M d (fs++[fj cx (b==want) e (nm+16*i) ⟨dst,.call ⟨.builtin .min,as,ts⟩,t,pos,af,gd⟩]) ops r (i+1)):=propext Iff.rfl
theorem yT (b want:Bool)(as:Array Operand)(ts:Array TypeId)(gd:Option (Nat×Bool)):aW cx Q st nm e M d fs (.bool b) want ops ⟨dst,.call ⟨.builtin .cap,as,ts⟩,t,pos,af,gd⟩ r i=(((b==want)=true→bz cx (b==want) e M ⟨dst,.call ⟨.builtin .cap,as,ts⟩,t,pos,af,gd⟩) ∧
  aE cx Q st nm (e.putD dst (.gd (b==want) (dv cx (b==want) e M (nm+16*i) ⟨dst,.call ⟨.builtin .cap,as,ts⟩,t,pos,af,gd⟩))) M d (fs++[fj cx (b==want) e (nm+16*i) ⟨dst,.call ⟨.builtin .cap,as,ts⟩,t,pos,af,gd⟩]) ops r (i+1)):=propext Iff.rfl
theorem uO (b want:Bool)(ty:TypeId)(gd:Option (Nat×Bool)):aW cx Q st nm e M d fs (.bool b) want ops ⟨dst,.alloc ty,t,pos,af,gd⟩ r i=(((b==want)=true→bz cx true e M ⟨dst,.alloc ty,t,pos,af,gd⟩ ∧
  aE cx Q st nm (e.putD dst (dv cx true e M (nm+16*i) ⟨dst,.alloc ty,t,pos,af,gd⟩)) (M.app (eK cx true e M (nm+16*i) ⟨dst,.alloc ty,t,pos,af,gd⟩)) d (fs++[fj cx true e (nm+16*i) ⟨dst,.alloc ty,t,pos,af,gd⟩]) ops r (i+1))∧((b==want)=false→aE cx Q st nm (e.putD dst .any) M d (fs++[[]]) ops r (i+1))):=propext Iff.rfl
theorem xQ (b want:Bool)(ty:TypeId)(x:Operand)(gd:Option (Nat×Bool)):aW cx Q st nm e M d fs (.bool b) want ops ⟨dst,.box ty x,t,pos,af,gd⟩ r i=(((b==want)=true→bz cx true e M ⟨dst,.box ty x,t,pos,af,gd⟩ ∧
  aE cx Q st nm (e.putD dst (dv cx true e M (nm+16*i) ⟨dst,.box ty x,t,pos,af,gd⟩)) (M.app (eK cx true e M (nm+16*i) ⟨dst,.box ty x,t,pos,af,gd⟩)) d (fs++[fj cx true e (nm+16*i) ⟨dst,.box ty x,t,pos,af,gd⟩]) ops r (i+1))∧((b==want)=false→aE cx Q st nm (e.putD dst .any) M d (fs++[[]]) ops r (i+1))):=propext Iff.rfl
theorem nu (b want:Bool)(ty:TypeId)(n:Nat)(ps:Array (Nat×Operand))(gd:Option (Nat×Bool)):aW cx Q st nm e M d fs (.bool b) want ops ⟨dst,.buildSlice ty n ps,t,pos,af,gd⟩ r i=(((b==want)=true→bz cx true e M ⟨dst,.buildSlice ty n ps,t,pos,af,gd⟩ ∧
  aE cx Q st nm (e.putD dst (dv cx true e M (nm+16*i) ⟨dst,.buildSlice ty n ps,t,pos,af,gd⟩)) (M.app (eK cx true e M (nm+16*i) ⟨dst,.buildSlice ty n ps,t,pos,af,gd⟩)) d (fs++[fj cx true e (nm+16*i) ⟨dst,.buildSlice ty n ps,t,pos,af,gd⟩]) ops r (i+1))∧((b==want)=false→aE cx Q st nm (e.putD dst .any) M d (fs++[[]]) ops r (i+1))):=propext Iff.rfl
theorem uM (b want:Bool)(ty:TypeId)(x v:Operand)(gd:Option (Nat×Bool)):aW cx Q st nm e M d fs (.bool b) want ops ⟨dst,.store ty x v,t,pos,af,gd⟩ r i=(((b==want)=true→bz cx true e M ⟨dst,.store ty x v,t,pos,af,gd⟩ ∧
  aE cx Q st nm (e.putD dst (dv cx true e M (nm+16*i) ⟨dst,.store ty x v,t,pos,af,gd⟩)) (M.app (eK cx true e M (nm+16*i) ⟨dst,.store ty x v,t,pos,af,gd⟩)) d (fs++[fj cx true e (nm+16*i) ⟨dst,.store ty x v,t,pos,af,gd⟩]) ops r (i+1))∧((b==want)=false→aE cx Q st nm (e.putD dst .any) M d (fs++[[]]) ops r (i+1))):=propext Iff.rfl
theorem tF (b want:Bool)(as:Array Operand)(ts:Array TypeId)(gd:Option (Nat×Bool)):aW cx Q st nm e M d fs (.bool b) want ops ⟨dst,.call ⟨.builtin .append,as,ts⟩,t,pos,af,gd⟩ r i=(((b==want)=true→bz cx true e M ⟨dst,.call ⟨.builtin .append,as,ts⟩,t,pos,af,gd⟩ ∧
  aE cx Q st nm (e.putD dst (dv cx true e M (nm+16*i) ⟨dst,.call ⟨.builtin .append,as,ts⟩,t,pos,af,gd⟩)) (M.app (eK cx true e M (nm+16*i) ⟨dst,.call ⟨.builtin .append,as,ts⟩,t,pos,af,gd⟩)) d (fs++[fj cx true e (nm+16*i) ⟨dst,.call ⟨.builtin .append,as,ts⟩,t,pos,af,gd⟩]) ops r (i+1))∧((b==want)=false→aE cx Q st nm (e.putD dst .any) M d (fs++[[]]) ops r (i+1))):=propext Iff.rfl
theorem wE (b want:Bool)(as:Array Operand)(ts:Array TypeId)(gd:Option (Nat×Bool)):aW cx Q st nm e M d fs (.bool b) want ops ⟨dst,.call ⟨.builtin .copy,as,ts⟩,t,pos,af,gd⟩ r i=(((b==want)=true→bz cx true e M ⟨dst,.call ⟨.builtin .copy,as,ts⟩,t,pos,af,gd⟩ ∧
  aE cx Q st nm (e.putD dst (dv cx true e M (nm+16*i) ⟨dst,.call ⟨.builtin .copy,as,ts⟩,t,pos,af,gd⟩)) (M.app (eK cx true e M (nm+16*i) ⟨dst,.call ⟨.builtin .copy,as,ts⟩,t,pos,af,gd⟩)) d (fs++[fj cx true e (nm+16*i) ⟨dst,.call ⟨.builtin .copy,as,ts⟩,t,pos,af,gd⟩]) ops r (i+1))∧((b==want)=false→aE cx Q st nm (e.putD dst .any) M d (fs++[[]]) ops r (i+1))):=propext Iff.rfl
theorem qS (ty:TypeId)(x y:Operand):aE cx Q st nm e M d fs ops (⟨dst,.makeSlice ty x y,t,pos,af,none⟩::r) i=bM cx Q st nm e M d fs ops ⟨dst,.makeSlice ty x y,t,pos,af,none⟩ r i:=propext Iff.rfl
theorem oz (b want:Bool)(ty:TypeId)(x y:Operand)(gd:Option (Nat×Bool)):aW cx Q st nm e M d fs (.bool b) want ops ⟨dst,.makeSlice ty x y,t,pos,af,gd⟩ r i=cS cx Q st nm e M d fs (b==want) ops ⟨dst,.makeSlice ty x y,t,pos,af,gd⟩ r i:=propext Iff.rfl
theorem rO (ty:TypeId)(x:Operand):aE cx Q st nm e M d fs ops (⟨dst,.makeChan ty x,t,pos,af,none⟩::r) i=bM cx Q st nm e M d fs ops ⟨dst,.makeChan ty x,t,pos,af,none⟩ r i:=propext Iff.rfl
theorem px (b want:Bool)(ty:TypeId)(x:Operand)(gd:Option (Nat×Bool)):aW cx Q st nm e M d fs (.bool b) want ops ⟨dst,.makeChan ty x,t,pos,af,gd⟩ r i=cS cx Q st nm e M d fs (b==want) ops ⟨dst,.makeChan ty x,t,pos,af,gd⟩ r i:=propext Iff.rfl
theorem uy (ty:TypeId)(x:Option Operand):aE cx Q st nm e M d fs ops (⟨dst,.makeMap ty x,t,pos,af,none⟩::r) i=bM cx Q st nm e M d fs ops ⟨dst,.makeMap ty x,t,pos,af,none⟩ r i:=propext Iff.rfl
theorem qR (b want:Bool)(ty:TypeId)(x:Option Operand)(gd:Option (Nat×Bool)):aW cx Q st nm e M d fs (.bool b) want ops ⟨dst,.makeMap ty x,t,pos,af,gd⟩ r i=cS cx Q st nm e M d fs (b==want) ops ⟨dst,.makeMap ty x,t,pos,af,gd⟩ r i:=propext Iff.rfl
theorem mP (ty:TypeId)(x:Operand):aE cx Q st nm e M d fs ops (⟨dst,.makeInterface ty x,t,pos,af,none⟩::r) i=bM cx Q st nm e M d fs ops ⟨dst,.makeInterface ty x,t,pos,af,none⟩ r i:=propext Iff.rfl
theorem lm (b want:Bool)(ty:TypeId)(x:Operand)(gd:Option (Nat×Bool)):aW cx Q st nm e M d fs (.bool b) want ops ⟨dst,.makeInterface ty x,t,pos,af,gd⟩ r i=cS cx Q st nm e M d fs (b==want) ops ⟨dst,.makeInterface ty x,t,pos,af,gd⟩ r i:=propext Iff.rfl
theorem qh (x:Operand)(ty ty2:TypeId)(ok:Bool):aE cx Q st nm e M d fs ops (⟨dst,.typeAssert x ty ty2 ok,t,pos,af,none⟩::r) i=bM cx Q st nm e M d fs ops ⟨dst,.typeAssert x ty ty2 ok,t,pos,af,none⟩ r i:=propext Iff.rfl
theorem nj (b want:Bool)(x:Operand)(ty ty2:TypeId)(ok:Bool)(gd:Option (Nat×Bool)):aW cx Q st nm e M d fs (.bool b) want ops ⟨dst,.typeAssert x ty ty2 ok,t,pos,af,gd⟩ r i=cS cx Q st nm e M d fs (b==want) ops ⟨dst,.typeAssert x ty ty2 ok,t,pos,af,gd⟩ r i:=propext Iff.rfl
theorem wl (ty:TypeId)(x y:Operand)(ok:Bool):aE cx Q st nm e M d fs ops (⟨dst,.lookup ty x y ok,t,pos,af,none⟩::r) i=bM cx Q st nm e M d fs ops ⟨dst,.lookup ty x y ok,t,pos,af,none⟩ r i:=propext Iff.rfl
theorem tT (b want:Bool)(ty:TypeId)(x y:Operand)(ok:Bool)(gd:Option (Nat×Bool)):aW cx Q st nm e M d fs (.bool b) want ops ⟨dst,.lookup ty x y ok,t,pos,af,gd⟩ r i=cS cx Q st nm e M d fs (b==want) ops ⟨dst,.lookup ty x y ok,t,pos,af,gd⟩ r i:=propext Iff.rfl
theorem qT (ty:TypeId)(x y z:Operand):aE cx Q st nm e M d fs ops (⟨dst,.mapUpdate ty x y z,t,pos,af,none⟩::r) i=bM cx Q st nm e M d fs ops ⟨dst,.mapUpdate ty x y z,t,pos,af,none⟩ r i:=propext Iff.rfl
theorem n8 (b want:Bool)(ty:TypeId)(x y z:Operand)(gd:Option (Nat×Bool)):aW cx Q st nm e M d fs (.bool b) want ops ⟨dst,.mapUpdate ty x y z,t,pos,af,gd⟩ r i=cS cx Q st nm e M d fs (b==want) ops ⟨dst,.mapUpdate ty x y z,t,pos,af,gd⟩ r i:=propext Iff.rfl
theorem sf (ty:TypeId)(x y:Operand):aE cx Q st nm e M d fs ops (⟨dst,.mapEntry ty x y,t,pos,af,none⟩::r) i=bM cx Q st nm e M d fs ops ⟨dst,.mapEntry ty x y,t,pos,af,none⟩ r i:=propext Iff.rfl
theorem pJ (b want:Bool)(ty:TypeId)(x y:Operand)(gd:Option (Nat×Bool)):aW cx Q st nm e M d fs (.bool b) want ops ⟨dst,.mapEntry ty x y,t,pos,af,gd⟩ r i=cS cx Q st nm e M d fs (b==want) ops ⟨dst,.mapEntry ty x y,t,pos,af,gd⟩ r i:=propext Iff.rfl
theorem qc (ty:TypeId)(x y z:Operand):aE cx Q st nm e M d fs ops (⟨dst,.entryStore ty x y z,t,pos,af,none⟩::r) i=bM cx Q st nm e M d fs ops ⟨dst,.entryStore ty x y z,t,pos,af,none⟩ r i:=propext Iff.rfl
theorem nG (b want:Bool)(ty:TypeId)(x y z:Operand)(gd:Option (Nat×Bool)):aW cx Q st nm e M d fs (.bool b) want ops ⟨dst,.entryStore ty x y z,t,pos,af,gd⟩ r i=cS cx Q st nm e M d fs (b==want) ops ⟨dst,.entryStore ty x y z,t,pos,af,gd⟩ r i:=propext Iff.rfl
theorem wH (ty:TypeId)(x y z:Operand):aE cx Q st nm e M d fs ops (⟨dst,.insert ty x y z,t,pos,af,none⟩::r) i=bM cx Q st nm e M d fs ops ⟨dst,.insert ty x y z,t,pos,af,none⟩ r i:=propext Iff.rfl
theorem ue (b want:Bool)(ty:TypeId)(x y z:Operand)(gd:Option (Nat×Bool)):aW cx Q st nm e M d fs (.bool b) want ops ⟨dst,.insert ty x y z,t,pos,af,gd⟩ r i=cS cx Q st nm e M d fs (b==want) ops ⟨dst,.insert ty x y z,t,pos,af,gd⟩ r i:=propext Iff.rfl
theorem zE (ty:TypeId)(x:Operand):aE cx Q st nm e M d fs ops (⟨dst,.range ty x,t,pos,af,none⟩::r) i=bM cx Q st nm e M d fs ops ⟨dst,.range ty x,t,pos,af,none⟩ r i:=propext Iff.rfl
theorem uo (b want:Bool)(ty:TypeId)(x:Operand)(gd:Option (Nat×Bool)):aW cx Q st nm e M d fs (.bool b) want ops ⟨dst,.range ty x,t,pos,af,gd⟩ r i=cS cx Q st nm e M d fs (b==want) ops ⟨dst,.range ty x,t,pos,af,gd⟩ r i:=propext Iff.rfl
theorem Aq (x:Operand)(s:Bool):aE cx Q st nm e M d fs ops (⟨dst,.next x s,t,pos,af,none⟩::r) i=bM cx Q st nm e M d fs ops ⟨dst,.next x s,t,pos,af,none⟩ r i:=propext Iff.rfl
theorem wF (b want:Bool)(x:Operand)(s:Bool)(gd:Option (Nat×Bool)):aW cx Q st nm e M d fs (.bool b) want ops ⟨dst,.next x s,t,pos,af,gd⟩ r i=cS cx Q st nm e M d fs (b==want) ops ⟨dst,.next x s,t,pos,af,gd⟩ r i:=propext Iff.rfl
theorem yY (x:Operand):aE cx Q st nm e M d fs ops (⟨dst,.entry x,t,pos,af,none⟩::r) i=bM cx Q st nm e M d fs ops ⟨dst,.entry x,t,pos,af,none⟩ r i:=propext Iff.rfl
theorem uj (b want:Bool)(x:Operand)(gd:Option (Nat×Bool)):aW cx Q st nm e M d fs (.bool b) want ops ⟨dst,.entry x,t,pos,af,gd⟩ r i=cS cx Q st nm e M d fs (b==want) ops ⟨dst,.entry x,t,pos,af,gd⟩ r i:=propext Iff.rfl
theorem zI (as:Array Operand)(ts:Array TypeId):aE cx Q st nm e M d fs ops (⟨dst,.call ⟨.builtin .close,as,ts⟩,t,pos,af,none⟩::r) i=bM cx Q st nm e M d fs ops ⟨dst,.call ⟨.builtin .close,as,ts⟩,t,pos,af,none⟩ r i:=propext Iff.rfl
theorem uC (b want:Bool)(as:Array Operand)(ts:Array TypeId)(gd:Option (Nat×Bool)):aW cx Q st nm e M d fs (.bool b) want ops ⟨dst,.call ⟨.builtin .close,as,ts⟩,t,pos,af,gd⟩ r i=cS cx Q st nm e M d fs (b==want) ops ⟨dst,.call ⟨.builtin .close,as,ts⟩,t,pos,af,gd⟩ r i:=propext Iff.rfl
theorem w7 (as:Array Operand)(ts:Array TypeId):aE cx Q st nm e M d fs ops (⟨dst,.call ⟨.builtin .delete,as,ts⟩,t,pos,af,none⟩::r) i=bM cx Q st nm e M d fs ops ⟨dst,.call ⟨.builtin .delete,as,ts⟩,t,pos,af,none⟩ r i:=propext Iff.rfl
theorem tQ (b want:Bool)(as:Array Operand)(ts:Array TypeId)(gd:Option (Nat×Bool)):aW cx Q st nm e M d fs (.bool b) want ops ⟨dst,.call ⟨.builtin .delete,as,ts⟩,t,pos,af,gd⟩ r i=cS cx Q st nm e M d fs (b==want) ops ⟨dst,.call ⟨.builtin .delete,as,ts⟩,t,pos,af,gd⟩ r i:=propext Iff.rfl
theorem zb (as:Array Operand)(ts:Array TypeId):aE cx Q st nm e M d fs ops (⟨dst,.call ⟨.builtin .clear,as,ts⟩,t,pos,af,none⟩::r) i=bM cx Q st nm e M d fs ops ⟨dst,.call ⟨.builtin .clear,as,ts⟩,t,pos,af,none⟩ r i:=propext Iff.rfl
theorem uQ (b want:Bool)(as:Array Operand)(ts:Array TypeId)(gd:Option (Nat×Bool)):aW cx Q st nm e M d fs (.bool b) want ops ⟨dst,.call ⟨.builtin .clear,as,ts⟩,t,pos,af,gd⟩ r i=cS cx Q st nm e M d fs (b==want) ops ⟨dst,.call ⟨.builtin .clear,as,ts⟩,t,pos,af,gd⟩ r i:=propext Iff.rfl
theorem nK (as:Array Operand)(ts:Array TypeId):aE cx Q st nm e M d fs ops (⟨dst,.call ⟨.builtin .unsafeString,as,ts⟩,t,pos,af,none⟩::r) i=bM cx Q st nm e M d fs ops ⟨dst,.call ⟨.builtin .unsafeString,as,ts⟩,t,pos,af,none⟩ r i:=propext Iff.rfl
theorem lN (b want:Bool)(as:Array Operand)(ts:Array TypeId)(gd:Option (Nat×Bool)):aW cx Q st nm e M d fs (.bool b) want ops ⟨dst,.call ⟨.builtin .unsafeString,as,ts⟩,t,pos,af,gd⟩ r i=cS cx Q st nm e M d fs (b==want) ops ⟨dst,.call ⟨.builtin .unsafeString,as,ts⟩,t,pos,af,gd⟩ r i:=propext Iff.rfl
theorem ll (as:Array Operand)(ts:Array TypeId):aE cx Q st nm e M d fs ops (⟨dst,.call ⟨.builtin .unsafeSliceData,as,ts⟩,t,pos,af,none⟩::r) i=bM cx Q st nm e M d fs ops ⟨dst,.call ⟨.builtin .unsafeSliceData,as,ts⟩,t,pos,af,none⟩ r i:=propext Iff.rfl
theorem j0 (b want:Bool)(as:Array Operand)(ts:Array TypeId)(gd:Option (Nat×Bool)):aW cx Q st nm e M d fs (.bool b) want ops ⟨dst,.call ⟨.builtin .unsafeSliceData,as,ts⟩,t,pos,af,gd⟩ r i=cS cx Q st nm e M d fs (b==want) ops ⟨dst,.call ⟨.builtin .unsafeSliceData,as,ts⟩,t,pos,af,gd⟩ r i:=propext Iff.rfl
theorem kP (as:Array Operand)(ts:Array TypeId):aE cx Q st nm e M d fs ops (⟨dst,.call ⟨.builtin .unsafeStringData,as,ts⟩,t,pos,af,none⟩::r) i=bM cx Q st nm e M d fs ops ⟨dst,.call ⟨.builtin .unsafeStringData,as,ts⟩,t,pos,af,none⟩ r i:=propext Iff.rfl
theorem jK (b want:Bool)(as:Array Operand)(ts:Array TypeId)(gd:Option (Nat×Bool)):aW cx Q st nm e M d fs (.bool b) want ops ⟨dst,.call ⟨.builtin .unsafeStringData,as,ts⟩,t,pos,af,gd⟩ r i=cS cx Q st nm e M d fs (b==want) ops ⟨dst,.call ⟨.builtin .unsafeStringData,as,ts⟩,t,pos,af,gd⟩ r i:=propext Iff.rfl
theorem oQ (as:Array Operand)(ts:Array TypeId):aE cx Q st nm e M d fs ops (⟨dst,.call ⟨.builtin .unsafeSlice,as,ts⟩,t,pos,af,none⟩::r) i=bM cx Q st nm e M d fs ops ⟨dst,.call ⟨.builtin .unsafeSlice,as,ts⟩,t,pos,af,none⟩ r i:=propext Iff.rfl
theorem mO (b want:Bool)(as:Array Operand)(ts:Array TypeId)(gd:Option (Nat×Bool)):aW cx Q st nm e M d fs (.bool b) want ops ⟨dst,.call ⟨.builtin .unsafeSlice,as,ts⟩,t,pos,af,gd⟩ r i=cS cx Q st nm e M d fs (b==want) ops ⟨dst,.call ⟨.builtin .unsafeSlice,as,ts⟩,t,pos,af,gd⟩ r i:=propext Iff.rfl
theorem BN (x y:Operand):aE cx Q st nm e M d fs ops (⟨dst,.send x y,t,pos,af,none⟩::r) i=zZ cx Q st nm e M d fs ops ⟨dst,.send x y,t,pos,af,none⟩ r i:=propext Iff.rfl
theorem AY (ty:TypeId)(x:Operand)(ok:Bool):aE cx Q st nm e M d fs ops (⟨dst,.recv ty x ok,t,pos,af,none⟩::r) i=zZ cx Q st nm e M d fs ops ⟨dst,.recv ty x ok,t,pos,af,none⟩ r i:=propext Iff.rfl
theorem wT (cs:Array SelectCase)(bl:Bool):aE cx Q st nm e M d fs ops (⟨dst,.select cs bl,t,pos,af,none⟩::r) i=zZ cx Q st nm e M d fs ops ⟨dst,.select cs bl,t,pos,af,none⟩ r i:=propext Iff.rfl
theorem uD (ts td:TypeId)(x:Operand):aE cx Q st nm e M d fs ops (⟨dst,.convert ts td x,t,pos,af,none⟩::r) i=if gV (cx.P.underlying ts) (cx.P.underlying td)=true then bM cx Q st nm e M d fs ops ⟨dst,.convert ts td x,t,pos,af,none⟩ r i else (bz cx true e M ⟨dst,.convert ts td x,t,pos,af,none⟩ ∧
  aE cx Q st nm (e.putD dst (dv cx true e M (nm+16*i) ⟨dst,.convert ts td x,t,pos,af,none⟩)) M d (fs++[fj cx true e (nm+16*i) ⟨dst,.convert ts td x,t,pos,af,none⟩]) ops r (i+1)):=by
 unfold aE bM
 simp only[b7,fy,ji,gG,Bool.false_eq_true,if_false]
 split<;>rfl
theorem qN (b want:Bool)(ts td:TypeId)(x:Operand)(gd:Option (Nat×Bool)):aW cx Q st nm e M d fs (.bool b) want ops ⟨dst,.convert ts td x,t,pos,af,gd⟩ r i=if gV (cx.P.underlying ts) (cx.P.underlying td)=true then cS cx Q st nm e M d fs (b==want) ops ⟨dst,.convert ts td x,t,pos,af,gd⟩ r i else (((b==want)=true→bz cx (b==want) e M ⟨dst,.convert ts td x,t,pos,af,gd⟩) ∧
  aE cx Q st nm (e.putD dst (.gd (b==want) (dv cx (b==want) e M (nm+16*i) ⟨dst,.convert ts td x,t,pos,af,gd⟩))) M d (fs++[fj cx (b==want) e (nm+16*i) ⟨dst,.convert ts td x,t,pos,af,gd⟩]) ops r (i+1)):=by
 unfold aW
 simp only[kX,fy,ji,mS,Bool.false_eq_true,if_false,if_true]
theorem yU (k:IntKind)(x:Option TypeDesc):gV (some (.int k)) x=false:=rfl
theorem tf (k:IntKind)(x:Option TypeDesc):gV x (some (.int k))=false:=by rcases x with _|x<;>first|rfl|(cases x<;>rfl)
theorem BV:gV (some .string) (some .string)=false:=rfl
theorem AW (e:TypeId):gV (some .string) (some (.slice e))=true:=rfl
theorem Au (e:TypeId):gV (some (.slice e)) (some .string)=true:=rfl
theorem z7 (e:TypeId):gV (some (.pointer e)) (some .unsafePointer)=true:=rfl
theorem BA (e:TypeId):gV (some .unsafePointer) (some (.pointer e))=true:=rfl
theorem yK (ty:TypeId)(x:Operand)(l h m:Option Operand):aE cx Q st nm e M d fs ops (⟨dst,.slice ty x l h m,t,pos,af,none⟩::r) i=if FA (cx.P.underlying ty)=true then bM cx Q st nm e M d fs ops ⟨dst,.slice ty x l h m,t,pos,af,none⟩ r i else (bz cx true e M ⟨dst,.slice ty x l h m,t,pos,af,none⟩ ∧
  aE cx Q st nm (e.putD dst (dv cx true e M (nm+16*i) ⟨dst,.slice ty x l h m,t,pos,af,none⟩)) M d (fs++[fj cx true e (nm+16*i) ⟨dst,.slice ty x l h m,t,pos,af,none⟩]) ops r (i+1)):=by
 unfold aE bM
 simp only[b7,fy,ji,gG,Bool.false_eq_true,if_false]
 split<;>rfl
theorem uw (b want:Bool)(ty:TypeId)(x:Operand)(l h m:Option Operand)(gd:Option (Nat×Bool)):aW cx Q st nm e M d fs (.bool b) want ops ⟨dst,.slice ty x l h m,t,pos,af,gd⟩ r i=if FA (cx.P.underlying ty)=true then cS cx Q st nm e M d fs (b==want) ops ⟨dst,.slice ty x l h m,t,pos,af,gd⟩ r i else (((b==want)=true→bz cx (b==want) e M ⟨dst,.slice ty x l h m,t,pos,af,gd⟩) ∧
  aE cx Q st nm (e.putD dst (.gd (b==want) (dv cx (b==want) e M (nm+16*i) ⟨dst,.slice ty x l h m,t,pos,af,gd⟩))) M d (fs++[fj cx (b==want) e (nm+16*i) ⟨dst,.slice ty x l h m,t,pos,af,gd⟩]) ops r (i+1)):=by
 unfold aW
 simp only[kX,fy,ji,mS,Bool.false_eq_true,if_false,if_true]
theorem F3:FA (some .string)=false:=rfl
theorem K9 (e:TypeId):FA (some (.slice e))=false:=rfl
theorem Gd (n:Nat)(e:TypeId):FA (some (.array n e))=true:=rfl
theorem wu (d:Bool)(fs:List (List Nat))(b want:Bool)(ops:List Oper)(dst:Option Tmp)(f:Operand)(as:Array Operand)(ts:Array TypeId)(t:TypeId)(pos:String)(af:Array Edge)(r:List Oper)(i:Nat)(gd:Option (Nat×Bool)) :
  aW cx Q st nm e M d fs (.bool b) want ops ⟨dst,.call ⟨.value f,as,ts⟩,t,pos,af,gd⟩ r i=dU cx Q st nm e M d fs (b==want) ops ⟨dst,.call ⟨.value f,as,ts⟩,t,pos,af,gd⟩ r i:=propext Iff.rfl
end
end Go.Proofs.YtidmkaalhmeflaaGreatDoor.Vm
namespace Go.Proofs.YtidmkaalhmeflaaGreatDoor.Vm
open And renaming intro→Ai
set_option linter.unusedSimpArgs false
set_option linter.unusedVariables false
open Go Go.RowKit
set_option linter.defProp false
def PY :=
 (Ai (Ai (Ai (Ai @F3 (Ai @K9 @Gd)) (Ai @BA (Ai @z7 @iP.eq_1))) (Ai (Ai @iP.eq_2 (Ai @iP.eq_3 @iP.eq_4)) (Ai @Blk.ty_typed (Ai @Blk.ty_plain @cA)))) (Ai (Ai (Ai @FC (Ai @Ba.eq_1 @Au)) (Ai @AW (Ai @BV @tf))) (Ai (Ai @yU (Ai @wT @AY)) (Ai @BN (Ai @mO @oQ)))))
def PZ :=
 (Ai (Ai (Ai (Ai @jK (Ai @kP @j0)) (Ai @ll (Ai @lN @nK))) (Ai (Ai @uQ (Ai @zb @tQ)) (Ai @w7 (Ai @uC @zI)))) (Ai (Ai (Ai @uj (Ai @yY @wF)) (Ai @Aq (Ai @uo @zE))) (Ai (Ai @ue (Ai @wH @nG)) (Ai @qc (Ai @pJ @sf)))))
def PP :=
 (Ai (Ai (Ai (Ai @n8 (Ai @qT @tT)) (Ai @wl (Ai @nj @qh))) (Ai (Ai @lm (Ai @mP @qR)) (Ai @uy (Ai @px @rO)))) (Ai (Ai (Ai @oz (Ai @qS @sa)) (Ai @wu (Ai @tF @uM))) (Ai (Ai @nu (Ai @xQ @uO)) (Ai @yk (Ai @xO @ya)))))
def PG :=
 (Ai (Ai (Ai (Ai @pR (Ai @re @uF)) (Ai @n0 (Ai @un @oA))) (Ai (Ai @uw (Ai @qN @v9)) (Ai @uq (Ai @xy @uR)))) (Ai (Ai (Ai @xp (Ai @pK @sE)) (Ai @wX (Ai @v5 @yB))) (Ai (Ai @pY (Ai @Fa @yd)) (Ai @Ew (Ai @EZ @EI)))))
def PL :=
 (Ai (Ai (Ai (Ai @se (Ai @ur @xY)) (Ai @qZ (Ai @yQ @qV))) (Ai (Ai @yK (Ai @uD @z6)) (Ai @zQ (Ai @As @ym)))) (Ai (Ai (Ai @BQ (Ai @tU @wk)) (Ai @zU (Ai @Jq @HD))) (Ai (Ai @K6 (Ai @L3 @L1)) (Ai @GI (Ai @J1 @JN)))))
def PO :=
 (Ai (Ai (Ai (Ai @Et (Ai @io @Ff)) (Ai @tx (Ai @uk @Gx))) (Ai (Ai @uG (Ai @ws @qI)) (Ai @so (Ai @DR @r7)))) (Ai (Ai (Ai @Be (Ai @yx @fy.eq_1)) (Ai @fy.eq_2 (Ai @fy.eq_3 @mS.eq_1))) (Ai (Ai @mS.eq_2 (Ai @mS.eq_3 @mS.eq_4)) (Ai @mS.eq_5 (Ai @mS.eq_6 @mS.eq_7)))))
def PS :=
 (Ai (Ai (Ai (Ai @mS.eq_8 (Ai @mS.eq_9 @mS.eq_10)) (Ai @mS.eq_11 (Ai @jg.eq_1 @Eo))) (Ai (Ai @EA (Ai @MW @uB)) (Ai @mT (Ai @Dq @Bk)))) (Ai (Ai (Ai @Di (Ai @E0 @Bn)) (Ai @Dk (Ai @Gt @AQ))) (Ai (Ai @Ia (Ai @C7 @Hm)) (Ai @Fg (Ai @FD @Fb)))))
def PI :=
 (Ai (Ai (Ai (Ai @ED (Ai @Gm @K8)) (Ai @Eu (Ai @Hl @ge_iff_le.{0}))) (Ai (Ai @gt_iff_lt.{0} (Ai @k8.eq_1 @k8.eq_2)) (Ai @wL.eq_1 (Ai @wL.eq_2 @ln.eq_1)))) (Ai (Ai (Ai @ln.eq_2 (Ai @vI.eq_1 @vI.eq_2)) (Ai @V.fin.eq_1 (Ai @V.fin.eq_2 @V.fin.eq_3))) (Ai (Ai @V.fin.eq_4 (Ai @V.fin.eq_5 @V.fin.eq_6)) (Ai @V.fin.eq_7 (Ai @V.fin.eq_8 @V.fin.eq_9)))))
def PJ :=
 (Ai (Ai (Ai (Ai @V.fin.eq_10 (Ai @V.fin.eq_11 @V.fin.eq_12)) (Ai @V.finOk.eq_1 (Ai @V.finOk.eq_2 @V.finOk.eq_3))) (Ai (Ai @V.finOk.eq_4 (Ai @V.finOk.eq_5 @V.finOk.eq_6)) (Ai @V.finOk.eq_7 (Ai @V.finOk.eq_8 @V.finOk.eq_9)))) (Ai (Ai (Ai @V.finOk.eq_10 (Ai @V.finOk.eq_11 @V.finOk.eq_12)) (Ai @finL.eq_1 (Ai @finL.eq_2 @finLOk.eq_1))) (Ai (Ai @finLOk.eq_2 (Ai @V.plain.eq_1 @V.plain.eq_2)) (Ai @V.plain.eq_3 (Ai @V.plain.eq_4 @V.plain.eq_5)))))
def PX :=
 (Ai (Ai (Ai (Ai @V.plain.eq_6 (Ai @V.plain.eq_7 @V.plain.eq_8)) (Ai @V.plain.eq_9 (Ai @V.plain.eq_10 @V.plain.eq_11))) (Ai (Ai @V.plain.eq_12 (Ai @V.plain.eq_13 @V.plain.eq_14)) (Ai @plainL.eq_1 (Ai @plainL.eq_2 @plainLL.eq_1)))) (Ai (Ai (Ai @plainLL.eq_2 (Ai @Fq @BH)) (Ai @zm (Ai @Gl @Ku))) (Ai (Ai @yE (Ai @KQ @Nz)) (Ai @bz.eq_1 (Ai @dv.eq_1 @CU.eq_1)))))
def Pf :=
 (Ai (Ai (Ai (Ai @CU.eq_2 (Ai @eK.eq_1 @fj.eq_1)) (Ai @bt.eq_1 (Ai @bt.eq_2 @bt.eq_3))) (Ai (Ai @bt.eq_4 (Ai @bt.eq_5 @List.flatMap_cons.{0,0})) (Ai @List.flatMap_nil.{0,0} (Ai @aA.eq_1 @aA.eq_2)))) (Ai (Ai (Ai @aA.eq_3 (Ai @aA.eq_4 @JO.eq_1)) (Ai @JO.eq_2 (Ai @lj.eq_1 @lj.eq_2))) (Ai (Ai @lj.eq_3 (Ai @lj.eq_4 @lj.eq_5)) (Ai @lj.eq_6 (Ai @jT.eq_1 @jT.eq_2)))))
def Ph :=
 (Ai (Ai (Ai (Ai @gN.eq_1 (Ai @bW.eq_1 @bW.eq_2)) (Ai @bW.eq_3 (Ai @bW.eq_4 @bW.eq_5))) (Ai (Ai @bW.eq_6 (Ai @bW.eq_7 @bW.eq_8)) (Ai @bW.eq_9 (Ai @bH.eq_1 @bH.eq_2)))) (Ai (Ai (Ai @bH.eq_3 (Ai @bH.eq_4 @bH.eq_5)) (Ai @bH.eq_6 (Ai @bH.eq_7 @rq.eq_def))) (Ai (Ai @cj.eq_1 (Ai @cj.eq_2 @cj.eq_3)) (Ai @cj.eq_4 (Ai @cj.eq_5 @cj.eq_6)))))
def Py :=
 (Ai (Ai (Ai (Ai @cj.eq_7 (Ai @cj.eq_8 @jM.eq_1)) (Ai @jM.eq_2 (Ai @vN.eq_1 @rS.eq_1))) (Ai (Ai @target.eq_1 (Ai @target.eq_2 @target.eq_3)) (Ai @rowOf.eq_1 (Ai @bp.eq_1 @dq.eq_1)))) (Ai (Ai (Ai @V.isPtr.eq_1 (Ai @V.isPtr.eq_2 @V.isPtr.eq_3)) (Ai @V.one.eq_1 (Ai @V.one.eq_2 @V.one.eq_3))) (Ai (Ai @V.one.eq_4 (Ai @V.one.eq_5 @V.one.eq_6)) (Ai @V.cellsV.eq_1 (Ai @V.cellsV.eq_2 @kI.eq_1)))))
def PA :=
 (Ai (Ai (Ai (Ai @kI.eq_2 (Ai @bw.eq_1 @iE.eq_1)) (Ai @iE.eq_2 (Ai @NK.eq_1 @fM.eq_1))) (Ai (Ai @fM.eq_2 (Ai @fM.eq_3 @lO.eq_1)) (Ai @qo.eq_1 (Ai @tl.eq_1 @tl.eq_2)))) (Ai (Ai (Ai @oU.eq_1 (Ai @oU.eq_2 @wo.eq_1)) (Ai @wo.eq_2 (Ai @wo.eq_3 @wo.eq_4))) (Ai (Ai @wo.eq_5 (Ai @ot.eq_1 @ot.eq_2)) (Ai @bP.eq_1 (Ai @bP.eq_2 @bP.eq_3)))))
def O5 :=
 (Ai (Ai (Ai (Ai @bP.eq_4 (Ai @bP.eq_5 @bP.eq_6)) (Ai @dh.eq_def (Ai @nD.eq_1 @nD.eq_2))) (Ai (Ai @nD.eq_3 (Ai @om.eq_1 @om.eq_2)) (Ai @om.eq_3 (Ai @gD.eq_1 @gD.eq_2)))) (Ai (Ai (Ai @gD.eq_3 (Ai @gD.eq_4 @gD.eq_5)) (Ai @gD.eq_6 (Ai @gD.eq_7 @gD.eq_8))) (Ai (Ai @rA.eq_1 (Ai @iL.eq_1 @iL.eq_2)) (Ai @dC.eq_1 (Ai @dC.eq_2 @dC.eq_3)))))
def O7 :=
 (Ai (Ai (Ai (Ai @dC.eq_4 (Ai @dC.eq_5 @dC.eq_6)) (Ai @dC.eq_7 (Ai @dC.eq_8 @dC.eq_9))) (Ai (Ai @dC.eq_10 (Ai @dC.eq_11 @dC.eq_12)) (Ai @dC.eq_13 (Ai @dC.eq_14 @dC.eq_15)))) (Ai (Ai (Ai @dC.eq_16 (Ai @dC.eq_17 @iq.eq_1)) (Ai @iq.eq_2 (Ai @iq.eq_3 @iq.eq_4))) (Ai (Ai @iq.eq_5 (Ai @jL.eq_1 @jL.eq_2)) (Ai @jL.eq_3 (Ai @jL.eq_4 @jL.eq_5)))))
def Pb :=
 (Ai (Ai (Ai (Ai @jL.eq_6 (Ai @jL.eq_7 @jL.eq_8)) (Ai @eW.eq_1 (Ai @eW.eq_2 @eW.eq_3))) (Ai (Ai @eW.eq_4 (Ai @eW.eq_5 @eW.eq_6)) (Ai @eW.eq_7 (Ai @eW.eq_8 @zW.eq_1)))) (Ai (Ai (Ai @zW.eq_2 (Ai @zW.eq_3 @zW.eq_4)) (Ai @LF.eq_1 (Ai @LF.eq_2 @ye.eq_1))) (Ai (Ai @ye.eq_2 (Ai @jl.eq_1 @jl.eq_2)) (Ai @jl.eq_3 (Ai @jl.eq_4 @jl.eq_5)))))
def Ps :=
 (Ai (Ai (Ai (Ai @jl.eq_6 (Ai @jl.eq_7 @jl.eq_8)) (Ai @jl.eq_9 (Ai @jl.eq_10 @jl.eq_11))) (Ai (Ai @jl.eq_12 (Ai @jl.eq_13 @jl.eq_14)) (Ai @jl.eq_15 (Ai @gk.eq_1 @gk.eq_2)))) (Ai (Ai (Ai @gk.eq_3 (Ai @gk.eq_4 @gk.eq_5)) (Ai @gk.eq_6 (Ai @gk.eq_7 @gk.eq_8))) (Ai (Ai @gk.eq_9 (Ai @gk.eq_10 @gk.eq_11)) (Ai @gk.eq_12 (Ai @gk.eq_13 @gk.eq_14)))))
def Pt :=
 (Ai (Ai (Ai (Ai @gk.eq_15 (Ai @LU.eq_1 @LU.eq_2)) (Ai @LU.eq_3 (Ai @LU.eq_4 @LU.eq_5))) (Ai (Ai @zi.eq_1 (Ai @zi.eq_2 @zi.eq_3)) (Ai @zi.eq_4 (Ai @zi.eq_5 @kj.eq_def)))) (Ai (Ai (Ai @mn.eq_def (Ai @jC.eq_1 @jC.eq_2)) (Ai @ib.eq_1 (Ai @ib.eq_2 @lJ.eq_1))) (Ai (Ai @lJ.eq_2 (Ai @jV.eq_1 @jV.eq_2)) (Ai @kJ.eq_1 (Ai @kJ.eq_2 @ki.eq_1)))))
def Pv :=
 (Ai (Ai (Ai (Ai @ki.eq_2 (Ai @rP.eq_1 @ry.eq_1)) (Ai @k9.eq_1 (Ai @k9.eq_2 @mu.eq_1))) (Ai (Ai @mu.eq_2 (Ai @ia.eq_1 @iJ.eq_1)) (Ai @aO.eq_1 (Ai @aO.eq_2 @aO.eq_3)))) (Ai (Ai (Ai @aO.eq_4 (Ai @aO.eq_5 @eg.eq_1)) (Ai @eg.eq_2 (Ai @eg.eq_3 @eg.eq_4))) (Ai (Ai @eg.eq_5 (Ai @eg.eq_6 @mX.eq_1)) (Ai @mX.eq_2 (Ai @mX.eq_3 @dV.eq_1)))))
def O4 :=
 (Ai (Ai (Ai (Ai @eL.eq_1 (Ai @fc.eq_1 @List.toList_toArray.{0})) (Ai @Int.toNat_natCast (Ai @Int.natCast_nonneg @Int.toNat_zero))) (Ai (Ai @Int.toNat_one (Ai @Nat.le_refl @Int.le_refl)) (Ai @Nat.zero_le (Ai @Nat.zero_mul @Nat.one_mul)))) (Ai (Ai (Ai @Nat.mul_one (Ai @Nat.add_zero @Nat.zero_add)) (Ai @Nat.mul_zero (Ai @Nat.add_left_cancel_iff @if_true.{1}))) (Ai (Ai @if_true.{0} (Ai @if_false.{1} @if_false.{0})) (Ai @ite_true.{1} (Ai @ite_true.{0} @ite_false.{1})))))
def Pn :=
 (Ai (Ai (Ai (Ai @ite_false.{0} (Ai @Bool.false_eq_true @Bool.true_eq_false)) (Ai @Bool.not_true (Ai @Bool.not_false @decide_true))) (Ai (Ai @decide_false (Ai @true_implies @false_implies)) (Ai @implies_true.{1} (Ai @implies_true.{0} @and_true)))) (Ai (Ai (Ai @true_and (Ai @and_false @false_and)) (Ai @and_self (Ai @List.getElem?_cons_zero.{0} @List.getElem?_cons_succ.{0}))) (Ai (Ai @List.getElem?_nil.{0} (Ai @List.map_cons.{0,0} @List.map_nil.{0,0})) (Ai @List.length_cons.{0} (Ai @List.length_nil.{0} @List.cons_append.{0})))))
def Px :=
 (Ai (Ai (Ai (Ai @List.nil_append.{0} (Ai @List.append_nil.{0} @Option.getD_some.{0})) (Ai @Option.getD_none.{0} (Ai @Option.isSome_some.{0} @Option.isSome_none.{0}))) (Ai (Ai @Option.map_some.{0,0} (Ai @Option.map_none.{0,0} @List.drop_zero.{0})) (Ai @List.drop_succ_cons.{0} (Ai @List.take_zero.{0} @List.take_succ_cons.{0})))) (Ai (Ai (Ai @List.set_cons_zero.{0} (Ai @List.set_cons_succ.{0} @List.all_cons.{0})) (Ai @List.all_nil.{0} (Ai @Bool.and_true @Bool.true_and))) (Ai (Ai @List.headD_cons.{0} (Ai @lc.eq_1 @lc.eq_2)) (Ai @lc.eq_3 (Ai @Nat.left_eq_add @Nat.add_eq_left)))))
def PC :=
 (Ai (Ai (Ai (Ai @List.replicate_zero.{0} (Ai @List.replicate_succ.{0} @Nat.add_right_cancel_iff)) (Ai @DT (Ai @List.isEmpty_cons.{0} @List.isEmpty_nil.{0}))) (Ai (Ai @JZ (Ai @yM @dA)) (Ai @NE (Ai @pU @JF)))) (Ai (Ai (Ai @NN (Ai @ng @FO)) (Ai @Lg (Ai @Mm @Nm))) (Ai (Ai @OA (Ai @N9 @Ma)) (Ai @N3 (Ai @OU @Mg)))))
def Pd :=
 (Ai (Ai (Ai (Ai @kC (Ai @jc @dJ)) (Ai @ga (Ai @c7 @List.take_length.{0}))) (Ai (Ai @or_true (Ai @true_or @or_false)) (Ai @false_or (Ai @or_self @forall_const.{1})))) (Ai (Ai (Ai @forall_const.{0} (Ai @List.isEmpty_iff.{0} @List.map_eq_nil_iff.{0,0})) (Ai @ne_eq.{1} (Ai @ne_eq.{0} @Option.some.injEq.{0}))) (Ai (Ai @not_false_eq_true (Ai @ak.eq_1 @Int.ofNat_lt)) (Ai @Int.ofNat_le (Ai @Nat.lt_irrefl @beq_self_eq_true.{0})))))
def Pc :=
 (Ai (Ai (Ai (Ai @bne_self_eq_false.{0} (Ai @Int.natCast_zero @Int.cast_ofNat_Int)) (Ai @DE (Ai @z8 @yT))) (Ai (Ai @wE (Ai @GY @A3)) (Ai @BB (Ai @yq @KC)))) (Ai (Ai (Ai @wg.eq_1 (Ai @wg.eq_2 @wg.eq_3)) (Ai @qp.eq_1 (Ai @qp.eq_2 @qp.eq_3))) (Ai (Ai @qp.eq_4 (Ai @lv.eq_1 @gT.eq_1)) (Ai @gT.eq_2 (Ai @gT.eq_3 @gT.eq_4)))))
def Pp :=
 (Ai (Ai (Ai (Ai @lf.eq_1 (Ai @lf.eq_2 @lf.eq_3)) (Ai @oL.eq_1 (Ai @ig.eq_1 @Ly.eq_1))) (Ai (Ai @Ly.eq_2 (Ai @Ly.eq_3 @gi.eq_1)) (Ai @oc (Ai @KU.eq_1 @mr.eq_def)))) (Ai (Ai (Ai @mb.eq_1 (Ai @intKind.eq_1 @pN.eq_1)) (Ai @Nat.sub_zero (Ai @yi @xx))) (Ai (Ai @uK (Ai @xA @Mz)) (Ai @Cn (Ai @Gq @DM)))))
def Pq :=
 (Ai (Ai (Ai (Ai @yV (Ai @OB @NA)) (Ai @HB (Ai @Fm @M4))) (Ai (Ai @GT (Ai @EQ @FJ)) (Ai @F6 (Ai @IG @Fu)))) (Ai (Ai (Ai @H2 (Ai @Gg @Jp)) (Ai @Dj (Ai @KO @IA))) (Ai (Ai @EM (Ai @C2 @Lb)) (Ai @Jl (Ai @IR @IC)))))
def Pg :=
 (Ai (Ai @G3 (Ai @I3 @Bz)) (Ai (Ai @Gz @isConst.eq_1) (Ai @isConst.eq_2 @qa.eq_1)))
def ai:=(Ai (Ai (Ai (Ai PY (Ai PZ PP)) (Ai (Ai PG PL) (Ai PO PS))) (Ai (Ai PI (Ai PJ PX)) (Ai (Ai Pf Ph) (Ai Py PA)))) (Ai (Ai (Ai O5 (Ai O7 Pb)) (Ai (Ai Ps Pt) (Ai Pv O4))) (Ai (Ai (Ai Pn Px) (Ai PC Pd)) (Ai (Ai Pc Pp) (Ai Pq Pg)))))
end Go.Proofs.YtidmkaalhmeflaaGreatDoor.Vm
