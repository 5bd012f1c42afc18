/-
 Texts joined: XVs,XVt,XVv,XVz,XVu,XVU.
-/
import Derived.IntWalk
import Derived.Test.YtcllbjanalhjgaaGreatDoorQb
namespace Go.Proofs.YtcllbjanalhjgaaGreatDoor.Vm
set_option linter.unusedSimpArgs false
set_option linter.unusedVariables false
open Go Go.RowKit
def nv (cx:Cx)(N:Nat)(rs:List ResultVar)(nm:Nat)(M0:ao)(v:V)(eff:List (Nat×Option Blk))(b0 n:Nat)(e:Env)(M:ao):Prop:=∃ gs,J8 cx N rs nm M0 v eff b0 e (M.ghosts n gs)
def kE (cx:Cx)(fn:Func)(nm:Nat)(M:ao)(v:V)(eff:List (Nat×Option Blk))(b0:Nat):Ex→Nat→Env→ao→Prop
 | .exit _,_,_,_=>False
 | .panic _,_,_,_=>False
 | _,n,e,M'=>nv cx fn.ntmps fn.results.toList nm M v eff b0 n e M'
theorem Fq {cx:Cx}(hD:cx.D=[]){f:FuncId}{nm:Nat}{args:List V}{M:ao}{v:V}{eff:List (Nat×Option Blk)}{fn:Func}{c:Code}
  (hcall:∀ cargs w,(callFunc f cargs).run cx.P w = .ok (.enter f cargs) w) (hf:cx.P.funcs[f]? = some fn) (hb:fn.body=some c) (hm:cx.P.follows .mixedOrders=true) (hin:cR fn.ntmps c=true) (hargs:args.length≤fn.ntmps)
  (hvc:∀ b0,(∀ x,b0≤x→M x=none)→vc cx b0 c (kE cx fn nm M v eff b0) b0 (eA args) M):Ev cx f nm args M v eff:=by
 refine⟨trivial,?_⟩
 intro X w ρ cargs B hrel hfr hB hlen his
 have hstart:Lies cx fn.ntmps X w (bI ρ M) ρ B B (eA args) M ρ { tmps:=cargs++Array.replicate (fn.ntmps-cargs.size) undef,defers:=[] } w:=by
  refine⟨hrel,⟨by simp;omega,hD.symm,fun t ht=>?_⟩,hB,fun _ _ h=>h,Nat.le_refl _,fun _ _=>rfl,fun x hx=>(hB x hx).2⟩
  simp only[eA,Array.getD_eq_getD_getElem?]
  by_cases hlt:t<args.length
  ·rw[Array.getElem?_append_left (by omega),List.getElem?_eq_getElem hlt,Array.getElem?_eq_getElem (show t<cargs.size by omega)]
   exact his t _ _ (List.getElem?_eq_getElem hlt) (Array.getElem?_eq_getElem (by omega))
  ·rw[List.getElem?_eq_none (by omega)]
   exact .any _
 refine .inl ⟨hcall _ _,?_⟩
 refine jZ hf hb (iu.mono (cV hm c _ B (eA args) M ρ _ w hin hstart (hvc B (fun x hx=>(hB x hx).1))) ?_)
 rintro x a w' ⟨n,e,M',ρ',h',hq⟩
 have done:nv cx fn.ntmps fn.results.toList nm M v eff B n e M'→a.defers=[] ∧ ∃ cv,(results fn a.tmps).run cx.P w' = .ok cv w' ∧ ∃ cv',Ending.returned cv = .returned cv'∧dM cx.G X w (bI ρ M) ρ M w nm v (M.app eff) cv' w':=fun ⟨gs,hfin⟩=>by
  have h':=h'.ghosts gs
  obtain⟨cv,h1,h2⟩:=po h'.rel h'.env fn hfin.1
  exact⟨h'.env.defers.trans hD,cv,h1,cv,rfl,oK hrel hfr hB h' hfin h2⟩
 cases x<;>simp only[kE]at hq<;>try (exact hq.elim)
 case normal=>exact done hq
 case ret=>exact done hq
 case panic ch=>obtain⟨_,_,_,_,hf⟩:=hq;exact hf.elim
theorem Jg {cx:Cx}{N:Nat}{X:Nat→Prop}{w:World}{ρ:Names}{M:ao}{B nm n:Nat}{e:Env}{M':ao}{ρ':Names}{a:Act}{w':World}{v:V}{cv:Value}(hrel:Rel cx.G X w (bI ρ M) ρ M w)(h':Lies cx N X w (bI ρ M) ρ B n e M' ρ' a w')(hG:∀ g,(cx.G g).plain=true)(hpl:v.plain=true)(hv:Is ρ' (bF X ρ' M') w' v cv):dM cx.G X w (bI ρ M) ρ M w nm v ao.nil cv w':=by
 have hd:∀ b,bF X ρ ao.nil b→bF X ρ' M' b:=fun b hb=>by
  rcases hb with hb|⟨x,l,h,_⟩
  ·exact .inl hb
  ·cases h
 refine⟨ρ,⟨h'.rel.size,h'.rel.os,h'.rel.tape,h'.rel.output,h'.rel.old,fun x k h=>(by cases h),fun x y l l' h=>(by cases h),h'.rel.hX,fun g=>(h'.rel.glob g).plain (Nat.le_refl _) (fun _ _ _=>rfl) (fun b _ hb=>hd b hb) (hG g)⟩,⟨fun _ _ h=>h,h'.rel.size,h'.rel.os,h'.rel.tape,h'.rel.output,fun b hb hk=>h'.rel.old b hb ?_,fun x l h=>(by cases h)⟩,hv.plain (Nat.le_refl _) (fun _ _ _=>rfl) (fun b _ hb=>hd b hb) hpl,fun _ _=>rfl⟩
 rintro ⟨x,l,h1,h2,h3⟩
 exact hk x l h1 h2 h3
def EU (v:V):Ex→Nat→Env→ao→Prop
 | .panic u,_,_,_=>u=v
 | _,_,_,_=>False
theorem CN {cx:Cx}(hD:cx.D=[]){f:FuncId}{nm:Nat}{args:List V}{M:ao}{v:V}{fn:Func}{c:Code}
  (hcall:∀ cargs w,(callFunc f cargs).run cx.P w = .ok (.enter f cargs) w) (hf:cx.P.funcs[f]? = some fn) (hb:fn.body=some c) (hm:cx.P.follows .mixedOrders=true) (hin:cR fn.ntmps c=true) (hargs:args.length≤fn.ntmps) (hG:∀ g,(cx.G g).plain=true) (hpl:v.plain=true)
  (hvc:∀ b0,(∀ x,b0≤x→M x=none)→vc cx b0 c (EU v) b0 (eA args) M):wB cx f nm args M v:=by
 refine⟨trivial,?_⟩
 intro X w ρ cargs B hrel hfr hB hlen his
 have hstart:Lies cx fn.ntmps X w (bI ρ M) ρ B B (eA args) M ρ { tmps:=cargs++Array.replicate (fn.ntmps-cargs.size) undef,defers:=[] } w:=by
  refine⟨hrel,⟨by simp;omega,hD.symm,fun t ht=>?_⟩,hB,fun _ _ h=>h,Nat.le_refl _,fun _ _=>rfl,fun x hx=>(hB x hx).2⟩
  simp only[eA,Array.getD_eq_getD_getElem?]
  by_cases hlt:t<args.length
  ·rw[Array.getElem?_append_left (by omega),List.getElem?_eq_getElem hlt,Array.getElem?_eq_getElem (show t<cargs.size by omega)]
   exact his t _ _ (List.getElem?_eq_getElem hlt) (Array.getElem?_eq_getElem (by omega))
  ·rw[List.getElem?_eq_none (by omega)]
   exact .any _
 refine .inl ⟨hcall _ _,?_⟩
 refine jZ hf hb (iu.mono (cV hm c _ B (eA args) M ρ _ w hin hstart (hvc B (fun x hx=>(hB x hx).1))) ?_)
 rintro x a w' ⟨n,e,M',ρ',h',hq⟩
 cases x<;>simp only[EU]at hq<;>try (exact hq.elim)
 case panic ch =>
  obtain⟨u,cv,rfl,hv,rfl⟩:=hq
  refine⟨h'.env.defers.trans hD,cv,rfl,?_⟩
  exact Jg hrel h' hG hpl hv
theorem Fin.pure {cx:Cx}{N:Nat}{rs:List ResultVar}{nm:Nat}{v:V}{b0 n:Nat}{e:Env}{M:ao}(h1:kL cx.P N rs e M)(h2:(kR cx.P rs e M).finOk [] M)(h3:((kR cx.P rs e M).fin [] M).le v):nv cx N rs nm ao.nil v [] b0 n e M :=
 ⟨[],Fin.two ⟨h1,[],h2,h3,rfl,List.nodup_nil,List.nodup_nil,(fun p hp=>by cases hp),(fun x hx=>by simp[ao.nil]at hx)⟩⟩
structure Post where
 b0:Nat
 q:Ex→Nat→Env→ao→Prop
inductive Frm where
 | code (c:Code)
 | blk (id:Nat)
 | again (J:Nat→Nat→Env→ao→Prop) (g:Nat)
 | cut (J:Nat→Env→ao→Prop)
def iZ (cx:Cx)(Q:Post):List Frm→Ex→Nat→Env→ao→Prop
 | []=>Q.q
 | .code c::st=>fun x n e M=>match x with | .normal=>vc cx Q.b0 c (iZ cx Q st) n e M | .exit id=>iZ cx Q st (.exit id) n e M | .ret=>iZ cx Q st .ret n e M | .panic v=>iZ cx Q st (.panic v) n e M
 | .blk id::st=>fun x n e M=>match x with | .normal=>iZ cx Q st .normal n e M | .exit id'=>if id'=id then iZ cx Q st .normal n e M else iZ cx Q st (.exit id') n e M | .ret=>iZ cx Q st .ret n e M | .panic v=>iZ cx Q st (.panic v) n e M
 | .again J g::st=>fun x n e M=>match x with | .normal=>∃ g',g'<g ∧ ∃ nm' e' M',mH cx Q.b0 n e M nm' e' M'∧J g' nm' e' M' | .exit id=>iZ cx Q st (.exit id) n e M | .ret=>iZ cx Q st .ret n e M | .panic v=>iZ cx Q st (.panic v) n e M
 | .cut J::st=>fun x n e M=>match x with | .normal=>J n e M | .exit id=>iZ cx Q st (.exit id) n e M | .ret=>iZ cx Q st .ret n e M | .panic v=>iZ cx Q st (.panic v) n e M
section
variable (cx:Cx) (Q:Post) (st:List Frm) (nm:Nat) (e:Env) (M:ao)
def go (c:Code):Prop:=vc cx Q.b0 c (iZ cx Q st) nm e M
def dB (x:Ex):Prop:=iZ cx Q st x nm e M
def aC (d:Bool)(fs:List (List Nat))(ops r:List Oper)(i:Nat):Prop:=bX cx ops d (fun n e M v=>d=false∧iZ cx Q st (.panic v) n e M) r nm i e M fs (fun n e M fs=>(d=true→jk cx.P ops fs)∧iZ cx Q st .normal n e M)
def Bw (fs:List (List Nat))(ops:List Oper):Prop:=jk cx.P ops fs∧iZ cx Q st .normal nm e M
def fM (d:Bool)(fs:List (List Nat))(ops:List Oper)(o:Oper)(r:List Oper)(i:Nat):Prop:=aC cx Q st nm e M d fs ops (o::r) i
def bJ (d:Bool)(fs:List (List Nat))(ops:List Oper)(o:Oper)(r:List Oper)(i:Nat):Prop:=∃ v eff ft,ExtDoes cx o (nm+16*i) e M v eff ft∧aC cx Q st nm (e.putD o.dst v) (M.app eff) d (fs++[ft]) ops r (i+1)
def cL (d:Bool)(fs:List (List Nat))(c:Bool)(ops:List Oper)(o:Oper)(r:List Oper)(i:Nat):Prop:=(∃ v ft,(ft≠[]→fK o.op=false)∧(c=true→ExtDoes cx o (nm+16*i) e M v [] ft)∧aC cx Q st nm (e.putD o.dst (.gd c v)) M d (fs++[ft]) ops r (i+1)) ∨
 ((c=true→bJ cx Q st nm e M d fs ops o r i)∧(c=false→aC cx Q st nm (e.putD o.dst .any) M d (fs++[[]]) ops r (i+1)))
def zT (d:Bool)(fs:List (List Nat))(ops:List Oper)(o:Oper)(r:List Oper)(i:Nat):Prop:=∃ v eff,CommDoes cx o (nm+16*i) e M v eff∧aC cx Q st nm (e.putD o.dst v) (M.app eff) d (fs++[al eff]) ops r (i+1)
def aT (d:Bool)(fs:List (List Nat))(gv:V)(want:Bool)(ops:List Oper)(o:Oper)(r:List Oper)(i:Nat):Prop:=match iC gv want with
 | some c=>if e9 o.op=true then gE cx c e M (nm+16*i) o (fun v l=>aC cx Q st nm (e.putD o.dst (.gd c v)) M d (fs++[l]) ops r (i+1))∨(c=true∧fc cx true e M (nm+16*i) o (fun v eff l=>aC cx Q st nm (e.putD o.dst v) (M.app eff) d (fs++[l++al eff]) ops r (i+1)))
  else if iD cx.P o.op=true then cL cx Q st nm e M d fs c ops o r i
  else if mq o.op=true then (c=true→bv cx c e M o)∧aC cx Q st nm (e.putD o.dst (.gd c (dh cx c e M (nm+16*i) o))) M d (fs++[eY cx c e (nm+16*i) o]) ops r (i+1)
  else (c=true→bv cx true e M o∧aC cx Q st nm (e.putD o.dst (dh cx true e M (nm+16*i) o)) (M.app (eu cx true e M (nm+16*i) o)) d (fs++[eY cx true e (nm+16*i) o]) ops r (i+1))∧(c=false→aC cx Q st nm (e.putD o.dst .any) M d (fs++[[]]) ops r (i+1))
 | none=>False
def dK (d:Bool)(fs:List (List Nat))(c:Bool)(ops:List Oper)(o:Oper)(r:List Oper)(i:Nat):Prop:=gE cx c e M (nm+16*i) o (fun v l=>aC cx Q st nm (e.putD o.dst (.gd c v)) M d (fs++[l]) ops r (i+1))∨(c=true∧fc cx true e M (nm+16*i) o (fun v eff l=>aC cx Q st nm (e.putD o.dst v) (M.app eff) d (fs++[l++al eff]) ops r (i+1)))
def oT (c:Code):Prop:=vc cx Q.b0 (.loop c) (iZ cx Q st) nm e M
def mW (v:V)(a b:Code):Prop:=match v with
 | .bool t=>(t=true→go cx Q st nm e M a)∧(t=false→go cx Q st nm e M b)
 | .bit t f=>(t=true→go cx Q st nm e M a)∧(f=true→go cx Q st nm e M b)
 | _=>False
theorem IB:go cx Q st nm e M .skip=dB cx Q st nm e M .normal:=propext Iff.rfl
theorem FM (l:Nat):go cx Q st nm e M (.label l)=dB cx Q st nm e M .normal:=propext Iff.rfl
theorem Iz (id:Nat):go cx Q st nm e M (.exit id)=dB cx Q st nm e M (.exit id):=propext Iff.rfl
theorem Le:go cx Q st nm e M .ret=dB cx Q st nm e M .ret:=propext Iff.rfl
theorem Lf (a b:Code):go cx Q st nm e M (.seq a b)=go cx Q (.code b::st) nm e M a:=propext Iff.rfl
theorem FN (c:Code):go cx Q st nm e M (.scope c)=go cx Q st nm e M c:=propext Iff.rfl
theorem FK (id:Nat)(c:Code):go cx Q st nm e M (.block id c)=go cx Q (.blk id::st) nm e M c:=propext Iff.rfl
theorem Iy (c:Operand)(a b:Code):go cx Q st nm e M (.cond c a b)=mW cx Q st nm e M (aA cx.G true e c) a b:=propext Iff.rfl
theorem IA (c:Code):go cx Q st nm e M (.loop c)=oT cx Q st nm e M c:=propext Iff.rfl
theorem Dk (id:Nat)(ops:Array Oper)(d:Bool):go cx Q st nm e M (.region id ops d)=aC cx Q st nm e M d [] ops.toList ops.toList 0:=propext Iff.rfl
theorem xy (a b:Code):mW cx Q st nm e M (.bool true) a b=go cx Q st nm e M a:=by simp only[mW,true_implies,Bool.true_eq_false,false_implies,and_true]
theorem vz (a b:Code):mW cx Q st nm e M (.bool false) a b=go cx Q st nm e M b:=by simp only[mW,true_implies,Bool.false_eq_true,false_implies,true_and]
theorem gN (x:Ex):dB cx Q [] nm e M x=Q.q x nm e M:=propext Iff.rfl
theorem Dd (c:Code):dB cx Q (.code c::st) nm e M .normal=go cx Q st nm e M c:=propext Iff.rfl
theorem rN (c:Code)(id:Nat):dB cx Q (.code c::st) nm e M (.exit id)=dB cx Q st nm e M (.exit id):=propext Iff.rfl
theorem tn (c:Code):dB cx Q (.code c::st) nm e M .ret=dB cx Q st nm e M .ret:=propext Iff.rfl
theorem FI (id:Nat):dB cx Q (.blk id::st) nm e M .normal=dB cx Q st nm e M .normal:=propext Iff.rfl
theorem tm (id id':Nat):dB cx Q (.blk id::st) nm e M (.exit id')=if id'=id then dB cx Q st nm e M .normal else dB cx Q st nm e M (.exit id'):=propext Iff.rfl
theorem vA (id:Nat):dB cx Q (.blk id::st) nm e M .ret=dB cx Q st nm e M .ret:=propext Iff.rfl
theorem qa (J:Nat→Nat→Env→ao→Prop)(g:Nat)(id:Nat):dB cx Q (.again J g::st) nm e M (.exit id)=dB cx Q st nm e M (.exit id):=propext Iff.rfl
theorem rM (J:Nat→Nat→Env→ao→Prop)(g:Nat):dB cx Q (.again J g::st) nm e M .ret=dB cx Q st nm e M .ret:=propext Iff.rfl
theorem tp (J:Nat→Env→ao→Prop)(id:Nat):dB cx Q (.cut J::st) nm e M (.exit id)=dB cx Q st nm e M (.exit id):=propext Iff.rfl
theorem vB (J:Nat→Env→ao→Prop):dB cx Q (.cut J::st) nm e M .ret=dB cx Q st nm e M .ret:=propext Iff.rfl
theorem az (c:Code)(v:V):dB cx Q (.code c::st) nm e M (.panic v)=dB cx Q st nm e M (.panic v):=propext Iff.rfl
theorem aB (id:Nat)(v:V):dB cx Q (.blk id::st) nm e M (.panic v)=dB cx Q st nm e M (.panic v):=propext Iff.rfl
theorem ax (J:Nat→Nat→Env→ao→Prop)(g:Nat)(v:V):dB cx Q (.again J g::st) nm e M (.panic v)=dB cx Q st nm e M (.panic v):=propext Iff.rfl
def Bx (d:Bool)(i:Nat)(v:V):Prop:=match v with
 | .iface t u=>d=false∧dB cx Q st (nm+16*(i+1)) e M (.panic (.iface t u))
 | _=>False
theorem aF (i:Nat)(t:TypeId)(u:V):Bx cx Q st nm e M false i (.iface t u)=dB cx Q st (nm+16*(i+1)) e M (.panic (.iface t u)):=by simp only[Bx,true_and]
theorem aE (d:Bool)(fs:List (List Nat))(ops:List Oper)(dst:Option Tmp)(x:Operand)(t:TypeId)(pos:String)(af:Array Edge)(r:List Oper)(i:Nat):aC cx Q st nm e M d fs ops (⟨dst,.panic x,t,pos,af,none⟩::r) i=Bx cx Q st nm e M d i (aA cx.G true e x):=by
 unfold aC Bx
 simp only[bX,e9,if_true,fc,oA,sS,false_or,and_false,or_false]
 have hl:∀ M:ao,M.app (iF [])=M:=fun M=>rfl
 simp only[hl]
 rfl
theorem Dj (fs:List (List Nat))(ops:List Oper)(i:Nat):aC cx Q st nm e M false fs ops [] i=dB cx Q st (nm+16*i) e M .normal:=by
 simp only[aC,bX,dB,Bool.false_eq_true,false_implies,true_and]
theorem rY (fs:List (List Nat))(ops:List Oper)(i:Nat):aC cx Q st nm e M true fs ops [] i=Bw cx Q st (nm+16*i) e M fs ops:=by
 simp only[aC,bX,Bw,true_implies]
theorem zU (d:Bool)(fs:List (List Nat))(ops:List Oper)(dst:Option Tmp)(f:Operand)(args:Array Operand)(ats:Array TypeId)(t:TypeId)(pos:String)(af:Array Edge)(r:List Oper)(i:Nat) :
  aC cx Q st nm e M d fs ops (⟨dst,.call ⟨.value f,args,ats⟩,t,pos,af,none⟩::r) i=fM cx Q st nm e M d fs ops ⟨dst,.call ⟨.value f,args,ats⟩,t,pos,af,none⟩ r i:=propext Iff.rfl
theorem xN (d:Bool)(fs:List (List Nat))(ops:List Oper)(dst:Option Tmp)(op:Op)(t:TypeId)(pos:String)(af:Array Edge)(j:Nat)(want:Bool)(r:List Oper)(i:Nat) :
  aC cx Q st nm e M d fs ops (⟨dst,op,t,pos,af,some (j,want)⟩::r) i=aT cx Q st nm e M d fs (gY ops e j) want ops ⟨dst,op,t,pos,af,some (j,want)⟩ r i:=by
 unfold aC aT
 simp only[bX,aC,cL,bJ]
 cases iC (gY ops e j) want<;>rfl
theorem rR (d:Bool)(fs:List (List Nat))(c x want:Bool)(ops:List Oper)(o:Oper)(r:List Oper)(i:Nat):aT cx Q st nm e M d fs (.gd c (.bool x)) want ops o r i=aT cx Q st nm e M d fs (.bool (c&&(x==want))) true ops o r i:=by
 have h:∀ y:Bool,(y==true)=y:=fun y=>by cases y<;>rfl
 simp only[aT,iC,h]
theorem xB (d:Bool)(fs:List (List Nat))(v:V)(want:Bool)(ops:List Oper)(o:Oper)(r:List Oper)(i:Nat):aT cx Q st nm e M d fs (.gd false v) want ops o r i=aT cx Q st nm e M d fs (.bool false) true ops o r i:=by
 have h1:iC (.gd false v) want=some false:=by cases v<;>rfl
 have h2:iC (.bool false) true=some false:=rfl
 simp only[aT,h1,h2]
variable {cx Q st nm e M}
theorem be {t:Bool}{a b:Code}(h1:t=true→go cx Q st nm e M a)(h2:t=false→go cx Q st nm e M b):mW cx Q st nm e M (.bool t) a b:=⟨h1,h2⟩
theorem bo {t f:Bool}{a b:Code}(h1:t=true→go cx Q st nm e M a)(h2:f=true→go cx Q st nm e M b):mW cx Q st nm e M (.bit t f) a b:=⟨h1,h2⟩
theorem c9 {d:Bool}{fs:List (List Nat)}{ops:List Oper}{dst:Option Tmp}{f:Operand}{args:Array Operand}{ats:Array TypeId}{t:TypeId}{pos:String}{af:Array Edge}{r:List Oper}{i:Nat}{g:FuncId}{caps:List V}{as:List V}(hf:aA cx.G true e f = .fn g caps)
  (has:args.toList.map (aA cx.G true e)++caps=as) (l:List Nat) {v:V} {eff:List (Nat×Option Blk)} (hev:Ev cx g (nm+16*i) as (M.only l) v eff) (he:∀ x∈al eff,(x∈l∧(M x).isSome=true)∨bV (nm+16*i) x)
  (h:aC cx Q st nm (e.putD dst v) (M.app eff) d (fs++[l++al eff]) ops r (i+1)):fM cx Q st nm e M d fs ops ⟨dst,.call ⟨.value f,args,ats⟩,t,pos,af,none⟩ r i:=by
 subst has
 show bX _ _ _ _ _ _ _ _ _ _ _
 simp only[bX,e9,if_true,fc,hf,V.tgt,List.nil_append]
 exact .inl ⟨l,v,eff,hev,he,h⟩
theorem cE {d:Bool}{fs:List (List Nat)}{ops:List Oper}{dst:Option Tmp}{f:Operand}{args:Array Operand}{ats:Array TypeId}{t:TypeId}{pos:String}{af:Array Edge}{r:List Oper}{i:Nat}{g:FuncId}{caps:List V}{as:List V}(hf:aA cx.G true e f = .fn g caps)
  (has:args.toList.map (aA cx.G true e)++caps=as) {v:V} (hev:Ev cx g (nm+16*i) as ao.nil v []) (h:aC cx Q st nm (e.putD dst v) M d (fs++[[]]) ops r (i+1)):fM cx Q st nm e M d fs ops ⟨dst,.call ⟨.value f,args,ats⟩,t,pos,af,none⟩ r i :=
 c9 hf has [] (by rw[ao.only_nil];exact hev) (fun x hx=>by simp[al]at hx) h
theorem zj {d:Bool}{fs:List (List Nat)}{ops:List Oper}{c:Bool}{dst:Option Tmp}{f:Operand}{args:Array Operand}{ats:Array TypeId}{t:TypeId}{pos:String}{af:Array Edge}{gd:Option (Nat×Bool)}{r:List Oper}{i:Nat}{g:FuncId}{caps:List V}{as:List V}(hf:aA cx.G c e f = .fn g caps)
  (has:args.toList.map (aA cx.G c e)++caps=as) {v:V} (hev:c=true→Ev cx g (nm+16*i) as ao.nil v []) (h:aC cx Q st nm (e.putD dst (.gd c v)) M d (fs++[[]]) ops r (i+1)):dK cx Q st nm e M d fs c ops ⟨dst,.call ⟨.value f,args,ats⟩,t,pos,af,gd⟩ r i:=by
 subst has
 unfold dK gE
 refine .inl ?_
 simp only[hf,V.tgt,List.nil_append]
 exact⟨[],v,by rw[ao.only_nil];exact hev,h⟩
theorem HZ {d:Bool}{fs:List (List Nat)}{ops:List Oper}{dst:Option Tmp}{f:Operand}{args:Array Operand}{ats:Array TypeId}{t:TypeId}{pos:String}{af:Array Edge}{gd:Option (Nat×Bool)}{r:List Oper}{i:Nat}{g:FuncId}{caps fi:List V}{as:List V}(hf:(aA cx.G true e f).tgt=some (g,caps,fi))
  (has:fi++(args.toList.map (aA cx.G true e)++caps)=as) (l:List Nat) {v:V} {eff:List (Nat×Option Blk)} (hev:Ev cx g (nm+16*i) as (M.only l) v eff) (he:∀ x∈al eff,(x∈l∧(M x).isSome=true)∨bV (nm+16*i) x)
  (h:aC cx Q st nm (e.putD dst v) (M.app eff) d (fs++[l++al eff]) ops r (i+1)):dK cx Q st nm e M d fs true ops ⟨dst,.call ⟨.value f,args,ats⟩,t,pos,af,gd⟩ r i:=by
 subst has
 unfold dK fc
 refine .inr ⟨rfl,?_⟩
 simp only[hf]
 exact⟨l,v,eff,hev,he,h⟩
theorem eF {d:Bool}{fs:List (List Nat)}{ops:List Oper}{dst:Option Tmp}{f:Operand}{args:Array Operand}{ats:Array TypeId}{t:TypeId}{pos:String}{af:Array Edge}{r:List Oper}{i:Nat}{g:FuncId}{fi:List V}{as:List V}(hf:aA cx.G true e f = .fnb g fi)
  (has:fi++args.toList.map (aA cx.G true e)=as) (l:List Nat) {v:V} {eff:List (Nat×Option Blk)} (hev:Ev cx g (nm+16*i) as (M.only l) v eff) (he:∀ x∈al eff,(x∈l∧(M x).isSome=true)∨bV (nm+16*i) x)
  (h:aC cx Q st nm (e.putD dst v) (M.app eff) d (fs++[l++al eff]) ops r (i+1)):fM cx Q st nm e M d fs ops ⟨dst,.call ⟨.value f,args,ats⟩,t,pos,af,none⟩ r i:=by
 subst has
 show bX _ _ _ _ _ _ _ _ _ _ _
 simp only[bX,e9,if_true,fc,hf,V.tgt,List.append_nil]
 exact .inl ⟨l,v,eff,hev,he,h⟩
theorem cB {fs:List (List Nat)}{ops:List Oper}{dst:Option Tmp}{g:FuncId}{args:Array Operand}{ats:Array TypeId}{t:TypeId}{pos:String}{af:Array Edge}{r:List Oper}{i:Nat}{as:List V}
  (has:args.toList.map (aA cx.G true e)=as) (l:List Nat) {v:V} (hev:wB cx g (nm+16*i) as (M.only l) v)
  (h:dB cx Q st (nm+16*(i+1)) e (M.app (iF l)) (.panic v)):fM cx Q st nm e M false fs ops ⟨dst,.call ⟨.value (.func g),args,ats⟩,t,pos,af,none⟩ r i:=by
 subst has
 show bX _ _ _ _ _ _ _ _ _ _ _
 simp only[bX,e9,if_true,oA,aA,V.tgt,List.nil_append,List.append_nil]
 exact .inr (.inl ⟨l,v,hev,trivial,h⟩)
theorem Cy {fs:List (List Nat)}{ops:List Oper}{dst:Option Tmp}{g:FuncId}{args:Array Operand}{ats:Array TypeId}{t:TypeId}{pos:String}{af:Array Edge}{r:List Oper}{i:Nat}{as:List V}
  (has:args.toList.map (aA cx.G true e)=as) (l:List Nat) {R:V→Prop} {eff:List (Nat×Option Blk)} (hev:J7 cx g (nm+16*i) as (M.only l) R eff) (he:∀ x∈al eff,(x∈l∧(M x).isSome=true)∨bV (nm+16*i) x)
  (h:∀ v,R v→aC cx Q st nm (e.putD dst v) (M.app eff) false (fs++[l++al eff]) ops r (i+1)):fM cx Q st nm e M false fs ops ⟨dst,.call ⟨.value (.func g),args,ats⟩,t,pos,af,none⟩ r i:=by
 subst has
 show bX _ _ _ _ _ _ _ _ _ _ _
 refine Or.inr (Or.inr ⟨rfl,?_⟩)
 exact⟨l,R,eff,by rw[List.append_nil];exact hev,he,h⟩
theorem kX {d:Bool}{fs:List (List Nat)}{ops:List Oper}{dst:Option Tmp}{f:Operand}{args:Array Operand}{ats:Array TypeId}{t:TypeId}{pos:String}{af:Array Edge}{gd:Option (Nat×Bool)}{r:List Oper}{i:Nat}{g:FuncId}{fi:List V}{as:List V}(hf:aA cx.G true e f = .fnb g fi)
  (has:fi++args.toList.map (aA cx.G true e)=as) (l:List Nat) {v:V} {eff:List (Nat×Option Blk)} (hev:Ev cx g (nm+16*i) as (M.only l) v eff) (he:∀ x∈al eff,(x∈l∧(M x).isSome=true)∨bV (nm+16*i) x)
  (h:aC cx Q st nm (e.putD dst v) (M.app eff) d (fs++[l++al eff]) ops r (i+1)):dK cx Q st nm e M d fs true ops ⟨dst,.call ⟨.value f,args,ats⟩,t,pos,af,gd⟩ r i :=
 HZ (caps:=[]) (by rw[hf];rfl) (by rw[List.append_nil];exact has) l hev he h
theorem ac {d:Bool}{fs:List (List Nat)}{ops:List Oper}{dst:Option Tmp}{g:FuncId}{args:Array Operand}{ats:Array TypeId}{t:TypeId}{pos:String}{af:Array Edge}{r:List Oper}{i:Nat}{as:List V}
  (has:args.toList.map (aA cx.G true e)=as) {v:V} (hev:Ev cx g (nm+16*i) as ao.nil v []) (h:aC cx Q st nm (e.putD dst v) M d (fs++[[]]) ops r (i+1)):fM cx Q st nm e M d fs ops ⟨dst,.call ⟨.value (.func g),args,ats⟩,t,pos,af,none⟩ r i :=
 cE (caps:=[]) rfl (by rw[List.append_nil];exact has) hev h
theorem ab {d:Bool}{fs:List (List Nat)}{ops:List Oper}{c:Bool}{dst:Option Tmp}{g:FuncId}{args:Array Operand}{ats:Array TypeId}{t:TypeId}{pos:String}{af:Array Edge}{gd:Option (Nat×Bool)}{r:List Oper}{i:Nat}{as:List V}
  (has:args.toList.map (aA cx.G c e)=as) {v:V} (hev:c=true→Ev cx g (nm+16*i) as ao.nil v []) (h:aC cx Q st nm (e.putD dst (.gd c v)) M d (fs++[[]]) ops r (i+1)):dK cx Q st nm e M d fs c ops ⟨dst,.call ⟨.value (.func g),args,ats⟩,t,pos,af,gd⟩ r i :=
 zj (caps:=[]) rfl (by rw[List.append_nil];exact has) hev h
theorem ad {d:Bool}{fs:List (List Nat)}{ops:List Oper}{dst:Option Tmp}{g:FuncId}{args:Array Operand}{ats:Array TypeId}{t:TypeId}{pos:String}{af:Array Edge}{r:List Oper}{i:Nat}{as:List V}
  (has:args.toList.map (aA cx.G true e)=as) (l:List Nat) {v:V} {eff:List (Nat×Option Blk)} (hev:Ev cx g (nm+16*i) as (M.only l) v eff) (he:∀ x∈al eff,(x∈l∧(M x).isSome=true)∨bV (nm+16*i) x)
  (h:aC cx Q st nm (e.putD dst v) (M.app eff) d (fs++[l++al eff]) ops r (i+1)):fM cx Q st nm e M d fs ops ⟨dst,.call ⟨.value (.func g),args,ats⟩,t,pos,af,none⟩ r i :=
 c9 (caps:=[]) rfl (by rw[List.append_nil];exact has) l hev he h
theorem aG {fs:List (List Nat)}{ops:List Oper}(hp:uH cx.P ops=[])(h:dB cx Q st nm e M .normal):Bw cx Q st nm e M fs ops:=⟨Az hp,h⟩
theorem bg {fs:List (List Nat)}{ops:List Oper}{ps:List (Nat×Nat)}(hp:uH cx.P ops=ps)(hps:∀ p∈ps,∀ x∈fs.getD p.1 [],x ∉ fs.getD p.2 [])(h:dB cx Q st nm e M .normal):Bw cx Q st nm e M fs ops:=⟨by unfold jk;rw[hp];exact hps,h⟩
theorem BH {c:Code}(J:Nat→Nat→Env→ao→Prop)(g:Nat){n:Nat}{e':Env}{M':ao}(hw:mH cx Q.b0 nm e M n e' M')(h0:J g n e' M')(hr:∀ g nm e M,J g nm e M→go cx Q (.again J g::st) nm e M c):oT cx Q st nm e M c:=⟨J,g,⟨_,_,_,hw,h0⟩,hr⟩
theorem wI {J:Nat→Nat→Env→ao→Prop}{g:Nat}(g':Nat)(hg:g'<g){n:Nat}{e':Env}{M':ao}(hw:mH cx Q.b0 nm e M n e' M')(h:J g' n e' M'):dB cx Q (.again J g::st) nm e M .normal:=⟨g',hg,_,_,_,hw,h⟩
end
def vq (cx:Cx)(fn:Func)(nm:Nat)(M:ao)(v:V)(eff:List (Nat×Option Blk))(b0:Nat):Post:=⟨b0,kE cx fn nm M v eff b0⟩
theorem K1 (cx:Cx)(fn:Func)(nm:Nat)(M:ao)(v:V)(eff:List (Nat×Option Blk))(b0:Nat):(vq cx fn nm M v eff b0).q=kE cx fn nm M v eff b0:=rfl
theorem Bp (cx:Cx)(fn:Func)(nm:Nat)(M:ao)(v:V)(eff:List (Nat×Option Blk))(b0:Nat):(vq cx fn nm M v eff b0).b0=b0:=rfl
theorem ay {cx:Cx}(hD:cx.D=[]){f:FuncId}{nm:Nat}{args:List V}{M:ao}{v:V}{eff:List (Nat×Option Blk)}{fn:Func}{c:Code}
  (hcall:∀ cargs w,(callFunc f cargs).run cx.P w = .ok (.enter f cargs) w) (hf:cx.P.funcs[f]? = some fn) (hb:fn.body=some c) (hm:cx.P.follows .mixedOrders=true) (hin:cR fn.ntmps c=true) (hargs:decide (args.length≤fn.ntmps)=true)
  (hvc:∀ b0,(∀ x,b0≤x→M x=none)→go cx (vq cx fn nm M v eff b0) [] b0 (eA args) M c):Ev cx f nm args M v eff :=
 Fq hD hcall hf hb hm hin (of_decide_eq_true hargs) hvc
def LL (v:V)(b0:Nat):Post:=⟨b0,EU v⟩
theorem BU (v:V)(b0:Nat):(LL v b0).b0=b0:=rfl
theorem bd (cx:Cx)(v:V)(b0 nm:Nat)(e:Env)(M:ao):dB cx (LL v b0) [] nm e M (.panic v)=True:=eq_true rfl
theorem iz {cx:Cx}(hD:cx.D=[])(hG:∀ g,(cx.G g).plain=true){f:FuncId}{nm:Nat}{args:List V}{M:ao}{v:V}{fn:Func}{c:Code}(hpl:v.plain=true)
  (hcall:∀ cargs w,(callFunc f cargs).run cx.P w = .ok (.enter f cargs) w) (hf:cx.P.funcs[f]? = some fn) (hb:fn.body=some c) (hm:cx.P.follows .mixedOrders=true) (hin:cR fn.ntmps c=true) (hargs:decide (args.length≤fn.ntmps)=true)
  (hvc:∀ b0,(∀ x,b0≤x→M x=none)→go cx (LL v b0) [] b0 (eA args) M c):wB cx f nm args M v :=
 CN hD hcall hf hb hm hin (of_decide_eq_true hargs) hG hpl hvc
theorem D1 (e:Env)(t:Nat)(v:V):e.putD (some t) v=e.put t v:=rfl
theorem DZ (e:Env)(v:V):e.putD none v=e:=rfl
theorem LN (e:Env)(t x:Nat)(v:V):(e.put t v) x=if x=t then v else e x:=rfl
theorem tP (c:Bool)(v:V):(V.gd c v).strip c=v:=by cases c<;>simp[V.strip]
theorem mC (c:Bool)(v:V):(V.gd true v).strip c=v:=by simp[V.strip]
theorem En (c:Bool):V.any.strip c = .any:=rfl
theorem A0 (c b:Bool):(V.bool b).strip c = .bool b:=rfl
theorem Eo (c t f:Bool):(V.bit t f).strip c = .bit t f:=rfl
theorem Er (c:Bool)(k:IntKind)(n:Int):(V.int k n).strip c = .int k n:=rfl
theorem Ew (c:Bool)(s:List UInt8):(V.str s).strip c = .str s:=rfl
theorem A2 (c:Bool):V.nilp.strip c = .nilp:=rfl
theorem Ez (c:Bool):V.upt.strip c = .upt:=rfl
theorem Eu (c:Bool)(a b d:Nat):(V.ptr a b d).strip c = .ptr a b d:=rfl
theorem Ha (c:Bool)(l:List V):(V.rp l).strip c = .rp l:=rfl
theorem A3 (c:Bool):V.nils.strip c = .nils:=rfl
theorem Hb (c t:Bool)(s:Nat)(l:List (List V)):(V.sl t s l).strip c = .sl t s l:=rfl
theorem Et (c:Bool)(a b d:Nat):(V.own a b d).strip c = .own a b d:=rfl
theorem A4 (c:Bool)(a b d e:Nat):(V.ownc a b d e).strip c = .ownc a b d e:=rfl
theorem A1 (c:Bool)(a:Nat):(V.chan a).strip c = .chan a:=rfl
theorem G9 (c:Bool)(a:Nat):(V.mp a).strip c = .mp a:=rfl
theorem Ep (c:Bool)(f:Nat)(l:List V):(V.fnb f l).strip c = .fnb f l:=rfl
theorem yJ (c:Bool)(t:TypeId)(v:V):(V.iface t v).strip c = .iface t v:=rfl
theorem G8 (c:Bool)(f:Nat)(l:List V):(V.fn f l).strip c = .fn f l:=rfl
theorem Em (c:Bool)(l:List V):(V.agg l).strip c = .agg l:=rfl
theorem Ey (c:Bool)(l:List V):(V.tup l).strip c = .tup l:=rfl
theorem EA (c:Bool)(v:Value):(V.val v).strip c = .val v:=rfl
theorem Gk  : V.isNilI (.any )=false:=rfl
theorem DJ (a0:Bool):V.isNilI (.bool a0)=false:=rfl
theorem Gl (a0:Bool)(a1:Bool):V.isNilI (.bit a0 a1)=false:=rfl
theorem Gn (a0:IntKind)(a1:Int):V.isNilI (.int a0 a1)=false:=rfl
theorem Gt (a0:List UInt8):V.isNilI (.str a0)=false:=rfl
theorem DL  : V.isNilI (.nilp )=false:=rfl
theorem Gv  : V.isNilI (.upt )=false:=rfl
theorem Gs (a0:Nat)(a1:Nat)(a2:Nat):V.isNilI (.ptr a0 a1 a2)=false:=rfl
theorem I5 (a0:List V):V.isNilI (.rp a0)=false:=rfl
theorem DM  : V.isNilI (.nils )=false:=rfl
theorem I6 (a0:Bool)(a1:Nat)(a2:List (List V)):V.isNilI (.sl a0 a1 a2)=false:=rfl
theorem Gq (a0:Nat)(a1:Nat)(a2:Nat):V.isNilI (.own a0 a1 a2)=false:=rfl
theorem DN (a0:Nat)(a1:Nat)(a2:Nat)(a3:Nat):V.isNilI (.ownc a0 a1 a2 a3)=false:=rfl
theorem DK (a0:Nat):V.isNilI (.chan a0)=false:=rfl
theorem I4 (a0:Nat):V.isNilI (.mp a0)=false:=rfl
theorem I2 (a0:Nat)(a1:List V):V.isNilI (.fn a0 a1)=false:=rfl
theorem Gm (a0:Nat)(a1:List V):V.isNilI (.fnb a0 a1)=false:=rfl
theorem Gj (a0:List V):V.isNilI (.agg a0)=false:=rfl
theorem Gu (a0:List V):V.isNilI (.tup a0)=false:=rfl
theorem I3 (a0:Bool)(a1:V):V.isNilI (.gd a0 a1)=false:=rfl
theorem Ar (a0:TypeId)(a1:V):V.isNilI (.iface a0 a1)=false:=rfl
theorem Gp:V.isNilI (.val .nilIface)=true:=rfl
theorem DX (c x y:Bool):g9 c (.bool x) (.bool y) = .bool (if c then x else y):=rfl
theorem GL (c x:Bool):g9 c (.gd c (.bool x)) (.bool false) = .bool (c&&x):=by cases c<;>simp[g9,V.strip]
theorem Jh (c x:Bool):g9 c (.bool true) (.gd (!c) (.bool x)) = .bool (c||x):=by cases c<;>simp[g9,V.strip]
theorem DW (c x:Bool):g9 c ((V.gd c (.bool x)).strip true) (.bool false) = .bool (c&&x):=by cases c<;>simp[g9,V.strip]
theorem GM (c x:Bool):g9 c (.bool true) ((V.gd (!c) (.bool x)).strip true) = .bool (c||x):=by cases c<;>simp[g9,V.strip]
theorem Cp (b:Bool):(b==true)=b:=by cases b<;>rfl
theorem zg (b:Bool):(b==false) = !b:=by cases b<;>rfl
theorem wF (a b c:Nat):a+b+c=a+(b+c):=Nat.add_assoc a b c
theorem EQ (l:List V)(t:Nat):eA l t=(l[t]?).getD .any:=rfl
theorem HH (M:ao):M.app []=M:=rfl
theorem wL (M:ao)(x:Nat)(k:Option Blk)(r:List (Nat×Option Blk)):M.app ((x,k)::r)=(M.put x k).app r:=rfl
theorem I0 (M:ao)(nm x:Nat)(k:Option Blk):(M.put nm k) x=if x=nm then k else M x:=rfl
theorem LD (x:Nat):ao.nil x=none:=rfl
mutual
def V.flat:V→Bool
 | .any | .bool _ | .bit _ _ | .int _ _ | .str _ | .nilp | .upt | .nils | .val _=>true
 | .agg cs=>flatL cs
 | .tup cs=>flatL cs
 | .gd _ v=>v.flat
 | .iface _ v=>v.flat
 | _=>false
def flatL:List V→Bool
 | []=>true
 | v::r=>v.flat&&flatL r
end
theorem lY {l:List V}(h:flatL l=true){i:Nat}{u:V}(hi:l[i]? = some u):u.flat=true:=by
 induction l generalizing i with
 | nil=>simp at hi
 | cons v r ih =>
  simp only[flatL,Bool.and_eq_true]at h
  cases i with
  | zero=>simp at hi;subst hi;exact h.1
  | succ i=>exact ih h.2 (by simpa using hi)
theorem Is.flat {ρ ρ':Names}{D D':Nat→Prop}{w w':World}{v:V}{cv:Value}(h:Is ρ D w v cv)(hp:v.flat=true):Is ρ' D' w' v cv:=by
 induction h with
 | any cv=>exact .any _
 | bool b=>exact .bool _
 | bit b ht hf=>exact .bit b ht hf
 | int k n=>exact .int _ _
 | str s=>exact .str _
 | nilp=>exact .nilp
 | upt p=>exact .upt p
 | ptr h=>simp[V.flat]at hp
 | rp cv hd hb hc _ ih=>simp[V.flat]at hp
 | nils=>exact .nils
 | sl0 ht=>simp[V.flat]at hp
 | sl cv hc ht hd hb hr hx _ ih=>simp[V.flat]at hp
 | own0=>simp[V.flat]at hp
 | own h hl hc=>simp[V.flat]at hp
 | ownc0=>simp[V.flat]at hp
 | ownc h hl hc=>simp[V.flat]at hp
 | chan h=>simp[V.flat]at hp
 | mp h=>simp[V.flat]at hp
 | fn hn _ ih=>simp[V.flat]at hp
 | fnb hn _ ih=>simp[V.flat]at hp
 | iface _ ih=>exact .iface (ih (by simpa [V.flat] using hp))
 | agg hn _ ih=>exact .agg hn (fun i u cv hi hc=>ih i u cv hi hc (lY (by simpa [V.flat] using hp) hi))
 | tup hn _ ih=>exact .tup hn (fun i u cv hi hc=>ih i u cv hi hc (lY (by simpa [V.flat] using hp) hi))
 | gd _ h0 ih=>exact .gd (fun hb=>ih hb (by simpa [V.flat] using hp)) h0
 | val v=>exact .val _
theorem Ev.view {cx:Cx}{f:FuncId}{nm:Nat}{args:List V}{M:ao}{v:V}(h:Ev cx f nm (finL [] M args) ao.nil v [])(hok:finLOk [] M args)(hv:v.flat=true):Ev cx f nm args M v []:=by
  refine⟨h.1,fun X w ρ cargs B hr hfresh hB hn hargs=>?_⟩
  have hdom:∀ b,bF X ρ ao.nil b→bF X ρ M b:=by
    rintro b (hx|⟨nm,l,h1,_⟩)
    · exact .inl hx
    · simp[ao.nil]at h1
  have hr0:Rel cx.G X w (bI ρ ao.nil) ρ ao.nil w :=
    { size:=Nat.le_refl _,os:=rfl,tape:=rfl,output:=rfl,old:=fun _ _ _=>rfl
      live:=fun nm k hk=>by simp[ao.nil]at hk
      inj:=fun nm nm' l l' h1=>by simp[ao.nil]at h1
      hX:=fun b hb=>⟨(hr.hX b hb).1,by rintro ⟨nm,q,h1,_⟩;simp[ao.nil]at h1⟩
      glob:=fun g=>(hr.glob g).step (fun _ _ h=>h) (Nat.le_refl _) (fun _ _ _=>rfl) (fun b _ hb=>hdom b hb) }
  refine(h.2 X w ρ cargs B hr0 hfresh (fun x hx=>⟨rfl,(hB x hx).2⟩) (by rw[cJ];exact hn) ?_).mono ?_
  · intro i u cv hi hc
    rw[eI]at hi
    obtain⟨u',h1,rfl⟩:=Option.map_eq_some_iff.1 hi
    refine j8 (cx:=cx) hr (fun nm y hy=>by simp[aW]at hy) hdom (fun nm l _ hM hl=>?_) (hargs i u' cv h1 hc) (dc hok h1)
    rintro (hx|⟨nm',q,h2,_⟩)
    · exact(hr.block_lt hM hl).2.1 hx
    · simp[ao.nil]at h2
  · rintro e' w' ⟨cv,rfl,ρ',r,m,hvv,hn'⟩
    have hkept:∀ b,b<w.heap.size→w'.heap[b]? = w.heap[b]?:=fun b hb=>m.kept b hb (fun nm l h1=>by simp[ao.nil]at h1)
    have mv:Moves ρ M w ρ M w':=⟨fun _ _ h=>h,m.size,m.os,m.tape,m.output,fun b hb _=>hkept b hb,fun nm l h1 h2 _=>⟨nm,l,h1,h2,rfl⟩⟩
    refine⟨cv,rfl,ρ,?_,mv,hvv.flat hv,fun _ _=>rfl⟩
    exact hr.move mv hr.inj (fun nm k hk=>.inl ⟨hk,id,fun l hl=>hkept l.b (hr.block_lt (by rw[show M nm=some k from hk];rfl) hl).1⟩)
section
variable {cx:Cx} {Q:Post} {st:List Frm} {nm:Nat} {e:Env} {M:ao}
theorem Cw {d:Bool}{fs:List (List Nat)}{ops:List Oper}{dst:Option Tmp}{g:FuncId}{args:Array Operand}{ats:Array TypeId}{t:TypeId}{pos:String}{af:Array Edge}{r:List Oper}{i:Nat}{as as':List V}
  (l:List Nat) (has:args.toList.map (aA cx.G true e)=as) (has':finL [] (M.only l) as=as') (hok:finLOk [] (M.only l) as) {v:V} (hv:v.flat=true) (hev:Ev cx g (nm+16*i) as' ao.nil v []) (h:aC cx Q st nm (e.putD dst v) M d (fs++[l]) ops r (i+1)):fM cx Q st nm e M d fs ops ⟨dst,.call ⟨.value (.func g),args,ats⟩,t,pos,af,none⟩ r i :=
 ad has l (Ev.view (by rw[has'];exact hev) hok hv) (fun x hx=>by simp[al]at hx) (by simpa [al,ao.app] using h)
theorem jb {d:Bool}{fs:List (List Nat)}{ops:List Oper}{dst:Option Tmp}{g:FuncId}{args:Array Operand}{ats:Array TypeId}{t:TypeId}{pos:String}{af:Array Edge}{r:List Oper}{i:Nat}{as:List V}
  (has:args.toList.map (aA cx.G true e)=as) {v:V} {eff:List (Nat×Option Blk)} (hev:Ev cx g (nm+16*i) as ao.nil v eff) (he:∀ x∈al eff,nm+16*i≤x∧x<nm+16*i+16)
  (h:aC cx Q st nm (e.putD dst v) (M.app eff) d (fs++[al eff]) ops r (i+1)):fM cx Q st nm e M d fs ops ⟨dst,.call ⟨.value (.func g),args,ats⟩,t,pos,af,none⟩ r i :=
 ad has [] (by rw[ao.only_nil];exact hev) (fun x hx=>.inr (he x hx)) (by simpa using h)
theorem zh {d:Bool}{fs:List (List Nat)}{ops:List Oper}{c:Bool}{dst:Option Tmp}{g:FuncId}{args:Array Operand}{ats:Array TypeId}{t:TypeId}{pos:String}{af:Array Edge}{gd:Option (Nat×Bool)}{r:List Oper}{i:Nat}{as as':List V}
  (l:List Nat) (has:args.toList.map (aA cx.G c e)=as) (has':c=true→finL [] (M.only l) as=as') (hok:c=true→finLOk [] (M.only l) as) {v:V} (hv:v.flat=true) (hev:c=true→Ev cx g (nm+16*i) as' ao.nil v []) (h:aC cx Q st nm (e.putD dst (.gd c v)) M d (fs++[l]) ops r (i+1)):dK cx Q st nm e M d fs c ops ⟨dst,.call ⟨.value (.func g),args,ats⟩,t,pos,af,gd⟩ r i:=by
 subst has
 unfold dK gE
 refine .inl ?_
 simp only[aA,V.tgt,List.nil_append,List.append_nil]
 exact⟨l,v,fun hc=>Ev.view (by rw[has' hc];exact hev hc) (hok hc) hv,h⟩
end
def mB (b0:Nat)(M:ao):List (Nat×Nat)→Prop
 | []=>True
 |(x,j)::r=>(j<16∧b0≤x∧(M x).isSome=true∧I8 M x=true∧plainLL (bm M x)=true)∧(∀ p∈r,p.1≠x∧p.2≠j)∧mB b0 M r
def G3 (nm:Nat)(M:ao)(σ:List (Nat×Nat)):List (Nat×Option Blk):=σ.map (fun p=>(nm+p.2,M p.1))
def ov (nm:Nat)(σ:List (Nat×Nat)):List (Nat×Nat):=σ.map (fun p=>(p.1,nm+p.2))
theorem El {b0:Nat}{M:ao}{σ:List (Nat×Nat)}(h:mB b0 M σ):∀ p∈σ,p.2<16∧b0≤p.1∧(M p.1).isSome=true∧I8 M p.1=true∧plainLL (bm M p.1)=true:=by
 induction σ with
 | nil=>intro p hp;cases hp
 | cons q r ih =>
  intro p hp
  simp only[mB]at h
  rcases List.mem_cons.1 hp with rfl|hp
  ·exact h.1
  ·exact ih h.2.2 p hp
theorem pT {b0:Nat}{M:ao}(nm:Nat){σ:List (Nat×Nat)}(h:mB b0 M σ):((ov nm σ).map (·.1)).Nodup∧((ov nm σ).map (·.2)).Nodup:=by
 induction σ with
 | nil=>exact⟨List.nodup_nil,List.nodup_nil⟩
 | cons q r ih =>
  simp only[mB]at h
  obtain⟨a,b⟩:=ih h.2.2
  refine⟨List.nodup_cons.2 ⟨?_,a⟩,List.nodup_cons.2 ⟨?_,b⟩⟩
  ·intro hm
   simp only[ov,List.map_map,List.mem_map,Function.comp_apply]at hm
   obtain⟨p,hp,he⟩:=hm
   exact(h.2.1 p hp).1 he
  ·intro hm
   simp only[ov,List.map_map,List.mem_map,Function.comp_apply]at hm
   obtain⟨p,hp,he⟩:=hm
   exact(h.2.1 p hp).2 (by omega)
theorem Fin.own {cx:Cx}{N:Nat}{rs:List ResultVar}{nm:Nat}{v:V}{eff:List (Nat×Option Blk)}{b0 n:Nat}{e:Env}{M:ao}(gs:List Nat)(σ:List (Nat×Nat))(h1:kL cx.P N rs e (M.ghosts n gs))(h2:(kR cx.P rs e (M.ghosts n gs)).finOk (ov nm σ) (M.ghosts n gs))(h3:((kR cx.P rs e (M.ghosts n gs)).fin (ov nm σ) (M.ghosts n gs)).le v)(h4:G3 nm (M.ghosts n gs) σ=eff)(h5:mB b0 (M.ghosts n gs) σ):nv cx N rs nm ao.nil v eff b0 n e M:=by
 refine⟨gs,Fin.two ⟨h1,ov nm σ,h2,h3,?_,(pT nm h5).1,(pT nm h5).2,?_,fun x hx=>by simp[ao.nil]at hx⟩⟩
 ·rw[← h4];simp[G3,ov]
 ·intro p hp
  simp only[ov,List.mem_map]at hp
  obtain⟨q,hq,rfl⟩:=hp
  obtain⟨g1,g2,g3,g5,g4⟩:=El h5 q hq
  refine⟨.inr ⟨⟨by simp,by simp;omega⟩,g2⟩,?_⟩
  obtain⟨k,hk⟩:=Option.isSome_iff_exists.1 g3
  refine⟨k,hk,?_,?_⟩
  ·simpa [I8,hk] using g5
  ·simpa [bm,hk] using g4
theorem cY {α β:Type}(f:α→β)(l:List α):(l.map f).take l.length=l.map f:=by rw[← List.length_map (f:=f),List.take_length]
theorem zP (M:ao)(n:Nat):M.ghosts n []=M:=rfl
theorem xx (M:ao)(n s:Nat)(r:List Nat):M.ghosts n (s::r)=(M.put n (some ⟨s,[]⟩)).ghosts (n+1) r:=rfl
theorem dC (x:Nat):aW [] x=none:=rfl
theorem fQ (y z x:Nat)(r:List (Nat×Nat)):aW ((y,z)::r) x=if y=x then some z else aW r x:=by
 unfold aW
 rw[List.find?_cons]
 by_cases h:y=x
 ·subst h;simp
 ·have hb:(y==x)=false:=by simpa using h
  simp only[hb,h,if_false]
theorem od (M:ao)(l:List Nat)(x:Nat):(M.only l) x=if x∈l then M x else none:=rfl
theorem cn {α:Type}(f:α→List V)(h:∀ a,plainL (f a)=true)(l:List α):plainLL (l.map f)=true:=by
 rw[eN,List.all_eq_true]
 intro x hx
 obtain⟨a,_,rfl⟩:=List.mem_map.1 hx
 exact h a
theorem aS {a b:Nat}(h:a<b):(a=b)=False:=eq_false (by omega)
theorem aI {a b:Nat}(h:a<b):(b=a)=False:=eq_false (by omega)
theorem aq {a b:Nat}(h:a<b)(c:Nat):(a=b+c)=False:=eq_false (by omega)
theorem aj {a b:Nat}(h:a<b)(c:Nat):(b+c=a)=False:=eq_false (by omega)
theorem aR {n:Int}(h1:-9223372036854775808≤n)(h2:n≤9223372036854775807):IntKind.i64.wrap n=n:=IntWalk.i64_in _ ⟨h1,h2⟩
section
variable {cx:Cx} {Q:Post} {st:List Frm} {nm:Nat} {e:Env} {M:ao}
end
section
variable (cx:Cx) (Q:Post) (st:List Frm) (nm:Nat) (e:Env) (M:ao)
variable (d:Bool) (fs:List (List Nat)) (ops:List Oper) (dst:Option Tmp) (t:TypeId) (pos:String) (af:Array Edge) (r:List Oper) (i:Nat)
theorem zX (x:Operand):aC cx Q st nm e M d fs ops (⟨dst,.move x,t,pos,af,none⟩::r) i=(bv cx true e M ⟨dst,.move x,t,pos,af,none⟩ ∧
  aC cx Q st nm (e.putD dst (dh cx true e M (nm+16*i) ⟨dst,.move x,t,pos,af,none⟩)) (M.app (eu cx true e M (nm+16*i) ⟨dst,.move x,t,pos,af,none⟩)) d (fs++[eY cx true e (nm+16*i) ⟨dst,.move x,t,pos,af,none⟩]) ops r (i+1)):=propext Iff.rfl
theorem vK (x:Operand):aC cx Q st nm e M d fs ops (⟨dst,.assign x,t,pos,af,none⟩::r) i=(bv cx true e M ⟨dst,.assign x,t,pos,af,none⟩ ∧
  aC cx Q st nm (e.putD dst (dh cx true e M (nm+16*i) ⟨dst,.assign x,t,pos,af,none⟩)) (M.app (eu cx true e M (nm+16*i) ⟨dst,.assign x,t,pos,af,none⟩)) d (fs++[eY cx true e (nm+16*i) ⟨dst,.assign x,t,pos,af,none⟩]) ops r (i+1)):=propext Iff.rfl
theorem rX (x:Operand):aC cx Q st nm e M d fs ops (⟨dst,.nilCheck x,t,pos,af,none⟩::r) i=(bv cx true e M ⟨dst,.nilCheck x,t,pos,af,none⟩ ∧
  aC cx Q st nm (e.putD dst (dh cx true e M (nm+16*i) ⟨dst,.nilCheck x,t,pos,af,none⟩)) (M.app (eu cx true e M (nm+16*i) ⟨dst,.nilCheck x,t,pos,af,none⟩)) d (fs++[eY cx true e (nm+16*i) ⟨dst,.nilCheck x,t,pos,af,none⟩]) ops r (i+1)):=propext Iff.rfl
theorem zZ (x y z:Operand):aC cx Q st nm e M d fs ops (⟨dst,.pick x y z,t,pos,af,none⟩::r) i=(bv cx true e M ⟨dst,.pick x y z,t,pos,af,none⟩ ∧
  aC cx Q st nm (e.putD dst (dh cx true e M (nm+16*i) ⟨dst,.pick x y z,t,pos,af,none⟩)) (M.app (eu cx true e M (nm+16*i) ⟨dst,.pick x y z,t,pos,af,none⟩)) d (fs++[eY cx true e (nm+16*i) ⟨dst,.pick x y z,t,pos,af,none⟩]) ops r (i+1)):=propext Iff.rfl
theorem xI (ty:TypeId)(ps:Array (Nat×Operand)):aC cx Q st nm e M d fs ops (⟨dst,.build ty ps,t,pos,af,none⟩::r) i=(bv cx true e M ⟨dst,.build ty ps,t,pos,af,none⟩ ∧
  aC cx Q st nm (e.putD dst (dh cx true e M (nm+16*i) ⟨dst,.build ty ps,t,pos,af,none⟩)) (M.app (eu cx true e M (nm+16*i) ⟨dst,.build ty ps,t,pos,af,none⟩)) d (fs++[eY cx true e (nm+16*i) ⟨dst,.build ty ps,t,pos,af,none⟩]) ops r (i+1)):=propext Iff.rfl
theorem zW (ty:TypeId)(x:Operand):aC cx Q st nm e M d fs ops (⟨dst,.load ty x,t,pos,af,none⟩::r) i=(bv cx true e M ⟨dst,.load ty x,t,pos,af,none⟩ ∧
  aC cx Q st nm (e.putD dst (dh cx true e M (nm+16*i) ⟨dst,.load ty x,t,pos,af,none⟩)) (M.app (eu cx true e M (nm+16*i) ⟨dst,.load ty x,t,pos,af,none⟩)) d (fs++[eY cx true e (nm+16*i) ⟨dst,.load ty x,t,pos,af,none⟩]) ops r (i+1)):=propext Iff.rfl
theorem xH (o:BinOp)(ty:TypeId)(x y:Operand)(yt:TypeId):aC cx Q st nm e M d fs ops (⟨dst,.binOp o ty x y yt,t,pos,af,none⟩::r) i=(bv cx true e M ⟨dst,.binOp o ty x y yt,t,pos,af,none⟩ ∧
  aC cx Q st nm (e.putD dst (dh cx true e M (nm+16*i) ⟨dst,.binOp o ty x y yt,t,pos,af,none⟩)) (M.app (eu cx true e M (nm+16*i) ⟨dst,.binOp o ty x y yt,t,pos,af,none⟩)) d (fs++[eY cx true e (nm+16*i) ⟨dst,.binOp o ty x y yt,t,pos,af,none⟩]) ops r (i+1)):=propext Iff.rfl
theorem z6 (o:UnOp)(ty:TypeId)(x:Operand):aC cx Q st nm e M d fs ops (⟨dst,.unOp o ty x,t,pos,af,none⟩::r) i=(bv cx true e M ⟨dst,.unOp o ty x,t,pos,af,none⟩ ∧
  aC cx Q st nm (e.putD dst (dh cx true e M (nm+16*i) ⟨dst,.unOp o ty x,t,pos,af,none⟩)) (M.app (eu cx true e M (nm+16*i) ⟨dst,.unOp o ty x,t,pos,af,none⟩)) d (fs++[eY cx true e (nm+16*i) ⟨dst,.unOp o ty x,t,pos,af,none⟩]) ops r (i+1)):=propext Iff.rfl
theorem qe (ty:TypeId)(x:Operand)(f:Nat):aC cx Q st nm e M d fs ops (⟨dst,.fieldAddr ty x f,t,pos,af,none⟩::r) i=(bv cx true e M ⟨dst,.fieldAddr ty x f,t,pos,af,none⟩ ∧
  aC cx Q st nm (e.putD dst (dh cx true e M (nm+16*i) ⟨dst,.fieldAddr ty x f,t,pos,af,none⟩)) (M.app (eu cx true e M (nm+16*i) ⟨dst,.fieldAddr ty x f,t,pos,af,none⟩)) d (fs++[eY cx true e (nm+16*i) ⟨dst,.fieldAddr ty x f,t,pos,af,none⟩]) ops r (i+1)):=propext Iff.rfl
theorem xM (ty:TypeId)(x:Operand)(f:Nat):aC cx Q st nm e M d fs ops (⟨dst,.field ty x f,t,pos,af,none⟩::r) i=(bv cx true e M ⟨dst,.field ty x f,t,pos,af,none⟩ ∧
  aC cx Q st nm (e.putD dst (dh cx true e M (nm+16*i) ⟨dst,.field ty x f,t,pos,af,none⟩)) (M.app (eu cx true e M (nm+16*i) ⟨dst,.field ty x f,t,pos,af,none⟩)) d (fs++[eY cx true e (nm+16*i) ⟨dst,.field ty x f,t,pos,af,none⟩]) ops r (i+1)):=propext Iff.rfl
theorem qf (ty:TypeId)(x k:Operand):aC cx Q st nm e M d fs ops (⟨dst,.indexAddr ty x k,t,pos,af,none⟩::r) i=(bv cx true e M ⟨dst,.indexAddr ty x k,t,pos,af,none⟩ ∧
  aC cx Q st nm (e.putD dst (dh cx true e M (nm+16*i) ⟨dst,.indexAddr ty x k,t,pos,af,none⟩)) (M.app (eu cx true e M (nm+16*i) ⟨dst,.indexAddr ty x k,t,pos,af,none⟩)) d (fs++[eY cx true e (nm+16*i) ⟨dst,.indexAddr ty x k,t,pos,af,none⟩]) ops r (i+1)):=propext Iff.rfl
theorem xO (ty:TypeId)(x k:Operand):aC cx Q st nm e M d fs ops (⟨dst,.index ty x k,t,pos,af,none⟩::r) i=(bv cx true e M ⟨dst,.index ty x k,t,pos,af,none⟩ ∧
  aC cx Q st nm (e.putD dst (dh cx true e M (nm+16*i) ⟨dst,.index ty x k,t,pos,af,none⟩)) (M.app (eu cx true e M (nm+16*i) ⟨dst,.index ty x k,t,pos,af,none⟩)) d (fs++[eY cx true e (nm+16*i) ⟨dst,.index ty x k,t,pos,af,none⟩]) ops r (i+1)):=propext Iff.rfl
theorem tI (x:Operand)(k:Nat):aC cx Q st nm e M d fs ops (⟨dst,.extract x k,t,pos,af,none⟩::r) i=(bv cx true e M ⟨dst,.extract x k,t,pos,af,none⟩ ∧
  aC cx Q st nm (e.putD dst (dh cx true e M (nm+16*i) ⟨dst,.extract x k,t,pos,af,none⟩)) (M.app (eu cx true e M (nm+16*i) ⟨dst,.extract x k,t,pos,af,none⟩)) d (fs++[eY cx true e (nm+16*i) ⟨dst,.extract x k,t,pos,af,none⟩]) ops r (i+1)):=propext Iff.rfl
theorem rV (f:FuncId)(a c:Array Operand):aC cx Q st nm e M d fs ops (⟨dst,.makeFunc (.func f) a c,t,pos,af,none⟩::r) i=(bv cx true e M ⟨dst,.makeFunc (.func f) a c,t,pos,af,none⟩ ∧
  aC cx Q st nm (e.putD dst (dh cx true e M (nm+16*i) ⟨dst,.makeFunc (.func f) a c,t,pos,af,none⟩)) (M.app (eu cx true e M (nm+16*i) ⟨dst,.makeFunc (.func f) a c,t,pos,af,none⟩)) d (fs++[eY cx true e (nm+16*i) ⟨dst,.makeFunc (.func f) a c,t,pos,af,none⟩]) ops r (i+1)):=propext Iff.rfl
theorem Dg (as:Array Operand)(ts:Array TypeId):aC cx Q st nm e M d fs ops (⟨dst,.call ⟨.builtin .len,as,ts⟩,t,pos,af,none⟩::r) i=(bv cx true e M ⟨dst,.call ⟨.builtin .len,as,ts⟩,t,pos,af,none⟩ ∧
  aC cx Q st nm (e.putD dst (dh cx true e M (nm+16*i) ⟨dst,.call ⟨.builtin .len,as,ts⟩,t,pos,af,none⟩)) (M.app (eu cx true e M (nm+16*i) ⟨dst,.call ⟨.builtin .len,as,ts⟩,t,pos,af,none⟩)) d (fs++[eY cx true e (nm+16*i) ⟨dst,.call ⟨.builtin .len,as,ts⟩,t,pos,af,none⟩]) ops r (i+1)):=propext Iff.rfl
theorem Dh (as:Array Operand)(ts:Array TypeId):aC cx Q st nm e M d fs ops (⟨dst,.call ⟨.builtin .max,as,ts⟩,t,pos,af,none⟩::r) i=(bv cx true e M ⟨dst,.call ⟨.builtin .max,as,ts⟩,t,pos,af,none⟩ ∧
  aC cx Q st nm (e.putD dst (dh cx true e M (nm+16*i) ⟨dst,.call ⟨.builtin .max,as,ts⟩,t,pos,af,none⟩)) (M.app (eu cx true e M (nm+16*i) ⟨dst,.call ⟨.builtin .max,as,ts⟩,t,pos,af,none⟩)) d (fs++[eY cx true e (nm+16*i) ⟨dst,.call ⟨.builtin .max,as,ts⟩,t,pos,af,none⟩]) ops r (i+1)):=propext Iff.rfl
theorem Di (as:Array Operand)(ts:Array TypeId):aC cx Q st nm e M d fs ops (⟨dst,.call ⟨.builtin .min,as,ts⟩,t,pos,af,none⟩::r) i=(bv cx true e M ⟨dst,.call ⟨.builtin .min,as,ts⟩,t,pos,af,none⟩ ∧
  aC cx Q st nm (e.putD dst (dh cx true e M (nm+16*i) ⟨dst,.call ⟨.builtin .min,as,ts⟩,t,pos,af,none⟩)) (M.app (eu cx true e M (nm+16*i) ⟨dst,.call ⟨.builtin .min,as,ts⟩,t,pos,af,none⟩)) d (fs++[eY cx true e (nm+16*i) ⟨dst,.call ⟨.builtin .min,as,ts⟩,t,pos,af,none⟩]) ops r (i+1)):=propext Iff.rfl
theorem Df (as:Array Operand)(ts:Array TypeId):aC cx Q st nm e M d fs ops (⟨dst,.call ⟨.builtin .cap,as,ts⟩,t,pos,af,none⟩::r) i=(bv cx true e M ⟨dst,.call ⟨.builtin .cap,as,ts⟩,t,pos,af,none⟩ ∧
  aC cx Q st nm (e.putD dst (dh cx true e M (nm+16*i) ⟨dst,.call ⟨.builtin .cap,as,ts⟩,t,pos,af,none⟩)) (M.app (eu cx true e M (nm+16*i) ⟨dst,.call ⟨.builtin .cap,as,ts⟩,t,pos,af,none⟩)) d (fs++[eY cx true e (nm+16*i) ⟨dst,.call ⟨.builtin .cap,as,ts⟩,t,pos,af,none⟩]) ops r (i+1)):=propext Iff.rfl
theorem xG (ty:TypeId):aC cx Q st nm e M d fs ops (⟨dst,.alloc ty,t,pos,af,none⟩::r) i=(bv cx true e M ⟨dst,.alloc ty,t,pos,af,none⟩ ∧
  aC cx Q st nm (e.putD dst (dh cx true e M (nm+16*i) ⟨dst,.alloc ty,t,pos,af,none⟩)) (M.app (eu cx true e M (nm+16*i) ⟨dst,.alloc ty,t,pos,af,none⟩)) d (fs++[eY cx true e (nm+16*i) ⟨dst,.alloc ty,t,pos,af,none⟩]) ops r (i+1)):=propext Iff.rfl
theorem De (ty:TypeId)(x:Operand):aC cx Q st nm e M d fs ops (⟨dst,.box ty x,t,pos,af,none⟩::r) i=(bv cx true e M ⟨dst,.box ty x,t,pos,af,none⟩ ∧
  aC cx Q st nm (e.putD dst (dh cx true e M (nm+16*i) ⟨dst,.box ty x,t,pos,af,none⟩)) (M.app (eu cx true e M (nm+16*i) ⟨dst,.box ty x,t,pos,af,none⟩)) d (fs++[eY cx true e (nm+16*i) ⟨dst,.box ty x,t,pos,af,none⟩]) ops r (i+1)):=propext Iff.rfl
theorem oU (ty:TypeId)(n:Nat)(ps:Array (Nat×Operand)):aC cx Q st nm e M d fs ops (⟨dst,.buildSlice ty n ps,t,pos,af,none⟩::r) i=(bv cx true e M ⟨dst,.buildSlice ty n ps,t,pos,af,none⟩ ∧
  aC cx Q st nm (e.putD dst (dh cx true e M (nm+16*i) ⟨dst,.buildSlice ty n ps,t,pos,af,none⟩)) (M.app (eu cx true e M (nm+16*i) ⟨dst,.buildSlice ty n ps,t,pos,af,none⟩)) d (fs++[eY cx true e (nm+16*i) ⟨dst,.buildSlice ty n ps,t,pos,af,none⟩]) ops r (i+1)):=propext Iff.rfl
theorem xR (ty:TypeId)(x v:Operand):aC cx Q st nm e M d fs ops (⟨dst,.store ty x v,t,pos,af,none⟩::r) i=(bv cx true e M ⟨dst,.store ty x v,t,pos,af,none⟩ ∧
  aC cx Q st nm (e.putD dst (dh cx true e M (nm+16*i) ⟨dst,.store ty x v,t,pos,af,none⟩)) (M.app (eu cx true e M (nm+16*i) ⟨dst,.store ty x v,t,pos,af,none⟩)) d (fs++[eY cx true e (nm+16*i) ⟨dst,.store ty x v,t,pos,af,none⟩]) ops r (i+1)):=propext Iff.rfl
theorem vJ (as:Array Operand)(ts:Array TypeId):aC cx Q st nm e M d fs ops (⟨dst,.call ⟨.builtin .append,as,ts⟩,t,pos,af,none⟩::r) i=(bv cx true e M ⟨dst,.call ⟨.builtin .append,as,ts⟩,t,pos,af,none⟩ ∧
  aC cx Q st nm (e.putD dst (dh cx true e M (nm+16*i) ⟨dst,.call ⟨.builtin .append,as,ts⟩,t,pos,af,none⟩)) (M.app (eu cx true e M (nm+16*i) ⟨dst,.call ⟨.builtin .append,as,ts⟩,t,pos,af,none⟩)) d (fs++[eY cx true e (nm+16*i) ⟨dst,.call ⟨.builtin .append,as,ts⟩,t,pos,af,none⟩]) ops r (i+1)):=propext Iff.rfl
theorem zV (as:Array Operand)(ts:Array TypeId):aC cx Q st nm e M d fs ops (⟨dst,.call ⟨.builtin .copy,as,ts⟩,t,pos,af,none⟩::r) i=(bv cx true e M ⟨dst,.call ⟨.builtin .copy,as,ts⟩,t,pos,af,none⟩ ∧
  aC cx Q st nm (e.putD dst (dh cx true e M (nm+16*i) ⟨dst,.call ⟨.builtin .copy,as,ts⟩,t,pos,af,none⟩)) (M.app (eu cx true e M (nm+16*i) ⟨dst,.call ⟨.builtin .copy,as,ts⟩,t,pos,af,none⟩)) d (fs++[eY cx true e (nm+16*i) ⟨dst,.call ⟨.builtin .copy,as,ts⟩,t,pos,af,none⟩]) ops r (i+1)):=propext Iff.rfl
theorem vF (b want:Bool)(x:Operand)(gd:Option (Nat×Bool)):aT cx Q st nm e M d fs (.bool b) want ops ⟨dst,.move x,t,pos,af,gd⟩ r i=(((b==want)=true→bv cx (b==want) e M ⟨dst,.move x,t,pos,af,gd⟩) ∧
  aC cx Q st nm (e.putD dst (.gd (b==want) (dh cx (b==want) e M (nm+16*i) ⟨dst,.move x,t,pos,af,gd⟩))) M d (fs++[eY cx (b==want) e (nm+16*i) ⟨dst,.move x,t,pos,af,gd⟩]) ops r (i+1)):=propext Iff.rfl
theorem rP (b want:Bool)(x:Operand)(gd:Option (Nat×Bool)):aT cx Q st nm e M d fs (.bool b) want ops ⟨dst,.assign x,t,pos,af,gd⟩ r i=(((b==want)=true→bv cx (b==want) e M ⟨dst,.assign x,t,pos,af,gd⟩) ∧
  aC cx Q st nm (e.putD dst (.gd (b==want) (dh cx (b==want) e M (nm+16*i) ⟨dst,.assign x,t,pos,af,gd⟩))) M d (fs++[eY cx (b==want) e (nm+16*i) ⟨dst,.assign x,t,pos,af,gd⟩]) ops r (i+1)):=propext Iff.rfl
theorem oS (b want:Bool)(x:Operand)(gd:Option (Nat×Bool)):aT cx Q st nm e M d fs (.bool b) want ops ⟨dst,.nilCheck x,t,pos,af,gd⟩ r i=(((b==want)=true→bv cx (b==want) e M ⟨dst,.nilCheck x,t,pos,af,gd⟩) ∧
  aC cx Q st nm (e.putD dst (.gd (b==want) (dh cx (b==want) e M (nm+16*i) ⟨dst,.nilCheck x,t,pos,af,gd⟩))) M d (fs++[eY cx (b==want) e (nm+16*i) ⟨dst,.nilCheck x,t,pos,af,gd⟩]) ops r (i+1)):=propext Iff.rfl
theorem vH (b want:Bool)(x y z:Operand)(gd:Option (Nat×Bool)):aT cx Q st nm e M d fs (.bool b) want ops ⟨dst,.pick x y z,t,pos,af,gd⟩ r i=(((b==want)=true→bv cx (b==want) e M ⟨dst,.pick x y z,t,pos,af,gd⟩) ∧
  aC cx Q st nm (e.putD dst (.gd (b==want) (dh cx (b==want) e M (nm+16*i) ⟨dst,.pick x y z,t,pos,af,gd⟩))) M d (fs++[eY cx (b==want) e (nm+16*i) ⟨dst,.pick x y z,t,pos,af,gd⟩]) ops r (i+1)):=propext Iff.rfl
theorem tx (b want:Bool)(ty:TypeId)(ps:Array (Nat×Operand))(gd:Option (Nat×Bool)):aT cx Q st nm e M d fs (.bool b) want ops ⟨dst,.build ty ps,t,pos,af,gd⟩ r i=(((b==want)=true→bv cx (b==want) e M ⟨dst,.build ty ps,t,pos,af,gd⟩) ∧
  aC cx Q st nm (e.putD dst (.gd (b==want) (dh cx (b==want) e M (nm+16*i) ⟨dst,.build ty ps,t,pos,af,gd⟩))) M d (fs++[eY cx (b==want) e (nm+16*i) ⟨dst,.build ty ps,t,pos,af,gd⟩]) ops r (i+1)):=propext Iff.rfl
theorem vE (b want:Bool)(ty:TypeId)(x:Operand)(gd:Option (Nat×Bool)):aT cx Q st nm e M d fs (.bool b) want ops ⟨dst,.load ty x,t,pos,af,gd⟩ r i=(((b==want)=true→bv cx (b==want) e M ⟨dst,.load ty x,t,pos,af,gd⟩) ∧
  aC cx Q st nm (e.putD dst (.gd (b==want) (dh cx (b==want) e M (nm+16*i) ⟨dst,.load ty x,t,pos,af,gd⟩))) M d (fs++[eY cx (b==want) e (nm+16*i) ⟨dst,.load ty x,t,pos,af,gd⟩]) ops r (i+1)):=propext Iff.rfl
theorem tv (b want:Bool)(o:BinOp)(ty:TypeId)(x y:Operand)(yt:TypeId)(gd:Option (Nat×Bool)):aT cx Q st nm e M d fs (.bool b) want ops ⟨dst,.binOp o ty x y yt,t,pos,af,gd⟩ r i=(((b==want)=true→bv cx (b==want) e M ⟨dst,.binOp o ty x y yt,t,pos,af,gd⟩) ∧
  aC cx Q st nm (e.putD dst (.gd (b==want) (dh cx (b==want) e M (nm+16*i) ⟨dst,.binOp o ty x y yt,t,pos,af,gd⟩))) M d (fs++[eY cx (b==want) e (nm+16*i) ⟨dst,.binOp o ty x y yt,t,pos,af,gd⟩]) ops r (i+1)):=propext Iff.rfl
theorem vI (b want:Bool)(o:UnOp)(ty:TypeId)(x:Operand)(gd:Option (Nat×Bool)):aT cx Q st nm e M d fs (.bool b) want ops ⟨dst,.unOp o ty x,t,pos,af,gd⟩ r i=(((b==want)=true→bv cx (b==want) e M ⟨dst,.unOp o ty x,t,pos,af,gd⟩) ∧
  aC cx Q st nm (e.putD dst (.gd (b==want) (dh cx (b==want) e M (nm+16*i) ⟨dst,.unOp o ty x,t,pos,af,gd⟩))) M d (fs++[eY cx (b==want) e (nm+16*i) ⟨dst,.unOp o ty x,t,pos,af,gd⟩]) ops r (i+1)):=propext Iff.rfl
theorem nP (b want:Bool)(ty:TypeId)(x:Operand)(f:Nat)(gd:Option (Nat×Bool)):aT cx Q st nm e M d fs (.bool b) want ops ⟨dst,.fieldAddr ty x f,t,pos,af,gd⟩ r i=(((b==want)=true→bv cx (b==want) e M ⟨dst,.fieldAddr ty x f,t,pos,af,gd⟩) ∧
  aC cx Q st nm (e.putD dst (.gd (b==want) (dh cx (b==want) e M (nm+16*i) ⟨dst,.fieldAddr ty x f,t,pos,af,gd⟩))) M d (fs++[eY cx (b==want) e (nm+16*i) ⟨dst,.fieldAddr ty x f,t,pos,af,gd⟩]) ops r (i+1)):=propext Iff.rfl
theorem tC (b want:Bool)(ty:TypeId)(x:Operand)(f:Nat)(gd:Option (Nat×Bool)):aT cx Q st nm e M d fs (.bool b) want ops ⟨dst,.field ty x f,t,pos,af,gd⟩ r i=(((b==want)=true→bv cx (b==want) e M ⟨dst,.field ty x f,t,pos,af,gd⟩) ∧
  aC cx Q st nm (e.putD dst (.gd (b==want) (dh cx (b==want) e M (nm+16*i) ⟨dst,.field ty x f,t,pos,af,gd⟩))) M d (fs++[eY cx (b==want) e (nm+16*i) ⟨dst,.field ty x f,t,pos,af,gd⟩]) ops r (i+1)):=propext Iff.rfl
theorem nQ (b want:Bool)(ty:TypeId)(x k:Operand)(gd:Option (Nat×Bool)):aT cx Q st nm e M d fs (.bool b) want ops ⟨dst,.indexAddr ty x k,t,pos,af,gd⟩ r i=(((b==want)=true→bv cx (b==want) e M ⟨dst,.indexAddr ty x k,t,pos,af,gd⟩) ∧
  aC cx Q st nm (e.putD dst (.gd (b==want) (dh cx (b==want) e M (nm+16*i) ⟨dst,.indexAddr ty x k,t,pos,af,gd⟩))) M d (fs++[eY cx (b==want) e (nm+16*i) ⟨dst,.indexAddr ty x k,t,pos,af,gd⟩]) ops r (i+1)):=propext Iff.rfl
theorem tD (b want:Bool)(ty:TypeId)(x k:Operand)(gd:Option (Nat×Bool)):aT cx Q st nm e M d fs (.bool b) want ops ⟨dst,.index ty x k,t,pos,af,gd⟩ r i=(((b==want)=true→bv cx (b==want) e M ⟨dst,.index ty x k,t,pos,af,gd⟩) ∧
  aC cx Q st nm (e.putD dst (.gd (b==want) (dh cx (b==want) e M (nm+16*i) ⟨dst,.index ty x k,t,pos,af,gd⟩))) M d (fs++[eY cx (b==want) e (nm+16*i) ⟨dst,.index ty x k,t,pos,af,gd⟩]) ops r (i+1)):=propext Iff.rfl
theorem qc (b want:Bool)(x:Operand)(k:Nat)(gd:Option (Nat×Bool)):aT cx Q st nm e M d fs (.bool b) want ops ⟨dst,.extract x k,t,pos,af,gd⟩ r i=(((b==want)=true→bv cx (b==want) e M ⟨dst,.extract x k,t,pos,af,gd⟩) ∧
  aC cx Q st nm (e.putD dst (.gd (b==want) (dh cx (b==want) e M (nm+16*i) ⟨dst,.extract x k,t,pos,af,gd⟩))) M d (fs++[eY cx (b==want) e (nm+16*i) ⟨dst,.extract x k,t,pos,af,gd⟩]) ops r (i+1)):=propext Iff.rfl
theorem oQ (b want:Bool)(f:FuncId)(a c:Array Operand)(gd:Option (Nat×Bool)):aT cx Q st nm e M d fs (.bool b) want ops ⟨dst,.makeFunc (.func f) a c,t,pos,af,gd⟩ r i=(((b==want)=true→bv cx (b==want) e M ⟨dst,.makeFunc (.func f) a c,t,pos,af,gd⟩) ∧
  aC cx Q st nm (e.putD dst (.gd (b==want) (dh cx (b==want) e M (nm+16*i) ⟨dst,.makeFunc (.func f) a c,t,pos,af,gd⟩))) M d (fs++[eY cx (b==want) e (nm+16*i) ⟨dst,.makeFunc (.func f) a c,t,pos,af,gd⟩]) ops r (i+1)):=propext Iff.rfl
theorem xC (b want:Bool)(as:Array Operand)(ts:Array TypeId)(gd:Option (Nat×Bool)):aT cx Q st nm e M d fs (.bool b) want ops ⟨dst,.call ⟨.builtin .len,as,ts⟩,t,pos,af,gd⟩ r i=(((b==want)=true→bv cx (b==want) e M ⟨dst,.call ⟨.builtin .len,as,ts⟩,t,pos,af,gd⟩) ∧
  aC cx Q st nm (e.putD dst (.gd (b==want) (dh cx (b==want) e M (nm+16*i) ⟨dst,.call ⟨.builtin .len,as,ts⟩,t,pos,af,gd⟩))) M d (fs++[eY cx (b==want) e (nm+16*i) ⟨dst,.call ⟨.builtin .len,as,ts⟩,t,pos,af,gd⟩]) ops r (i+1)):=propext Iff.rfl
theorem xD (b want:Bool)(as:Array Operand)(ts:Array TypeId)(gd:Option (Nat×Bool)):aT cx Q st nm e M d fs (.bool b) want ops ⟨dst,.call ⟨.builtin .max,as,ts⟩,t,pos,af,gd⟩ r i=(((b==want)=true→bv cx (b==want) e M ⟨dst,.call ⟨.builtin .max,as,ts⟩,t,pos,af,gd⟩) ∧
  aC cx Q st nm (e.putD dst (.gd (b==want) (dh cx (b==want) e M (nm+16*i) ⟨dst,.call ⟨.builtin .max,as,ts⟩,t,pos,af,gd⟩))) M d (fs++[eY cx (b==want) e (nm+16*i) ⟨dst,.call ⟨.builtin .max,as,ts⟩,t,pos,af,gd⟩]) ops r (i+1)):=propext Iff.rfl
theorem xE (b want:Bool)(as:Array Operand)(ts:Array TypeId)(gd:Option (Nat×Bool)):aT cx Q st nm e M d fs (.bool b) want ops ⟨dst,.call ⟨.builtin .min,as,ts⟩,t,pos,af,gd⟩ r i=(((b==want)=true→bv cx (b==want) e M ⟨dst,.call ⟨.builtin .min,as,ts⟩,t,pos,af,gd⟩) ∧
  aC cx Q st nm (e.putD dst (.gd (b==want) (dh cx (b==want) e M (nm+16*i) ⟨dst,.call ⟨.builtin .min,as,ts⟩,t,pos,af,gd⟩))) M d (fs++[eY cx (b==want) e (nm+16*i) ⟨dst,.call ⟨.builtin .min,as,ts⟩,t,pos,af,gd⟩]) ops r (i+1)):=propext Iff.rfl
theorem xA (b want:Bool)(as:Array Operand)(ts:Array TypeId)(gd:Option (Nat×Bool)):aT cx Q st nm e M d fs (.bool b) want ops ⟨dst,.call ⟨.builtin .cap,as,ts⟩,t,pos,af,gd⟩ r i=(((b==want)=true→bv cx (b==want) e M ⟨dst,.call ⟨.builtin .cap,as,ts⟩,t,pos,af,gd⟩) ∧
  aC cx Q st nm (e.putD dst (.gd (b==want) (dh cx (b==want) e M (nm+16*i) ⟨dst,.call ⟨.builtin .cap,as,ts⟩,t,pos,af,gd⟩))) M d (fs++[eY cx (b==want) e (nm+16*i) ⟨dst,.call ⟨.builtin .cap,as,ts⟩,t,pos,af,gd⟩]) ops r (i+1)):=propext Iff.rfl
theorem tu (b want:Bool)(ty:TypeId)(gd:Option (Nat×Bool)):aT cx Q st nm e M d fs (.bool b) want ops ⟨dst,.alloc ty,t,pos,af,gd⟩ r i=(((b==want)=true→bv cx true e M ⟨dst,.alloc ty,t,pos,af,gd⟩ ∧
  aC cx Q st nm (e.putD dst (dh cx true e M (nm+16*i) ⟨dst,.alloc ty,t,pos,af,gd⟩)) (M.app (eu cx true e M (nm+16*i) ⟨dst,.alloc ty,t,pos,af,gd⟩)) d (fs++[eY cx true e (nm+16*i) ⟨dst,.alloc ty,t,pos,af,gd⟩]) ops r (i+1))∧((b==want)=false→aC cx Q st nm (e.putD dst .any) M d (fs++[[]]) ops r (i+1))):=propext Iff.rfl
theorem xz (b want:Bool)(ty:TypeId)(x:Operand)(gd:Option (Nat×Bool)):aT cx Q st nm e M d fs (.bool b) want ops ⟨dst,.box ty x,t,pos,af,gd⟩ r i=(((b==want)=true→bv cx true e M ⟨dst,.box ty x,t,pos,af,gd⟩ ∧
  aC cx Q st nm (e.putD dst (dh cx true e M (nm+16*i) ⟨dst,.box ty x,t,pos,af,gd⟩)) (M.app (eu cx true e M (nm+16*i) ⟨dst,.box ty x,t,pos,af,gd⟩)) d (fs++[eY cx true e (nm+16*i) ⟨dst,.box ty x,t,pos,af,gd⟩]) ops r (i+1))∧((b==want)=false→aC cx Q st nm (e.putD dst .any) M d (fs++[[]]) ops r (i+1))):=propext Iff.rfl
theorem mX (b want:Bool)(ty:TypeId)(n:Nat)(ps:Array (Nat×Operand))(gd:Option (Nat×Bool)):aT cx Q st nm e M d fs (.bool b) want ops ⟨dst,.buildSlice ty n ps,t,pos,af,gd⟩ r i=(((b==want)=true→bv cx true e M ⟨dst,.buildSlice ty n ps,t,pos,af,gd⟩ ∧
  aC cx Q st nm (e.putD dst (dh cx true e M (nm+16*i) ⟨dst,.buildSlice ty n ps,t,pos,af,gd⟩)) (M.app (eu cx true e M (nm+16*i) ⟨dst,.buildSlice ty n ps,t,pos,af,gd⟩)) d (fs++[eY cx true e (nm+16*i) ⟨dst,.buildSlice ty n ps,t,pos,af,gd⟩]) ops r (i+1))∧((b==want)=false→aC cx Q st nm (e.putD dst .any) M d (fs++[[]]) ops r (i+1))):=propext Iff.rfl
theorem tG (b want:Bool)(ty:TypeId)(x v:Operand)(gd:Option (Nat×Bool)):aT cx Q st nm e M d fs (.bool b) want ops ⟨dst,.store ty x v,t,pos,af,gd⟩ r i=(((b==want)=true→bv cx true e M ⟨dst,.store ty x v,t,pos,af,gd⟩ ∧
  aC cx Q st nm (e.putD dst (dh cx true e M (nm+16*i) ⟨dst,.store ty x v,t,pos,af,gd⟩)) (M.app (eu cx true e M (nm+16*i) ⟨dst,.store ty x v,t,pos,af,gd⟩)) d (fs++[eY cx true e (nm+16*i) ⟨dst,.store ty x v,t,pos,af,gd⟩]) ops r (i+1))∧((b==want)=false→aC cx Q st nm (e.putD dst .any) M d (fs++[[]]) ops r (i+1))):=propext Iff.rfl
theorem rO (b want:Bool)(as:Array Operand)(ts:Array TypeId)(gd:Option (Nat×Bool)):aT cx Q st nm e M d fs (.bool b) want ops ⟨dst,.call ⟨.builtin .append,as,ts⟩,t,pos,af,gd⟩ r i=(((b==want)=true→bv cx true e M ⟨dst,.call ⟨.builtin .append,as,ts⟩,t,pos,af,gd⟩ ∧
  aC cx Q st nm (e.putD dst (dh cx true e M (nm+16*i) ⟨dst,.call ⟨.builtin .append,as,ts⟩,t,pos,af,gd⟩)) (M.app (eu cx true e M (nm+16*i) ⟨dst,.call ⟨.builtin .append,as,ts⟩,t,pos,af,gd⟩)) d (fs++[eY cx true e (nm+16*i) ⟨dst,.call ⟨.builtin .append,as,ts⟩,t,pos,af,gd⟩]) ops r (i+1))∧((b==want)=false→aC cx Q st nm (e.putD dst .any) M d (fs++[[]]) ops r (i+1))):=propext Iff.rfl
theorem vD (b want:Bool)(as:Array Operand)(ts:Array TypeId)(gd:Option (Nat×Bool)):aT cx Q st nm e M d fs (.bool b) want ops ⟨dst,.call ⟨.builtin .copy,as,ts⟩,t,pos,af,gd⟩ r i=(((b==want)=true→bv cx true e M ⟨dst,.call ⟨.builtin .copy,as,ts⟩,t,pos,af,gd⟩ ∧
  aC cx Q st nm (e.putD dst (dh cx true e M (nm+16*i) ⟨dst,.call ⟨.builtin .copy,as,ts⟩,t,pos,af,gd⟩)) (M.app (eu cx true e M (nm+16*i) ⟨dst,.call ⟨.builtin .copy,as,ts⟩,t,pos,af,gd⟩)) d (fs++[eY cx true e (nm+16*i) ⟨dst,.call ⟨.builtin .copy,as,ts⟩,t,pos,af,gd⟩]) ops r (i+1))∧((b==want)=false→aC cx Q st nm (e.putD dst .any) M d (fs++[[]]) ops r (i+1))):=propext Iff.rfl
theorem qg (ty:TypeId)(x y:Operand):aC cx Q st nm e M d fs ops (⟨dst,.makeSlice ty x y,t,pos,af,none⟩::r) i=bJ cx Q st nm e M d fs ops ⟨dst,.makeSlice ty x y,t,pos,af,none⟩ r i:=propext Iff.rfl
theorem nR (b want:Bool)(ty:TypeId)(x y:Operand)(gd:Option (Nat×Bool)):aT cx Q st nm e M d fs (.bool b) want ops ⟨dst,.makeSlice ty x y,t,pos,af,gd⟩ r i=cL cx Q st nm e M d fs (b==want) ops ⟨dst,.makeSlice ty x y,t,pos,af,gd⟩ r i:=propext Iff.rfl
theorem rU (ty:TypeId)(x:Operand):aC cx Q st nm e M d fs ops (⟨dst,.makeChan ty x,t,pos,af,none⟩::r) i=bJ cx Q st nm e M d fs ops ⟨dst,.makeChan ty x,t,pos,af,none⟩ r i:=propext Iff.rfl
theorem oP (b want:Bool)(ty:TypeId)(x:Operand)(gd:Option (Nat×Bool)):aT cx Q st nm e M d fs (.bool b) want ops ⟨dst,.makeChan ty x,t,pos,af,gd⟩ r i=cL cx Q st nm e M d fs (b==want) ops ⟨dst,.makeChan ty x,t,pos,af,gd⟩ r i:=propext Iff.rfl
theorem tJ (ty:TypeId)(x:Option Operand):aC cx Q st nm e M d fs ops (⟨dst,.makeMap ty x,t,pos,af,none⟩::r) i=bJ cx Q st nm e M d fs ops ⟨dst,.makeMap ty x,t,pos,af,none⟩ r i:=propext Iff.rfl
theorem qd (b want:Bool)(ty:TypeId)(x:Option Operand)(gd:Option (Nat×Bool)):aT cx Q st nm e M d fs (.bool b) want ops ⟨dst,.makeMap ty x,t,pos,af,gd⟩ r i=cL cx Q st nm e M d fs (b==want) ops ⟨dst,.makeMap ty x,t,pos,af,gd⟩ r i:=propext Iff.rfl
theorem mn (ty:TypeId)(x:Operand):aC cx Q st nm e M d fs ops (⟨dst,.makeInterface ty x,t,pos,af,none⟩::r) i=bJ cx Q st nm e M d fs ops ⟨dst,.makeInterface ty x,t,pos,af,none⟩ r i:=propext Iff.rfl
theorem kO (b want:Bool)(ty:TypeId)(x:Operand)(gd:Option (Nat×Bool)):aT cx Q st nm e M d fs (.bool b) want ops ⟨dst,.makeInterface ty x,t,pos,af,gd⟩ r i=cL cx Q st nm e M d fs (b==want) ops ⟨dst,.makeInterface ty x,t,pos,af,gd⟩ r i:=propext Iff.rfl
theorem oW (x:Operand)(ty ty2:TypeId)(ok:Bool):aC cx Q st nm e M d fs ops (⟨dst,.typeAssert x ty ty2 ok,t,pos,af,none⟩::r) i=bJ cx Q st nm e M d fs ops ⟨dst,.typeAssert x ty ty2 ok,t,pos,af,none⟩ r i:=propext Iff.rfl
theorem mZ (b want:Bool)(x:Operand)(ty ty2:TypeId)(ok:Bool)(gd:Option (Nat×Bool)):aT cx Q st nm e M d fs (.bool b) want ops ⟨dst,.typeAssert x ty ty2 ok,t,pos,af,gd⟩ r i=cL cx Q st nm e M d fs (b==want) ops ⟨dst,.typeAssert x ty ty2 ok,t,pos,af,gd⟩ r i:=propext Iff.rfl
theorem vN (ty:TypeId)(x y:Operand)(ok:Bool):aC cx Q st nm e M d fs ops (⟨dst,.lookup ty x y ok,t,pos,af,none⟩::r) i=bJ cx Q st nm e M d fs ops ⟨dst,.lookup ty x y ok,t,pos,af,none⟩ r i:=propext Iff.rfl
theorem rT (b want:Bool)(ty:TypeId)(x y:Operand)(ok:Bool)(gd:Option (Nat×Bool)):aT cx Q st nm e M d fs (.bool b) want ops ⟨dst,.lookup ty x y ok,t,pos,af,gd⟩ r i=cL cx Q st nm e M d fs (b==want) ops ⟨dst,.lookup ty x y ok,t,pos,af,gd⟩ r i:=propext Iff.rfl
theorem qh (ty:TypeId)(x y z:Operand):aC cx Q st nm e M d fs ops (⟨dst,.mapUpdate ty x y z,t,pos,af,none⟩::r) i=bJ cx Q st nm e M d fs ops ⟨dst,.mapUpdate ty x y z,t,pos,af,none⟩ r i:=propext Iff.rfl
theorem nS (b want:Bool)(ty:TypeId)(x y z:Operand)(gd:Option (Nat×Bool)):aT cx Q st nm e M d fs (.bool b) want ops ⟨dst,.mapUpdate ty x y z,t,pos,af,gd⟩ r i=cL cx Q st nm e M d fs (b==want) ops ⟨dst,.mapUpdate ty x y z,t,pos,af,gd⟩ r i:=propext Iff.rfl
theorem rW (ty:TypeId)(x y:Operand):aC cx Q st nm e M d fs ops (⟨dst,.mapEntry ty x y,t,pos,af,none⟩::r) i=bJ cx Q st nm e M d fs ops ⟨dst,.mapEntry ty x y,t,pos,af,none⟩ r i:=propext Iff.rfl
theorem oR (b want:Bool)(ty:TypeId)(x y:Operand)(gd:Option (Nat×Bool)):aT cx Q st nm e M d fs (.bool b) want ops ⟨dst,.mapEntry ty x y,t,pos,af,gd⟩ r i=cL cx Q st nm e M d fs (b==want) ops ⟨dst,.mapEntry ty x y,t,pos,af,gd⟩ r i:=propext Iff.rfl
theorem oV (ty:TypeId)(x y z:Operand):aC cx Q st nm e M d fs ops (⟨dst,.entryStore ty x y z,t,pos,af,none⟩::r) i=bJ cx Q st nm e M d fs ops ⟨dst,.entryStore ty x y z,t,pos,af,none⟩ r i:=propext Iff.rfl
theorem mY (b want:Bool)(ty:TypeId)(x y z:Operand)(gd:Option (Nat×Bool)):aT cx Q st nm e M d fs (.bool b) want ops ⟨dst,.entryStore ty x y z,t,pos,af,gd⟩ r i=cL cx Q st nm e M d fs (b==want) ops ⟨dst,.entryStore ty x y z,t,pos,af,gd⟩ r i:=propext Iff.rfl
theorem vM (ty:TypeId)(x y z:Operand):aC cx Q st nm e M d fs ops (⟨dst,.insert ty x y z,t,pos,af,none⟩::r) i=bJ cx Q st nm e M d fs ops ⟨dst,.insert ty x y z,t,pos,af,none⟩ r i:=propext Iff.rfl
theorem rS (b want:Bool)(ty:TypeId)(x y z:Operand)(gd:Option (Nat×Bool)):aT cx Q st nm e M d fs (.bool b) want ops ⟨dst,.insert ty x y z,t,pos,af,gd⟩ r i=cL cx Q st nm e M d fs (b==want) ops ⟨dst,.insert ty x y z,t,pos,af,gd⟩ r i:=propext Iff.rfl
theorem xP (ty:TypeId)(x:Operand):aC cx Q st nm e M d fs ops (⟨dst,.range ty x,t,pos,af,none⟩::r) i=bJ cx Q st nm e M d fs ops ⟨dst,.range ty x,t,pos,af,none⟩ r i:=propext Iff.rfl
theorem tE (b want:Bool)(ty:TypeId)(x:Operand)(gd:Option (Nat×Bool)):aT cx Q st nm e M d fs (.bool b) want ops ⟨dst,.range ty x,t,pos,af,gd⟩ r i=cL cx Q st nm e M d fs (b==want) ops ⟨dst,.range ty x,t,pos,af,gd⟩ r i:=propext Iff.rfl
theorem zY (x:Operand)(s:Bool):aC cx Q st nm e M d fs ops (⟨dst,.next x s,t,pos,af,none⟩::r) i=bJ cx Q st nm e M d fs ops ⟨dst,.next x s,t,pos,af,none⟩ r i:=propext Iff.rfl
theorem vG (b want:Bool)(x:Operand)(s:Bool)(gd:Option (Nat×Bool)):aT cx Q st nm e M d fs (.bool b) want ops ⟨dst,.next x s,t,pos,af,gd⟩ r i=cL cx Q st nm e M d fs (b==want) ops ⟨dst,.next x s,t,pos,af,gd⟩ r i:=propext Iff.rfl
theorem xL (x:Operand):aC cx Q st nm e M d fs ops (⟨dst,.entry x,t,pos,af,none⟩::r) i=bJ cx Q st nm e M d fs ops ⟨dst,.entry x,t,pos,af,none⟩ r i:=propext Iff.rfl
theorem tB (b want:Bool)(x:Operand)(gd:Option (Nat×Bool)):aT cx Q st nm e M d fs (.bool b) want ops ⟨dst,.entry x,t,pos,af,gd⟩ r i=cL cx Q st nm e M d fs (b==want) ops ⟨dst,.entry x,t,pos,af,gd⟩ r i:=propext Iff.rfl
theorem xK (as:Array Operand)(ts:Array TypeId):aC cx Q st nm e M d fs ops (⟨dst,.call ⟨.builtin .close,as,ts⟩,t,pos,af,none⟩::r) i=bJ cx Q st nm e M d fs ops ⟨dst,.call ⟨.builtin .close,as,ts⟩,t,pos,af,none⟩ r i:=propext Iff.rfl
theorem tA (b want:Bool)(as:Array Operand)(ts:Array TypeId)(gd:Option (Nat×Bool)):aT cx Q st nm e M d fs (.bool b) want ops ⟨dst,.call ⟨.builtin .close,as,ts⟩,t,pos,af,gd⟩ r i=cL cx Q st nm e M d fs (b==want) ops ⟨dst,.call ⟨.builtin .close,as,ts⟩,t,pos,af,gd⟩ r i:=propext Iff.rfl
theorem vL (as:Array Operand)(ts:Array TypeId):aC cx Q st nm e M d fs ops (⟨dst,.call ⟨.builtin .delete,as,ts⟩,t,pos,af,none⟩::r) i=bJ cx Q st nm e M d fs ops ⟨dst,.call ⟨.builtin .delete,as,ts⟩,t,pos,af,none⟩ r i:=propext Iff.rfl
theorem rQ (b want:Bool)(as:Array Operand)(ts:Array TypeId)(gd:Option (Nat×Bool)):aT cx Q st nm e M d fs (.bool b) want ops ⟨dst,.call ⟨.builtin .delete,as,ts⟩,t,pos,af,gd⟩ r i=cL cx Q st nm e M d fs (b==want) ops ⟨dst,.call ⟨.builtin .delete,as,ts⟩,t,pos,af,gd⟩ r i:=propext Iff.rfl
theorem xJ (as:Array Operand)(ts:Array TypeId):aC cx Q st nm e M d fs ops (⟨dst,.call ⟨.builtin .clear,as,ts⟩,t,pos,af,none⟩::r) i=bJ cx Q st nm e M d fs ops ⟨dst,.call ⟨.builtin .clear,as,ts⟩,t,pos,af,none⟩ r i:=propext Iff.rfl
theorem tz (b want:Bool)(as:Array Operand)(ts:Array TypeId)(gd:Option (Nat×Bool)):aT cx Q st nm e M d fs (.bool b) want ops ⟨dst,.call ⟨.builtin .clear,as,ts⟩,t,pos,af,gd⟩ r i=cL cx Q st nm e M d fs (b==want) ops ⟨dst,.call ⟨.builtin .clear,as,ts⟩,t,pos,af,gd⟩ r i:=propext Iff.rfl
theorem m7 (as:Array Operand)(ts:Array TypeId):aC cx Q st nm e M d fs ops (⟨dst,.call ⟨.builtin .unsafeString,as,ts⟩,t,pos,af,none⟩::r) i=bJ cx Q st nm e M d fs ops ⟨dst,.call ⟨.builtin .unsafeString,as,ts⟩,t,pos,af,none⟩ r i:=propext Iff.rfl
theorem lm (b want:Bool)(as:Array Operand)(ts:Array TypeId)(gd:Option (Nat×Bool)):aT cx Q st nm e M d fs (.bool b) want ops ⟨dst,.call ⟨.builtin .unsafeString,as,ts⟩,t,pos,af,gd⟩ r i=cL cx Q st nm e M d fs (b==want) ops ⟨dst,.call ⟨.builtin .unsafeString,as,ts⟩,t,pos,af,gd⟩ r i:=propext Iff.rfl
theorem kP (as:Array Operand)(ts:Array TypeId):aC cx Q st nm e M d fs ops (⟨dst,.call ⟨.builtin .unsafeSliceData,as,ts⟩,t,pos,af,none⟩::r) i=bJ cx Q st nm e M d fs ops ⟨dst,.call ⟨.builtin .unsafeSliceData,as,ts⟩,t,pos,af,none⟩ r i:=propext Iff.rfl
theorem jE (b want:Bool)(as:Array Operand)(ts:Array TypeId)(gd:Option (Nat×Bool)):aT cx Q st nm e M d fs (.bool b) want ops ⟨dst,.call ⟨.builtin .unsafeSliceData,as,ts⟩,t,pos,af,gd⟩ r i=cL cx Q st nm e M d fs (b==want) ops ⟨dst,.call ⟨.builtin .unsafeSliceData,as,ts⟩,t,pos,af,gd⟩ r i:=propext Iff.rfl
theorem ke (as:Array Operand)(ts:Array TypeId):aC cx Q st nm e M d fs ops (⟨dst,.call ⟨.builtin .unsafeStringData,as,ts⟩,t,pos,af,none⟩::r) i=bJ cx Q st nm e M d fs ops ⟨dst,.call ⟨.builtin .unsafeStringData,as,ts⟩,t,pos,af,none⟩ r i:=propext Iff.rfl
theorem jr (b want:Bool)(as:Array Operand)(ts:Array TypeId)(gd:Option (Nat×Bool)):aT cx Q st nm e M d fs (.bool b) want ops ⟨dst,.call ⟨.builtin .unsafeStringData,as,ts⟩,t,pos,af,gd⟩ r i=cL cx Q st nm e M d fs (b==want) ops ⟨dst,.call ⟨.builtin .unsafeStringData,as,ts⟩,t,pos,af,gd⟩ r i:=propext Iff.rfl
theorem nT (as:Array Operand)(ts:Array TypeId):aC cx Q st nm e M d fs ops (⟨dst,.call ⟨.builtin .unsafeSlice,as,ts⟩,t,pos,af,none⟩::r) i=bJ cx Q st nm e M d fs ops ⟨dst,.call ⟨.builtin .unsafeSlice,as,ts⟩,t,pos,af,none⟩ r i:=propext Iff.rfl
theorem ml (b want:Bool)(as:Array Operand)(ts:Array TypeId)(gd:Option (Nat×Bool)):aT cx Q st nm e M d fs (.bool b) want ops ⟨dst,.call ⟨.builtin .unsafeSlice,as,ts⟩,t,pos,af,gd⟩ r i=cL cx Q st nm e M d fs (b==want) ops ⟨dst,.call ⟨.builtin .unsafeSlice,as,ts⟩,t,pos,af,gd⟩ r i:=propext Iff.rfl
theorem z5 (x y:Operand):aC cx Q st nm e M d fs ops (⟨dst,.send x y,t,pos,af,none⟩::r) i=zT cx Q st nm e M d fs ops ⟨dst,.send x y,t,pos,af,none⟩ r i:=propext Iff.rfl
theorem z4 (ty:TypeId)(x:Operand)(ok:Bool):aC cx Q st nm e M d fs ops (⟨dst,.recv ty x ok,t,pos,af,none⟩::r) i=zT cx Q st nm e M d fs ops ⟨dst,.recv ty x ok,t,pos,af,none⟩ r i:=propext Iff.rfl
theorem vO (cs:Array SelectCase)(bl:Bool):aC cx Q st nm e M d fs ops (⟨dst,.select cs bl,t,pos,af,none⟩::r) i=zT cx Q st nm e M d fs ops ⟨dst,.select cs bl,t,pos,af,none⟩ r i:=propext Iff.rfl
theorem tH (ts td:TypeId)(x:Operand):aC cx Q st nm e M d fs ops (⟨dst,.convert ts td x,t,pos,af,none⟩::r) i=if gy (cx.P.underlying ts) (cx.P.underlying td)=true then bJ cx Q st nm e M d fs ops ⟨dst,.convert ts td x,t,pos,af,none⟩ r i else (bv cx true e M ⟨dst,.convert ts td x,t,pos,af,none⟩ ∧
  aC cx Q st nm (e.putD dst (dh cx true e M (nm+16*i) ⟨dst,.convert ts td x,t,pos,af,none⟩)) M d (fs++[eY cx true e (nm+16*i) ⟨dst,.convert ts td x,t,pos,af,none⟩]) ops r (i+1)):=by
 unfold aC bJ
 simp only[bX,e9,iD,gb,Bool.false_eq_true,if_false]
 split<;>rfl
theorem qb (b want:Bool)(ts td:TypeId)(x:Operand)(gd:Option (Nat×Bool)):aT cx Q st nm e M d fs (.bool b) want ops ⟨dst,.convert ts td x,t,pos,af,gd⟩ r i=if gy (cx.P.underlying ts) (cx.P.underlying td)=true then cL cx Q st nm e M d fs (b==want) ops ⟨dst,.convert ts td x,t,pos,af,gd⟩ r i else (((b==want)=true→bv cx (b==want) e M ⟨dst,.convert ts td x,t,pos,af,gd⟩) ∧
  aC cx Q st nm (e.putD dst (.gd (b==want) (dh cx (b==want) e M (nm+16*i) ⟨dst,.convert ts td x,t,pos,af,gd⟩))) M d (fs++[eY cx (b==want) e (nm+16*i) ⟨dst,.convert ts td x,t,pos,af,gd⟩]) ops r (i+1)):=by
 unfold aT
 simp only[iC,e9,iD,mq,Bool.false_eq_true,if_false,if_true]
theorem xg (k:IntKind)(x:Option TypeDesc):gy (some (.int k)) x=false:=rfl
theorem rD (k:IntKind)(x:Option TypeDesc):gy x (some (.int k))=false:=by rcases x with _|x<;>first|rfl|(cases x<;>rfl)
theorem zG:gy (some .string) (some .string)=false:=rfl
theorem zF (e:TypeId):gy (some .string) (some (.slice e))=true:=rfl
theorem zD (e:TypeId):gy (some (.slice e)) (some .string)=true:=rfl
theorem zE (e:TypeId):gy (some (.pointer e)) (some .unsafePointer)=true:=rfl
theorem zH (e:TypeId):gy (some .unsafePointer) (some (.pointer e))=true:=rfl
theorem xQ (ty:TypeId)(x:Operand)(l h m:Option Operand):aC cx Q st nm e M d fs ops (⟨dst,.slice ty x l h m,t,pos,af,none⟩::r) i=if Cf (cx.P.underlying ty)=true then bJ cx Q st nm e M d fs ops ⟨dst,.slice ty x l h m,t,pos,af,none⟩ r i else (bv cx true e M ⟨dst,.slice ty x l h m,t,pos,af,none⟩ ∧
  aC cx Q st nm (e.putD dst (dh cx true e M (nm+16*i) ⟨dst,.slice ty x l h m,t,pos,af,none⟩)) M d (fs++[eY cx true e (nm+16*i) ⟨dst,.slice ty x l h m,t,pos,af,none⟩]) ops r (i+1)):=by
 unfold aC bJ
 simp only[bX,e9,iD,gb,Bool.false_eq_true,if_false]
 split<;>rfl
theorem tF (b want:Bool)(ty:TypeId)(x:Operand)(l h m:Option Operand)(gd:Option (Nat×Bool)):aT cx Q st nm e M d fs (.bool b) want ops ⟨dst,.slice ty x l h m,t,pos,af,gd⟩ r i=if Cf (cx.P.underlying ty)=true then cL cx Q st nm e M d fs (b==want) ops ⟨dst,.slice ty x l h m,t,pos,af,gd⟩ r i else (((b==want)=true→bv cx (b==want) e M ⟨dst,.slice ty x l h m,t,pos,af,gd⟩) ∧
  aC cx Q st nm (e.putD dst (.gd (b==want) (dh cx (b==want) e M (nm+16*i) ⟨dst,.slice ty x l h m,t,pos,af,gd⟩))) M d (fs++[eY cx (b==want) e (nm+16*i) ⟨dst,.slice ty x l h m,t,pos,af,gd⟩]) ops r (i+1)):=by
 unfold aT
 simp only[iC,e9,iD,mq,Bool.false_eq_true,if_false,if_true]
theorem ET:Cf (some .string)=false:=rfl
theorem HI (e:TypeId):Cf (some (.slice e))=false:=rfl
theorem ES (n:Nat)(e:TypeId):Cf (some (.array n e))=true:=rfl
theorem vC (d:Bool)(fs:List (List Nat))(b want:Bool)(ops:List Oper)(dst:Option Tmp)(f:Operand)(as:Array Operand)(ts:Array TypeId)(t:TypeId)(pos:String)(af:Array Edge)(r:List Oper)(i:Nat)(gd:Option (Nat×Bool)) :
  aT cx Q st nm e M d fs (.bool b) want ops ⟨dst,.call ⟨.value f,as,ts⟩,t,pos,af,gd⟩ r i=dK cx Q st nm e M d fs (b==want) ops ⟨dst,.call ⟨.value f,as,ts⟩,t,pos,af,gd⟩ r i:=propext Iff.rfl
end
end Go.Proofs.YtcllbjanalhjgaaGreatDoor.Vm
namespace Go.Proofs.YtcllbjanalhjgaaGreatDoor.Vm
open And renaming intro→Ai
set_option linter.unusedSimpArgs false
set_option linter.unusedVariables false
open Go Go.RowKit
set_option linter.defProp false
def N0 :=
 (Ai (Ai (Ai (Ai @ET (Ai @HI @ES)) (Ai @zH (Ai @zE @iU.eq_1))) (Ai (Ai @iU.eq_2 (Ai @iU.eq_3 @iU.eq_4)) (Ai @Blk.ty_typed (Ai @Blk.ty_plain @ck)))) (Ai (Ai (Ai @Ct (Ai @y9.eq_1 @zD)) (Ai @zF (Ai @zG @rD))) (Ai (Ai @xg (Ai @vO @z4)) (Ai @z5 (Ai @ml @nT)))))
def N1 :=
 (Ai (Ai (Ai (Ai @jr (Ai @ke @jE)) (Ai @kP (Ai @lm @m7))) (Ai (Ai @tz (Ai @xJ @rQ)) (Ai @vL (Ai @tA @xK)))) (Ai (Ai (Ai @tB (Ai @xL @vG)) (Ai @zY (Ai @tE @xP))) (Ai (Ai @rS (Ai @vM @mY)) (Ai @oV (Ai @oR @rW)))))
def N2 :=
 (Ai (Ai (Ai (Ai @nS (Ai @qh @rT)) (Ai @vN (Ai @mZ @oW))) (Ai (Ai @kO (Ai @mn @qd)) (Ai @tJ (Ai @oP @rU)))) (Ai (Ai (Ai @nR (Ai @qg @rR)) (Ai @xB (Ai @vC @rO))) (Ai (Ai @tG (Ai @mX @xz)) (Ai @tu (Ai @xE @xD)))))
def N3 :=
 (Ai (Ai (Ai (Ai @xC (Ai @oQ @qc)) (Ai @tD (Ai @nQ @tC))) (Ai (Ai @nP (Ai @tF @qb)) (Ai @vI (Ai @tv @vE)))) (Ai (Ai (Ai @tx (Ai @vH @oS)) (Ai @rP (Ai @vF @vJ))) (Ai (Ai @xR (Ai @oU @De)) (Ai @xG (Ai @Di @Dh)))))
def N4 :=
 (Ai (Ai (Ai (Ai @Dg (Ai @rV @tI)) (Ai @xO (Ai @qf @xM))) (Ai (Ai @qe (Ai @xQ @tH)) (Ai @z6 (Ai @xH @zW)))) (Ai (Ai (Ai @xI (Ai @zZ @rX)) (Ai @vK (Ai @zX @IB))) (Ai (Ai @FM (Ai @Iz @Le)) (Ai @Lf (Ai @FK @Iy)))))
def N5 :=
 (Ai (Ai (Ai (Ai @IA (Ai @Dk @gN)) (Ai @Dd (Ai @rN @tn))) (Ai (Ai @FI (Ai @tm @vA)) (Ai @qa (Ai @rM @Dj)))) (Ai (Ai (Ai @rY (Ai @zU @xN)) (Ai @e9.eq_1 (Ai @e9.eq_2 @e9.eq_3))) (Ai (Ai @mq.eq_1 (Ai @mq.eq_2 @mq.eq_3)) (Ai @mq.eq_4 (Ai @mq.eq_5 @mq.eq_6)))))
def N6 :=
 (Ai (Ai (Ai (Ai @mq.eq_7 (Ai @mq.eq_8 @mq.eq_9)) (Ai @mq.eq_10 (Ai @mq.eq_11 @gY.eq_1))) (Ai (Ai @D1 (Ai @DZ @LN)) (Ai @tP (Ai @mC @En)))) (Ai (Ai (Ai @A0 (Ai @Er @Ew)) (Ai @A2 (Ai @Eu @Ha))) (Ai (Ai @A3 (Ai @Hb @Et)) (Ai @G8 (Ai @Em @Ey)))))
def N7 :=
 (Ai (Ai (Ai (Ai @EA (Ai @DX @GL)) (Ai @Jh (Ai @DW @GM))) (Ai (Ai @ge_iff_le.{0} (Ai @gt_iff_lt.{0} @kL.eq_1)) (Ai @kL.eq_2 (Ai @wj.eq_1 @wj.eq_2)))) (Ai (Ai (Ai @kR.eq_1 (Ai @kR.eq_2 @uP.eq_1)) (Ai @uP.eq_2 (Ai @V.fin.eq_1 @V.fin.eq_2))) (Ai (Ai @V.fin.eq_3 (Ai @V.fin.eq_4 @V.fin.eq_5)) (Ai @V.fin.eq_6 (Ai @V.fin.eq_7 @V.fin.eq_8)))))
def N8 :=
 (Ai (Ai (Ai (Ai @V.fin.eq_9 (Ai @V.fin.eq_10 @V.fin.eq_11)) (Ai @V.fin.eq_12 (Ai @V.finOk.eq_1 @V.finOk.eq_2))) (Ai (Ai @V.finOk.eq_3 (Ai @V.finOk.eq_4 @V.finOk.eq_5)) (Ai @V.finOk.eq_6 (Ai @V.finOk.eq_7 @V.finOk.eq_8)))) (Ai (Ai (Ai @V.finOk.eq_9 (Ai @V.finOk.eq_10 @V.finOk.eq_11)) (Ai @V.finOk.eq_12 (Ai @finL.eq_1 @finL.eq_2))) (Ai (Ai @finLOk.eq_1 (Ai @finLOk.eq_2 @V.plain.eq_1)) (Ai @V.plain.eq_2 (Ai @V.plain.eq_3 @V.plain.eq_4)))))
def N9 :=
 (Ai (Ai (Ai (Ai @V.plain.eq_5 (Ai @V.plain.eq_6 @V.plain.eq_7)) (Ai @V.plain.eq_8 (Ai @V.plain.eq_9 @V.plain.eq_10))) (Ai (Ai @V.plain.eq_11 (Ai @V.plain.eq_12 @V.plain.eq_13)) (Ai @V.plain.eq_14 (Ai @plainL.eq_1 @plainL.eq_2)))) (Ai (Ai (Ai @plainLL.eq_1 (Ai @plainLL.eq_2 @Cp)) (Ai @zg (Ai @wF @EQ))) (Ai (Ai @HH (Ai @wL @I0)) (Ai @LD (Ai @bv.eq_1 @dh.eq_1)))))
def NA :=
 (Ai (Ai (Ai (Ai @BK.eq_1 (Ai @BK.eq_2 @eu.eq_1)) (Ai @eY.eq_1 (Ai @br.eq_1 @br.eq_2))) (Ai (Ai @br.eq_3 (Ai @br.eq_4 @br.eq_5)) (Ai @List.flatMap_cons.{0,0} (Ai @List.flatMap_nil.{0,0} @aA.eq_1)))) (Ai (Ai (Ai @aA.eq_2 (Ai @aA.eq_3 @aA.eq_4)) (Ai @Jc.eq_1 (Ai @Jc.eq_2 @kQ.eq_1))) (Ai (Ai @kQ.eq_2 (Ai @kQ.eq_3 @kQ.eq_4)) (Ai @kQ.eq_5 (Ai @kQ.eq_6 @jG.eq_1)))))
def NB :=
 (Ai (Ai (Ai (Ai @jG.eq_2 (Ai @gi.eq_1 @bP.eq_1)) (Ai @bP.eq_2 (Ai @bP.eq_3 @bP.eq_4))) (Ai (Ai @bP.eq_5 (Ai @bP.eq_6 @bP.eq_7)) (Ai @bP.eq_8 (Ai @bP.eq_9 @bD.eq_1)))) (Ai (Ai (Ai @bD.eq_2 (Ai @bD.eq_3 @bD.eq_4)) (Ai @bD.eq_5 (Ai @bD.eq_6 @bD.eq_7))) (Ai (Ai @qx.eq_def (Ai @bY.eq_1 @bY.eq_2)) (Ai @bY.eq_3 (Ai @bY.eq_4 @bY.eq_5)))))
def NC :=
 (Ai (Ai (Ai (Ai @bY.eq_6 (Ai @bY.eq_7 @bY.eq_8)) (Ai @jv.eq_1 (Ai @jv.eq_2 @ux.eq_1))) (Ai (Ai @sb.eq_1 (Ai @target.eq_1 @target.eq_2)) (Ai @target.eq_3 (Ai @rowOf.eq_1 @bm.eq_1)))) (Ai (Ai (Ai @dn.eq_1 (Ai @V.isPtr.eq_1 @V.isPtr.eq_2)) (Ai @V.isPtr.eq_3 (Ai @V.one.eq_1 @V.one.eq_2))) (Ai (Ai @V.one.eq_3 (Ai @V.one.eq_4 @V.one.eq_5)) (Ai @V.one.eq_6 (Ai @V.cellsV.eq_1 @V.cellsV.eq_2)))))
def ND :=
 (Ai (Ai (Ai (Ai @kz.eq_1 (Ai @kz.eq_2 @bu.eq_1)) (Ai @ij.eq_1 (Ai @ij.eq_2 @KN.eq_1))) (Ai (Ai @fw.eq_1 (Ai @fw.eq_2 @fw.eq_3)) (Ai @li.eq_1 (Ai @pR.eq_1 @rE.eq_1)))) (Ai (Ai (Ai @rE.eq_2 (Ai @nM.eq_1 @nM.eq_2)) (Ai @vU.eq_1 (Ai @vU.eq_2 @vU.eq_3))) (Ai (Ai @vU.eq_4 (Ai @vU.eq_5 @nX.eq_1)) (Ai @nX.eq_2 (Ai @bL.eq_1 @bL.eq_2)))))
def NE :=
 (Ai (Ai (Ai (Ai @bL.eq_3 (Ai @bL.eq_4 @bL.eq_5)) (Ai @bL.eq_6 (Ai @c7.eq_def @m8.eq_1))) (Ai (Ai @m8.eq_2 (Ai @m8.eq_3 @nW.eq_1)) (Ai @nW.eq_2 (Ai @nW.eq_3 @gk.eq_1)))) (Ai (Ai (Ai @gk.eq_2 (Ai @gk.eq_3 @gk.eq_4)) (Ai @gk.eq_5 (Ai @gk.eq_6 @gk.eq_7))) (Ai (Ai @gk.eq_8 (Ai @qJ.eq_1 @im.eq_1)) (Ai @im.eq_2 (Ai @de.eq_1 @de.eq_2)))))
def NF :=
 (Ai (Ai (Ai (Ai @de.eq_3 (Ai @de.eq_4 @de.eq_5)) (Ai @de.eq_6 (Ai @de.eq_7 @de.eq_8))) (Ai (Ai @de.eq_9 (Ai @de.eq_10 @de.eq_11)) (Ai @de.eq_12 (Ai @de.eq_13 @de.eq_14)))) (Ai (Ai (Ai @de.eq_15 (Ai @de.eq_16 @de.eq_17)) (Ai @gQ.eq_1 (Ai @gQ.eq_2 @gQ.eq_3))) (Ai (Ai @gQ.eq_4 (Ai @gQ.eq_5 @jw.eq_1)) (Ai @jw.eq_2 (Ai @jw.eq_3 @jw.eq_4)))))
def NG :=
 (Ai (Ai (Ai (Ai @jw.eq_5 (Ai @jw.eq_6 @jw.eq_7)) (Ai @jw.eq_8 (Ai @eR.eq_1 @eR.eq_2))) (Ai (Ai @eR.eq_3 (Ai @eR.eq_4 @eR.eq_5)) (Ai @eR.eq_6 (Ai @eR.eq_7 @eR.eq_8)))) (Ai (Ai (Ai @zC.eq_1 (Ai @zC.eq_2 @zC.eq_3)) (Ai @zC.eq_4 (Ai @Il.eq_1 @Il.eq_2))) (Ai (Ai @xa.eq_1 (Ai @xa.eq_2 @iW.eq_1)) (Ai @iW.eq_2 (Ai @iW.eq_3 @iW.eq_4)))))
def NH :=
 (Ai (Ai (Ai (Ai @iW.eq_5 (Ai @iW.eq_6 @iW.eq_7)) (Ai @iW.eq_8 (Ai @iW.eq_9 @iW.eq_10))) (Ai (Ai @iW.eq_11 (Ai @iW.eq_12 @iW.eq_13)) (Ai @iW.eq_14 (Ai @iW.eq_15 @fJ.eq_1)))) (Ai (Ai (Ai @fJ.eq_2 (Ai @fJ.eq_3 @fJ.eq_4)) (Ai @fJ.eq_5 (Ai @fJ.eq_6 @fJ.eq_7))) (Ai (Ai @fJ.eq_8 (Ai @fJ.eq_9 @fJ.eq_10)) (Ai @fJ.eq_11 (Ai @fJ.eq_12 @fJ.eq_13)))))
def NI :=
 (Ai (Ai (Ai (Ai @fJ.eq_14 (Ai @fJ.eq_15 @L5.eq_1)) (Ai @L5.eq_2 (Ai @L5.eq_3 @L5.eq_4))) (Ai (Ai @L5.eq_5 (Ai @yS.eq_1 @yS.eq_2)) (Ai @yS.eq_3 (Ai @yS.eq_4 @yS.eq_5)))) (Ai (Ai (Ai @jB.eq_def (Ai @lS.eq_def @jj.eq_1)) (Ai @jj.eq_2 (Ai @gS.eq_1 @gS.eq_2))) (Ai (Ai @lh.eq_1 (Ai @lh.eq_2 @jC.eq_1)) (Ai @jC.eq_2 (Ai @jY.eq_1 @jY.eq_2)))))
def NJ :=
 (Ai (Ai (Ai (Ai @jA.eq_1 (Ai @jA.eq_2 @rf.eq_1)) (Ai @qo.eq_1 (Ai @kG.eq_1 @kG.eq_2))) (Ai (Ai @lX.eq_1 (Ai @lX.eq_2 @gG.eq_1)) (Ai @hY.eq_1 (Ai @aM.eq_1 @aM.eq_2)))) (Ai (Ai (Ai @aM.eq_3 (Ai @aM.eq_4 @aM.eq_5)) (Ai @dU.eq_1 (Ai @dU.eq_2 @dU.eq_3))) (Ai (Ai @dU.eq_4 (Ai @dU.eq_5 @dU.eq_6)) (Ai @mw.eq_1 (Ai @mw.eq_2 @mw.eq_3)))))
def NK :=
 (Ai (Ai (Ai (Ai @dJ.eq_1 (Ai @ez.eq_1 @eD.eq_1)) (Ai @List.toList_toArray.{0} (Ai @Int.toNat_natCast @Int.natCast_nonneg))) (Ai (Ai @Int.toNat_zero (Ai @Int.toNat_one @Nat.le_refl)) (Ai @Int.le_refl (Ai @Nat.zero_le @Nat.zero_mul)))) (Ai (Ai (Ai @Nat.one_mul (Ai @Nat.mul_one @Nat.add_zero)) (Ai @Nat.zero_add (Ai @Nat.mul_zero @Nat.add_left_cancel_iff))) (Ai (Ai @if_true.{1} (Ai @if_true.{0} @if_false.{1})) (Ai @if_false.{0} (Ai @ite_true.{1} @ite_true.{0})))))
def NL :=
 (Ai (Ai (Ai (Ai @ite_false.{1} (Ai @ite_false.{0} @Bool.false_eq_true)) (Ai @Bool.true_eq_false (Ai @Bool.not_true @Bool.not_false))) (Ai (Ai @decide_true (Ai @decide_false @true_implies)) (Ai @false_implies (Ai @implies_true.{1} @implies_true.{0})))) (Ai (Ai (Ai @and_true (Ai @true_and @and_false)) (Ai @false_and (Ai @and_self @List.getElem?_cons_zero.{0}))) (Ai (Ai @List.getElem?_cons_succ.{0} (Ai @List.getElem?_nil.{0} @List.map_cons.{0,0})) (Ai @List.map_nil.{0,0} (Ai @List.length_cons.{0} @List.length_nil.{0})))))
def NM :=
 (Ai (Ai (Ai (Ai @List.cons_append.{0} (Ai @List.nil_append.{0} @List.append_nil.{0})) (Ai @Option.getD_some.{0} (Ai @Option.getD_none.{0} @Option.isSome_some.{0}))) (Ai (Ai @Option.isSome_none.{0} (Ai @Option.map_some.{0,0} @Option.map_none.{0,0})) (Ai @List.drop_zero.{0} (Ai @List.drop_succ_cons.{0} @List.take_zero.{0})))) (Ai (Ai (Ai @List.take_succ_cons.{0} (Ai @List.set_cons_zero.{0} @List.set_cons_succ.{0})) (Ai @List.all_cons.{0} (Ai @List.all_nil.{0} @Bool.and_true))) (Ai (Ai @Bool.true_and (Ai @List.headD_cons.{0} @kE.eq_1)) (Ai @kE.eq_2 (Ai @kE.eq_3 @Nat.left_eq_add)))))
def NN :=
 (Ai (Ai (Ai (Ai @Nat.add_eq_left (Ai @List.replicate_zero.{0} @List.replicate_succ.{0})) (Ai @Nat.add_right_cancel_iff (Ai @Eo @List.isEmpty_cons.{0}))) (Ai (Ai @List.isEmpty_nil.{0} (Ai @IL @x7)) (Ai @fy (Ai @Lh @pc)))) (Ai (Ai (Ai @II (Ai @Lj @pa)) (Ai @Lr (Ai @IK @Li))) (Ai (Ai @Lq (Ai @MJ @MK)) (Ai @Lp (Ai @MG @MH)))))
def NO :=
 (Ai (Ai (Ai (Ai @Lt (Ai @l8 @jI)) (Ai @dC (Ai @fQ @cY))) (Ai (Ai @List.take_length.{0} (Ai @or_true @true_or)) (Ai @or_false (Ai @false_or @or_self)))) (Ai (Ai (Ai @forall_const.{1} (Ai @forall_const.{0} @List.isEmpty_iff.{0})) (Ai @List.map_eq_nil_iff.{0,0} (Ai @ne_eq.{1} @ne_eq.{0}))) (Ai (Ai @Option.some.injEq.{0} (Ai @not_false_eq_true @al.eq_1)) (Ai @Int.ofNat_lt (Ai @Int.ofNat_le @Nat.lt_irrefl)))))
def NP :=
 (Ai (Ai (Ai (Ai @beq_self_eq_true.{0} (Ai @bne_self_eq_false.{0} @Int.natCast_zero)) (Ai @Int.cast_ofNat_Int (Ai @Df @zV))) (Ai (Ai @xA (Ai @vD @FN)) (Ai @A4 (Ai @A1 @x8)))) (Ai (Ai (Ai @IJ (Ai @vg.eq_1 @vg.eq_2)) (Ai @vg.eq_3 (Ai @pG.eq_1 @pG.eq_2))) (Ai (Ai @pG.eq_3 (Ai @pG.eq_4 @k8.eq_1)) (Ai @gr.eq_1 (Ai @gr.eq_2 @gr.eq_3)))))
def NQ :=
 (Ai (Ai (Ai (Ai @gr.eq_4 (Ai @kF.eq_1 @kF.eq_2)) (Ai @kF.eq_3 (Ai @nC.eq_1 @gH.eq_1))) (Ai (Ai @IM.eq_1 (Ai @IM.eq_2 @IM.eq_3)) (Ai @fN.eq_1 (Ai @nY @I8.eq_1)))) (Ai (Ai (Ai @mg.eq_def (Ai @lP.eq_1 @intKind.eq_1)) (Ai @pw.eq_1 (Ai @Nat.sub_zero @xy))) (Ai (Ai @vz (Ai @tp @vB)) (Ai @K1 (Ai @Bp @G9)))))
def NR :=
 (Ai (Ai (Ai (Ai @Ep (Ai @yJ @MI)) (Ai @Ll (Ai @F3 @Ez))) (Ai (Ai @Ls (Ai @Gk @DJ)) (Ai @Gl (Ai @Gn @Gt)))) (Ai (Ai (Ai @DL (Ai @Gv @Gs)) (Ai @I5 (Ai @DM @I6))) (Ai (Ai @Gq (Ai @DN @DK)) (Ai @I4 (Ai @I2 @Gm)))))
def NS :=
 (Ai (Ai (Ai @Gj @Gu) (Ai @I3 @Ar)) (Ai (Ai @Gp @isConst.eq_1) (Ai @isConst.eq_2 @oY.eq_1)))
def ag:=(Ai (Ai (Ai (Ai N0 (Ai N1 N2)) (Ai (Ai N3 N4) (Ai N5 N6))) (Ai (Ai N7 (Ai N8 N9)) (Ai (Ai NA NB) (Ai NC ND)))) (Ai (Ai (Ai NE (Ai NF NG)) (Ai (Ai NH NI) (Ai NJ NK))) (Ai (Ai (Ai NL NM) (Ai NN NO)) (Ai (Ai NP NQ) (Ai NR NS)))))
end Go.Proofs.YtcllbjanalhjgaaGreatDoor.Vm
