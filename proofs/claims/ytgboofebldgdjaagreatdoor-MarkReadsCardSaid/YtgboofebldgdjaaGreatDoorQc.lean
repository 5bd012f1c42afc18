/-
 Texts joined: XVs,XVt,XVv,XVz,XVu,XVU,XRa,XRb,XRc,XRd,XVA,XVB,XVC,XVD.
-/
import Derived.IntWalk
import GoSem.ClaimChange
import GoSem.ClaimDataLaid
import Derived.DataReads
import Derived.ChangeOld
import GoSem.ClaimJoined
import Derived.SizedLaws
import Derived.Carry
import Derived.OpenShut
import Derived.WideShapes
import Derived.Deep.DeepHandedRow
import Derived.Test.YtgboofebldgdjaaGreatDoorQb
set_option linter.all false
namespace Go.Proofs.YtgboofebldgdjaaGreatDoor.Vm
open Go Go.RowKit
def pV (cx:Cx)(N:Nat)(rs:List ResultVar)(nm:Nat)(M0:ah)(v:V)(eff:List (Nat×Option Blk))(b0 n:Nat)(e:Env)(M:ah):Prop:=∃ gs,Sb cx N rs nm M0 v eff b0 e (M.ghosts n gs)
def nx (cx:Cx)(fn:Func)(nm:Nat)(M:ah)(v:V)(eff:List (Nat×Option Blk))(b0:Nat):Ex->Nat->Env->ah->Prop
 | .exit _,_,_,_=>False
 | .panic _,_,_,_=>False
 | _,n,e,M'=>pV cx fn.ntmps fn.results.toList nm M v eff b0 n e M'
def L6 {cx:Cx}(hD:cx.D=[]){f:FuncId}{nm:Nat}{args:List V}{M:ah}{v:V}{eff:List (Nat×Option Blk)}{fn:Func}{c:Code}
  (hcall:∀ cargs w,(callFunc f cargs).run cx.P w = .ok (.enter f cargs) w) (hf:cx.P.funcs[f]? = some fn) (hb:fn.body=some c) (hm:cx.P.follows .mixedOrders=true) (hin:dc fn.ntmps c=true) (hargs:args.length<=fn.ntmps)
  (hvc:∀ b0,(∀ x,b0<=x->M x=none)->vc cx b0 c (nx cx fn nm M v eff b0) b0 (fp args) M):Ev cx f nm args M v eff:=by
 refine⟨trivial,?_⟩
 intro X w ρ cargs B hrel hfr hB hlen his
 have hstart:Lies cx fn.ntmps X w (bQ ρ M) ρ B B (fp args) M ρ { tmps:=cargs++Array.replicate (fn.ntmps-cargs.size) undef,defers:=[] } w:=by
  refine⟨hrel,⟨by simp;omega,hD.symm,fun t ht=>?_⟩,hB,fun _ _ h=>h,IS _,fun _ _=>rfl,fun x hx=>(hB x hx).2⟩
  simp only[fp,Wu]
  by_cases hlt:t<args.length
  ·rw[W2 Y6,AT hlt,Wg (show t<cargs.size by omega)]
   exact his t _ _ (AT hlt) (Wg Y6)
  ·rw[W0 Y6]
   exact .any _
 refine .inl ⟨hcall _ _,?_⟩
 refine mT hf hb (kA.mono (dM hm c _ B (fp args) M ρ _ w hin hstart (hvc B (fun x hx=>(hB x hx).1))) ?_)
 rintro x a w' ⟨n,e,M',ρ',h',hq⟩
 have done:pV cx fn.ntmps fn.results.toList nm M v eff B n e M'->a.defers=[] /\ ∃ cv,(results fn a.tmps).run cx.P w' = .ok cv w' /\ ∃ cv',Ending.returned cv = .returned cv'/\fb cx.G X w (bQ ρ M) ρ M w nm v (M.app eff) cv' w':=fun ⟨gs,hfin⟩=>by
  have h':=h'.ghosts gs
  obtain⟨cv,h1,h2⟩:=sY h'.rel h'.env fn hfin.1
  exact⟨h'.env.defers.trans hD,cv,h1,cv,rfl,sv hrel hfr hB h' hfin h2⟩
 cases x<;>simp only[nx]at hq<;>try (exact hq.elim)
 case normal=>exact done hq
 case ret=>exact done hq
 case panic ch=>obtain⟨_,_,_,_,hf⟩:=hq;exact hf.elim
def Rd {cx:Cx}{N:Nat}{X:Nat->Prop}{w:World}{ρ:Names}{M:ah}{B nm n:Nat}{e:Env}{M':ah}{ρ':Names}{a:Act}{w':World}{v:V}{cv:Value}(hrel:Rel cx.G X w (bQ ρ M) ρ M w)(h':Lies cx N X w (bQ ρ M) ρ B n e M' ρ' a w')(hG:∀ g,(cx.G g).plain=true)(hpl:v.plain=true)(hv:Is ρ' (bV X ρ' M') w' v cv):fb cx.G X w (bQ ρ M) ρ M w nm v ah.nil cv w':=by
 have hd:∀ b,bV X ρ ah.nil b->bV X ρ' M' b:=fun b hb=>by
  rcases hb with hb|⟨x,l,h,_⟩
  ·exact .inl hb
  ·cases h
 refine⟨ρ,⟨h'.rel.size,h'.rel.os,h'.rel.tape,h'.rel.output,h'.rel.old,fun x k h=>(by cases h),fun x y l l' h=>(by cases h),h'.rel.hX,fun g=>(h'.rel.glob g).plain (IS _) (fun _ _ _=>rfl) (fun b _ hb=>hd b hb) (hG g)⟩,⟨fun _ _ h=>h,h'.rel.size,h'.rel.os,h'.rel.tape,h'.rel.output,fun b hb hk=>h'.rel.old b hb ?_,fun x l h=>(by cases h)⟩,hv.plain (IS _) (fun _ _ _=>rfl) (fun b _ hb=>hd b hb) hpl,fun _ _=>rfl⟩
 rintro ⟨x,l,h1,h2,h3⟩
 exact hk x l h1 h2 h3
def LA (v:V):Ex->Nat->Env->ah->Prop
 | .panic u,_,_,_=>u=v
 | _,_,_,_=>False
def Iy {cx:Cx}(hD:cx.D=[]){f:FuncId}{nm:Nat}{args:List V}{M:ah}{v:V}{fn:Func}{c:Code}
  (hcall:∀ cargs w,(callFunc f cargs).run cx.P w = .ok (.enter f cargs) w) (hf:cx.P.funcs[f]? = some fn) (hb:fn.body=some c) (hm:cx.P.follows .mixedOrders=true) (hin:dc fn.ntmps c=true) (hargs:args.length<=fn.ntmps) (hG:∀ g,(cx.G g).plain=true) (hpl:v.plain=true)
  (hvc:∀ b0,(∀ x,b0<=x->M x=none)->vc cx b0 c (LA v) b0 (fp args) M):BI cx f nm args M v:=by
 refine⟨trivial,?_⟩
 intro X w ρ cargs B hrel hfr hB hlen his
 have hstart:Lies cx fn.ntmps X w (bQ ρ M) ρ B B (fp args) M ρ { tmps:=cargs++Array.replicate (fn.ntmps-cargs.size) undef,defers:=[] } w:=by
  refine⟨hrel,⟨by simp;omega,hD.symm,fun t ht=>?_⟩,hB,fun _ _ h=>h,IS _,fun _ _=>rfl,fun x hx=>(hB x hx).2⟩
  simp only[fp,Wu]
  by_cases hlt:t<args.length
  ·rw[W2 Y6,AT hlt,Wg (show t<cargs.size by omega)]
   exact his t _ _ (AT hlt) (Wg Y6)
  ·rw[W0 Y6]
   exact .any _
 refine .inl ⟨hcall _ _,?_⟩
 refine mT hf hb (kA.mono (dM hm c _ B (fp args) M ρ _ w hin hstart (hvc B (fun x hx=>(hB x hx).1))) ?_)
 rintro x a w' ⟨n,e,M',ρ',h',hq⟩
 cases x<;>simp only[LA]at hq<;>try (exact hq.elim)
 case panic ch =>
  obtain⟨u,cv,rfl,hv,rfl⟩:=hq
  refine⟨h'.env.defers.trans hD,cv,rfl,?_⟩
  exact Rd hrel h' hG hpl hv
def Fin.pure {cx:Cx}{N:Nat}{rs:List ResultVar}{nm:Nat}{v:V}{b0 n:Nat}{e:Env}{M:ah}(h1:mC cx.P N rs e M)(h2:(mD cx.P rs e M).finOk [] M)(h3:((mD cx.P rs e M).fin [] M).le v):pV cx N rs nm ah.nil v [] b0 n e M :=
 ⟨[],Fin.two ⟨h1,[],h2,h3,rfl,Xq,Xq,(fun p hp=>by cases hp),(fun x hx=>by simp[ah.nil]at hx)⟩⟩
structure Post where
 b0:Nat
 q:Ex->Nat->Env->ah->Prop
inductive Frm where
 | code (c:Code)
 | blk (id:Nat)
 | again (J:Nat->Nat->Env->ah->Prop) (g:Nat)
 | cut (J:Nat->Env->ah->Prop)
def lj (cx:Cx)(Q:Post):List Frm->Ex->Nat->Env->ah->Prop
 | []=>Q.q
 | .code c::st=>fun x n e M=>match x with | .normal=>vc cx Q.b0 c (lj cx Q st) n e M | .exit id=>lj cx Q st (.exit id) n e M | .ret=>lj cx Q st .ret n e M | .panic v=>lj cx Q st (.panic v) n e M
 | .blk id::st=>fun x n e M=>match x with | .normal=>lj cx Q st .normal n e M | .exit id'=>if id'=id then lj cx Q st .normal n e M else lj cx Q st (.exit id') n e M | .ret=>lj cx Q st .ret n e M | .panic v=>lj cx Q st (.panic v) n e M
 | .again J g::st=>fun x n e M=>match x with | .normal=>∃ g',g'<g /\ ∃ nm' e' M',pW cx Q.b0 n e M nm' e' M'/\J g' nm' e' M' | .exit id=>lj cx Q st (.exit id) n e M | .ret=>lj cx Q st .ret n e M | .panic v=>lj cx Q st (.panic v) n e M
 | .cut J::st=>fun x n e M=>match x with | .normal=>J n e M | .exit id=>lj cx Q st (.exit id) n e M | .ret=>lj cx Q st .ret n e M | .panic v=>lj cx Q st (.panic v) n e M
section
variable (cx:Cx) (Q:Post) (st:List Frm) (nm:Nat) (e:Env) (M:ah)
def go (c:Code):Prop:=vc cx Q.b0 c (lj cx Q st) nm e M
def dP (x:Ex):Prop:=lj cx Q st x nm e M
def bb (d:Bool)(fs:Y9)(ops r:ZD)(i:Nat):Prop:=cU cx ops d (fun n e M v=>d=false/\lj cx Q st (.panic v) n e M) r nm i e M fs (fun n e M fs=>(d=true->lC cx.P ops fs)/\lj cx Q st .normal n e M)
def yP (fs:Y9)(ops:ZD):Prop:=lC cx.P ops fs/\lj cx Q st .normal nm e M
def hO (d:Bool)(fs:Y9)(ops:ZD)(o:Oper)(r:ZD)(i:Nat):Prop:=bb cx Q st nm e M d fs ops (o::r) i
def eH (d:Bool)(fs:Y9)(ops:ZD)(o:Oper)(r:ZD)(i:Nat):Prop:=∃ v eff ft,ExtDoes cx o (nm+16*i) e M v eff ft/\bb cx Q st nm (e.putD o.dst v) (M.app eff) d (fs++[ft]) ops r (i+1)
def sA (d:Bool)(fs:Y9)(c:Bool)(ops:ZD)(o:Oper)(r:ZD)(i:Nat):Prop:=(∃ v ft,(ft≠[]->iK o.op=false)/\(c=true->ExtDoes cx o (nm+16*i) e M v [] ft)/\bb cx Q st nm (e.putD o.dst (.gd c v)) M d (fs++[ft]) ops r (i+1)) \/
 ((c=true->eH cx Q st nm e M d fs ops o r i)/\(c=false->bb cx Q st nm (e.putD o.dst .any) M d (fs++[[]]) ops r (i+1)))
def S4 (d:Bool)(fs:Y9)(ops:ZD)(o:Oper)(r:ZD)(i:Nat):Prop:=∃ v eff,CommDoes cx o (nm+16*i) e M v eff/\bb cx Q st nm (e.putD o.dst v) (M.app eff) d (fs++[al eff]) ops r (i+1)
def e8 (d:Bool)(fs:Y9)(gv:V)(want:Bool)(ops:ZD)(o:Oper)(r:ZD)(i:Nat):Prop:=match oq gv want with
 | some c=>if jZ o.op=true then jx cx c e M (nm+16*i) o (fun v l=>bb cx Q st nm (e.putD o.dst (.gd c v)) M d (fs++[l]) ops r (i+1))\/(c=true/\gE cx true e M (nm+16*i) o (fun v eff l=>bb cx Q st nm (e.putD o.dst v) (M.app eff) d (fs++[l++al eff]) ops r (i+1)))
  else if ou cx.P o.op=true then sA cx Q st nm e M d fs c ops o r i
  else if rW o.op=true then (c=true->eW cx c e M o)/\bb cx Q st nm (e.putD o.dst (.gd c (j6 cx c e M (nm+16*i) o))) M d (fs++[wn cx c e (nm+16*i) o]) ops r (i+1)
  else (c=true->eW cx true e M o/\bb cx Q st nm (e.putD o.dst (j6 cx true e M (nm+16*i) o)) (M.app (kU cx true e M (nm+16*i) o)) d (fs++[wn cx true e (nm+16*i) o]) ops r (i+1))/\(c=false->bb cx Q st nm (e.putD o.dst .any) M d (fs++[[]]) ops r (i+1))
 | none=>False
def eZ (d:Bool)(fs:Y9)(c:Bool)(ops:ZD)(o:Oper)(r:ZD)(i:Nat):Prop:=jx cx c e M (nm+16*i) o (fun v l=>bb cx Q st nm (e.putD o.dst (.gd c v)) M d (fs++[l]) ops r (i+1))\/(c=true/\gE cx true e M (nm+16*i) o (fun v eff l=>bb cx Q st nm (e.putD o.dst v) (M.app eff) d (fs++[l++al eff]) ops r (i+1)))
def mZ (c:Code):Prop:=vc cx Q.b0 (.loop c) (lj cx Q st) nm e M
def qo (v:V)(a b:Code):Prop:=match v with
 | .bool t=>(t=true->go cx Q st nm e M a)/\(t=false->go cx Q st nm e M b)
 | .bit t f=>(t=true->go cx Q st nm e M a)/\(f=true->go cx Q st nm e M b)
 | _=>False
def Qw:go cx Q st nm e M .skip=dP cx Q st nm e M .normal:=propext XO
def MD (l:Nat):go cx Q st nm e M (.label l)=dP cx Q st nm e M .normal:=propext XO
def Qu (id:Nat):go cx Q st nm e M (.exit id)=dP cx Q st nm e M (.exit id):=propext XO
def go_ret:go cx Q st nm e M .ret=dP cx Q st nm e M .ret:=propext XO
def S5 (a b:Code):go cx Q st nm e M (.seq a b)=go cx Q (.code b::st) nm e M a:=propext XO
def ME (c:Code):go cx Q st nm e M (.scope c)=go cx Q st nm e M c:=propext XO
def MB (id:Nat)(c:Code):go cx Q st nm e M (.block id c)=go cx Q (.blk id::st) nm e M c:=propext XO
def Qt (c:Operand)(a b:Code):go cx Q st nm e M (.cond c a b)=qo cx Q st nm e M (ap cx.G true e c) a b:=propext XO
def Qv (c:Code):go cx Q st nm e M (.loop c)=mZ cx Q st nm e M c:=propext XO
def I8 (id:Nat)(ops:Array Oper)(d:Bool):go cx Q st nm e M (.region id ops d)=bb cx Q st nm e M d [] ops.toList ops.toList 0:=propext XO
def CL (a b:Code):qo cx Q st nm e M (.bool true) a b=go cx Q st nm e M a:=by simp_all[qo]
def AE (a b:Code):qo cx Q st nm e M (.bool false) a b=go cx Q st nm e M b:=by simp_all[qo]
def rm (x:Ex):dP cx Q [] nm e M x=Q.q x nm e M:=propext XO
def I1 (c:Code):dP cx Q (.code c::st) nm e M .normal=go cx Q st nm e M c:=propext XO
def vL (c:Code)(id:Nat):dP cx Q (.code c::st) nm e M (.exit id)=dP cx Q st nm e M (.exit id):=propext XO
def x4 (c:Code):dP cx Q (.code c::st) nm e M .ret=dP cx Q st nm e M .ret:=propext XO
def Mz (id:Nat):dP cx Q (.blk id::st) nm e M .normal=dP cx Q st nm e M .normal:=propext XO
def xZ (id id':Nat):dP cx Q (.blk id::st) nm e M (.exit id')=if id'=id then dP cx Q st nm e M .normal else dP cx Q st nm e M (.exit id'):=propext XO
def AF (id:Nat):dP cx Q (.blk id::st) nm e M .ret=dP cx Q st nm e M .ret:=propext XO
def uc (J:Nat->Nat->Env->ah->Prop)(g:Nat)(id:Nat):dP cx Q (.again J g::st) nm e M (.exit id)=dP cx Q st nm e M (.exit id):=propext XO
def vK (J:Nat->Nat->Env->ah->Prop)(g:Nat):dP cx Q (.again J g::st) nm e M .ret=dP cx Q st nm e M .ret:=propext XO
def x5 (J:Nat->Env->ah->Prop)(id:Nat):dP cx Q (.cut J::st) nm e M (.exit id)=dP cx Q st nm e M (.exit id):=propext XO
def AG (J:Nat->Env->ah->Prop):dP cx Q (.cut J::st) nm e M .ret=dP cx Q st nm e M .ret:=propext XO
def aQ (c:Code)(v:V):dP cx Q (.code c::st) nm e M (.panic v)=dP cx Q st nm e M (.panic v):=propext XO
def bv (id:Nat)(v:V):dP cx Q (.blk id::st) nm e M (.panic v)=dP cx Q st nm e M (.panic v):=propext XO
def bf (J:Nat->Nat->Env->ah->Prop)(g:Nat)(v:V):dP cx Q (.again J g::st) nm e M (.panic v)=dP cx Q st nm e M (.panic v):=propext XO
def Hg (d:Bool)(i:Nat)(v:V):Prop:=match v with
 | .iface t u=>d=false/\dP cx Q st (nm+16*(i+1)) e M (.panic (.iface t u))
 | _=>False
def dT (i:Nat)(t:TypeId)(u:V):Hg cx Q st nm e M false i (.iface t u)=dP cx Q st (nm+16*(i+1)) e M (.panic (.iface t u)):=by simp_all[Hg]
def dS (d:Bool)(fs:Y9)(ops:ZD)(dst:Option Tmp)(x:Operand)(t:TypeId)(pos:String)(af:Array Edge)(r:ZD)(i:Nat):bb cx Q st nm e M d fs ops (⟨dst,.panic x,t,pos,af,none⟩::r) i=Hg cx Q st nm e M d i (ap cx.G true e x):=by
 unfold bb Hg
 simp only[cU,jZ,WQ,gE,r6,xp,false_or,and_false,XU]
 rfl
def I7 (fs:Y9)(ops:ZD)(i:Nat):bb cx Q st nm e M false fs ops [] i=dP cx Q st (nm+16*i) e M .normal:=by
 simp_all[bb,cU,dP]
def vO (fs:Y9)(ops:ZD)(i:Nat):bb cx Q st nm e M true fs ops [] i=yP cx Q st (nm+16*i) e M fs ops:=by
 simp_all[bb,cU,yP]
def Fr (d:Bool)(fs:Y9)(ops:ZD)(dst:Option Tmp)(f:Operand)(args:ZE)(ats:ZF)(t:TypeId)(pos:String)(af:Array Edge)(r:ZD)(i:Nat) :
  bb cx Q st nm e M d fs ops (⟨dst,.call ⟨.value f,args,ats⟩,t,pos,af,none⟩::r) i=hO cx Q st nm e M d fs ops ⟨dst,.call ⟨.value f,args,ats⟩,t,pos,af,none⟩ r i:=propext XO
def CS (d:Bool)(fs:Y9)(ops:ZD)(dst:Option Tmp)(op:Op)(t:TypeId)(pos:String)(af:Array Edge)(j:Nat)(want:Bool)(r:ZD)(i:Nat) :
  bb cx Q st nm e M d fs ops (⟨dst,op,t,pos,af,some (j,want)⟩::r) i=e8 cx Q st nm e M d fs (kM ops e j) want ops ⟨dst,op,t,pos,af,some (j,want)⟩ r i:=by
 rfl
def Fq (d:Bool)(fs:Y9)(c x want:Bool)(ops:ZD)(o:Oper)(r:ZD)(i:Nat):e8 cx Q st nm e M d fs (.gd c (.bool x)) want ops o r i=e8 cx Q st nm e M d fs (.bool (c&&(x==want))) true ops o r i:=by
 have h:∀ y:Bool,(y==true)=y:=fun y=>by simp_all
 simp_all[e8,oq]
def CM (d:Bool)(fs:Y9)(v:V)(want:Bool)(ops:ZD)(o:Oper)(r:ZD)(i:Nat):e8 cx Q st nm e M d fs (.gd false v) want ops o r i=e8 cx Q st nm e M d fs (.bool false) true ops o r i:=by
 have h1:oq (.gd false v) want=some false:=by cases v<;>rfl
 have h2:oq (.bool false) true=some false:=rfl
 simp_all[e8]
variable {cx Q st nm e M}
def b7 {t:Bool}{a b:Code}(h1:t=true->go cx Q st nm e M a)(h2:t=false->go cx Q st nm e M b):qo cx Q st nm e M (.bool t) a b:=⟨h1,h2⟩
def cM {t f:Bool}{a b:Code}(h1:t=true->go cx Q st nm e M a)(h2:f=true->go cx Q st nm e M b):qo cx Q st nm e M (.bit t f) a b:=⟨h1,h2⟩
def cL {d:Bool}{fs:Y9}{ops:ZD}{dst:Option Tmp}{f:Operand}{args:ZE}{ats:ZF}{t:TypeId}{pos:String}{af:Array Edge}{r:ZD}{i:Nat}{g:FuncId}{caps:List V}{as:List V}(hf:ap cx.G true e f = .fn g caps)
  (has:args.toList.map (ap cx.G true e)++caps=as) (l:ZB) {v:V} {eff:List (Nat×Option Blk)} (hev:Ev cx g (nm+16*i) as (M.only l) v eff) (he:∀ x∈al eff,(x∈l/\(M x).isSome=true)\/b9 (nm+16*i) x)
  (h:bb cx Q st nm (e.putD dst v) (M.app eff) d (fs++[l++al eff]) ops r (i+1)):hO cx Q st nm e M d fs ops ⟨dst,.call ⟨.value f,args,ats⟩,t,pos,af,none⟩ r i:=by
 subst has
 show cU _ _ _ _ _ _ _ _ _ _ _
 simp only[cU,jZ,WQ,gE,hf,V.tgt,List.nil_append]
 exact .inl ⟨l,v,eff,hev,he,h⟩
def ff {d:Bool}{fs:Y9}{ops:ZD}{dst:Option Tmp}{f:Operand}{args:ZE}{ats:ZF}{t:TypeId}{pos:String}{af:Array Edge}{r:ZD}{i:Nat}{g:FuncId}{caps:List V}{as:List V}(hf:ap cx.G true e f = .fn g caps)
  (has:args.toList.map (ap cx.G true e)++caps=as) {v:V} (hev:Ev cx g (nm+16*i) as ah.nil v []) (h:bb cx Q st nm (e.putD dst v) M d (fs++[[]]) ops r (i+1)):hO cx Q st nm e M d fs ops ⟨dst,.call ⟨.value f,args,ats⟩,t,pos,af,none⟩ r i :=
 cL hf has [] (by rw[ah.only_nil];exact hev) (fun x hx=>by grind[al]) h
def EM {d:Bool}{fs:Y9}{ops:ZD}{c:Bool}{dst:Option Tmp}{f:Operand}{args:ZE}{ats:ZF}{t:TypeId}{pos:String}{af:Array Edge}{gd:Option (Nat×Bool)}{r:ZD}{i:Nat}{g:FuncId}{caps:List V}{as:List V}(hf:ap cx.G c e f = .fn g caps)
  (has:args.toList.map (ap cx.G c e)++caps=as) {v:V} (hev:c=true->Ev cx g (nm+16*i) as ah.nil v []) (h:bb cx Q st nm (e.putD dst (.gd c v)) M d (fs++[[]]) ops r (i+1)):eZ cx Q st nm e M d fs c ops ⟨dst,.call ⟨.value f,args,ats⟩,t,pos,af,gd⟩ r i:=by
 subst has
 unfold eZ jx
 refine .inl ?_
 simp only[hf,V.tgt,List.nil_append]
 grind[ah.only_nil]
def PT {d:Bool}{fs:Y9}{ops:ZD}{dst:Option Tmp}{f:Operand}{args:ZE}{ats:ZF}{t:TypeId}{pos:String}{af:Array Edge}{gd:Option (Nat×Bool)}{r:ZD}{i:Nat}{g:FuncId}{caps fi:List V}{as:List V}(hf:(ap cx.G true e f).tgt=some (g,caps,fi))
  (has:fi++(args.toList.map (ap cx.G true e)++caps)=as) (l:ZB) {v:V} {eff:List (Nat×Option Blk)} (hev:Ev cx g (nm+16*i) as (M.only l) v eff) (he:∀ x∈al eff,(x∈l/\(M x).isSome=true)\/b9 (nm+16*i) x)
  (h:bb cx Q st nm (e.putD dst v) (M.app eff) d (fs++[l++al eff]) ops r (i+1)):eZ cx Q st nm e M d fs true ops ⟨dst,.call ⟨.value f,args,ats⟩,t,pos,af,gd⟩ r i:=by
 subst has
 unfold eZ gE
 grind
def fe {d:Bool}{fs:Y9}{ops:ZD}{dst:Option Tmp}{f:Operand}{args:ZE}{ats:ZF}{t:TypeId}{pos:String}{af:Array Edge}{r:ZD}{i:Nat}{g:FuncId}{fi:List V}{as:List V}(hf:ap cx.G true e f = .fnb g fi)
  (has:fi++args.toList.map (ap cx.G true e)=as) (l:ZB) {v:V} {eff:List (Nat×Option Blk)} (hev:Ev cx g (nm+16*i) as (M.only l) v eff) (he:∀ x∈al eff,(x∈l/\(M x).isSome=true)\/b9 (nm+16*i) x)
  (h:bb cx Q st nm (e.putD dst v) (M.app eff) d (fs++[l++al eff]) ops r (i+1)):hO cx Q st nm e M d fs ops ⟨dst,.call ⟨.value f,args,ats⟩,t,pos,af,none⟩ r i:=by
 subst has
 show cU _ _ _ _ _ _ _ _ _ _ _
 simp only[cU,jZ,WQ,gE,hf,V.tgt,WR]
 exact .inl ⟨l,v,eff,hev,he,h⟩
def c8 {fs:Y9}{ops:ZD}{dst:Option Tmp}{g:FuncId}{args:ZE}{ats:ZF}{t:TypeId}{pos:String}{af:Array Edge}{r:ZD}{i:Nat}{as:List V}
  (has:args.toList.map (ap cx.G true e)=as) (l:ZB) {v:V} (hev:BI cx g (nm+16*i) as (M.only l) v)
  (h:dP cx Q st (nm+16*(i+1)) e (M.app (lv l)) (.panic v)):hO cx Q st nm e M false fs ops ⟨dst,.call ⟨.value (.func g),args,ats⟩,t,pos,af,none⟩ r i:=by
 subst has
 show cU _ _ _ _ _ _ _ _ _ _ _
 simp only[cU,jZ,WQ,r6,ap,V.tgt,List.nil_append,WR]
 exact .inr (.inl ⟨l,v,hev,trivial,h⟩)
def Ie {fs:Y9}{ops:ZD}{dst:Option Tmp}{g:FuncId}{args:ZE}{ats:ZF}{t:TypeId}{pos:String}{af:Array Edge}{r:ZD}{i:Nat}{as:List V}
  (has:args.toList.map (ap cx.G true e)=as) (l:ZB) {R:V->Prop} {eff:List (Nat×Option Blk)} (hev:Sa cx g (nm+16*i) as (M.only l) R eff) (he:∀ x∈al eff,(x∈l/\(M x).isSome=true)\/b9 (nm+16*i) x)
  (h:∀ v,R v->bb cx Q st nm (e.putD dst v) (M.app eff) false (fs++[l++al eff]) ops r (i+1)):hO cx Q st nm e M false fs ops ⟨dst,.call ⟨.value (.func g),args,ats⟩,t,pos,af,none⟩ r i:=by
 subst has
 show cU _ _ _ _ _ _ _ _ _ _ _
 refine Or.inr (Or.inr ⟨rfl,?_⟩)
 exact⟨l,R,eff,by simp_all,he,h⟩
def nR {d:Bool}{fs:Y9}{ops:ZD}{dst:Option Tmp}{f:Operand}{args:ZE}{ats:ZF}{t:TypeId}{pos:String}{af:Array Edge}{gd:Option (Nat×Bool)}{r:ZD}{i:Nat}{g:FuncId}{fi:List V}{as:List V}(hf:ap cx.G true e f = .fnb g fi)
  (has:fi++args.toList.map (ap cx.G true e)=as) (l:ZB) {v:V} {eff:List (Nat×Option Blk)} (hev:Ev cx g (nm+16*i) as (M.only l) v eff) (he:∀ x∈al eff,(x∈l/\(M x).isSome=true)\/b9 (nm+16*i) x)
  (h:bb cx Q st nm (e.putD dst v) (M.app eff) d (fs++[l++al eff]) ops r (i+1)):eZ cx Q st nm e M d fs true ops ⟨dst,.call ⟨.value f,args,ats⟩,t,pos,af,gd⟩ r i :=
 PT (caps:=[]) (by rw[hf];rfl) (by simp_all) l hev he h
def ad {d:Bool}{fs:Y9}{ops:ZD}{dst:Option Tmp}{g:FuncId}{args:ZE}{ats:ZF}{t:TypeId}{pos:String}{af:Array Edge}{r:ZD}{i:Nat}{as:List V}
  (has:args.toList.map (ap cx.G true e)=as) {v:V} (hev:Ev cx g (nm+16*i) as ah.nil v []) (h:bb cx Q st nm (e.putD dst v) M d (fs++[[]]) ops r (i+1)):hO cx Q st nm e M d fs ops ⟨dst,.call ⟨.value (.func g),args,ats⟩,t,pos,af,none⟩ r i :=
 ff (caps:=[]) rfl (by simp_all) hev h
def ai {d:Bool}{fs:Y9}{ops:ZD}{c:Bool}{dst:Option Tmp}{g:FuncId}{args:ZE}{ats:ZF}{t:TypeId}{pos:String}{af:Array Edge}{gd:Option (Nat×Bool)}{r:ZD}{i:Nat}{as:List V}
  (has:args.toList.map (ap cx.G c e)=as) {v:V} (hev:c=true->Ev cx g (nm+16*i) as ah.nil v []) (h:bb cx Q st nm (e.putD dst (.gd c v)) M d (fs++[[]]) ops r (i+1)):eZ cx Q st nm e M d fs c ops ⟨dst,.call ⟨.value (.func g),args,ats⟩,t,pos,af,gd⟩ r i :=
 EM (caps:=[]) rfl (by simp_all) hev h
def ab {d:Bool}{fs:Y9}{ops:ZD}{dst:Option Tmp}{g:FuncId}{args:ZE}{ats:ZF}{t:TypeId}{pos:String}{af:Array Edge}{r:ZD}{i:Nat}{as:List V}
  (has:args.toList.map (ap cx.G true e)=as) (l:ZB) {v:V} {eff:List (Nat×Option Blk)} (hev:Ev cx g (nm+16*i) as (M.only l) v eff) (he:∀ x∈al eff,(x∈l/\(M x).isSome=true)\/b9 (nm+16*i) x)
  (h:bb cx Q st nm (e.putD dst v) (M.app eff) d (fs++[l++al eff]) ops r (i+1)):hO cx Q st nm e M d fs ops ⟨dst,.call ⟨.value (.func g),args,ats⟩,t,pos,af,none⟩ r i :=
 cL (caps:=[]) rfl (by simp_all) l hev he h
def bm {fs:Y9}{ops:ZD}(hp:tQ cx.P ops=[])(h:dP cx Q st nm e M .normal):yP cx Q st nm e M fs ops:=⟨F7 hp,h⟩
def jd {fs:Y9}{ops:ZD}{ps:Y8}(hp:tQ cx.P ops=ps)(hps:∀ p∈ps,∀ x∈fs.getD p.1 [],x ∉ fs.getD p.2 [])(h:dP cx Q st nm e M .normal):yP cx Q st nm e M fs ops:=⟨by unfold lC;rw[hp];exact hps,h⟩
def Hp {c:Code}(J:Nat->Nat->Env->ah->Prop)(g:Nat){n:Nat}{e':Env}{M':ah}(hw:pW cx Q.b0 nm e M n e' M')(h0:J g n e' M')(hr:∀ g nm e M,J g nm e M->go cx Q (.again J g::st) nm e M c):mZ cx Q st nm e M c:=⟨J,g,⟨_,_,_,hw,h0⟩,hr⟩
def BP {J:Nat->Nat->Env->ah->Prop}{g:Nat}(g':Nat)(hg:g'<g){n:Nat}{e':Env}{M':ah}(hw:pW cx Q.b0 nm e M n e' M')(h:J g' n e' M'):dP cx Q (.again J g::st) nm e M .normal:=⟨g',hg,_,_,_,hw,h⟩
end
def vv (cx:Cx)(fn:Func)(nm:Nat)(M:ah)(v:V)(eff:List (Nat×Option Blk))(b0:Nat):Post:=⟨b0,nx cx fn nm M v eff b0⟩
def SR (cx:Cx)(fn:Func)(nm:Nat)(M:ah)(v:V)(eff:List (Nat×Option Blk))(b0:Nat):(vv cx fn nm M v eff b0).q=nx cx fn nm M v eff b0:=rfl
def G9 (cx:Cx)(fn:Func)(nm:Nat)(M:ah)(v:V)(eff:List (Nat×Option Blk))(b0:Nat):(vv cx fn nm M v eff b0).b0=b0:=rfl
def UC {cx:Cx}(hD:cx.D=[]){f:FuncId}{nm:Nat}{args:List V}{M:ah}{v:V}{eff:List (Nat×Option Blk)}{fn:Func}{c:Code}
  (hcall:∀ cargs w,(callFunc f cargs).run cx.P w = .ok (.enter f cargs) w) (hf:cx.P.funcs[f]? = some fn) (hb:fn.body=some c) (hm:cx.P.follows .mixedOrders=true) (hin:dc fn.ntmps c=true) (hargs:decide (args.length<=fn.ntmps)=true)
  (hvc:∀ b0,(∀ x,b0<=x->M x=none)->go cx (vv cx fn nm M v eff b0) [] b0 (fp args) M c):Ev cx f nm args M v eff :=
 L6 hD hcall hf hb hm hin (Xl hargs) hvc
def Tw (v:V)(b0:Nat):Post:=⟨b0,LA v⟩
def HD (v:V)(b0:Nat):(Tw v b0).b0=b0:=rfl
def fV (cx:Cx)(v:V)(b0 nm:Nat)(e:Env)(M:ah):dP cx (Tw v b0) [] nm e M (.panic v)=True:=X0 rfl
def kH {cx:Cx}(hD:cx.D=[])(hG:∀ g,(cx.G g).plain=true){f:FuncId}{nm:Nat}{args:List V}{M:ah}{v:V}{fn:Func}{c:Code}(hpl:v.plain=true)
  (hcall:∀ cargs w,(callFunc f cargs).run cx.P w = .ok (.enter f cargs) w) (hf:cx.P.funcs[f]? = some fn) (hb:fn.body=some c) (hm:cx.P.follows .mixedOrders=true) (hin:dc fn.ntmps c=true) (hargs:decide (args.length<=fn.ntmps)=true)
  (hvc:∀ b0,(∀ x,b0<=x->M x=none)->go cx (Tw v b0) [] b0 (fp args) M c):BI cx f nm args M v :=
 Iy hD hcall hf hb hm hin (Xl hargs) hG hpl hvc
def JL (e:Env)(t:Nat)(v:V):e.putD (some t) v=e.put t v:=rfl
def JK (e:Env)(v:V):e.putD none v=e:=rfl
def Ty (e:Env)(t x:Nat)(v:V):(e.put t v) x=if x=t then v else e x:=rfl
def yj (c:Bool)(v:V):(V.gd c v).strip c=v:=by simp_all[V.strip]
def pP (c:Bool)(v:V):(V.gd true v).strip c=v:=by simp[V.strip]
def KF (c:Bool):V.any.strip c = .any:=rfl
def GI (c b:Bool):(V.bool b).strip c = .bool b:=rfl
def KG (c t f:Bool):(V.bit t f).strip c = .bit t f:=rfl
def KI (c:Bool)(k:IntKind)(n:Int):(V.int k n).strip c = .int k n:=rfl
def KL (c:Bool)(s:ZA):(V.str s).strip c = .str s:=rfl
def GK (c:Bool):V.nilp.strip c = .nilp:=rfl
def KN (c:Bool):V.upt.strip c = .upt:=rfl
def OC (c:Bool)(a b:Nat)(r:List (List V)):(V.ys a b r).strip c = .ys a b r:=rfl
def KK (c:Bool)(a b d:Nat):(V.ptr a b d).strip c = .ptr a b d:=rfl
def OA (c:Bool)(l:List V):(V.rp l).strip c = .rp l:=rfl
def GL (c:Bool):V.nils.strip c = .nils:=rfl
def OB (c t:Bool)(s:Nat)(l:List (List V)):(V.sl t s l).strip c = .sl t s l:=rfl
def KJ (c:Bool)(a b d:Nat):(V.own a b d).strip c = .own a b d:=rfl
def GM (c:Bool)(a b d e:Nat):(V.ownc a b d e).strip c = .ownc a b d e:=rfl
def GJ (c:Bool)(a:Nat):(V.chan a).strip c = .chan a:=rfl
def Oz (c:Bool)(a:Nat):(V.mp a).strip c = .mp a:=rfl
def KH (c:Bool)(f:Nat)(l:List V):(V.fnb f l).strip c = .fnb f l:=rfl
def DX (c:Bool)(t:TypeId)(v:V):(V.iface t v).strip c = .iface t v:=rfl
def Oy (c:Bool)(f:Nat)(l:List V):(V.fn f l).strip c = .fn f l:=rfl
def KE (c:Bool)(l:List V):(V.agg l).strip c = .agg l:=rfl
def KM (c:Bool)(l:List V):(V.tup l).strip c = .tup l:=rfl
def KO (c:Bool)(v:Value):(V.val v).strip c = .val v:=rfl
def M9 : V.isNilI (.any )=false:=rfl
def Js (a0:Bool):V.isNilI (.bool a0)=false:=rfl
def Na (a0:Bool)(a1:Bool):V.isNilI (.bit a0 a1)=false:=rfl
def Nc (a0:IntKind)(a1:Int):V.isNilI (.int a0 a1)=false:=rfl
def Ni (a0:ZA):V.isNilI (.str a0)=false:=rfl
def Ju : V.isNilI (.nilp )=false:=rfl
def Nk : V.isNilI (.upt )=false:=rfl
def QX (a b:Nat)(r:List (List V)):V.isNilI (.ys a b r)=false:=rfl
def Nh (a0:Nat)(a1:Nat)(a2:Nat):V.isNilI (.ptr a0 a1 a2)=false:=rfl
def QV (a0:List V):V.isNilI (.rp a0)=false:=rfl
def Jv : V.isNilI (.nils )=false:=rfl
def QW (a0:Bool)(a1:Nat)(a2:List (List V)):V.isNilI (.sl a0 a1 a2)=false:=rfl
def Ng (a0:Nat)(a1:Nat)(a2:Nat):V.isNilI (.own a0 a1 a2)=false:=rfl
def Jw (a0:Nat)(a1:Nat)(a2:Nat)(a3:Nat):V.isNilI (.ownc a0 a1 a2 a3)=false:=rfl
def Jt (a0:Nat):V.isNilI (.chan a0)=false:=rfl
def QU (a0:Nat):V.isNilI (.mp a0)=false:=rfl
def QS (a0:Nat)(a1:List V):V.isNilI (.fn a0 a1)=false:=rfl
def Nb (a0:Nat)(a1:List V):V.isNilI (.fnb a0 a1)=false:=rfl
def M8 (a0:List V):V.isNilI (.agg a0)=false:=rfl
def Nj (a0:List V):V.isNilI (.tup a0)=false:=rfl
def QT (a0:Bool)(a1:V):V.isNilI (.gd a0 a1)=false:=rfl
def FU (a0:TypeId)(a1:V):V.isNilI (.iface a0 a1)=false:=rfl
def Nf:V.isNilI (.val .nilIface)=true:=rfl
def JH (c x y:Bool):j7 c (.bool x) (.bool y) = .bool (if c then x else y):=rfl
def NG (c x:Bool):j7 c (.gd c (.bool x)) (.bool false) = .bool (c&&x):=by simp_all[j7,V.strip]
def Re (c x:Bool):j7 c (.bool true) (.gd (!c) (.bool x)) = .bool (c||x):=by simp_all[j7,V.strip]
def JG (c x:Bool):j7 c ((V.gd c (.bool x)).strip true) (.bool false) = .bool (c&&x):=by grind[j7,V.strip]
def NH (c x:Bool):j7 c (.bool true) ((V.gd (!c) (.bool x)).strip true) = .bool (c||x):=by grind[j7,V.strip]
def H5 (b:Bool):(b==true)=b:=by simp_all
def EK (b:Bool):(b==false) = !b:=by simp_all
def BL (a b c:Nat):a+b+c=a+(b+c):=XS a b c
def Lu (l:List V)(t:Nat):fp l t=(l[t]?).getD .any:=rfl
def app_nil (M:ah):M.app []=M:=rfl
def BS (M:ah)(x:Nat)(k:Option Blk)(r:List (Nat×Option Blk)):M.app ((x,k)::r)=(M.put x k).app r:=rfl
def QR (M:ah)(nm x:Nat)(k:Option Blk):(M.put nm k) x=if x=nm then k else M x:=rfl
def Tq (x:Nat):ah.nil x=none:=rfl
mutual
def V.flat:V->Bool
 | .any | .bool _ | .bit _ _ | .int _ _ | .str _ | .nilp | .upt | .nils | .val _=>true
 | .agg cs=>flatL cs
 | .tup cs=>flatL cs
 | .gd _ v=>v.flat
 | .iface _ v=>v.flat
 | _=>false
def flatL:List V->Bool
 | []=>true
 | v::r=>v.flat&&flatL r
end
def pa {l:List V}(h:flatL l=true){i:Nat}{u:V}(hi:l[i]? = some u):u.flat=true:=by
 induction l generalizing i with
 | nil=>simp at hi
 | cons v r ih =>
  simp only[flatL,In]at h
  cases i with
  | zero=>simp at hi;subst hi;exact h.1
  | succ i=>exact ih h.2 (by simpa using hi)
def Is.flat {ρ ρ':Names}{D D':Nat->Prop}{w w':World}{v:V}{cv:Value}(h:Is ρ D w v cv)(hp:v.flat=true):Is ρ' D' w' v cv:=by
 induction h with
 | any cv=>exact .any _
 | bool b=>exact .bool _
 | bit b ht hf=>exact .bit b ht hf
 | int k n=>exact .int _ _
 | str s=>exact .str _
 | nilp=>exact .nilp
 | upt p=>exact .upt p
 | ys0=>simp[V.flat]at hp
 | ys=>simp[V.flat]at hp
 | ptr h=>simp[V.flat]at hp
 | rp cv hd hb hc _ ih=>simp[V.flat]at hp
 | nils=>exact .nils
 | sl0 ht=>simp[V.flat]at hp
 | sl cv hc ht hd hb hr hx _ ih=>simp[V.flat]at hp
 | own0=>simp[V.flat]at hp
 | own h hl hc=>simp[V.flat]at hp
 | ownc0=>simp[V.flat]at hp
 | ownc h hl hc=>simp[V.flat]at hp
 | chan h=>simp[V.flat]at hp
 | mp h=>simp[V.flat]at hp
 | fn hn _ ih=>simp[V.flat]at hp
 | fnb hn _ ih=>simp[V.flat]at hp
 | iface _ ih=>exact .iface (ih (by simpa [V.flat] using hp))
 | agg hn _ ih=>exact .agg hn (fun i u cv hi hc=>ih i u cv hi hc (pa (by simpa [V.flat] using hp) hi))
 | tup hn _ ih=>exact .tup hn (fun i u cv hi hc=>ih i u cv hi hc (pa (by simpa [V.flat] using hp) hi))
 | gd _ h0 ih=>exact .gd (fun hb=>ih hb (by simpa [V.flat] using hp)) h0
 | val v=>exact .val _
def Ev.view {cx:Cx}{f:FuncId}{nm:Nat}{args:List V}{M:ah}{v:V}(h:Ev cx f nm (finL [] M args) ah.nil v [])(hok:finLOk [] M args)(hv:v.flat=true):Ev cx f nm args M v []:=by
  refine⟨h.1,fun X w ρ cargs B hr hfresh hB hn hargs=>?_⟩
  have hdom:∀ b,bV X ρ ah.nil b->bV X ρ M b:=by
    rintro b (hx|⟨nm,l,h1,_⟩)
    · exact .inl hx
    · simp[ah.nil]at h1
  have hr0:Rel cx.G X w (bQ ρ ah.nil) ρ ah.nil w :=
    { size:=IS _,os:=rfl,tape:=rfl,output:=rfl,old:=fun _ _ _=>rfl
      live:=fun nm k hk=>by simp[ah.nil]at hk
      inj:=fun nm nm' l l' h1=>by simp[ah.nil]at h1
      hX:=fun b hb=>⟨(hr.hX b hb).1,by rintro ⟨nm,q,h1,_⟩;simp[ah.nil]at h1⟩
      glob:=fun g=>(hr.glob g).step (fun _ _ h=>h) (IS _) (fun _ _ _=>rfl) (fun b _ hb=>hdom b hb) }
  refine(h.2 X w ρ cargs B hr0 hfresh (fun x hx=>⟨rfl,(hB x hx).2⟩) (by rw[dR];exact hn) ?_).mono ?_
  · intro i u cv hi hc
    rw[gH]at hi
    obtain⟨u',h1,rfl⟩:=BY.1 hi
    refine qh (cx:=cx) hr (fun nm y hy=>by simp[aO]at hy) hdom (fun nm l _ hM hl=>?_) (hargs i u' cv h1 hc) (eQ hok h1)
    rintro (hx|⟨nm',q,h2,_⟩)
    · exact(hr.block_lt hM hl).2.1 hx
    · simp[ah.nil]at h2
  · rintro e' w' ⟨cv,rfl,ρ',r,m,hvv,hn'⟩
    have hkept:∀ b,b<w.heap.size->w'.heap[b]? = w.heap[b]?:=fun b hb=>m.kept b hb (fun nm l h1=>by simp[ah.nil]at h1)
    have mv:Moves ρ M w ρ M w':=⟨fun _ _ h=>h,m.size,m.os,m.tape,m.output,fun b hb _=>hkept b hb,fun nm l h1 h2 _=>⟨nm,l,h1,h2,rfl⟩⟩
    refine⟨cv,rfl,ρ,?_,mv,hvv.flat hv,fun _ _=>rfl⟩
    exact hr.move mv hr.inj (fun nm k hk=>.inl ⟨hk,id,fun l hl=>hkept l.b (hr.block_lt (by rw[show M nm=some k from hk];rfl) hl).1⟩)
section
variable {cx:Cx} {Q:Post} {st:List Frm} {nm:Nat} {e:Env} {M:ah}
def Ic {d:Bool}{fs:Y9}{ops:ZD}{dst:Option Tmp}{g:FuncId}{args:ZE}{ats:ZF}{t:TypeId}{pos:String}{af:Array Edge}{r:ZD}{i:Nat}{as as':List V}
  (l:ZB) (has:args.toList.map (ap cx.G true e)=as) (has':finL [] (M.only l) as=as') (hok:finLOk [] (M.only l) as) {v:V} (hv:v.flat=true) (hev:Ev cx g (nm+16*i) as' ah.nil v []) (h:bb cx Q st nm (e.putD dst v) M d (fs++[l]) ops r (i+1)):hO cx Q st nm e M d fs ops ⟨dst,.call ⟨.value (.func g),args,ats⟩,t,pos,af,none⟩ r i :=
 ab has l (Ev.view (by rw[has'];exact hev) hok hv) (fun x hx=>by simp[al]at hx) (by simpa [al,ah.app] using h)
def ag {d:Bool}{fs:Y9}{ops:ZD}{dst:Option Tmp}{g:FuncId}{args:ZE}{ats:ZF}{t:TypeId}{pos:String}{af:Array Edge}{r:ZD}{i:Nat}{as:List V}
  (has:args.toList.map (ap cx.G true e)=as) {v:V} {eff:List (Nat×Option Blk)} (hev:Ev cx g (nm+16*i) as ah.nil v eff) (he:∀ x∈al eff,nm+16*i<=x/\x<nm+16*i+16)
  (h:bb cx Q st nm (e.putD dst v) (M.app eff) d (fs++[al eff]) ops r (i+1)):hO cx Q st nm e M d fs ops ⟨dst,.call ⟨.value (.func g),args,ats⟩,t,pos,af,none⟩ r i :=
 ab has [] (by rw[ah.only_nil];exact hev) (fun x hx=>.inr (he x hx)) (by simpa using h)
def EL {d:Bool}{fs:Y9}{ops:ZD}{c:Bool}{dst:Option Tmp}{g:FuncId}{args:ZE}{ats:ZF}{t:TypeId}{pos:String}{af:Array Edge}{gd:Option (Nat×Bool)}{r:ZD}{i:Nat}{as as':List V}
  (l:ZB) (has:args.toList.map (ap cx.G c e)=as) (has':c=true->finL [] (M.only l) as=as') (hok:c=true->finLOk [] (M.only l) as) {v:V} (hv:v.flat=true) (hev:c=true->Ev cx g (nm+16*i) as' ah.nil v []) (h:bb cx Q st nm (e.putD dst (.gd c v)) M d (fs++[l]) ops r (i+1)):eZ cx Q st nm e M d fs c ops ⟨dst,.call ⟨.value (.func g),args,ats⟩,t,pos,af,gd⟩ r i:=by
 subst has
 unfold eZ jx
 refine .inl ?_
 simp only[ap,V.tgt,List.nil_append,WR]
 exact⟨l,v,fun hc=>Ev.view (by rw[has' hc];exact hev hc) (hok hc) hv,h⟩
end
def pO (b0:Nat)(M:ah):Y8->Prop
 | []=>True
 |(x,j)::r=>(j<16/\b0<=x/\(M x).isSome=true/\Q0 M x=true/\plainLL (bD M x)=true)/\(∀ p∈r,p.1≠x/\p.2≠j)/\pO b0 M r
def Ol (nm:Nat)(M:ah)(σ:Y8):List (Nat×Option Blk):=σ.map (fun p=>(nm+p.2,M p.1))
def rV (nm:Nat)(σ:Y8):Y8:=σ.map (fun p=>(p.1,nm+p.2))
def KD {b0:Nat}{M:ah}{σ:Y8}(h:pO b0 M σ):∀ p∈σ,p.2<16/\b0<=p.1/\(M p.1).isSome=true/\Q0 M p.1=true/\plainLL (bD M p.1)=true:=by
 induction σ with
 | nil=>intro p hp;cases hp
 | cons q r ih =>
  intro p hp
  simp only[pO]at h
  rcases WZ.1 hp with rfl|hp
  ·exact h.1
  ·exact ih h.2.2 p hp
def tU {b0:Nat}{M:ah}(nm:Nat){σ:Y8}(h:pO b0 M σ):((rV nm σ).map (·.1)).Nodup/\((rV nm σ).map (·.2)).Nodup:=by
 induction σ with
 | nil=>exact⟨Xq,Xq⟩
 | cons q r ih =>
  simp only[pO]at h
  obtain⟨a,b⟩:=ih h.2.2
  refine⟨Xg.2 ⟨?_,a⟩,Xg.2 ⟨?_,b⟩⟩
  ·intro hm
   simp only[rV,YD,Wn,Function.comp_apply]at hm
   obtain⟨p,hp,he⟩:=hm
   exact(h.2.1 p hp).1 he
  ·intro hm
   simp only[rV,YD,Wn,Function.comp_apply]at hm
   obtain⟨p,hp,he⟩:=hm
   exact(h.2.1 p hp).2 Y6
def Fin.own {cx:Cx}{N:Nat}{rs:List ResultVar}{nm:Nat}{v:V}{eff:List (Nat×Option Blk)}{b0 n:Nat}{e:Env}{M:ah}(gs:ZB)(σ:Y8)(h1:mC cx.P N rs e (M.ghosts n gs))(h2:(mD cx.P rs e (M.ghosts n gs)).finOk (rV nm σ) (M.ghosts n gs))(h3:((mD cx.P rs e (M.ghosts n gs)).fin (rV nm σ) (M.ghosts n gs)).le v)(h4:Ol nm (M.ghosts n gs) σ=eff)(h5:pO b0 (M.ghosts n gs) σ):pV cx N rs nm ah.nil v eff b0 n e M:=by
 refine⟨gs,Fin.two ⟨h1,rV nm σ,h2,h3,?_,(tU nm h5).1,(tU nm h5).2,?_,fun x hx=>by simp[ah.nil]at hx⟩⟩
 ·rw[<- h4];simp[Ol,rV]
 ·intro p hp
  simp only[rV,Wn]at hp
  obtain⟨q,hq,rfl⟩:=hp
  obtain⟨g1,g2,g3,g5,g4⟩:=KD h5 q hq
  refine⟨.inr ⟨⟨by simp,by simp;omega⟩,g2⟩,?_⟩
  obtain⟨k,hk⟩:=OF.1 g3
  refine⟨k,hk,?_,?_⟩
  ·simpa [Q0,hk] using g5
  ·simpa [bD,hk] using g4
def bF {α β:Type}(f:α->β)(l:List α):(l.map f).take l.length=l.map f:=by rw[<- Xm (f:=f),WJ]
def Fm (M:ah)(n:Nat):M.ghosts n []=M:=rfl
def CK (M:ah)(n s:Nat)(r:ZB):M.ghosts n (s::r)=(M.put n (some ⟨s,[]⟩)).ghosts (n+1) r:=rfl
def eJ (x:Nat):aO [] x=none:=rfl
def gy (y z x:Nat)(r:Y8):aO ((y,z)::r) x=if y=x then some z else aO r x:=by
 unfold aO
 rw[List.find?_cons]
 by_cases h:y=x
 ·subst h;simp
 ·have hb:(y==x)=false:=by simpa using h
  simp only[hb,h,WS]
def nd (M:ah)(l:ZB)(x:Nat):(M.only l) x=if x∈l then M x else none:=rfl
def cq {α:Type}(f:α->List V)(h:∀ a,plainL (f a)=true)(l:List α):plainLL (l.map f)=true:=by
 rw[jR,WI]
 intro x hx
 obtain⟨a,_,rfl⟩:=Wn.1 hx
 exact h a
def aE {a b:Nat}(h:a<b):(a=b)=False:=IT Y6
def ay {a b:Nat}(h:a<b):(b=a)=False:=IT Y6
def ak {a b:Nat}(h:a<b)(c:Nat):(a=b+c)=False:=IT Y6
def ae {a b:Nat}(h:a<b)(c:Nat):(b+c=a)=False:=IT Y6
def BG {n:Int}(h1:-9223372036854775808<=n)(h2:n<=9223372036854775807):IntKind.i64.wrap n=n:=IntWalk.i64_in _ ⟨h1,h2⟩
def aX {n:Int}(h1:-9223372036854775808<=n:=by omega)(h2:n<=9223372036854775807:=by omega):IntKind.i64.wrap n=n:=BG h1 h2
def bz {p:Prop}[Decidable p](h:p:=by omega):decide p=true:=AI h
def aL {p:Prop}[Decidable p](h:¬p:=by omega):decide p=false:=WA h
def Wa {b n nm:Nat}(h:b+n<=nm)(h0:0<n):(∀ c,(b=nm+c)=False)/\(b=nm)=False/\(∀ j c,j<n->(b+j=nm+c)=False) /\ ∀ j,j<n->(b+j=nm)=False :=
 ⟨fun c=>IT Y6,IT Y6,fun j c hj=>IT Y6,fun j hj=>IT Y6⟩
section
variable {cx:Cx} {Q:Post} {st:List Frm} {nm:Nat} {e:Env} {M:ah}
end
def rS {P:Prop}(h:P:=by intro _;intros;exact propext XO):P:=h
abbrev uN (o:Op):Prop:=∀(cx:Cx) (Q:Post) (st:List Frm) (nm:Nat) (e:Env) (M:ah) (d:Bool) (fs:Y9) (ops:ZD) (dst:Option Tmp) (t:TypeId) (pos:String) (af:Array Edge) (r:ZD) (i:Nat),bb cx Q st nm e M d fs ops (⟨dst,o,t,pos,af,none⟩::r) i=(eW cx true e M ⟨dst,o,t,pos,af,none⟩/\bb cx Q st nm (e.putD dst (j6 cx true e M (nm+16*i) ⟨dst,o,t,pos,af,none⟩)) (M.app (kU cx true e M (nm+16*i) ⟨dst,o,t,pos,af,none⟩)) d (fs++[wn cx true e (nm+16*i) ⟨dst,o,t,pos,af,none⟩]) ops r (i+1))
abbrev Lh (o:Op):Prop:=∀(b want:Bool) (cx:Cx) (Q:Post) (st:List Frm) (nm:Nat) (e:Env) (M:ah) (d:Bool) (fs:Y9) (ops:ZD) (dst:Option Tmp) (t:TypeId) (pos:String) (af:Array Edge) (r:ZD) (i:Nat) (gd:Option (Nat×Bool)),e8 cx Q st nm e M d fs (.bool b) want ops ⟨dst,o,t,pos,af,gd⟩ r i=(((b==want)=true->eW cx (b==want) e M ⟨dst,o,t,pos,af,gd⟩)/\bb cx Q st nm (e.putD dst (.gd (b==want) (j6 cx (b==want) e M (nm+16*i) ⟨dst,o,t,pos,af,gd⟩))) M d (fs++[wn cx (b==want) e (nm+16*i) ⟨dst,o,t,pos,af,gd⟩]) ops r (i+1))
abbrev V8 (o:Op):Prop:=∀(b want:Bool) (cx:Cx) (Q:Post) (st:List Frm) (nm:Nat) (e:Env) (M:ah) (d:Bool) (fs:Y9) (ops:ZD) (dst:Option Tmp) (t:TypeId) (pos:String) (af:Array Edge) (r:ZD) (i:Nat) (gd:Option (Nat×Bool)),e8 cx Q st nm e M d fs (.bool b) want ops ⟨dst,o,t,pos,af,gd⟩ r i=(((b==want)=true->eW cx true e M ⟨dst,o,t,pos,af,gd⟩/\bb cx Q st nm (e.putD dst (j6 cx true e M (nm+16*i) ⟨dst,o,t,pos,af,gd⟩)) (M.app (kU cx true e M (nm+16*i) ⟨dst,o,t,pos,af,gd⟩)) d (fs++[wn cx true e (nm+16*i) ⟨dst,o,t,pos,af,gd⟩]) ops r (i+1))/\((b==want)=false->bb cx Q st nm (e.putD dst .any) M d (fs++[[]]) ops r (i+1)))
abbrev Li (o:Op):Prop:=∀(cx:Cx) (Q:Post) (st:List Frm) (nm:Nat) (e:Env) (M:ah) (d:Bool) (fs:Y9) (ops:ZD) (dst:Option Tmp) (t:TypeId) (pos:String) (af:Array Edge) (r:ZD) (i:Nat),bb cx Q st nm e M d fs ops (⟨dst,o,t,pos,af,none⟩::r) i=eH cx Q st nm e M d fs ops ⟨dst,o,t,pos,af,none⟩ r i
abbrev V9 (o:Op):Prop:=∀(b want:Bool) (cx:Cx) (Q:Post) (st:List Frm) (nm:Nat) (e:Env) (M:ah) (d:Bool) (fs:Y9) (ops:ZD) (dst:Option Tmp) (t:TypeId) (pos:String) (af:Array Edge) (r:ZD) (i:Nat) (gd:Option (Nat×Bool)),e8 cx Q st nm e M d fs (.bool b) want ops ⟨dst,o,t,pos,af,gd⟩ r i=sA cx Q st nm e M d fs (b==want) ops ⟨dst,o,t,pos,af,gd⟩ r i
abbrev V7 (o:Op):Prop:=∀(cx:Cx) (Q:Post) (st:List Frm) (nm:Nat) (e:Env) (M:ah) (d:Bool) (fs:Y9) (ops:ZD) (dst:Option Tmp) (t:TypeId) (pos:String) (af:Array Edge) (r:ZD) (i:Nat),bb cx Q st nm e M d fs ops (⟨dst,o,t,pos,af,none⟩::r) i=S4 cx Q st nm e M d fs ops ⟨dst,o,t,pos,af,none⟩ r i
section
variable (cx:Cx) (Q:Post) (st:List Frm) (nm:Nat) (e:Env) (M:ah)
variable (d:Bool) (fs:Y9) (ops:ZD) (dst:Option Tmp) (t:TypeId) (pos:String) (af:Array Edge) (r:ZD) (i:Nat)
def Fu (x:Operand):uN (.move x):=rS
def AO (x:Operand):uN (.assign x):=rS
def vN (x:Operand):uN (.nilCheck x):=rS
def Fw (x y z:Operand):uN (.pick x y z):=rS
def CR (ty:TypeId)(ps:Array (Nat×Operand)):uN (.build ty ps):=rS
def Ft (ty:TypeId)(x:Operand):uN (.load ty x):=rS
def CQ (o:BinOp)(ty:TypeId)(x y:Operand)(yt:TypeId):uN (.binOp o ty x y yt):=rS
def Fx (o:UnOp)(ty:TypeId)(x:Operand):uN (.unOp o ty x):=rS
def ue (ty:TypeId)(x:Operand)(f:Nat):uN (.fieldAddr ty x f):=rS
def uf (ty:TypeId)(x k:Operand):uN (.indexAddr ty x k):=rS
def CT (ty:TypeId)(x k:Operand):uN (.index ty x k):=rS
def ya (x:Operand)(k:Nat):uN (.extract x k):=rS
def vM (f:FuncId)(a c:ZE):uN (.makeFunc (.func f) a c):=rS
def I4 (as:ZE)(ts:ZF):uN (.call ⟨.builtin .len,as,ts⟩):=rS
def I5 (as:ZE)(ts:ZF):uN (.call ⟨.builtin .max,as,ts⟩):=rS
def I6 (as:ZE)(ts:ZF):uN (.call ⟨.builtin .min,as,ts⟩):=rS
def I3 (as:ZE)(ts:ZF):uN (.call ⟨.builtin .cap,as,ts⟩):=rS
def CP (ty:TypeId):uN (.alloc ty):=rS
def I2 (ty:TypeId)(x:Operand):uN (.box ty x):=rS
def sD (ty:TypeId)(n:Nat)(ps:Array (Nat×Operand)):uN (.buildSlice ty n ps):=rS
def CW (ty:TypeId)(x v:Operand):uN (.store ty x v):=rS
def AN (as:ZE)(ts:ZF):uN (.call ⟨.builtin .append,as,ts⟩):=rS
def Fs (as:ZE)(ts:ZF):uN (.call ⟨.builtin .copy,as,ts⟩):=rS
def AK (x:Operand):Lh (.move x):=rS
def sC (x:Operand):Lh (.nilCheck x):=rS
def AL (x y z:Operand):Lh (.pick x y z):=rS
def AJ (ty:TypeId)(x:Operand):Lh (.load ty x):=rS
def x6 (o:BinOp)(ty:TypeId)(x y:Operand)(yt:TypeId):Lh (.binOp o ty x y yt):=rS
def AM (o:UnOp)(ty:TypeId)(x:Operand):Lh (.unOp o ty x):=rS
def rn (ty:TypeId)(x:Operand)(f:Nat):Lh (.fieldAddr ty x f):=rS
def ro (ty:TypeId)(x k:Operand):Lh (.indexAddr ty x k):=rS
def x7 (ty:TypeId)(x k:Operand):Lh (.index ty x k):=rS
def sB (f:FuncId)(a c:ZE):Lh (.makeFunc (.func f) a c):=rS
def CN (as:ZE)(ts:ZF):Lh (.call ⟨.builtin .len,as,ts⟩):=rS
def ug (ty:TypeId)(x y:Operand):Li (.makeSlice ty x y):=rS
def yb (ty:TypeId)(x:Option Operand):Li (.makeMap ty x):=rS
def pE (ty:TypeId)(x:Operand):Li (.makeInterface ty x):=rS
def sE (x:Operand)(ty ty2:TypeId)(ok:Bool):Li (.typeAssert x ty ty2 ok):=rS
def AQ (ty:TypeId)(x y:Operand)(ok:Bool):Li (.lookup ty x y ok):=rS
def uh (ty:TypeId)(x y z:Operand):Li (.mapUpdate ty x y z):=rS
def AP (ty:TypeId)(x y z:Operand):Li (.insert ty x y z):=rS
def CU (ty:TypeId)(x:Operand):Li (.range ty x):=rS
def Fv (x:Operand)(s:Bool):Li (.next x s):=rS
def qq (as:ZE)(ts:ZF):Li (.call ⟨.builtin .unsafeString,as,ts⟩):=rS
def nH (as:ZE)(ts:ZF):Li (.call ⟨.builtin .unsafeSliceData,as,ts⟩):=rS
def x9 (ts td:TypeId)(x:Operand):bb cx Q st nm e M d fs ops (⟨dst,.convert ts td x,t,pos,af,none⟩::r) i=if jt (cx.P.underlying ts) (cx.P.underlying td)=true then eH cx Q st nm e M d fs ops ⟨dst,.convert ts td x,t,pos,af,none⟩ r i else (eW cx true e M ⟨dst,.convert ts td x,t,pos,af,none⟩ /\
  bb cx Q st nm (e.putD dst (j6 cx true e M (nm+16*i) ⟨dst,.convert ts td x,t,pos,af,none⟩)) M d (fs++[wn cx true e (nm+16*i) ⟨dst,.convert ts td x,t,pos,af,none⟩]) ops r (i+1)):=by
 rfl
def ud (b want:Bool)(ts td:TypeId)(x:Operand)(gd:Option (Nat×Bool)):e8 cx Q st nm e M d fs (.bool b) want ops ⟨dst,.convert ts td x,t,pos,af,gd⟩ r i=if jt (cx.P.underlying ts) (cx.P.underlying td)=true then sA cx Q st nm e M d fs (b==want) ops ⟨dst,.convert ts td x,t,pos,af,gd⟩ r i else (((b==want)=true->eW cx (b==want) e M ⟨dst,.convert ts td x,t,pos,af,gd⟩) /\
  bb cx Q st nm (e.putD dst (.gd (b==want) (j6 cx (b==want) e M (nm+16*i) ⟨dst,.convert ts td x,t,pos,af,gd⟩))) M d (fs++[wn cx (b==want) e (nm+16*i) ⟨dst,.convert ts td x,t,pos,af,gd⟩]) ops r (i+1)):=by
 rfl
def CA (k:IntKind)(x:Option TypeDesc):jt (some (.int k)) x=false:=rfl
def vy (k:IntKind)(x:Option TypeDesc):jt x (some (.int k))=false:=by rcases x with _|x<;>first|rfl|(cases x<;>rfl)
def E9:jt (some .string) (some .string)=false:=rfl
def E8 (e:TypeId):jt (some .string) (some (.slice e))=true:=rfl
def E6 (e:TypeId):jt (some (.slice e)) (some .string)=true:=rfl
def E7 (e:TypeId):jt (some (.pointer e)) (some .unsafePointer)=true:=rfl
def Fa (e:TypeId):jt (some .unsafePointer) (some (.pointer e))=true:=rfl
def CV (ty:TypeId)(x:Operand)(l h m:Option Operand):bb cx Q st nm e M d fs ops (⟨dst,.slice ty x l h m,t,pos,af,none⟩::r) i=if HW (cx.P.underlying ty)=true then eH cx Q st nm e M d fs ops ⟨dst,.slice ty x l h m,t,pos,af,none⟩ r i else (eW cx true e M ⟨dst,.slice ty x l h m,t,pos,af,none⟩ /\
  bb cx Q st nm (e.putD dst (j6 cx true e M (nm+16*i) ⟨dst,.slice ty x l h m,t,pos,af,none⟩)) M d (fs++[wn cx true e (nm+16*i) ⟨dst,.slice ty x l h m,t,pos,af,none⟩]) ops r (i+1)):=by
 rfl
def x8 (b want:Bool)(ty:TypeId)(x:Operand)(l h m:Option Operand)(gd:Option (Nat×Bool)):e8 cx Q st nm e M d fs (.bool b) want ops ⟨dst,.slice ty x l h m,t,pos,af,gd⟩ r i=if HW (cx.P.underlying ty)=true then sA cx Q st nm e M d fs (b==want) ops ⟨dst,.slice ty x l h m,t,pos,af,gd⟩ r i else (((b==want)=true->eW cx (b==want) e M ⟨dst,.slice ty x l h m,t,pos,af,gd⟩) /\
  bb cx Q st nm (e.putD dst (.gd (b==want) (j6 cx (b==want) e M (nm+16*i) ⟨dst,.slice ty x l h m,t,pos,af,gd⟩))) M d (fs++[wn cx (b==want) e (nm+16*i) ⟨dst,.slice ty x l h m,t,pos,af,gd⟩]) ops r (i+1)):=by
 rfl
def Ly:HW (some .string)=false:=rfl
def Pu (e:TypeId):HW (some (.slice e))=false:=rfl
def Lw (n:Nat)(e:TypeId):HW (some (.array n e))=true:=rfl
def AH (d:Bool)(fs:Y9)(b want:Bool)(ops:ZD)(dst:Option Tmp)(f:Operand)(as:ZE)(ts:ZF)(t:TypeId)(pos:String)(af:Array Edge)(r:ZD)(i:Nat)(gd:Option (Nat×Bool)) :
  e8 cx Q st nm e M d fs (.bool b) want ops ⟨dst,.call ⟨.value f,as,ts⟩,t,pos,af,gd⟩ r i=eZ cx Q st nm e M d fs (b==want) ops ⟨dst,.call ⟨.value f,as,ts⟩,t,pos,af,gd⟩ r i:=propext XO
end
end Go.Proofs.YtgboofebldgdjaaGreatDoor.Vm
namespace Go.Proofs.YtgboofebldgdjaaGreatDoor.Vm
open Go Go.RowKit
set_option linter.defProp false
def VX :=
 (Ai (Ai (Ai (Ai @Ly (Ai @Pu @Lw)) (Ai @Fa (Ai @E7 @ld.eq_1))) (Ai (Ai @ld.eq_2 (Ai @ld.eq_3 @ld.eq_4)) (Ai @Blk.ty_typed (Ai @Blk.ty_plain @cJ)))) (Ai (Ai (Ai @H9 (Ai @EA.eq_1 @E6)) (Ai @E8 (Ai @E9 @vy))) @CA))
def VY :=
 (Ai (Ai @nH @qq) (Ai (Ai @Fv @CU) @AP))
def VZ :=
 (Ai (Ai (Ai @uh (Ai @AQ @sE)) (Ai @pE @yb)) (Ai (Ai @ug @Fq) (Ai @CM @AH)))
def V0 :=
 (Ai (Ai (Ai (Ai @CN @sB) (Ai @x7 @ro)) (Ai (Ai @rn (Ai @x8 @ud)) (Ai @AM (Ai @x6 @AJ)))) (Ai (Ai (Ai @AL @sC) (Ai @AK @AN)) (Ai (Ai @CW (Ai @sD @I2)) (Ai @CP (Ai @I6 @I5)))))
def V1 :=
 (Ai (Ai (Ai (Ai @I4 (Ai @vM @ya)) (Ai @CT @uf)) (Ai (Ai @ue (Ai @CV @x9)) (Ai @Fx (Ai @CQ @Ft)))) (Ai (Ai (Ai @CR (Ai @Fw @vN)) (Ai @AO (Ai @Fu @Qw))) (Ai (Ai @MD (Ai @Qu @go_ret)) (Ai @S5 (Ai @MB @Qt)))))
def V2 :=
 (Ai (Ai (Ai (Ai @Qv (Ai @I8 @rm)) (Ai @I1 (Ai @vL @x4))) (Ai (Ai @Mz (Ai @xZ @AF)) (Ai @uc (Ai @vK @I7)))) (Ai (Ai (Ai @vO (Ai @Fr @CS)) (Ai @jZ.eq_1 (Ai @jZ.eq_2 @jZ.eq_3))) (Ai (Ai @rW.eq_1 (Ai @rW.eq_2 @rW.eq_3)) (Ai @rW.eq_4 (Ai @rW.eq_5 @rW.eq_6)))))
def V3 :=
 (Ai (Ai (Ai (Ai @rW.eq_7 (Ai @rW.eq_8 @rW.eq_9)) (Ai @rW.eq_10 (Ai @rW.eq_11 @kM.eq_1))) (Ai (Ai @JL (Ai @JK @Ty)) (Ai @yj (Ai @pP @KF)))) (Ai (Ai (Ai @GI (Ai @KI @KL)) (Ai @GK (Ai @KK @OA))) (Ai (Ai @GL (Ai @OB @KJ)) (Ai @Oy (Ai @KE @KM)))))
def V4 :=
 (Ai (Ai (Ai (Ai @KO (Ai @JH @NG)) (Ai @Re (Ai @JG @NH))) (Ai (Ai @ge_iff_le.{0} (Ai @gt_iff_lt.{0} @mC.eq_1)) (Ai @mC.eq_2 (Ai @Bn.eq_1 @Bn.eq_2)))) (Ai (Ai (Ai @mD.eq_1 (Ai @mD.eq_2 @zI.eq_1)) (Ai @zI.eq_2 (Ai @V.fin.eq_1 @V.fin.eq_2))) (Ai (Ai @V.fin.eq_3 (Ai @V.fin.eq_4 @V.fin.eq_5)) (Ai @V.fin.eq_6 (Ai @V.fin.eq_7 @V.fin.eq_8)))))
def V5 :=
 (Ai (Ai (Ai (Ai @V.fin.eq_9 (Ai @V.fin.eq_10 @V.fin.eq_11)) (Ai @V.fin.eq_12 (Ai @V.finOk.eq_1 @V.finOk.eq_2))) (Ai (Ai @V.finOk.eq_3 (Ai @V.finOk.eq_4 @V.finOk.eq_5)) (Ai @V.finOk.eq_6 (Ai @V.finOk.eq_7 @V.finOk.eq_8)))) (Ai (Ai (Ai @V.finOk.eq_9 (Ai @V.finOk.eq_10 @V.finOk.eq_11)) (Ai @V.finOk.eq_12 (Ai @V.finOk.eq_13 @finL.eq_1))) (Ai (Ai @finL.eq_2 (Ai @finLOk.eq_1 @finLOk.eq_2)) (Ai @V.plain.eq_1 (Ai @V.plain.eq_2 @V.plain.eq_3)))))
def V6 :=
 (Ai (Ai (Ai (Ai @V.plain.eq_4 (Ai @V.plain.eq_5 @V.plain.eq_6)) (Ai @V.plain.eq_7 (Ai @V.plain.eq_8 @V.plain.eq_9))) (Ai (Ai @V.plain.eq_10 (Ai @V.plain.eq_11 @V.plain.eq_12)) (Ai @V.plain.eq_13 (Ai @V.plain.eq_14 @V.plain.eq_15)))) (Ai (Ai (Ai @plainL.eq_1 (Ai @plainL.eq_2 @plainLL.eq_1)) (Ai @plainLL.eq_2 (Ai @H5 @EK))) (Ai (Ai @BL (Ai @Lu @app_nil)) (Ai @BS (Ai @QR @Tq)))))
def Vw :=
 (Ai (Ai (Ai (Ai @eW.eq_1 (Ai @j6.eq_1 @Hs.eq_1)) (Ai @Hs.eq_2 (Ai @kU.eq_1 @wn.eq_1))) (Ai (Ai @bt.eq_1 (Ai @bt.eq_2 @bt.eq_3)) (Ai @bt.eq_4 (Ai @bt.eq_5 @List.flatMap_cons.{0,0})))) (Ai (Ai (Ai @List.flatMap_nil.{0,0} (Ai @ap.eq_1 @ap.eq_2)) (Ai @ap.eq_3 (Ai @ap.eq_4 @Q4.eq_1))) (Ai (Ai @Q4.eq_2 (Ai @nI.eq_1 @nI.eq_2)) (Ai @nI.eq_3 (Ai @nI.eq_4 @nI.eq_5)))))
def Vx :=
 (Ai (Ai (Ai (Ai @nI.eq_6 (Ai @ma.eq_1 @ma.eq_2)) (Ai @dH.eq_1 (Ai @co.eq_1 @co.eq_2))) (Ai (Ai @co.eq_3 (Ai @co.eq_4 @co.eq_5)) (Ai @co.eq_6 (Ai @co.eq_7 @co.eq_8)))) (Ai (Ai (Ai @co.eq_9 (Ai @bN.eq_1 @bN.eq_2)) (Ai @bN.eq_3 (Ai @bN.eq_4 @bN.eq_5))) (Ai (Ai @bN.eq_6 (Ai @bN.eq_7 @uA.eq_def)) (Ai @cK.eq_1 (Ai @cK.eq_2 @cK.eq_3)))))
def Vy :=
 (Ai (Ai (Ai (Ai @cK.eq_4 (Ai @cK.eq_5 @cK.eq_6)) (Ai @cK.eq_7 (Ai @cK.eq_8 @lL.eq_1))) (Ai (Ai @lL.eq_2 (Ai @y6.eq_1 @v4.eq_1)) (Ai @target.eq_1 (Ai @target.eq_2 @target.eq_3)))) (Ai (Ai (Ai @rowOf.eq_1 (Ai @bD.eq_1 @eT.eq_1)) (Ai @V.isPtr.eq_1 (Ai @V.isPtr.eq_2 @V.isPtr.eq_3))) (Ai (Ai @V.one.eq_1 (Ai @V.one.eq_2 @V.one.eq_3)) (Ai @V.one.eq_4 (Ai @V.one.eq_5 @V.one.eq_6)))))
def Vz :=
 (Ai (Ai (Ai (Ai @V.cellsV.eq_1 (Ai @V.cellsV.eq_2 @nt.eq_1)) (Ai @nt.eq_2 (Ai @bw.eq_1 @kj.eq_1))) (Ai (Ai @kj.eq_2 (Ai @Sz.eq_1 @gZ.eq_1)) (Ai @gZ.eq_2 (Ai @gZ.eq_3 @og.eq_1)))) (Ai (Ai (Ai @tR.eq_1 (Ai @vz.eq_1 @vz.eq_2)) (Ai @ri.eq_1 (Ai @ri.eq_2 @A1.eq_1))) (Ai (Ai @A1.eq_2 (Ai @A1.eq_3 @A1.eq_4)) (Ai @A1.eq_5 (Ai @rv.eq_1 @rv.eq_2)))))
def VA :=
 (Ai (Ai (Ai (Ai @ce.eq_1 (Ai @ce.eq_2 @ce.eq_3)) (Ai @ce.eq_4 (Ai @ce.eq_5 @ce.eq_6))) (Ai (Ai @dU.eq_def (Ai @qr.eq_1 @qr.eq_2)) (Ai @qr.eq_3 (Ai @ru.eq_1 @ru.eq_2)))) (Ai (Ai (Ai @ru.eq_3 (Ai @jl.eq_1 @jl.eq_2)) (Ai @jl.eq_3 (Ai @jl.eq_4 @jl.eq_5))) (Ai (Ai @jl.eq_6 (Ai @jl.eq_7 @jl.eq_8)) (Ai @uH.eq_1 (Ai @kN.eq_1 @kN.eq_2)))))
def VB :=
 (Ai (Ai (Ai (Ai @dZ.eq_1 (Ai @dZ.eq_2 @dZ.eq_3)) (Ai @dZ.eq_4 (Ai @dZ.eq_5 @dZ.eq_6))) (Ai (Ai @dZ.eq_7 (Ai @dZ.eq_8 @dZ.eq_9)) (Ai @dZ.eq_10 (Ai @dZ.eq_11 @dZ.eq_12)))) (Ai (Ai (Ai @dZ.eq_13 (Ai @dZ.eq_14 @dZ.eq_15)) (Ai @dZ.eq_16 (Ai @dZ.eq_17 @jM.eq_1))) (Ai (Ai @jM.eq_2 (Ai @jM.eq_3 @jM.eq_4)) (Ai @jM.eq_5 (Ai @lM.eq_1 @lM.eq_2)))))
def VC :=
 (Ai (Ai (Ai (Ai @lM.eq_3 (Ai @lM.eq_4 @lM.eq_5)) (Ai @lM.eq_6 (Ai @lM.eq_7 @lM.eq_8))) (Ai (Ai @gk.eq_1 (Ai @gk.eq_2 @gk.eq_3)) (Ai @gk.eq_4 (Ai @gk.eq_5 @gk.eq_6)))) (Ai (Ai (Ai @gk.eq_7 (Ai @gk.eq_8 @E5.eq_1)) (Ai @E5.eq_2 (Ai @E5.eq_3 @E5.eq_4))) (Ai (Ai @Qh.eq_1 (Ai @Qh.eq_2 @Cr.eq_1)) (Ai @Cr.eq_2 (Ai @lg.eq_1 @lg.eq_2)))))
def VD :=
 (Ai (Ai (Ai (Ai @lg.eq_3 (Ai @lg.eq_4 @lg.eq_5)) (Ai @lg.eq_6 (Ai @lg.eq_7 @lg.eq_8))) (Ai (Ai @lg.eq_9 (Ai @lg.eq_10 @lg.eq_11)) (Ai @lg.eq_12 (Ai @lg.eq_13 @lg.eq_14)))) (Ai (Ai (Ai @lg.eq_15 (Ai @iH.eq_1 @iH.eq_2)) (Ai @iH.eq_3 (Ai @iH.eq_4 @iH.eq_5))) (Ai (Ai @iH.eq_6 (Ai @iH.eq_7 @iH.eq_8)) (Ai @iH.eq_9 (Ai @iH.eq_10 @iH.eq_11)))))
def VE :=
 (Ai (Ai (Ai (Ai @iH.eq_12 (Ai @iH.eq_13 @iH.eq_14)) (Ai @iH.eq_15 (Ai @TY.eq_1 @TY.eq_2))) (Ai (Ai @TY.eq_3 (Ai @TY.eq_4 @TY.eq_5)) (Ai @D8.eq_1 (Ai @D8.eq_2 @D8.eq_3)))) (Ai (Ai (Ai @D8.eq_4 (Ai @D8.eq_5 @lW.eq_def)) (Ai @oV.eq_def (Ai @lA.eq_1 @lA.eq_2))) (Ai (Ai @jP.eq_1 (Ai @jP.eq_2 @od.eq_1)) (Ai @od.eq_2 (Ai @lZ.eq_1 @lZ.eq_2)))))
def VF :=
 (Ai (Ai (Ai (Ai @mS.eq_1 (Ai @mS.eq_2 @lU.eq_1)) (Ai @lU.eq_2 (Ai @vb.eq_1 @uq.eq_1))) (Ai (Ai @nB.eq_1 (Ai @nB.eq_2 @o9.eq_1)) (Ai @o9.eq_2 (Ai @jy.eq_1 @j9.eq_1)))) (Ai (Ai (Ai @aJ.eq_1 (Ai @aJ.eq_2 @aJ.eq_3)) (Ai @aJ.eq_4 (Ai @aJ.eq_5 @fx.eq_1))) (Ai (Ai @fx.eq_2 (Ai @fx.eq_3 @fx.eq_4)) (Ai @fx.eq_5 (Ai @fx.eq_6 @pJ.eq_1)))))
def VG :=
 (Ai (Ai (Ai (Ai @pJ.eq_2 (Ai @pJ.eq_3 @eY.eq_1)) (Ai @fS.eq_1 (Ai @fX.eq_1 @List.toList_toArray.{0}))) (Ai (Ai @Int.toNat_natCast (Ai @Int.natCast_nonneg @Int.toNat_zero)) (Ai @Int.toNat_one (Ai @IS @Int.le_refl)))) (Ai (Ai (Ai @WB (Ai @YR @X2)) (Ai @Y5 (Ai @Nat.add_zero @We))) (Ai (Ai @Nat.mul_zero (Ai @Nat.add_left_cancel_iff @if_true.{1})) (Ai @if_true.{0} (Ai @if_false.{1} @if_false.{0})))))
def VH :=
 (Ai (Ai (Ai (Ai @ite_true.{1} (Ai @ite_true.{0} @ite_false.{1})) (Ai @ite_false.{0} (Ai @WH @Bool.true_eq_false))) (Ai (Ai @Yj (Ai @Yb @decide_true)) (Ai @decide_false (Ai @true_implies @Yk)))) (Ai (Ai (Ai @implies_true.{1} (Ai @implies_true.{0} @Yx)) (Ai @true_and (Ai @and_false @false_and))) (Ai (Ai @XJ (Ai @List.getElem?_cons_zero.{0} @List.getElem?_cons_succ.{0})) (Ai @List.getElem?_nil.{0} (Ai @List.map_cons.{0,0} @List.map_nil.{0,0})))))
def VI :=
 (Ai (Ai (Ai (Ai @List.length_cons.{0} (Ai @List.length_nil.{0} @List.cons_append.{0})) (Ai @List.nil_append.{0} (Ai @List.append_nil.{0} @Option.getD_some.{0}))) (Ai (Ai @Option.getD_none.{0} (Ai @Option.isSome_some.{0} @Option.isSome_none.{0})) (Ai @Option.map_some.{0,0} (Ai @Option.map_none.{0,0} @List.drop_zero.{0})))) (Ai (Ai (Ai @List.drop_succ_cons.{0} (Ai @List.take_zero.{0} @List.take_succ_cons.{0})) (Ai @List.set_cons_zero.{0} (Ai @List.set_cons_succ.{0} @List.all_cons.{0}))) (Ai (Ai @List.all_nil.{0} (Ai @Wz @Wq)) (Ai @List.headD_cons.{0} (Ai @nx.eq_1 @nx.eq_2)))))
def VJ :=
 (Ai (Ai (Ai (Ai @nx.eq_3 (Ai @Nat.left_eq_add @Nat.add_eq_left)) (Ai @List.replicate_zero.{0} (Ai @List.replicate_succ.{0} @Nat.add_right_cancel_iff))) (Ai (Ai @KG (Ai @List.isEmpty_cons.{0} @List.isEmpty_nil.{0})) (Ai @QI (Ai @Dd @bR)))) (Ai (Ai (Ai @S9 (Ai @m9 @QF)) (Ai @Tb (Ai @jh @vW))) (Ai (Ai @QH (Ai @Ta @Te)) (Ai @UK (Ai @UL @Td)))))
def VK :=
 (Ai (Ai (Ai (Ai @UH (Ai @UI @Tg)) (Ai @dQ (Ai @cS @eJ))) (Ai (Ai @gy (Ai @bF @List.take_length.{0})) (Ai @Yp (Ai @true_or @XU)))) (Ai (Ai (Ai @false_or (Ai @or_self @forall_const.{1})) (Ai @forall_const.{0} (Ai @List.isEmpty_iff.{0} @List.map_eq_nil_iff.{0,0}))) (Ai (Ai @ne_eq.{1} (Ai @ne_eq.{0} @Option.some.injEq.{0})) (Ai @Xw (Ai @al.eq_1 @Int.ofNat_lt)))))
def VL :=
 (Ai (Ai (Ai (Ai @Int.ofNat_le (Ai @Nat.lt_irrefl @beq_self_eq_true.{0})) (Ai @bne_self_eq_false.{0} (Ai @Int.natCast_zero @Int.cast_ofNat_Int))) (Ai (Ai @I3 @Fs) (Ai @ME @GM))) (Ai (Ai (Ai @GJ (Ai @De @QG)) (Ai @Ao.eq_1 (Ai @Ao.eq_2 @Ao.eq_3))) (Ai (Ai @tB.eq_1 (Ai @tB.eq_2 @tB.eq_3)) (Ai @tB.eq_4 (Ai @nT.eq_1 @jr.eq_1)))))
def VM :=
 (Ai (Ai (Ai (Ai @jr.eq_2 (Ai @jr.eq_3 @jr.eq_4)) (Ai @nz.eq_1 (Ai @nz.eq_2 @nz.eq_3))) (Ai (Ai @qV.eq_1 (Ai @jz.eq_1 @QJ.eq_1)) (Ai @QJ.eq_2 (Ai @QJ.eq_3 @iM.eq_1)))) (Ai (Ai (Ai @ry (Ai @Q0.eq_1 @pA.eq_def)) (Ai @oS.eq_1 (Ai @intKind.eq_1 @tc.eq_1))) (Ai (Ai @Nat.sub_zero (Ai @CL @AE)) (Ai @x5 (Ai @AG @SR)))))
def VN :=
 (Ai (Ai (Ai (Ai @G9 (Ai @Oz @KH)) (Ai @DX (Ai @UJ @Tc))) (Ai (Ai @MT (Ai @KN @OC)) (Ai @Tf (Ai @UM @MU)))) (Ai (Ai (Ai @FO (Ai @M9 @Js)) (Ai @Na (Ai @Nc @Ni))) (Ai (Ai @Ju (Ai @Nk @QX)) (Ai @Nh (Ai @QV @Jv)))))
def VO :=
 (Ai (Ai (Ai @QW (Ai @Ng @Jw)) (Ai (Ai @Jt @QU) (Ai @QS @Nb))) (Ai (Ai (Ai @M8 @Nj) (Ai @QT @FU)) (Ai (Ai @Nf @isConst.eq_1) (Ai @isConst.eq_2 @sG.eq_1))))
def au:=(Ai (Ai (Ai (Ai VX (Ai VY VZ)) (Ai (Ai V0 V1) (Ai V2 V3))) (Ai (Ai V4 (Ai V5 V6)) (Ai (Ai Vw Vx) (Ai Vy Vz)))) (Ai (Ai (Ai VA (Ai VB VC)) (Ai (Ai VD VE) (Ai VF VG))) (Ai (Ai (Ai VH VI) (Ai VJ VK)) (Ai (Ai VL VM) (Ai VN VO)))))
def Et (S:TypeId->List V->Prop):List Field->List V->Prop
 | [],vs=>vs=[]
 | f::r,vs=>∃ a b,vs=a++b/\S f.type a/\Et S r b
def Shape (P:Program):Nat->TypeId->List V->Prop
 | 0,_,_=>False
 | n+1,t,vs=>match P.underlying t with
  | some .bool=>∃ b,vs=[.bool b]
  | some (.int k)=>∃ m,vs=[.int k m]/\(Lit.int k m).wf=true
  | some .string=>∃ s:ZA,vs=[.str s]/\s.length<=reachBytes
  | some (.slice e)=>∃ rows,vs=[.sl false (P.cellsOf e) rows]/\rows.length<=maxLen/\rows.length*P.bytesOf e<=reachBytes /\ ∀ r∈rows,Shape P n e r
  | some (.struct fs)=>Et (Shape P n) fs.toList vs
  | some (.pointer e)=>vs=[.nilp] \/ ∃ cells,vs=[.rp cells]/\Shape P n e cells
  | _=>False
def fa (w:World)(vs:List V)(cs:List Value):Prop:=vs.length=cs.length /\ ∀(i:Nat) (v:V) (c:Value),vs[i]? = some v->cs[i]? = some c->Is (fun _=>none) (fun _=>False) w v c
def fa.nil (w:World):fa w [] []:=⟨rfl,fun i v c h=>by simp at h⟩
def fa.one {w:World}{v:V}{c:Value}(h:Is (fun _=>none) (fun _=>False) w v c):fa w [v] [c]:=⟨rfl,fun i u d hu hd=>by
 grind⟩
def fa.append {w:World}{vs us:List V}{cs ds:List Value}(h:fa w vs cs)(k:fa w us ds):fa w (vs++us) (cs++ds):=by
 refine⟨by simp[h.1,k.1],fun i v c hv hc=>?_⟩
 rw[Ws]at hv hc
 rw[h.1]at hv
 split at hv
 ·rename_i hlt
  rw[if_pos hlt]at hc
  exact h.2 i v c hv hc
 ·rename_i hlt
  rw[if_neg hlt]at hc
  exact k.2 _ v c hv hc
def tF {α:Type} : ∀(n:Nat) (p:Nat->α->Prop),(∀ i,i<n -> ∃ r,p i r) -> ∃ l:List α,l.length=n /\ ∀(i:Nat) (r:α),l[i]? = some r->p i r
 | 0,p,_=>⟨[],rfl,fun i r h=>by simp at h⟩
 | n+1,p,h=>by
  obtain⟨l,h1,h2⟩:=tF n p (fun i hi=>h i Y6)
  obtain⟨r,hr⟩:=h n Y6
  refine⟨l++[r],by simp[h1],fun i r' hi=>?_⟩
  grind
def mapM_length {α β:Type}{f:α->Option β} : ∀ {l:List α} {r:List β},l.mapM f=some r->r.length=l.length
 | [],r,h=>by simp_all
 | x::l,r,h=>by
  simp only[Ya,Option.bind_eq_bind,Option.pure_def]at h
  obtain⟨y,h1,h2⟩:=WC.1 h
  obtain⟨l',h3,h4⟩:=WC.1 h2
  simp only[WO]at h4
  subst h4
  simp[mapM_length h3]
def Di {α β:Type}{f:α->Option β} : ∀ {l:List α} {r:List β},l.mapM f=some r -> ∀(i:Nat) (a:α),l[i]? = some a -> ∃ b,f a=some b/\r[i]? = some b
 | [],_,_,i,a,ha=>by simp at ha
 | x::l,r,h,i,a,ha=>by
  simp only[Ya,Option.bind_eq_bind,Option.pure_def]at h
  obtain⟨y,h1,h2⟩:=WC.1 h
  obtain⟨l',h3,h4⟩:=WC.1 h2
  simp only[WO]at h4
  subst h4
  cases i with
  | zero=>simp_all
  | succ i=>obtain⟨b,b1,b2⟩:=Di h3 i a (by simpa using ha);simp_all
def ow {H:Type}{P:Program}{e:TypeId}{m:Nat} : ∀ {l:List (DataW H)} {d:DataW H},d∈l->m∈d.weights P e->m∈DataW.weightsAll P e l
 | x::l,d,hd,hm=>by
  unfold DataW.weightsAll
  rcases WZ.1 hd with rfl|hd
  ·simp_all
  ·exact YU _ (ow hd hm)
def MS (P:Program)(tot:Nat):List Field->Nat->Bool
 | [],o=>o==tot
 | f::r,o=>f.offset==o&&MS P tot r (o+P.cellsOf f.type)
def Hx (P:Program)(ts:List TypeId):Bool:=ts.all fun t=>match P.underlying t with
 | some .bool|some (.int _)|some .string=>true
 | some (.slice e)=>ts.contains e&&decide (0<P.cellsOf e)
 | some (.pointer e)=>ts.contains e&&decide (0<P.cellsOf e)
 | some (.struct fs)=>(fs.toList.all fun f=>ts.contains f.type)&&MS P (P.cellsOf t) fs.toList 0
 | _=>false
def qS {w:World}{base:Nat}{a:Addr}{n:Nat}{cs:List Value}(h:w.cells? base a n=some cs):cs.length=n /\ ∀ i,i<n->w.cell? (a.add i)=cs[i]?:=by
 exact(World.cells?_some h).2
def vd {w:World}{a:Addr}{v:Value}(h:w.cell? (a.add 0)=some v):(a.add 0).spot=none/\a.block<w.heap.size:=by
 have ha:a.add 0=a:=by rfl
 rw[ha]at h ⊢
 unfold World.cell? at h
 split at h
 ·rename_i hb
  refine⟨?_,kQ hb⟩
  simp_all
 ·cases h
def add_plain {a:Addr}(h:(a.add 0).spot=none)(i:Nat):a.add i=⟨a.block,a.off+i,none⟩:=by
 have ha:a.add 0=a:=by rfl
 rw[ha]at h
 unfold Addr.add
 split
 ·rename_i h0;subst h0;cases a;simp_all
 rfl
def rj {P:Program}{w:World}{H:Type}{T:TypeId->List Value->Option (DataW H×List MemPlace)}{S:TypeId->List V->Prop}{tot:Nat}{cs:List Value}(hcs:cs.length=tot) :
    ∀(fs:List Field) (o:Nat) (xs:List (DataW H×List MemPlace)),(∀ f∈fs,∀(as:List Value) (y:DataW H×List MemPlace),T f.type as=some y->(∀ m∈y.1.weights P f.type,m<=reachBytes) -> ∃ vs,S f.type vs/\fa w vs as)->MS P tot fs o=true ->
      fs.mapM (fun f=>T f.type ((cs.drop f.offset).take (P.cellsOf f.type)))=some xs->(∀ m∈DataW.weightsEach P (fs.map (·.type)) (xs.map (·.1)),m<=reachBytes) -> ∃ vs,Et S fs vs/\fa w vs (cs.drop o)
  | [],o,xs,_,hl,_,_=>by
    simp only[MS,W3]at hl
    subst hl
    exact⟨[],rfl,by rw[<- hcs,XV];exact fa.nil w⟩
  | f::r,o,xs,hT,hl,h,hw=>by
    simp only[MS,In,W3]at hl
    obtain⟨rfl,hl⟩:=hl
    simp only[Ya,Option.bind_eq_bind,Option.pure_def]at h
    obtain⟨y,h1,h2⟩:=WC.1 h
    obtain⟨l',h3,h4⟩:=WC.1 h2
    simp only[WO]at h4
    subst h4
    simp only[Wc,DataW.weightsEach,Wf]at hw
    obtain⟨vs,g1,g2⟩:=hT f ZH _ y h1 (fun m hm=>hw m (.inl hm))
    obtain⟨us,g3,g4⟩:=rj hcs r _ l' (fun f' hf=>hT f' (by simp[hf])) hl h3 (fun m hm=>hw m (.inr hm))
    refine⟨vs++us,⟨vs,us,rfl,g1,g3⟩,?_⟩
    have:=g2.append g4
    grind[List.drop_drop,List.take_append_drop]
def nu {P:Program}{ts:List TypeId}(hts:Hx P ts=true){w:World}{H:Type}{enc:TypeId×Value->H}{base:Nat}{spare:Nat->Bool}{held:Bool} :
  ∀(n:Nat) (t:TypeId) (cs:List Value) (x:DataW H×List MemPlace),t∈ts->DataW.trod enc P w base spare held n t cs=some x->(∀ m∈x.1.weights P t,m<=reachBytes) -> ∃ vs,Shape P n t vs/\fa w vs cs
 | 0,t,cs,x,_,h,_=>by simp[DataW.trod]at h
 | n+1,t,cs,x,ht,h,hw=>by
  have hk:=WI.1 hts t ht
  unfold DataW.trod at h
  unfold Shape
  split at h<;>rename_i hu<;>try (cases h;done)
  all_goals rw[hu]at hk ⊢
  all_goals simp only at hk ⊢
  all_goals try (cases hk;done)
  ·exact⟨_,⟨_,rfl⟩,fa.one (.bool _)⟩
  ·rename_i k k' m
   split at h
   ·rename_i hkk
    obtain⟨rfl,hwf⟩:=hkk
    exact⟨_,⟨_,rfl,hwf⟩,fa.one (.int _ _)⟩
   ·cases h
  ·rename_i s
   split at h
   ·rename_i hs
    cases h
    refine⟨[.str s.data.toList],⟨_,rfl,hw _ (by simp[DataW.weights])⟩,fa.one ?_⟩
    have:=Is.str (ρ:=fun _=>none) (D:=fun _=>False) (w:=w) s.data.toList
    rw[Array.toArray_toList]at this
    exact this
   ·cases h
  ·exact⟨_,.inl rfl,fa.one .nilp⟩
  ·rename_i e a
   rw[In,WD,Xh]at hk
   obtain⟨y,h1,h0⟩:=BY.1 h
   subst h0
   simp only[DataW.weights,hu]at hw
   obtain⟨cs',h2,h3⟩:=WC.1 h1
   obtain⟨vs,g1,g2,g3⟩:=nu hts n e cs' y hk.1 h3 hw
   obtain⟨c1,c2⟩:=qS h2
   obtain⟨v0,hv0⟩:∃ v,cs'[0]? = some v:=⟨_,AT Y6⟩
   obtain⟨p1,p2⟩:=vd ((c2 0 Y6).trans hv0)
   refine⟨[.rp vs],.inr ⟨vs,rfl,g1⟩,fa.one ?_⟩
   have ha:a=⟨a.block,a.off,none⟩:=by cases a;simp only[Addr.add]at p1;simp_all
   rw[ha]
   have hcell:∀(j:Nat) (u:V),vs[j]? = some u -> ∃ c,w.cell? ⟨a.block,a.off+j,none⟩=some c/\Is (fun _=>none) (fun _=>False) w u c:=fun j u hj=>by
    have hlt:=(AS.1 hj).1
    obtain⟨c,hc⟩:∃ v,cs'[j]? = some v:=⟨_,AT Y6⟩
    exact⟨c,by rw[<- add_plain p1,c2 j Y6,hc],g3 j u c hj hc⟩
   refine .rp (fun j=>(w.cell? ⟨a.block,a.off+j,none⟩).getD undef) (fun h=>h) p2 (fun j u hj=>?_) (fun j u hj=>?_)
   ·obtain⟨c,c1,_⟩:=hcell j u hj
    rw[c1];rfl
   ·obtain⟨c,c1,c2⟩:=hcell j u hj
    rw[c1];exact c2
  ·exact⟨_,⟨[],rfl,WB _,by simp,fun r hr=>by cases hr⟩,fa.one (.sl0 (fun h=>by cases h))⟩
  ·rename_i e a len cap
   rw[In,WD,Xh]at hk
   split at h
   ·rename_i hb
    obtain⟨elems,h1,h0⟩:=WC.1 h
    obtain⟨rest,_,h0⟩:=BY.1 h0
    subst h0
    simp only[DataW.weights,hu,WZ,Wf]at hw
    have hlen:elems.length=len:=by have:=mapM_length h1;simpa using this
    have hrow:∀ i,i<len -> ∃ r:List V,Shape P n e r/\r.length=P.cellsOf e /\ ∃ cs',w.cells? base (a.add (i*P.cellsOf e)) (P.cellsOf e)=some cs'/\fa w r cs':=fun i hi=>by
     obtain⟨y,hy,hy2⟩:=Di h1 i i (by simp[hi])
     obtain⟨cs',h2,h3⟩:=WC.1 hy
     obtain⟨vs,g1,g2⟩:=nu hts n e cs' y hk.1 h3 (fun m hm=>hw m (.inr (.inl (ow (Wn.2 ⟨y,By hy2,rfl⟩) hm))))
     exact⟨vs,g1,by rw[g2.1,(qS h2).1],cs',h2,g2⟩
    obtain⟨rows,r1,r2⟩:=tF len _ hrow
    refine⟨[.sl false (P.cellsOf e) rows],⟨rows,rfl,by omega,?_,fun r hr=>?_⟩,fa.one ?_⟩
    ·have h5:=hw _ (.inl rfl)
     simp only[Xm,hlen]at h5
     rw[r1]
     exact W4 (WX _ Y6) h5
    ·obtain⟨i,hi⟩:=XR.1 hr
     exact(r2 i r hi).1
    ·rcases X4 len with h0|hpos
     ·subst h0
      rw[Wp r1]
      exact .sl0 (fun h=>by cases h)
     ·obtain⟨r0,hr0⟩:∃ r,rows[0]? = some r:=⟨_,AT Y6⟩
      obtain⟨_,_,cs0,q1,q2⟩:=r2 0 r0 hr0
      obtain⟨c1,c2⟩:=qS q1
      obtain⟨v0,hv0⟩:∃ v,cs0[0]? = some v:=⟨_,AT Y6⟩
      have hz:=(c2 0 Y6).trans hv0
      rw[YR,show(a.add 0).add 0=a.add 0 by simp[Addr.add]]at hz
      obtain⟨p1,p2⟩:=vd hz
      have ha:a=⟨a.block,a.off,none⟩:=by cases a;simp only[Addr.add]at p1;simp_all
      have hcell:∀(i j:Nat) (row:List V) (u:V),rows[i]? = some row->row[j]? = some u -> ∃ c,w.cell? ⟨a.block,a.off+i*P.cellsOf e+j,none⟩=some c/\Is (fun _=>none) (fun _=>False) w u c:=fun i j row u hi hj=>by
       obtain⟨_,g2,cs',g3,g4,g5⟩:=r2 i row hi
       obtain⟨d1,d2⟩:=qS g3
       have hlt:=(AS.1 hj).1
       obtain⟨c,hc⟩:∃ v,cs'[j]? = some v:=⟨_,AT Y6⟩
       refine⟨c,?_,g5 j u c hj hc⟩
       rw[<- hc,<- d2 j Y6,add_plain p1]
       rw[add_plain (a:=⟨a.block,a.off+i*P.cellsOf e,none⟩) (by simp[Addr.add])]
      rw[ha,<- r1]
      refine .sl (fun i j=>(w.cell? ⟨a.block,a.off+i*P.cellsOf e+j,none⟩).getD undef) Y6 (fun h=>by cases h) (fun h=>h) p2 (fun i row hi=>(r2 i row hi).2.1) (fun i j row u hi hj=>?_) (fun i j row u hi hj=>?_)
      ·obtain⟨c,c1,_⟩:=hcell i j row u hi hj
       rw[c1];rfl
      ·obtain⟨c,c1,c2⟩:=hcell i j row u hi hj
       rw[c1];exact c2
   ·cases h
  ·rename_i fs
   rw[In]at hk
   split at h
   ·rename_i hlen
    obtain⟨xs,h1,h0⟩:=BY.1 h
    subst h0
    simp only[DataW.weights,hu]at hw
    exact rj hlen fs.toList 0 xs (fun f hf as y hy hm=>nu hts n f.type as y (Xh.1 (WI.1 hk.1 f hf)) hy hm) hk.2 h1 hw
   ·cases h
open Go Go.RowKit Go.ChangeShapes Go.WideShapes
def HV (P:Program)(t:TypeId)(vs:List V):V:=match P.underlying t with
 | some (.struct _)=>.agg vs
 | _=>vs.headD .any
def lQ (P:Program):List TypeId->List V->Prop
 | [],as=>as=[]
 | t::ts,as=>∃ n vs r,as=HV P t vs::r/\Shape P n t vs/\lQ P ts r
def r8 {H:Type}{P:Program} : ∀ {ts us:List TypeId} {ds:List (DataW H)} {m:Nat},ts.length=ds.length->m∈DataW.weightsEach P ts ds->m∈DataW.weightsEach P (ts++us) (ds++[])
 | [],us,[],m,_,h=>by simp[DataW.weightsEach]at h
 | [],_,_::_,_,hl,_=>by simp at hl
 | _::_,_,[],_,hl,_=>by simp at hl
 | t::ts,us,d::ds,m,hl,h=>by
  simp only[DataW.weightsEach,List.cons_append,Wf]at h ⊢
  rcases h with h|h
  ·exact .inl h
  ·exact .inr (r8 (by simpa using hl) h)
def Tu {P:Program}{w:World}{r:Reach}{base:Nat}{t:TypeId}{v:Value}(ht:P.underlying t=some .bool)(h:Value.okWide P w r base t v):∃ b,v = .bool b:=by
 simp only[Value.okWide,ht,Cell.okWide]at h
 cases v<;>simp_all [Cell.ok]
def Eb {P:Program}{ts:List TypeId}(hts:Hx P ts=true){w:World}{H:Type}{enc:TypeId×Value->H}{base base':Nat}{spare:Nat->Bool}{held:Bool}{r:Reach}{t:TypeId}{v:Value}{d:DataW H}{p:List MemPlace}(ht:t∈ts)
  (h:DataW.Trod enc P w base spare held t v d p) (hw:∀ m∈d.weights P t,m<=reachBytes) (hok:Value.okWide P w r base' t v):∃ n vs,Shape P n t vs/\Is (fun _=>none) (fun _=>False) w (HV P t vs) v:=by
 obtain⟨n,hn⟩:=h
 obtain⟨vs,h1,h2,h3⟩:=nu hts n t _ _ ht hn hw
 refine⟨n,vs,h1,?_⟩
 have hk:=WI.1 hts t ht
 unfold HV
 cases n with
 | zero=>exact h1.elim
 | succ n =>
 unfold Shape at h1
 cases hu:P.underlying t with
 | none=>rw[hu]at h1;exact h1.elim
 | some u =>
  rw[hu]at h1
  have single:∀ u',vs=[u']->v.cells = #[v]->Is (fun _=>none) (fun _=>False) w (vs.headD .any) v:=fun u' e hc=>by
   subst e
   exact h3 0 u' v rfl (by rw[hc];rfl)
  cases u with
  | struct fs =>
   obtain⟨cs,rfl,hsz⟩:=okWide_struct hu hok
   exact .agg (by simpa [Value.cells] using h2) (fun i u cv hi hc=>h3 i u cv hi (by simpa [Value.cells] using hc))
  | bool =>
   obtain⟨b,e⟩:=h1
   obtain⟨b',rfl⟩:∃ b,v = .bool b:=Tu hu hok
   exact single _ e rfl
  | int k =>
   obtain⟨m,e,_⟩:=h1
   obtain⟨n,rfl⟩:=okWide_int hu hok
   exact single _ e rfl
  | string =>
   obtain⟨s,e,_⟩:=h1
   obtain⟨n,rfl⟩:=okWide_string hu hok
   exact single _ e rfl
  | slice e =>
   obtain⟨rows,e,_⟩:=h1
   obtain⟨a,l,c,rfl⟩:=okWide_slice hu hok
   exact single _ e rfl
  | pointer e =>
   obtain⟨a,rfl⟩:=okWide_pointer hu hok
   have hv:(Value.pointer a).cells = #[.pointer a]:=rfl
   rcases h1 with e|⟨cells,e,_⟩
   ·exact single _ e hv
   ·exact single _ e hv
  | _=>exact h1.elim
def uV {P:Program}{ts:List TypeId}(hts:Hx P ts=true){w:World}{H:Type}{enc:TypeId×Value->H}{base':Nat}{r:Reach} : ∀ {qs:List TypeId} {vs:List Value} {ds:List (DataW H)} {p:List MemPlace},(∀ t∈qs,t∈ts) ->
  DataW.TrodAll enc P w 0 (fun _=>true) true qs vs ds p->(∀ m∈DataW.weightsEach P qs ds,m<=reachBytes)->(∀(j:Nat) (t:TypeId) (v:Value),qs[j]? = some t->vs[j]? = some v->Value.okWide P w r base' t v) ->
  ∃ as,lQ P qs as/\as.length=vs.length /\ ∀(i:Nat) (u:V) (cv:Value),as[i]? = some u->vs[i]? = some cv->Is (fun _=>none) (fun _=>False) w u cv
 | [],vs,ds,p,_,h,_,_=>by
  obtain⟨rfl,rfl,rfl⟩:=trodAll_nil h
  exact⟨[],rfl,rfl,fun i u cv h=>by simp at h⟩
 | t::qs,vs,ds,p,hq,h,hw,hok=>by
  obtain⟨v,vs',d,ds',p1,q1,rfl,rfl,rfl,h1,h2⟩:=trodAll_cons h
  simp only[DataW.weightsEach,Wf]at hw
  obtain⟨n,us,g1,g2⟩:=Eb hts (hq t ZH) h1 (fun m hm=>hw m (.inl hm)) (hok 0 t v rfl rfl)
  obtain⟨as,g3,g4,g5⟩:=uV hts (fun t ht=>hq t (by simp[ht])) h2 (fun m hm=>hw m (.inr hm)) (fun j t v hj hv=>hok (j+1) t v (by simpa using hj) (by simpa using hv))
  refine⟨HV P t us::as,⟨n,us,as,rfl,g1,g3⟩,by simp[g4],fun i u cv hi hc=>?_⟩
  cases i with
  | zero=>simp at hi hc;subst hi;subst hc;exact g2
  | succ i=>exact g5 i u cv (by simpa using hi) (by simpa using hc)
def oP {P:Program}{w:World}{H:Type}{enc:TypeId×Value->H}{base:Nat}{spare:Nat->Bool}{held:Bool} : ∀ {qs:List TypeId} {vs:List Value} {ds:List (DataW H)} {p:List MemPlace},DataW.TrodAll enc P w base spare held qs vs ds p->qs.length=ds.length/\qs.length=vs.length
 | [],vs,ds,p,h=>by obtain⟨rfl,rfl,rfl⟩:=trodAll_nil h;exact⟨rfl,rfl⟩
 | t::qs,vs,ds,p,h=>by
  obtain⟨v,vs',d,ds',p1,q1,rfl,rfl,rfl,h1,h2⟩:=trodAll_cons h
  have:=oP h2
  simp[this.1,<- this.2]
def pT {P:Program}{W W':World}{H:Type}{enc:TypeId×Value->H}(hl:laidOutB P=true)(hb:Below W.heap.size W W'):∀ {qs:List TypeId} {vs:List Value} {ds:List (DataW H)} {p:List MemPlace},
  (qs.all fun t=>P.readableRec t&&decide (t<P.types.size))=true->DataW.TrodAll enc P W 0 (fun _=>true) true qs vs ds p->DataW.TrodAll enc P W' 0 (fun b=>decide (b<W.heap.size)) true qs vs ds p
 | [],vs,ds,p,_,h=>by obtain⟨rfl,rfl,rfl⟩:=trodAll_nil h;exact trodAll_mk0
 | t::qs,vs,ds,p,hr,h=>by
  obtain⟨v,vs',d,ds',p1,q1,rfl,rfl,rfl,h1,h2⟩:=trodAll_cons h
  simp only[List.all_cons,In,WD]at hr
  have h1':=h1
  obtain⟨m,hm⟩:=h1'
  exact trodAll_cons_mk (Below.trod hl hr.1.1 hr.1.2 h1 hb (DataW.trod_lt m _ _ _ hm)) (pT hl hb (by simp only[In,WI,WD]at hr ⊢;exact hr.2) h2)
inductive K where
 | bool
 | int (k:IntKind)
 | str
 | slice (e c b:Nat)
 | struct (l:ZB)
 | ptr (e:Nat)
def y4 (P:Program)(t:TypeId):Option K:=match P.underlying t with
 | some .bool=>some .bool
 | some (.int k)=>some (.int k)
 | some .string=>some .str
 | some (.slice e)=>some (.slice e (P.cellsOf e) (P.bytesOf e))
 | some (.struct fs)=>some (.struct (fs.toList.map (·.type)))
 | some (.pointer e)=>some (.ptr e)
 | _=>none
section
variable {P:Program} {n:Nat} {t:TypeId} {vs:List V}
def KA (k:y4 P t=some .str)(h:Shape P n t vs):∃ s:ZA,vs=[.str s]/\s.length<=140737488351232:=by
 unfold y4 at k
 cases n with
 | zero=>exact h.elim
 | succ n =>
  unfold Shape at h
  split at k<;>first|(cases k;done)|skip
  rename_i hu;rw[hu]at h;exact h
end
section
variable {P:Program} {t:TypeId}
def Lv {as:List V}(h:lQ P [] as):as=[]:=h
def Lt {q:K}(k:y4 P t=some q)(hq:∀ l,q ≠ .struct l)(v:V):HV P t [v]=v:=by
 unfold y4 at k
 unfold HV
 split at k<;>first|(cases k;done)|(rename_i hu;rw[hu];rfl)|skip
 cases k
 exact absurd rfl (hq _)
end
def sW (P:Program):Nat->List TypeId->List TypeId->List TypeId
 | 0,_,acc=>acc
 | _,[],acc=>acc
 | n+1,t::r,acc=>if acc.contains t then sW P n r acc else match y4 P t with
  | some (.slice e _ _)=>sW P n (e::r) (t::acc)
  | some (.ptr e)=>sW P n (e::r) (t::acc)
  | some (.struct l)=>sW P n (l++r) (t::acc)
  | _=>sW P n r (t::acc)
open Go Go.RowKit Go.ChangeShapes Go.WideShapes Go.ChangeAt
def Gq {G:Nat->V}{w:World}(hG:∀ g,Is (fun _=>none) (fun _=>False) w (G g) (.pointer (some ⟨g,0,none⟩))):Rel G (fun _=>False) w (bQ (fun _=>none) ah.nil) (fun _=>none) ah.nil w where
 size:=IS _
 os:=rfl
 tape:=rfl
 output:=rfl
 old:=fun _ _ _=>rfl
 live:=fun nm k h=>by cases h
 inj:=fun nm nm' l l' h=>by cases h
 hX:=fun b h=>h.elim
 glob:=fun g=>(hG g).step (fun _ _ h=>h) (IS _) (fun _ _ _=>rfl) (fun b _ h=>by
  rcases h with h|⟨nm,l,h,_⟩
  ·exact h
  ·cases h)
def rC {C:Checked}{cx:Cx}(hP:cx.P=C.prog){laid:List (String×DataW Unit)}(hG:∀ W,laidMetH C.prog laid W -> ∀ g,Is (fun _=>none) (fun _=>False) W (cx.G g) (.pointer (some ⟨g,0,none⟩))){H:Type}{enc:TypeId×Value->H}{s:ChangeSpec}{f:FuncId}{fn:Func}{conds:List PathCond}{os:Os}(own:ownKnob C.prog.godebug=none)(started:os.Started)(noInit:C.prog.inits.idxOf? f=none)
  (hfn:C.prog.funcs[f]? = some fn) (hcall:∀ cargs w,(callFunc f cargs).run C.prog w = .ok (.enter f cargs) w) (hv:s.vars=[]) (hl:laidOutB C.prog=true) (ts:List TypeId) (hts:Hx C.prog ts=true) (hpt:(fn.params.toList.all fun t=>ts.contains t)=true) (hpr:(fn.params.toList.all fun t=>C.prog.readableRec t&&decide (t<C.prog.types.size))=true)
  {tb:TypeId} (hres:fn.resultTypes = #[tb]) (hb:C.prog.underlying tb=some .bool) (hs:∀(H:Type) (ds:List (DataW H)),ds.length=fn.params.toList.length->(s.fn H ds).results=[.lit (.bool true)]/\(s.fn H ds).args=ds/\(s.fn H ds).vars=[])
  (F:Stop.Interp)
  (witness:∃(w:World) (tape:Tape) (i:Input),w.os=os/\(w.forCall tape i).Shaped C.prog/\i.vars=[]/\Input.okWide C.prog (w.forCall tape i) .any w.heap.size f i /\
   (OpenSpec.ofChange s).preRow enc C.prog fn conds false laid (w.forCall tape i).memory i.args/\({} : Assume).holds C.prog (lone (Frame.enter C.prog f i.args .normal) [] (w.forCall tape i)))
  (hev:∀ as,lQ C.prog fn.params.toList as->Ev cx f 0 as ah.nil (.bool true) []) :
  ReturnsInHanded {} C os f .any ((OpenSpec.ofChange s).preRow enc C.prog fn conds false laid) (((OpenSpec.ofChange s).at F).post enc C.prog fn false true false false):=by
 refine returnsInHanded_of_row own started noInit hfn witness ?_
 intro W base args ds gs before hval hW _ _ hsz hL _ _
 have hW':=hW
 obtain⟨p,q,hA,hV,rfl,hfz,hnd⟩:=hW
 rw[show(OpenSpec.ofChange s).vars=s.vars from rfl,hv]at hV
 obtain⟨rfl,rfl⟩:=trodVars_none hV
 obtain⟨e1,e2⟩:=oP hA
 obtain⟨as,g1,g2,g3⟩:=uV hts (fun t ht=>by simpa using WI.1 hpt t ht) hA (fun m hm=>by simpa using WI.1 hsz m (r8 e1 hm)) (fun j t v hj hv=>hval j t v (by simpa using hj) (by simpa using hv))
 have hc:Calls C.prog f args W fun e W'=>∃ cv,e = .returned cv/\fb cx.G (fun _=>False) W (bQ (fun _=>none) ah.nil) (fun _=>none) ah.nil W 0 (.bool true) (ah.nil.app []) cv W':=by
  rw[<- hP]
  refine((hev as g1).2 (fun _=>False) W (fun _=>none) args 0 (Gq (hG W hL)) (fun _ _=>rfl) (fun _ _=>⟨rfl,rfl⟩) (by simpa using g2) (fun i u cv hi hc=>?_)).calls (by rw[hP];exact hcall _ _)
  refine(g3 i u cv hi (by simpa using hc)).step (fun _ _ h=>h) (IS _) (fun _ _ _=>rfl) ?_
  rintro b _ (h|⟨nm,l,h,_⟩)
  ·exact h
  ·cases h
 refine hc.mono ?_
 ·rintro e W' ⟨cv,rfl,ρ',h1,h2,h3,_⟩
  cases h3
  have bel:Below W.heap.size W W':=⟨h2.os,h2.tape,h2.output,h2.size,fun k hk=>h2.kept k hk (fun nm l h=>by cases h)⟩
  obtain⟨s1,s2,s3⟩:=hs H (ds++[]) (by simpa using e1.symm)
  refine⟨_,rfl,ds,[],p++[],[],p,[],hW',?_,?_,?_,bel.frame _,fun h=>by cases h⟩
  ·rw[show(((OpenSpec.ofChange s).at F).fn H (ds++[]))=s.fn H (ds++[]) from rfl,s1,hres];exact trodAll_mk1 (shut_bool hb _)
  ·rw[show(((OpenSpec.ofChange s).at F).fn H (ds++[]))=s.fn H (ds++[]) from rfl,s2,WR];exact pT hl bel hpr hA
  ·rw[show(((OpenSpec.ofChange s).at F).fn H (ds++[]))=s.fn H (ds++[]) from rfl,s3,show((OpenSpec.ofChange s).at F).vars=s.vars from rfl,hv];rfl
def DT (n k:Nat):ZB->Y8
 | []=>[]
 | _::r=>(n,k)::DT (n+1) (k+1) r
def Om (n k:Nat):DT n k []=[]:=rfl
def KC (n k s:Nat)(r:ZB):DT n k (s::r)=(n,k)::DT (n+1) (k+1) r:=rfl
def Fin.zero {cx:Cx}{N:Nat}{rs:List ResultVar}{nm:Nat}{v:V}{eff:List (Nat×Option Blk)}{b0 n:Nat}{e:Env}{M:ah}(gs:ZB)(h1:mC cx.P N rs e (M.ghosts n gs))(h2:(mD cx.P rs e (M.ghosts n gs)).finOk (rV nm (DT n 0 gs)) (M.ghosts n gs))(h3:((mD cx.P rs e (M.ghosts n gs)).fin (rV nm (DT n 0 gs)) (M.ghosts n gs)).le v)(h4:Ol nm (M.ghosts n gs) (DT n 0 gs)=eff)(h5:pO b0 (M.ghosts n gs) (DT n 0 gs)):pV cx N rs nm ah.nil v eff b0 n e M :=
 Fin.own gs _ h1 h2 h3 h4 h5
def aM (a b:List (List V)):plainLL (a++b)=(plainLL a&&plainLL b):=by
 simp_all[jR]
mutual
def V.owns:V->ZB
 | .own x _ _=>[x]
 | .agg cs=>ownsL cs
 | .tup cs=>ownsL cs
 | _=>[]
def ownsL:List V->ZB
 | []=>[]
 | v::r=>v.owns++ownsL r
end
def BH (k:Nat):ZB->Y8
 | []=>[]
 | x::r=>(x,k)::BH (k+1) r
def Pi (k:Nat):BH k []=[]:=rfl
def Le (k x:Nat)(r:ZB):BH k (x::r)=(x,k)::BH (k+1) r:=rfl
def Fin.auto {cx:Cx}{N:Nat}{rs:List ResultVar}{nm:Nat}{v:V}{eff:List (Nat×Option Blk)}{b0 n:Nat}{e:Env}{M:ah}{r:V}(h0:mD cx.P rs e M=r){l:ZB}(hl:r.owns=l)(h1:mC cx.P N rs e M)(h2:r.finOk (rV nm (BH 0 l)) M)(h3:(r.fin (rV nm (BH 0 l)) M).le v)(h4:Ol nm M (BH 0 l)=eff)(h5:pO b0 M (BH 0 l)):pV cx N rs nm ah.nil v eff b0 n e M:=by
 subst h0
 exact Fin.own [] (BH 0 l) h1 h2 h3 h4 h5
mutual
def V.shift (y lo:Nat):V->V
 | .own nm l n=>if nm=y then .own nm (l-lo) n else .own nm l n
 | .agg cs=>.agg (shiftL y lo cs)
 | .tup cs=>.tup (shiftL y lo cs)
 | .gd b v=>.gd b (v.shift y lo)
 | v=>v
def shiftL (y lo:Nat):List V->List V
 | []=>[]
 | v::r=>v.shift y lo::shiftL y lo r
end
def Loc.shift (l:Loc)(lo:Nat):Loc:=@Loc.mk l.b (l.o+lo*l.sz) l.sz (l.tot-lo) (fzTo l lo (l.tot-lo))
def F8 (a b:V):j7 false a b=b.strip true:=by
 unfold j7
 split
 ·rename_i x y h1 h2
  simpa using h2.symm
 ·simp
def JI (a b:V):j7 true a b=a.strip true:=by
 unfold j7
 split
 ·rename_i x y h1 h2
  simpa using h1.symm
 ·simp
section
variable {cx:Cx} {f:FuncId} {nm:Nat} {args:List V} {v:V} {s1 s2:Nat} {r1 r2:List (List V)}
end
mutual
def V.flatO (l:ZB):V->Prop
 | .own x _ _=>x∈l
 | .agg cs=>flatOL l cs
 | .tup cs=>flatOL l cs
 | .gd _ v=>v.flatO l
 | v=>v.flat=true
def flatOL (l:ZB):List V->Prop
 | []=>True
 | v::r=>v.flatO l/\flatOL l r
end
def qk (rows:List (List V)):Bool:=rows.all flatL
def vE {α:Type}(f:α->List V)(h:∀ a,flatL (f a)=true)(l:List α):qk (l.map f)=true:=by
 simp_all[qk]
def mY {q l:List V}{ns:ZB}(h:flatOL ns l){i:Nat}{u:V}(hi:l[i]? = some u):u.flatO ns:=by
 induction l generalizing i with
 | nil=>simp at hi
 | cons v r ih =>
  grind[flatOL]
def Is.flatO {l:ZB}{ρ ρ':Names}{D D':Nat->Prop}{w:World}(hρ:∀ x∈l,ρ' x=ρ x){v:V}{cv:Value}(h:Is ρ D w v cv)(hp:v.flatO l):Is ρ' D' w v cv:=by
 induction h with
 | any cv=>exact .any _
 | bool b=>exact .bool _
 | bit b ht hf=>exact .bit b ht hf
 | int k n=>exact .int _ _
 | str s=>exact .str _
 | nilp=>exact .nilp
 | upt p=>exact .upt p
 | ys0=>grind[V.flatO,V.flat]
 | ys=>grind[V.flatO,V.flat]
 | ptr h=>grind[V.flatO,V.flat]
 | rp cv hd hb hc _ ih=>grind[V.flatO,V.flat]
 | nils=>exact .nils
 | sl0 ht=>grind[V.flatO,V.flat]
 | sl cv hc ht hd hb hr hx _ ih=>grind[V.flatO,V.flat]
 | own0=>exact .own0
 | own h hl hc=>simp only[V.flatO]at hp;exact .own ((hρ _ hp).trans h) hl hc
 | ownc0=>grind[V.flatO,V.flat]
 | ownc h hl hc=>grind[V.flatO,V.flat]
 | chan h=>grind[V.flatO,V.flat]
 | mp h=>grind[V.flatO,V.flat]
 | fn hn _ ih=>grind[V.flatO,V.flat]
 | fnb hn _ ih=>grind[V.flatO,V.flat]
 | iface hv ih=>simp only[V.flatO]at hp;exact Is.flat (.iface hv) hp
 | agg hn _ ih=>simp only[V.flatO]at hp;exact .agg hn (fun i u cv hi hc=>ih i u cv hi hc (mY (q:=[]) hp hi))
 | tup hn _ ih=>simp only[V.flatO]at hp;exact .tup hn (fun i u cv hi hc=>ih i u cv hi hc (mY (q:=[]) hp hi))
 | gd _ h0 ih=>simp only[V.flatO]at hp;exact .gd (fun hb=>ih hb hp) h0
 | val v=>exact .val _
def Aa:∀ {eff:List (Nat×Option Blk)} {M:ah} {x:Nat} {k:Blk},x∈al eff->(M.app eff) x=some k -> ∃ p∈eff,p.2=some k
  | [],_,_,_,hx,_=>by grind[al]
  |(y,q)::r,M,x,k,hx,h=>by
    rw[BS]at h
    by_cases hr:x∈al r
    · obtain⟨p,h1,h2⟩:=Aa hr h
      grind
    simp_all[ah.app_of_notin,al,ah.put_same]
def Ev.viewE {cx:Cx}{f:FuncId}{nm:Nat}{args:List V}{M:ah}{v:V}{eff:List (Nat×Option Blk)}(h:Ev cx f nm (finL [] M args) ah.nil v eff)(hok:finLOk [] M args)(hv:v.flatO (al eff))(hfl:∀ p∈eff,∀ k,p.2=some k->(k.ob.isCells=true/\qk k.rows=true))(hfe:∀ x∈al eff,b9 nm x):Ev cx f nm args M v eff:=by
  refine⟨h.1,fun X w ρ cargs B hr hfresh hB hn hargs=>?_⟩
  have hdom:∀ b,bV X ρ ah.nil b->bV X ρ M b:=by
    rintro b (hx|⟨nm,l,h1,_⟩)
    · exact .inl hx
    · simp[ah.nil]at h1
  have hr0:Rel cx.G X w (bQ ρ ah.nil) ρ ah.nil w :=
    { size:=IS _,os:=rfl,tape:=rfl,output:=rfl,old:=fun _ _ _=>rfl
      live:=fun nm k hk=>by simp[ah.nil]at hk
      inj:=fun nm nm' l l' h1=>by simp[ah.nil]at h1
      hX:=fun b hb=>⟨(hr.hX b hb).1,by rintro ⟨nm,q,h1,_⟩;simp[ah.nil]at h1⟩
      glob:=fun g=>(hr.glob g).step (fun _ _ h=>h) (IS _) (fun _ _ _=>rfl) (fun b _ hb=>hdom b hb) }
  refine(h.2 X w ρ cargs B hr0 hfresh (fun x hx=>⟨rfl,(hB x hx).2⟩) (by rw[dR];exact hn) ?_).mono ?_
  · intro i u cv hi hc
    rw[gH]at hi
    obtain⟨u',h1,rfl⟩:=BY.1 hi
    refine qh (cx:=cx) hr (fun nm y hy=>by simp[aO]at hy) hdom (fun nm l _ hM hl=>?_) (hargs i u' cv h1 hc) (eQ hok h1)
    rintro (hx|⟨nm',q,h2,_⟩)
    · exact(hr.block_lt hM hl).2.1 hx
    · simp[ah.nil]at h2
  · rintro e' w' ⟨cv,rfl,ρ',r,m,hvv,hn'⟩
    have hkept:∀ b,b<w.heap.size->w'.heap[b]? = w.heap[b]?:=fun b hb=>m.kept b hb (fun nm l h1=>by simp[ah.nil]at h1)
    obtain⟨ρ2,g1,g2⟩:∃ ρ2:Names,(∀ x∈al eff,ρ2 x=ρ' x) /\ ∀ x,x ∉ al eff->ρ2 x=ρ x:=by
      classical
      exact⟨fun x=>if x∈al eff then ρ' x else ρ x,fun x hx=>if_pos hx,fun x hx=>if_neg hx⟩
    have hin:∀ x∈al eff,(M.app eff) x=(ah.nil.app eff) x:=fun x hx=>ah.app_congr (fun h=>absurd hx h)
    have hfar:∀ x∈al eff,∀ l,((M.app eff) x).isSome=true->ρ2 x=some l->w.heap.size<=l.b:=fun x hx l h1 h2=>by
      rw[hin x hx]at h1
      rw[g1 x hx]at h2
      rcases(r.block_lt h1 h2).2.2 with ⟨nm',q,c1,_⟩|c
      · simp[ah.nil]at c1
      · exact c
    have mv:Moves ρ M w ρ2 (M.app eff) w':=by
      refine⟨fun x l hx=>?_,m.size,m.os,m.tape,m.output,fun b hb _=>hkept b hb,fun x l h1 h2 h3=>?_⟩
      · by_cases e:x∈al eff
        · rw[g1 x e];exact m.names x l hx
        · rw[g2 x e];exact hx
      · by_cases e:x∈al eff
        · have:=hfar x e l h1 h2;omega
        · rw[ah.app_of_notin e]at h1;rw[g2 x e]at h2;exact⟨x,l,h1,h2,rfl⟩
    refine⟨cv,rfl,ρ2,?_,mv,hvv.flatO (fun x hx=>g1 x hx) hv,fun x hx=>?_⟩
    · refine hr.move mv (fun a b l l' a1 a2 a3 a4 a5=>?_) (fun x k hx=>?_)
      · by_cases ea:a∈al eff
        · by_cases eb:b∈al eff
          · rw[hin a ea]at a1;rw[hin b eb]at a2;rw[g1 a ea]at a3;rw[g1 b eb]at a4
            exact r.inj a b l l' a1 a2 a3 a4 a5
          · have h1:=hfar a ea l a1 a3
            rw[ah.app_of_notin eb]at a2;rw[g2 b eb]at a4
            have h2:=(hr.block_lt a2 a4).1
            omega
        · by_cases eb:b∈al eff
          · have h1:=hfar b eb l' a2 a4
            rw[ah.app_of_notin ea]at a1;rw[g2 a ea]at a3
            have h2:=(hr.block_lt a1 a3).1
            omega
          · rw[ah.app_of_notin ea]at a1;rw[ah.app_of_notin eb]at a2;rw[g2 a ea]at a3;rw[g2 b eb]at a4
            exact hr.inj a b l l' a1 a2 a3 a4 a5
      · by_cases e:x∈al eff
        · rw [hin x e]at hx
          rcases r.live x k hx with ⟨a1,a2⟩|⟨l,a1,a2,a3,a4⟩
          · exact .inr (.inl ⟨a1,by rw[g1 x e];exact a2⟩)
          · refine .inr (.inr ⟨l,by rw[g1 x e];exact a1,?_,a3,a4.mono rfl (fun u c hk c2=>?_)⟩)
            · exact .inr (hfar x e l (by rw[hin x e,hx];rfl) (by rw[g1 x e];exact a1))
            · obtain⟨p,p1,p2⟩:=Aa e hx
              obtain⟨q1,q2⟩:=hfl p p1 k p2
              rcases hk with ⟨i,j,row,hi,hj⟩|⟨_,_,_,hch,_⟩
              · exact c2.flat (pa (WI.1 q2 row (By hi)) hj)
              · rw[hch]at q1;cases q1
        · rw[ah.app_of_notin e]at hx
          exact .inl ⟨hx,fun h=>by rw[g2 x e];exact h,fun l hl=>hkept l.b (hr.block_lt (by rw[hx];rfl) hl).1⟩
    · by_cases e:x∈al eff
      · exact absurd (hfe x e) hx
      · exact g2 x e
section
variable {cx:Cx} {Q:Post} {st:List Frm} {nm:Nat} {e:Env} {M:ah}
def yx {d:Bool}{fs:Y9}{ops:ZD}{dst:Option Tmp}{g:FuncId}{args:ZE}{ats:ZF}{t:TypeId}{pos:String}{af:Array Edge}{r:ZD}{i:Nat}{xs:List V}
  (has:args.toList.map (ap cx.G true e)=xs) {v:V} (hev:Ev cx g (nm+16*i) xs ah.nil v []) (h:bb cx Q st nm (e.putD dst v) M d (fs++[[]]) ops r (i+1)):hO cx Q st nm e M d fs ops ⟨dst,.call ⟨.value (.func g),args,ats⟩,t,pos,af,none⟩ r i:=ad has hev h
def bl {d:Bool}{fs:Y9}{ops:ZD}{dst:Option Tmp}{g:FuncId}{args:ZE}{ats:ZF}{t:TypeId}{pos:String}{af:Array Edge}{r:ZD}{i:Nat}{xs as':List V}
  (l:ZB) (has:args.toList.map (ap cx.G true e)=xs) (has':finL [] (M.only l) xs=as') (hok:finLOk [] (M.only l) xs) {v:V} (hv:v.flat=true) (hev:Ev cx g (nm+16*i) as' ah.nil v []) (h:bb cx Q st nm (e.putD dst v) M d (fs++[l]) ops r (i+1)):hO cx Q st nm e M d fs ops ⟨dst,.call ⟨.value (.func g),args,ats⟩,t,pos,af,none⟩ r i:=Ic l has has' hok hv hev h
def fq {d:Bool}{fs:Y9}{ops:ZD}{c:Bool}{dst:Option Tmp}{g:FuncId}{args:ZE}{ats:ZF}{t:TypeId}{pos:String}{af:Array Edge}{gd:Option (Nat×Bool)}{r:ZD}{i:Nat}{xs as':List V}
  (l:ZB) (has:args.toList.map (ap cx.G c e)=xs) (has':c=true->finL [] (M.only l) xs=as') (hok:c=true->finLOk [] (M.only l) xs) {v:V} (hv:v.flat=true) (hev:c=true->Ev cx g (nm+16*i) as' ah.nil v []) (h:bb cx Q st nm (e.putD dst (.gd c v)) M d (fs++[l]) ops r (i+1)):eZ cx Q st nm e M d fs c ops ⟨dst,.call ⟨.value (.func g),args,ats⟩,t,pos,af,gd⟩ r i:=EL l has has' hok hv hev h
end
def CO (cx:Cx)(Q:Post)(st:List Frm)(nm:Nat)(e:Env)(M:ah)(d:Bool)(fs:Y9)(c x want:Bool)(ops:ZD)(o:Oper)(r:ZD)(i:Nat):e8 cx Q st nm e M d fs ((V.gd c (.bool x)).strip true) want ops o r i=e8 cx Q st nm e M d fs (.bool (c&&(x==want))) true ops o r i:=by
 cases c with
 | true =>
  rw[pP]
  have h:∀ y:Bool,(y==true)=y:=fun y=>by simp_all
  simp_all[e8,oq]
 | false=>rfl
section
variable {cx:Cx} {f:FuncId} {nm:Nat} {args:List V} {v u:V} {eff:List (Nat×Option Blk)}
def Ev.freeze (h:Ev cx f nm args ah.nil v eff)(hok:v.finOk [] (ah.nil.app eff))(he:v.fin [] (ah.nil.app eff)=u):Ev cx f nm args ah.nil u []:=by
 subst he
 refine⟨h.1,fun X w ρ cargs B hr hfr hB hn hargs=>(h.2 X w ρ cargs B hr hfr hB hn hargs).mono ?_⟩
 rintro e w' ⟨cv,rfl,ρ',r,m,hv,_⟩
 have hkept:∀ b,b<w.heap.size->w'.heap[b]? = w.heap[b]?:=fun b hb=>m.kept b hb (fun nm l h1=>by grind[ah.nil])
 have mv:Moves ρ ah.nil w ρ ah.nil w':=⟨fun _ _ h=>h,m.size,m.os,m.tape,m.output,fun b hb _=>hkept b hb,fun nm l h1=>by grind⟩
 refine⟨cv,rfl,ρ,hr.move mv hr.inj (fun nm k hk=>by simp[ah.app,ah.nil]at hk),mv,?_,fun _ _=>rfl⟩
 refine qh (cx:=cx) r (fun nm y hy=>by grind[aO]) ?_ (fun nm l _ hM hl=>?_) hv hok
 ·rintro b (hx|⟨nm,l,h1,_⟩)
  ·exact .inl hx
  simp_all[ah.app,ah.nil]
 ·rintro (hx|⟨nm',q,h2,_⟩)
  ·exact(r.block_lt hM hl).2.1 hx
  simp_all[ah.app,ah.nil]
def Ev.res_le {M:ah}(h:Ev cx f nm args M v eff)(hle:v.le u):Ev cx f nm args M u eff:=by
 refine⟨h.1,fun X w ρ cargs B hr hfr hB hn hargs=>(h.2 X w ρ cargs B hr hfr hB hn hargs).mono ?_⟩
 rintro e w' ⟨cv,rfl,ρ',r,m,hv,hn'⟩
 exact⟨cv,rfl,ρ',r,m,hv.le u hle,hn'⟩
end
section
variable {cx:Cx} {f:FuncId} {nm:Nat} {args:List V} {v u:V} {eff:List (Nat×Option Blk)}
def Pj (cx:Cx)(f:FuncId)(nm:Nat)(args:List V)(u:V):Prop :=
 ∃ v eff,Ev cx f nm args ah.nil v eff/\v.flatO (al eff)/\(∀ p∈eff,∀ k,p.2=some k->k.ob.isCells=true/\qk k.rows=true)/\(∀ x∈al eff,b9 nm x)/\v.finOk [] (ah.nil.app eff)/\(v.fin [] (ah.nil.app eff)).le u
mutual
def qm (l:ZB):∀(v:V),v.flat=true->v.flatO l
 | .agg cs,h=>by simp only[V.flatO];exact flatL_flatOL l cs (by simp_all[V.flat])
 | .tup cs,h=>by simp only[V.flatO];exact flatL_flatOL l cs (by simp_all[V.flat])
 | .gd _ v,h=>by simp only[V.flatO];exact qm l v (by simp_all[V.flat])
 | .own _ _ _,h=>by grind[V.flat]
 | .ownc _ _ _ _,h=>by grind[V.flat]
 | .chan _,h=>by grind[V.flat]
 | .mp _,h=>by grind[V.flat]
 | .fnb _ _,h=>by grind[V.flat]
 | .iface _ _,h=>by simp_all[V.flatO]
 | .any,h | .bool _,h | .bit _ _,h | .int _ _,h | .str _,h | .nilp,h | .upt,h | .ys _ _ _,h | .ptr _ _ _,h | .rp _,h | .nils,h | .sl _ _ _,h | .fn _ _,h | .val _,h=>by simpa only[V.flatO] using h
def flatL_flatOL (l:ZB):∀(cs:List V),flatL cs=true->flatOL l cs
 | [],_=>trivial
 | v::r,h=>by
  simp only[flatL,In]at h
  exact⟨qm l v h.1,flatL_flatOL l r h.2⟩
end
mutual
def jG (M:ah):∀(v:V),v.flat=true->v.finOk [] M/\v.fin [] M=v
 | .agg cs,h=>by
  obtain⟨h1,h2⟩:=flatL_fin M cs (by simp_all[V.flat])
  simp_all[V.finOk,V.fin]
 | .tup cs,h=>by
  obtain⟨h1,h2⟩:=flatL_fin M cs (by simp_all[V.flat])
  simp_all[V.finOk,V.fin]
 | .gd _ v,h=>by
  obtain⟨h1,h2⟩:=jG M v (by simp_all[V.flat])
  simp_all[V.finOk,V.fin]
 | .own _ _ _,h | .ownc _ _ _ _,h | .chan _,h | .mp _,h | .fnb _ _,h | .ys _ _ _,h | .ptr _ _ _,h | .rp _,h | .sl _ _ _,h | .fn _ _,h=>by grind[V.flat]
 | .iface _ v,h=>by
  obtain⟨h1,h2⟩:=jG M v (by simp_all[V.flat])
  simp_all[V.finOk,V.fin]
 | .any,_ | .bool _,_ | .bit _ _,_ | .int _ _,_ | .str _,_ | .nilp,_ | .upt,_ | .nils,_ | .val _,_=>by simp[V.finOk,V.fin]
def flatL_fin (M:ah):∀(l:List V),flatL l=true->finLOk [] M l/\finL [] M l=l
 | [],_=>⟨trivial,rfl⟩
 | v::r,h=>by
  simp only[flatL,In]at h
  obtain⟨h1,h2⟩:=jG M v h.1
  obtain⟨h3,h4⟩:=flatL_fin M r h.2
  exact⟨⟨h1,h3⟩,by simp_all[finL]⟩
end
mutual
def V.le_refl:∀(v:V),v.le v
 | .nils=>by rfl
 | .agg cs=>by simp only[V.le];exact leL_refl cs
 | .tup cs=>by simp only[V.le];exact leL_refl cs
 | .any | .bool _ | .bit _ _ | .int _ _ | .str _ | .nilp | .upt | .ptr _ _ _ | .rp _ | .sl _ _ _ | .own _ _ _ | .chan _ | .mp _ | .fnb _ _ | .iface _ _ | .fn _ _ | .gd _ _ | .val _=>by rw[V.le_solo rfl]
 | .ownc _ _ _ _ | .ys _ _ _=>by rfl
def leL_refl:∀(l:List V),leL l l
 | []=>by grind[leL]
 | v::r=>by simp only[leL];exact⟨V.le_refl v,leL_refl r⟩
end
def Qn {X:Nat->Prop}{w0:World}{I:Nat->Prop}{ρ ρ2:Names}{M:ah}{w:World}{D D':Nat->Prop}{l:ZB}(h:Rel cx.G X w0 I ρ M w)(hfl:∀ nm∈l,∀ k,M nm=some k->qk k.rows=true)(hout:∀ nm∈l,∀ q,(M nm).isSome=true->ρ nm=some q -> ¬ D' q.b)
    {v:V} {cv:Value} (hv:Is ρ D w v cv):v.flatO l->v.finOk [] M->Is ρ2 D' w (v.fin [] M) cv:=by
  have hcv:=hv
  induction hv with
  | agg hn hu ih =>
    intro hf hok
    simp only[V.flatO]at hf
    simp only[V.finOk]at hok
    simp only[V.fin]
    refine .agg (by simp_all[dR]) (fun i u cv hi hc=>?_)
    rw[gH]at hi
    obtain⟨u',h1,rfl⟩:=BY.1 hi
    exact ih i u' cv h1 hc (hu i u' cv h1 hc) (mY (q:=[]) hf h1) (eQ hok h1)
  | tup hn hu ih =>
    intro hf hok
    simp only[V.flatO]at hf
    simp only[V.finOk]at hok
    simp only[V.fin]
    refine .tup (by simp_all[dR]) (fun i u cv hi hc=>?_)
    rw[gH]at hi
    obtain⟨u',h1,rfl⟩:=BY.1 hi
    exact ih i u' cv h1 hc (hu i u' cv h1 hc) (mY (q:=[]) hf h1) (eQ hok h1)
  | gd hg h0 ih =>
    intro hf hok
    simp only[V.flatO]at hf
    simp only[V.finOk]at hok
    simp only[V.fin]
    exact .gd (fun hb=>ih hb (hg hb) hf hok) h0
  | own0 =>
    intro hf hok
    simp only[V.fin,eJ,List.take_zero]
    exact .sl0 (fun h=>by cases h)
  | own hl hlc hnc =>
    rename_i nm lo n c q
    intro hf hok
    simp only[V.flatO]at hf
    simp only[V.finOk]at hok
    simp only[V.fin,eJ]
    obtain⟨h0,hp⟩:=hok rfl
    rcases X4 n with rfl|hpos
    · simp only[List.take_zero]
      exact .sl0 (fun h=>by cases h)
    · rcases h0 with rfl|⟨hM,hle⟩
      · omega
      · obtain⟨k,hk⟩:=OF.1 hM
        have hro:bD M nm=k.rows:=by rw[bD,hk]
        have hsz:eT M nm=k.sz:=by rw[eT,hk]
        have hbl:=h.block_lt hM hl
        have hfr:=hfl nm hf k hk
        rw[hro]at hle hp ⊢
        rw[hsz]
        rcases h.live nm k hk with ⟨_,a2⟩|⟨l2,a1,_,_,⟨cs,e,_,a4,a5,a6,a7,a8,a9⟩|⟨_,_,_,_,_,_,_,_,_,a4,_⟩⟩
        rotate_right
        · simp_all
        · simp_all
        · rw [hl]at a1;cases a1
          have hg:∀(i:Nat) (row:List V),((k.rows.drop lo).take n)[i]? = some row->k.rows[lo+i]? = some row:=fun i row hi=>by
            grind
          have hlen:((k.rows.drop lo).take n).length=n:=by simp;omega
          have hcell:∀(i j:Nat) (row:List V) (u:V),((k.rows.drop lo).take n)[i]? = some row->row[j]? = some u -> ∃ c,w.cell? ⟨q.b,q.o+lo*q.sz+i*q.sz+j,none⟩=some c/\Is ρ2 D' w u c:=fun i j row u hi hj=>by
            obtain⟨c',c1,c2⟩:=a9 _ j row u (hg i row hi) hj
            refine⟨c',?_,c2.flat (pa (WI.1 hfr row (By (hg i row hi))) hj)⟩
            rw[cell_of_row w q.b _ cs e _ a4,<- c1]
            grind
          have:=Is.sl (ρ:=ρ2) (D:=D') (w:=w) (t:=false) (sz:=k.sz) (rows:=(k.rows.drop lo).take n) (b:=q.b) (o:=q.o+lo*q.sz) (c:=c) (fun i j=>(w.cell? ⟨q.b,q.o+lo*q.sz+i*q.sz+j,none⟩).getD undef) Y6 (fun h=>by cases h) (hout nm hf q hM hl) hbl.1
            (fun i row hi=>by grind) (fun i j row u hi hj=>by
              grind) (fun i j row u hi hj=>by
              grind)
          simp_all
  | any cv=>intro _ _;simp only[V.fin];exact .any _
  | bool b=>intro _ _;simp only[V.fin];exact .bool _
  | bit b ht hf=>intro _ _;simp only[V.fin];exact .bit b ht hf
  | int k n=>intro _ _;simp only[V.fin];exact .int _ _
  | str s=>intro _ _;simp only[V.fin];exact .str _
  | nilp=>intro _ _;simp only[V.fin];exact .nilp
  | upt p=>intro _ _;simp only[V.fin];exact .upt p
  | ys0=>simp_all[V.flatO,V.flat]
  | ys=>simp_all[V.flatO,V.flat]
  | nils=>intro _ _;simp only[V.fin];exact .nils
  | val v=>intro _ _;simp only[V.fin];exact .val _
  | ptr hl=>simp_all[V.flatO,V.flat]
  | ownc0=>simp_all[V.flatO,V.flat]
  | ownc h hl hc=>simp_all[V.flatO,V.flat]
  | chan h=>simp_all[V.flatO,V.flat]
  | mp h=>simp_all[V.flatO,V.flat]
  | fnb hn hu ih=>simp_all[V.flatO,V.flat]
  | iface hv ih =>
    intro hf hok
    simp only[V.flatO]at hf
    rw[(jG M (.iface _ _) hf).2]
    exact Is.flat (.iface hv) hf
  | rp cv hd hb hc hu ih=>simp_all[V.flatO,V.flat]
  | sl0 ht=>simp_all[V.flatO,V.flat]
  | sl cv hc ht hd hb hr hx hu ih=>simp_all[V.flatO,V.flat]
  | fn hn hu ih=>simp_all[V.flatO,V.flat]
mutual
def ss {M M':ah}{l:ZB}(hM:∀ x∈l,M' x=M x):∀(v:V),v.flatO l->(v.finOk [] M->v.finOk [] M')/\v.fin [] M'=v.fin [] M
 | .own nm lo n,hf=>by
  simp only[V.flatO]at hf
  simp only[V.finOk,V.fin,eJ,bD,eT,hM nm hf]
  simp_all
 | .agg cs,hf=>by
  simp only[V.flatO]at hf
  obtain⟨h1,h2⟩:=finL_congr hM cs hf
  simp_all[V.finOk,V.fin]
 | .tup cs,hf=>by
  simp only[V.flatO]at hf
  obtain⟨h1,h2⟩:=finL_congr hM cs hf
  simp_all[V.finOk,V.fin]
 | .gd b v,hf=>by
  simp only[V.flatO]at hf
  obtain⟨h1,h2⟩:=ss hM v hf
  simp_all[V.finOk,V.fin]
 | .ys _ _ _,hf | .ptr _ _ _,hf | .ownc _ _ _ _,hf | .chan _,hf | .mp _,hf | .fnb _ _,hf | .rp _,hf | .sl _ _ _,hf | .fn _ _,hf=>by grind[V.flatO,V.flat]
 | .iface t v,hf=>by
  simp only[V.flatO]at hf
  obtain⟨h1,h2⟩:=jG M (.iface t v) hf
  obtain⟨h3,h4⟩:=jG M' (.iface t v) hf
  simp_all
 | .any,_ | .bool _,_ | .bit _ _,_ | .int _ _,_ | .str _,_ | .nilp,_ | .upt,_ | .nils,_ | .val _,_=>by simp[V.finOk,V.fin]
def finL_congr {M M':ah}{l:ZB}(hM:∀ x∈l,M' x=M x):∀(cs:List V),flatOL l cs->(finLOk [] M cs->finLOk [] M' cs)/\finL [] M' cs=finL [] M cs
 | [],_=>⟨id,rfl⟩
 | v::r,hf=>by
  simp only[flatOL]at hf
  obtain⟨h1,h2⟩:=ss hM v hf.1
  obtain⟨h3,h4⟩:=finL_congr hM r hf.2
  exact⟨fun hh=>⟨h1 hh.1,h3 hh.2⟩,by simp_all[finL]⟩
end
def Ev.freezeM {M:ah}(h:Ev cx f nm args M v eff)(hM:∀ x∈al eff,M x=none)(hfl:∀ p∈eff,∀ k,p.2=some k->qk k.rows=true)(hv:v.flatO (al eff))(hok:v.finOk [] (ah.nil.app eff))(hle:(v.fin [] (ah.nil.app eff)).le u):Ev cx f nm args M u []:=by
 refine⟨h.1,fun X w ρ cargs B hr hfr hB hn hargs=>(h.2 X w ρ cargs B hr hfr hB hn hargs).mono ?_⟩
 rintro e w' ⟨cv,rfl,ρ',r,m,hvv,hn'⟩
 have hin:∀ x∈al eff,(M.app eff) x=(ah.nil.app eff) x:=fun x hx=>ah.app_congr (fun h=>absurd hx h)
 obtain⟨r1,m1⟩:=r.drop (M':=M) (fun x k hk=>by
  by_cases e:x∈al eff
  ·simp_all
  simp_all[ah.app_of_notin])
 obtain⟨c1,c2⟩:=ss (M:=ah.nil.app eff) (M':=M.app eff) hin v hv
 refine⟨cv,rfl,ρ',r1,m.trans m1,?_,hn'⟩
 refine Is.le ?_ u hle
 rw[<- c2]
 refine Qn (cx:=cx) r (l:=al eff) (fun x hx k hk=>?_) (fun x hx q h1 h2=>?_) hvv hv (c1 hok)
 ·obtain⟨p,p1,p2⟩:=Aa hx hk
  grind
 ·rintro (hX|⟨y,q',g1,g2,g3⟩)
  ·exact(r.block_lt h1 h2).2.1 hX
  ·have hy:y ∉ al eff:=fun hy=>by
    have:(M.app []) y=M y:=rfl
    simp_all
   have:=r.inj x y q q' h1 (by rw[ah.app_of_notin hy];exact g1) h2 g2 g3.symm
   simp_all
end
section
variable {cx:Cx} {f:FuncId} {nm:Nat} {args:List V} {u:V}
def Pj.view {M:ah}(h:Pj cx f nm (finL [] M args) u)(hM:∀ x,b9 nm x->M x=none)(hok:finLOk [] M args):Ev cx f nm args M u []:=by
 obtain⟨v,eff,h1,h2,h3,h4,h5,h6⟩:=h
 exact(Ev.viewE h1 hok h2 h3 h4).freezeM (fun x hx=>hM x (h4 x hx)) (fun p hp k hk=>(h3 p hp k hk).2) h2 h5 h6
def Pj.args_le {xs:List V}(h:Pj cx f nm args u)(hle:leL xs args):Pj cx f nm xs u:=by
 obtain⟨v,eff,h1,h2⟩:=h
 obtain⟨g1,g2⟩:=ke hle
 refine⟨v,eff,⟨h1.1,fun X w ρ cargs B hr hfr hB hn hargs=>h1.2 X w ρ cargs B hr hfr hB Y6 (fun i u cv hi hc=>?_)⟩,h2⟩
 obtain⟨u',h3,h4⟩:=g2 i u hi
 exact(hargs i u' cv h3 hc).le u h4
variable {Q:Post} {st:List Frm} {e:Env} {M:ah}
def SB {d:Bool}{fs:Y9}{ops:ZD}{dst:Option Tmp}{g:FuncId}{args:ZE}{ats:ZF}{t:TypeId}{pos:String}{af:Array Edge}{r:ZD}{i:Nat}{xs xs':List V}
  (l:ZB) (has:args.toList.map (ap cx.G true e)=xs) (has':finL [] (M.only l) xs=xs') (hok:finLOk [] (M.only l) xs) (hlt:∀ x∈l,x<nm+16*i) {v:V} (hev:Pj cx g (nm+16*i) xs' v) (h:bb cx Q st nm (e.putD dst v) M d (fs++[l]) ops r (i+1)):hO cx Q st nm e M d fs ops ⟨dst,.call ⟨.value (.func g),args,ats⟩,t,pos,af,none⟩ r i :=
 ab has l (Pj.view (by rw[has'];exact hev) (fun x hx=>by
  unfold ah.only;rw[if_neg (fun hm=>by have:=hlt x hm;have:=hx.1;omega)]) hok) (fun x hx=>by grind[al]) (by simp_all[al,ah.app])
end
section
variable {cx:Cx} {Q:Post} {st:List Frm} {nm:Nat} {e:Env} {M:ah}
def aU {d:Bool}{fs:Y9}{ops:ZD}{dst:Option Tmp}{x:Tmp}{g:FuncId}{args:ZE}{ats:ZF}{t:TypeId}{pos:String}{af:Array Edge}{r:ZD}{i:Nat}
  (hf:ap cx.G true e (.tmp x) = .fn g []) (h:hO cx Q st nm e M d fs ops ⟨dst,.call ⟨.value (.func g),args,ats⟩,t,pos,af,none⟩ r i):hO cx Q st nm e M d fs ops ⟨dst,.call ⟨.value (.tmp x),args,ats⟩,t,pos,af,none⟩ r i:=by
 have e1:∀ K,gE cx true e M (nm+16*i) ⟨dst,.call ⟨.value (.tmp x),args,ats⟩,t,pos,af,none⟩ K=gE cx true e M (nm+16*i) ⟨dst,.call ⟨.value (.func g),args,ats⟩,t,pos,af,none⟩ K:=fun K=>by
  simp_all[gE,ap]
 have e2:∀ K,r6 cx e M (nm+16*i) ⟨dst,.call ⟨.value (.tmp x),args,ats⟩,t,pos,af,none⟩ K=r6 cx e M (nm+16*i) ⟨dst,.call ⟨.value (.func g),args,ats⟩,t,pos,af,none⟩ K:=fun K=>by
  simp_all[r6,ap]
 have e3:∀ K,xp cx e M (nm+16*i) ⟨dst,.call ⟨.value (.tmp x),args,ats⟩,t,pos,af,none⟩ K=xp cx e M (nm+16*i) ⟨dst,.call ⟨.value (.func g),args,ats⟩,t,pos,af,none⟩ K:=fun K=>by
  simp_all[xp,ap]
 show cU _ _ _ _ _ _ _ _ _ _ _
 have h':cU _ _ _ _ _ _ _ _ _ _ _:=h
 simp_all[cU,jZ]
def aZ {d:Bool}{fs:Y9}{ops:ZD}{c:Bool}{dst:Option Tmp}{x:Tmp}{g:FuncId}{args:ZE}{ats:ZF}{t:TypeId}{pos:String}{af:Array Edge}{gd:Option (Nat×Bool)}{r:ZD}{i:Nat}
  (hf:ap cx.G c e (.tmp x) = .fn g []) (h:eZ cx Q st nm e M d fs c ops ⟨dst,.call ⟨.value (.func g),args,ats⟩,t,pos,af,gd⟩ r i):eZ cx Q st nm e M d fs c ops ⟨dst,.call ⟨.value (.tmp x),args,ats⟩,t,pos,af,gd⟩ r i:=by
 have e1:∀ K,jx cx c e M (nm+16*i) ⟨dst,.call ⟨.value (.tmp x),args,ats⟩,t,pos,af,gd⟩ K=jx cx c e M (nm+16*i) ⟨dst,.call ⟨.value (.func g),args,ats⟩,t,pos,af,gd⟩ K:=fun K=>by
  simp_all[jx,ap]
 unfold eZ at h ⊢
 rcases h with h|⟨hc,h⟩
 ·simp_all
 ·subst hc
  refine .inr ⟨rfl,?_⟩
  have e2:∀ K,gE cx true e M (nm+16*i) ⟨dst,.call ⟨.value (.tmp x),args,ats⟩,t,pos,af,gd⟩ K=gE cx true e M (nm+16*i) ⟨dst,.call ⟨.value (.func g),args,ats⟩,t,pos,af,gd⟩ K:=fun K=>by
   simp_all[gE,ap]
  simp_all
def ao {d:Bool}{fs:Y9}{ops:ZD}{dst:Option Tmp}{g:FuncId}{args:ZE}{ats:ZF}{t:TypeId}{pos:String}{af:Array Edge}{gd:Option (Nat×Bool)}{r:ZD}{i:Nat}{v:V}
  (h:bb cx Q st nm (e.putD dst (.gd false v)) M d (fs++[[]]) ops r (i+1)):eZ cx Q st nm e M d fs false ops ⟨dst,.call ⟨.value (.func g),args,ats⟩,t,pos,af,gd⟩ r i :=
 ai rfl (fun h=>by cases h) h
end
end Go.Proofs.YtgboofebldgdjaaGreatDoor.Vm
