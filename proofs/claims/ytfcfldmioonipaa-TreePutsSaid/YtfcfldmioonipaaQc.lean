/-
 Texts joined: XVs,XVt,XVv,XVz,XVu,XVU.
-/
import Derived.IntWalk
import Derived.Test.YtfcfldmioonipaaQb
namespace Go.Proofs.Ytfcfldmioonipaa.Vm
set_option linter.unusedSimpArgs false
set_option linter.unusedVariables false
open Go Go.RowKit
def FinG (cx:Cx)(N:Nat)(rs:List ResultVar)(nm:Nat)(M0:Mem)(v:V)(eff:List (Nat×Option Blk))(b0 n:Nat)(e:Env)(M:Mem):Prop:=∃ gs,Fin2 cx N rs nm M0 v eff b0 e (M.ghosts n gs)
def atEnd (cx:Cx)(fn:Func)(nm:Nat)(M:Mem)(v:V)(eff:List (Nat×Option Blk))(b0:Nat):Ex→Nat→Env→Mem→Prop
 | .exit _,_,_,_=>False
 | .panic _,_,_,_=>False
 | _,n,e,M'=>FinG cx fn.ntmps fn.results.toList nm M v eff b0 n e M'
theorem ev_of_vc {cx:Cx}(hD:cx.D=[]){f:FuncId}{nm:Nat}{args:List V}{M:Mem}{v:V}{eff:List (Nat×Option Blk)}{fn:Func}{c:Code}
  (hcall:∀ cargs w,(callFunc f cargs).run cx.P w = .ok (.enter f cargs) w) (hf:cx.P.funcs[f]? = some fn) (hb:fn.body=some c) (hm:cx.P.follows .mixedOrders=true) (hin:codeIn fn.ntmps c=true) (hargs:args.length≤fn.ntmps)
  (hvc:∀ b0,(∀ x,b0≤x→M x=none)→vc cx b0 c (atEnd cx fn nm M v eff b0) b0 (argsE args) M):Ev cx f nm args M v eff:=by
 refine⟨trivial,?_⟩
 intro X w ρ cargs B hrel hfr hB hlen his
 have hstart:Lies cx fn.ntmps X w (Blocks ρ M) ρ B B (argsE args) M ρ { tmps:=cargs++Array.replicate (fn.ntmps-cargs.size) undef,defers:=[] } w:=by
  refine⟨hrel,⟨by simp;omega,hD.symm,fun t ht=>?_⟩,hB,fun _ _ h=>h,Nat.le_refl _,fun _ _=>rfl,fun x hx=>(hB x hx).2⟩
  simp only[argsE,Array.getD_eq_getD_getElem?]
  by_cases hlt:t<args.length
  ·rw[Array.getElem?_append_left (by omega),List.getElem?_eq_getElem hlt,Array.getElem?_eq_getElem (show t<cargs.size by omega)]
   exact his t _ _ (List.getElem?_eq_getElem hlt) (Array.getElem?_eq_getElem (by omega))
  ·rw[List.getElem?_eq_none (by omega)]
   exact .any _
 refine .inl ⟨hcall _ _,?_⟩
 refine calls_of_wpN hf hb (WpN.mono (vc_sound hm c _ B (argsE args) M ρ _ w hin hstart (hvc B (fun x hx=>(hB x hx).1))) ?_)
 rintro x a w' ⟨n,e,M',ρ',h',hq⟩
 have done:FinG cx fn.ntmps fn.results.toList nm M v eff B n e M'→a.defers=[] ∧ ∃ cv,(results fn a.tmps).run cx.P w' = .ok cv w' ∧ ∃ cv',Ending.returned cv = .returned cv'∧StepsN cx.G X w (Blocks ρ M) ρ M w nm v (M.app eff) cv' w':=fun ⟨gs,hfin⟩=>by
  have h':=h'.ghosts gs
  obtain⟨cv,h1,h2⟩:=res_sound h'.rel h'.env fn hfin.1
  exact⟨h'.env.defers.trans hD,cv,h1,cv,rfl,fin_sound hrel hfr hB h' hfin h2⟩
 cases x<;>simp only[atEnd]at hq<;>try (exact hq.elim)
 case normal=>exact done hq
 case ret=>exact done hq
 case panic ch=>obtain⟨_,_,_,_,hf⟩:=hq;exact hf.elim
theorem Fin.pure {cx:Cx}{N:Nat}{rs:List ResultVar}{nm:Nat}{v:V}{b0 n:Nat}{e:Env}{M:Mem}(h1:resOk cx.P N rs e M)(h2:(resV cx.P rs e M).finOk [] M)(h3:((resV cx.P rs e M).fin [] M).le v):FinG cx N rs nm Mem.nil v [] b0 n e M :=
 ⟨[],Fin.two ⟨h1,[],h2,h3,rfl,List.nodup_nil,List.nodup_nil,(fun p hp=>by cases hp),(fun x hx=>by simp[Mem.nil]at hx)⟩⟩
structure Post where
 b0:Nat
 q:Ex→Nat→Env→Mem→Prop
inductive Frm where
 | code (c:Code)
 | blk (id:Nat)
 | again (J:Nat→Nat→Env→Mem→Prop) (g:Nat)
 | cut (J:Nat→Env→Mem→Prop)
def unst (cx:Cx)(Q:Post):List Frm→Ex→Nat→Env→Mem→Prop
 | []=>Q.q
 | .code c::st=>fun x n e M=>match x with | .normal=>vc cx Q.b0 c (unst cx Q st) n e M | .exit id=>unst cx Q st (.exit id) n e M | .ret=>unst cx Q st .ret n e M | .panic v=>unst cx Q st (.panic v) n e M
 | .blk id::st=>fun x n e M=>match x with | .normal=>unst cx Q st .normal n e M | .exit id'=>if id'=id then unst cx Q st .normal n e M else unst cx Q st (.exit id') n e M | .ret=>unst cx Q st .ret n e M | .panic v=>unst cx Q st (.panic v) n e M
 | .again J g::st=>fun x n e M=>match x with | .normal=>∃ g',g'<g ∧ ∃ nm' e' M',Weak cx Q.b0 n e M nm' e' M'∧J g' nm' e' M' | .exit id=>unst cx Q st (.exit id) n e M | .ret=>unst cx Q st .ret n e M | .panic v=>unst cx Q st (.panic v) n e M
 | .cut J::st=>fun x n e M=>match x with | .normal=>J n e M | .exit id=>unst cx Q st (.exit id) n e M | .ret=>unst cx Q st .ret n e M | .panic v=>unst cx Q st (.panic v) n e M
section
variable (cx:Cx) (Q:Post) (st:List Frm) (nm:Nat) (e:Env) (M:Mem)
def go (c:Code):Prop:=vc cx Q.b0 c (unst cx Q st) nm e M
def goEx (x:Ex):Prop:=unst cx Q st x nm e M
def goOps (d:Bool)(fs:List (List Nat))(ops r:List Oper)(i:Nat):Prop:=vcOps cx ops d (fun n e M v=>d=false∧unst cx Q st (.panic v) n e M) r nm i e M fs (fun n e M fs=>(d=true→pairsOk cx.P ops fs)∧unst cx Q st .normal n e M)
def goEnd (fs:List (List Nat))(ops:List Oper):Prop:=pairsOk cx.P ops fs∧unst cx Q st .normal nm e M
def goCall (d:Bool)(fs:List (List Nat))(ops:List Oper)(o:Oper)(r:List Oper)(i:Nat):Prop:=goOps cx Q st nm e M d fs ops (o::r) i
def goExt (d:Bool)(fs:List (List Nat))(ops:List Oper)(o:Oper)(r:List Oper)(i:Nat):Prop:=∃ v eff ft,ExtDoes cx o (nm+16*i) e M v eff ft∧goOps cx Q st nm (e.putD o.dst v) (M.app eff) d (fs++[ft]) ops r (i+1)
def goExtG (d:Bool)(fs:List (List Nat))(c:Bool)(ops:List Oper)(o:Oper)(r:List Oper)(i:Nat):Prop:=(∃ v ft,(ft≠[]→extStill o.op=false)∧(c=true→ExtDoes cx o (nm+16*i) e M v [] ft)∧goOps cx Q st nm (e.putD o.dst (.gd c v)) M d (fs++[ft]) ops r (i+1)) ∨
 ((c=true→goExt cx Q st nm e M d fs ops o r i)∧(c=false→goOps cx Q st nm (e.putD o.dst .any) M d (fs++[[]]) ops r (i+1)))
def goComm (d:Bool)(fs:List (List Nat))(ops:List Oper)(o:Oper)(r:List Oper)(i:Nat):Prop:=∃ v eff,CommDoes cx o (nm+16*i) e M v eff∧goOps cx Q st nm (e.putD o.dst v) (M.app eff) d (fs++[effNames eff]) ops r (i+1)
def goGuard (d:Bool)(fs:List (List Nat))(gv:V)(want:Bool)(ops:List Oper)(o:Oper)(r:List Oper)(i:Nat):Prop:=match guardB gv want with
 | some c=>if isCall o.op=true then vcCallG cx c e M (nm+16*i) o (fun v l=>goOps cx Q st nm (e.putD o.dst (.gd c v)) M d (fs++[l]) ops r (i+1))∨(c=true∧vcCall cx true e M (nm+16*i) o (fun v eff l=>goOps cx Q st nm (e.putD o.dst v) (M.app eff) d (fs++[l++effNames eff]) ops r (i+1)))
  else if isExt cx.P o.op=true then goExtG cx Q st nm e M d fs c ops o r i
  else if soft o.op=true then (c=true→opOk cx c e M o)∧goOps cx Q st nm (e.putD o.dst (.gd c (opV cx c e M (nm+16*i) o))) M d (fs++[opF cx c e (nm+16*i) o]) ops r (i+1)
  else (c=true→opOk cx true e M o∧goOps cx Q st nm (e.putD o.dst (opV cx true e M (nm+16*i) o)) (M.app (opE cx true e M (nm+16*i) o)) d (fs++[opF cx true e (nm+16*i) o]) ops r (i+1))∧(c=false→goOps cx Q st nm (e.putD o.dst .any) M d (fs++[[]]) ops r (i+1))
 | none=>False
def goCallG (d:Bool)(fs:List (List Nat))(c:Bool)(ops:List Oper)(o:Oper)(r:List Oper)(i:Nat):Prop:=vcCallG cx c e M (nm+16*i) o (fun v l=>goOps cx Q st nm (e.putD o.dst (.gd c v)) M d (fs++[l]) ops r (i+1))∨(c=true∧vcCall cx true e M (nm+16*i) o (fun v eff l=>goOps cx Q st nm (e.putD o.dst v) (M.app eff) d (fs++[l++effNames eff]) ops r (i+1)))
def goLoop (c:Code):Prop:=vc cx Q.b0 (.loop c) (unst cx Q st) nm e M
def goCond (v:V)(a b:Code):Prop:=match v with
 | .bool t=>(t=true→go cx Q st nm e M a)∧(t=false→go cx Q st nm e M b)
 | .bit t f=>(t=true→go cx Q st nm e M a)∧(f=true→go cx Q st nm e M b)
 | _=>False
theorem go_skip:go cx Q st nm e M .skip=goEx cx Q st nm e M .normal:=propext Iff.rfl
theorem go_label (l:Nat):go cx Q st nm e M (.label l)=goEx cx Q st nm e M .normal:=propext Iff.rfl
theorem go_exit (id:Nat):go cx Q st nm e M (.exit id)=goEx cx Q st nm e M (.exit id):=propext Iff.rfl
theorem go_ret:go cx Q st nm e M .ret=goEx cx Q st nm e M .ret:=propext Iff.rfl
theorem go_seq (a b:Code):go cx Q st nm e M (.seq a b)=go cx Q (.code b::st) nm e M a:=propext Iff.rfl
theorem go_scope (c:Code):go cx Q st nm e M (.scope c)=go cx Q st nm e M c:=propext Iff.rfl
theorem go_block (id:Nat)(c:Code):go cx Q st nm e M (.block id c)=go cx Q (.blk id::st) nm e M c:=propext Iff.rfl
theorem go_cond (c:Operand)(a b:Code):go cx Q st nm e M (.cond c a b)=goCond cx Q st nm e M (evalV cx.G true e c) a b:=propext Iff.rfl
theorem go_loop (c:Code):go cx Q st nm e M (.loop c)=goLoop cx Q st nm e M c:=propext Iff.rfl
theorem go_region (id:Nat)(ops:Array Oper)(d:Bool):go cx Q st nm e M (.region id ops d)=goOps cx Q st nm e M d [] ops.toList ops.toList 0:=propext Iff.rfl
theorem goCond_true (a b:Code):goCond cx Q st nm e M (.bool true) a b=go cx Q st nm e M a:=by simp only[goCond,true_implies,Bool.true_eq_false,false_implies,and_true]
theorem goCond_false (a b:Code):goCond cx Q st nm e M (.bool false) a b=go cx Q st nm e M b:=by simp only[goCond,true_implies,Bool.false_eq_true,false_implies,true_and]
theorem goEx_nil (x:Ex):goEx cx Q [] nm e M x=Q.q x nm e M:=propext Iff.rfl
theorem goEx_code (c:Code):goEx cx Q (.code c::st) nm e M .normal=go cx Q st nm e M c:=propext Iff.rfl
theorem goEx_code_exit (c:Code)(id:Nat):goEx cx Q (.code c::st) nm e M (.exit id)=goEx cx Q st nm e M (.exit id):=propext Iff.rfl
theorem goEx_code_ret (c:Code):goEx cx Q (.code c::st) nm e M .ret=goEx cx Q st nm e M .ret:=propext Iff.rfl
theorem goEx_blk (id:Nat):goEx cx Q (.blk id::st) nm e M .normal=goEx cx Q st nm e M .normal:=propext Iff.rfl
theorem goEx_blk_exit (id id':Nat):goEx cx Q (.blk id::st) nm e M (.exit id')=if id'=id then goEx cx Q st nm e M .normal else goEx cx Q st nm e M (.exit id'):=propext Iff.rfl
theorem goEx_blk_ret (id:Nat):goEx cx Q (.blk id::st) nm e M .ret=goEx cx Q st nm e M .ret:=propext Iff.rfl
theorem goEx_again_exit (J:Nat→Nat→Env→Mem→Prop)(g:Nat)(id:Nat):goEx cx Q (.again J g::st) nm e M (.exit id)=goEx cx Q st nm e M (.exit id):=propext Iff.rfl
theorem goEx_again_ret (J:Nat→Nat→Env→Mem→Prop)(g:Nat):goEx cx Q (.again J g::st) nm e M .ret=goEx cx Q st nm e M .ret:=propext Iff.rfl
theorem goEx_cut_exit (J:Nat→Env→Mem→Prop)(id:Nat):goEx cx Q (.cut J::st) nm e M (.exit id)=goEx cx Q st nm e M (.exit id):=propext Iff.rfl
theorem goEx_cut_ret (J:Nat→Env→Mem→Prop):goEx cx Q (.cut J::st) nm e M .ret=goEx cx Q st nm e M .ret:=propext Iff.rfl
theorem goOps_nil (fs:List (List Nat))(ops:List Oper)(i:Nat):goOps cx Q st nm e M false fs ops [] i=goEx cx Q st (nm+16*i) e M .normal:=by
 simp only[goOps,vcOps,goEx,Bool.false_eq_true,false_implies,true_and]
theorem goOps_nil_draw (fs:List (List Nat))(ops:List Oper)(i:Nat):goOps cx Q st nm e M true fs ops [] i=goEnd cx Q st (nm+16*i) e M fs ops:=by
 simp only[goOps,vcOps,goEnd,true_implies]
theorem goOps_call (d:Bool)(fs:List (List Nat))(ops:List Oper)(dst:Option Tmp)(f:Operand)(args:Array Operand)(ats:Array TypeId)(t:TypeId)(pos:String)(af:Array Edge)(r:List Oper)(i:Nat) :
  goOps cx Q st nm e M d fs ops (⟨dst,.call ⟨.value f,args,ats⟩,t,pos,af,none⟩::r) i=goCall cx Q st nm e M d fs ops ⟨dst,.call ⟨.value f,args,ats⟩,t,pos,af,none⟩ r i:=propext Iff.rfl
theorem goOps_guard (d:Bool)(fs:List (List Nat))(ops:List Oper)(dst:Option Tmp)(op:Op)(t:TypeId)(pos:String)(af:Array Edge)(j:Nat)(want:Bool)(r:List Oper)(i:Nat) :
  goOps cx Q st nm e M d fs ops (⟨dst,op,t,pos,af,some (j,want)⟩::r) i=goGuard cx Q st nm e M d fs (guardV ops e j) want ops ⟨dst,op,t,pos,af,some (j,want)⟩ r i:=by
 unfold goOps goGuard
 simp only[vcOps,goOps,goExtG,goExt]
 cases guardB (guardV ops e j) want<;>rfl
theorem goGuard_gd (d:Bool)(fs:List (List Nat))(c x want:Bool)(ops:List Oper)(o:Oper)(r:List Oper)(i:Nat):goGuard cx Q st nm e M d fs (.gd c (.bool x)) want ops o r i=goGuard cx Q st nm e M d fs (.bool (c&&(x==want))) true ops o r i:=by
 have h:∀ y:Bool,(y==true)=y:=fun y=>by cases y<;>rfl
 simp only[goGuard,guardB,h]
theorem goGuard_gdf (d:Bool)(fs:List (List Nat))(v:V)(want:Bool)(ops:List Oper)(o:Oper)(r:List Oper)(i:Nat):goGuard cx Q st nm e M d fs (.gd false v) want ops o r i=goGuard cx Q st nm e M d fs (.bool false) true ops o r i:=by
 have h1:guardB (.gd false v) want=some false:=by cases v<;>rfl
 have h2:guardB (.bool false) true=some false:=rfl
 simp only[goGuard,h1,h2]
variable {cx Q st nm e M}
theorem cond_bool {t:Bool}{a b:Code}(h1:t=true→go cx Q st nm e M a)(h2:t=false→go cx Q st nm e M b):goCond cx Q st nm e M (.bool t) a b:=⟨h1,h2⟩
theorem cond_bit {t f:Bool}{a b:Code}(h1:t=true→go cx Q st nm e M a)(h2:f=true→go cx Q st nm e M b):goCond cx Q st nm e M (.bit t f) a b:=⟨h1,h2⟩
theorem call_full {d:Bool}{fs:List (List Nat)}{ops:List Oper}{dst:Option Tmp}{f:Operand}{args:Array Operand}{ats:Array TypeId}{t:TypeId}{pos:String}{af:Array Edge}{r:List Oper}{i:Nat}{g:FuncId}{caps:List V}{as:List V}(hf:evalV cx.G true e f = .fn g caps)
  (has:args.toList.map (evalV cx.G true e)++caps=as) (l:List Nat) {v:V} {eff:List (Nat×Option Blk)} (hev:Ev cx g (nm+16*i) as (M.only l) v eff) (he:∀ x∈effNames eff,(x∈l∧(M x).isSome=true)∨Fresh (nm+16*i) x)
  (h:goOps cx Q st nm (e.putD dst v) (M.app eff) d (fs++[l++effNames eff]) ops r (i+1)):goCall cx Q st nm e M d fs ops ⟨dst,.call ⟨.value f,args,ats⟩,t,pos,af,none⟩ r i:=by
 subst has
 show vcOps _ _ _ _ _ _ _ _ _ _ _
 simp only[vcOps,isCall,if_true,vcCall,hf,V.tgt,List.nil_append]
 exact .inl ⟨l,v,eff,hev,he,h⟩
theorem call_pure {d:Bool}{fs:List (List Nat)}{ops:List Oper}{dst:Option Tmp}{f:Operand}{args:Array Operand}{ats:Array TypeId}{t:TypeId}{pos:String}{af:Array Edge}{r:List Oper}{i:Nat}{g:FuncId}{caps:List V}{as:List V}(hf:evalV cx.G true e f = .fn g caps)
  (has:args.toList.map (evalV cx.G true e)++caps=as) {v:V} (hev:Ev cx g (nm+16*i) as Mem.nil v []) (h:goOps cx Q st nm (e.putD dst v) M d (fs++[[]]) ops r (i+1)):goCall cx Q st nm e M d fs ops ⟨dst,.call ⟨.value f,args,ats⟩,t,pos,af,none⟩ r i :=
 call_full hf has [] (by rw[Mem.only_nil];exact hev) (fun x hx=>by simp[effNames]at hx) h
theorem call_guard {d:Bool}{fs:List (List Nat)}{ops:List Oper}{c:Bool}{dst:Option Tmp}{f:Operand}{args:Array Operand}{ats:Array TypeId}{t:TypeId}{pos:String}{af:Array Edge}{gd:Option (Nat×Bool)}{r:List Oper}{i:Nat}{g:FuncId}{caps:List V}{as:List V}(hf:evalV cx.G c e f = .fn g caps)
  (has:args.toList.map (evalV cx.G c e)++caps=as) {v:V} (hev:c=true→Ev cx g (nm+16*i) as Mem.nil v []) (h:goOps cx Q st nm (e.putD dst (.gd c v)) M d (fs++[[]]) ops r (i+1)):goCallG cx Q st nm e M d fs c ops ⟨dst,.call ⟨.value f,args,ats⟩,t,pos,af,gd⟩ r i:=by
 subst has
 unfold goCallG vcCallG
 refine .inl ?_
 simp only[hf,V.tgt,List.nil_append]
 exact⟨[],v,by rw[Mem.only_nil];exact hev,h⟩
theorem call_on {d:Bool}{fs:List (List Nat)}{ops:List Oper}{dst:Option Tmp}{f:Operand}{args:Array Operand}{ats:Array TypeId}{t:TypeId}{pos:String}{af:Array Edge}{gd:Option (Nat×Bool)}{r:List Oper}{i:Nat}{g:FuncId}{caps fi:List V}{as:List V}(hf:(evalV cx.G true e f).tgt=some (g,caps,fi))
  (has:fi++(args.toList.map (evalV cx.G true e)++caps)=as) (l:List Nat) {v:V} {eff:List (Nat×Option Blk)} (hev:Ev cx g (nm+16*i) as (M.only l) v eff) (he:∀ x∈effNames eff,(x∈l∧(M x).isSome=true)∨Fresh (nm+16*i) x)
  (h:goOps cx Q st nm (e.putD dst v) (M.app eff) d (fs++[l++effNames eff]) ops r (i+1)):goCallG cx Q st nm e M d fs true ops ⟨dst,.call ⟨.value f,args,ats⟩,t,pos,af,gd⟩ r i:=by
 subst has
 unfold goCallG vcCall
 refine .inr ⟨rfl,?_⟩
 simp only[hf]
 exact⟨l,v,eff,hev,he,h⟩
theorem call_on_fn {d:Bool}{fs:List (List Nat)}{ops:List Oper}{dst:Option Tmp}{g:FuncId}{args:Array Operand}{ats:Array TypeId}{t:TypeId}{pos:String}{af:Array Edge}{gd:Option (Nat×Bool)}{r:List Oper}{i:Nat}{as:List V}
  (has:args.toList.map (evalV cx.G true e)=as) (l:List Nat) {v:V} {eff:List (Nat×Option Blk)} (hev:Ev cx g (nm+16*i) as (M.only l) v eff) (he:∀ x∈effNames eff,(x∈l∧(M x).isSome=true)∨Fresh (nm+16*i) x)
  (h:goOps cx Q st nm (e.putD dst v) (M.app eff) d (fs++[l++effNames eff]) ops r (i+1)):goCallG cx Q st nm e M d fs true ops ⟨dst,.call ⟨.value (.func g),args,ats⟩,t,pos,af,gd⟩ r i :=
 call_on (caps:=[]) (fi:=[]) rfl (by rw[List.append_nil];exact has) l hev he h
theorem call_fn {d:Bool}{fs:List (List Nat)}{ops:List Oper}{dst:Option Tmp}{g:FuncId}{args:Array Operand}{ats:Array TypeId}{t:TypeId}{pos:String}{af:Array Edge}{r:List Oper}{i:Nat}{as:List V}
  (has:args.toList.map (evalV cx.G true e)=as) {v:V} (hev:Ev cx g (nm+16*i) as Mem.nil v []) (h:goOps cx Q st nm (e.putD dst v) M d (fs++[[]]) ops r (i+1)):goCall cx Q st nm e M d fs ops ⟨dst,.call ⟨.value (.func g),args,ats⟩,t,pos,af,none⟩ r i :=
 call_pure (caps:=[]) rfl (by rw[List.append_nil];exact has) hev h
theorem call_fn_g {d:Bool}{fs:List (List Nat)}{ops:List Oper}{c:Bool}{dst:Option Tmp}{g:FuncId}{args:Array Operand}{ats:Array TypeId}{t:TypeId}{pos:String}{af:Array Edge}{gd:Option (Nat×Bool)}{r:List Oper}{i:Nat}{as:List V}
  (has:args.toList.map (evalV cx.G c e)=as) {v:V} (hev:c=true→Ev cx g (nm+16*i) as Mem.nil v []) (h:goOps cx Q st nm (e.putD dst (.gd c v)) M d (fs++[[]]) ops r (i+1)):goCallG cx Q st nm e M d fs c ops ⟨dst,.call ⟨.value (.func g),args,ats⟩,t,pos,af,gd⟩ r i :=
 call_guard (caps:=[]) rfl (by rw[List.append_nil];exact has) hev h
theorem call_fn_full {d:Bool}{fs:List (List Nat)}{ops:List Oper}{dst:Option Tmp}{g:FuncId}{args:Array Operand}{ats:Array TypeId}{t:TypeId}{pos:String}{af:Array Edge}{r:List Oper}{i:Nat}{as:List V}
  (has:args.toList.map (evalV cx.G true e)=as) (l:List Nat) {v:V} {eff:List (Nat×Option Blk)} (hev:Ev cx g (nm+16*i) as (M.only l) v eff) (he:∀ x∈effNames eff,(x∈l∧(M x).isSome=true)∨Fresh (nm+16*i) x)
  (h:goOps cx Q st nm (e.putD dst v) (M.app eff) d (fs++[l++effNames eff]) ops r (i+1)):goCall cx Q st nm e M d fs ops ⟨dst,.call ⟨.value (.func g),args,ats⟩,t,pos,af,none⟩ r i :=
 call_full (caps:=[]) rfl (by rw[List.append_nil];exact has) l hev he h
theorem draw_end {fs:List (List Nat)}{ops:List Oper}(hp:pairs cx.P ops=[])(h:goEx cx Q st nm e M .normal):goEnd cx Q st nm e M fs ops:=⟨pairs_none hp,h⟩
theorem draw_end' {fs:List (List Nat)}{ops:List Oper}{ps:List (Nat×Nat)}(hp:pairs cx.P ops=ps)(hps:∀ p∈ps,∀ x∈fs.getD p.1 [],x ∉ fs.getD p.2 [])(h:goEx cx Q st nm e M .normal):goEnd cx Q st nm e M fs ops:=⟨by unfold pairsOk;rw[hp];exact hps,h⟩
theorem loop_to {c:Code}(J:Nat→Nat→Env→Mem→Prop)(g:Nat){n:Nat}{e':Env}{M':Mem}(hw:Weak cx Q.b0 nm e M n e' M')(h0:J g n e' M')(hr:∀ g nm e M,J g nm e M→go cx Q (.again J g::st) nm e M c):goLoop cx Q st nm e M c:=⟨J,g,⟨_,_,_,hw,h0⟩,hr⟩
theorem again_to {J:Nat→Nat→Env→Mem→Prop}{g:Nat}(g':Nat)(hg:g'<g){n:Nat}{e':Env}{M':Mem}(hw:Weak cx Q.b0 nm e M n e' M')(h:J g' n e' M'):goEx cx Q (.again J g::st) nm e M .normal:=⟨g',hg,_,_,_,hw,h⟩
end
def endP (cx:Cx)(fn:Func)(nm:Nat)(M:Mem)(v:V)(eff:List (Nat×Option Blk))(b0:Nat):Post:=⟨b0,atEnd cx fn nm M v eff b0⟩
theorem endP_q (cx:Cx)(fn:Func)(nm:Nat)(M:Mem)(v:V)(eff:List (Nat×Option Blk))(b0:Nat):(endP cx fn nm M v eff b0).q=atEnd cx fn nm M v eff b0:=rfl
theorem endP_b0 (cx:Cx)(fn:Func)(nm:Nat)(M:Mem)(v:V)(eff:List (Nat×Option Blk))(b0:Nat):(endP cx fn nm M v eff b0).b0=b0:=rfl
theorem ev_go {cx:Cx}(hD:cx.D=[]){f:FuncId}{nm:Nat}{args:List V}{M:Mem}{v:V}{eff:List (Nat×Option Blk)}{fn:Func}{c:Code}
  (hcall:∀ cargs w,(callFunc f cargs).run cx.P w = .ok (.enter f cargs) w) (hf:cx.P.funcs[f]? = some fn) (hb:fn.body=some c) (hm:cx.P.follows .mixedOrders=true) (hin:codeIn fn.ntmps c=true) (hargs:decide (args.length≤fn.ntmps)=true)
  (hvc:∀ b0,(∀ x,b0≤x→M x=none)→go cx (endP cx fn nm M v eff b0) [] b0 (argsE args) M c):Ev cx f nm args M v eff :=
 ev_of_vc hD hcall hf hb hm hin (of_decide_eq_true hargs) hvc
theorem putD_some (e:Env)(t:Nat)(v:V):e.putD (some t) v=e.put t v:=rfl
theorem putD_none (e:Env)(v:V):e.putD none v=e:=rfl
theorem put_at (e:Env)(t x:Nat)(v:V):(e.put t v) x=if x=t then v else e x:=rfl
theorem strip_gd_same (c:Bool)(v:V):(V.gd c v).strip c=v:=by cases c<;>simp[V.strip]
theorem strip_gd_true (c:Bool)(v:V):(V.gd true v).strip c=v:=by simp[V.strip]
theorem strip_any (c:Bool):V.any.strip c = .any:=rfl
theorem strip_bool (c b:Bool):(V.bool b).strip c = .bool b:=rfl
theorem strip_bit (c t f:Bool):(V.bit t f).strip c = .bit t f:=rfl
theorem strip_int (c:Bool)(k:IntKind)(n:Int):(V.int k n).strip c = .int k n:=rfl
theorem strip_str (c:Bool)(s:List UInt8):(V.str s).strip c = .str s:=rfl
theorem strip_nilp (c:Bool):V.nilp.strip c = .nilp:=rfl
theorem strip_upt (c:Bool):V.upt.strip c = .upt:=rfl
theorem strip_ys (c:Bool)(a b:Nat)(r:List (List V)):(V.ys a b r).strip c = .ys a b r:=rfl
theorem strip_ptr (c:Bool)(a b d:Nat):(V.ptr a b d).strip c = .ptr a b d:=rfl
theorem strip_rp (c:Bool)(l:List V):(V.rp l).strip c = .rp l:=rfl
theorem strip_nils (c:Bool):V.nils.strip c = .nils:=rfl
theorem strip_sl (c t:Bool)(s:Nat)(l:List (List V)):(V.sl t s l).strip c = .sl t s l:=rfl
theorem strip_own (c:Bool)(a b d:Nat):(V.own a b d).strip c = .own a b d:=rfl
theorem strip_ownc (c:Bool)(a b d e:Nat):(V.ownc a b d e).strip c = .ownc a b d e:=rfl
theorem strip_chan (c:Bool)(a:Nat):(V.chan a).strip c = .chan a:=rfl
theorem strip_mp (c:Bool)(a:Nat):(V.mp a).strip c = .mp a:=rfl
theorem strip_fnb (c:Bool)(f:Nat)(l:List V):(V.fnb f l).strip c = .fnb f l:=rfl
theorem strip_iface (c:Bool)(t:TypeId)(v:V):(V.iface t v).strip c = .iface t v:=rfl
theorem strip_fn (c:Bool)(f:Nat)(l:List V):(V.fn f l).strip c = .fn f l:=rfl
theorem strip_agg (c:Bool)(l:List V):(V.agg l).strip c = .agg l:=rfl
theorem strip_tup (c:Bool)(l:List V):(V.tup l).strip c = .tup l:=rfl
theorem strip_val (c:Bool)(v:Value):(V.val v).strip c = .val v:=rfl
theorem nilI_any  : V.isNilI (.any )=false:=rfl
theorem nilI_bool (a0:Bool):V.isNilI (.bool a0)=false:=rfl
theorem nilI_bit (a0:Bool)(a1:Bool):V.isNilI (.bit a0 a1)=false:=rfl
theorem nilI_int (a0:IntKind)(a1:Int):V.isNilI (.int a0 a1)=false:=rfl
theorem nilI_str (a0:List UInt8):V.isNilI (.str a0)=false:=rfl
theorem nilI_nilp  : V.isNilI (.nilp )=false:=rfl
theorem nilI_upt  : V.isNilI (.upt )=false:=rfl
theorem nilI_ys (a b:Nat)(r:List (List V)):V.isNilI (.ys a b r)=false:=rfl
theorem nilI_ptr (a0:Nat)(a1:Nat)(a2:Nat):V.isNilI (.ptr a0 a1 a2)=false:=rfl
theorem nilI_rp (a0:List V):V.isNilI (.rp a0)=false:=rfl
theorem nilI_nils  : V.isNilI (.nils )=false:=rfl
theorem nilI_sl (a0:Bool)(a1:Nat)(a2:List (List V)):V.isNilI (.sl a0 a1 a2)=false:=rfl
theorem nilI_own (a0:Nat)(a1:Nat)(a2:Nat):V.isNilI (.own a0 a1 a2)=false:=rfl
theorem nilI_ownc (a0:Nat)(a1:Nat)(a2:Nat)(a3:Nat):V.isNilI (.ownc a0 a1 a2 a3)=false:=rfl
theorem nilI_chan (a0:Nat):V.isNilI (.chan a0)=false:=rfl
theorem nilI_mp (a0:Nat):V.isNilI (.mp a0)=false:=rfl
theorem nilI_fn (a0:Nat)(a1:List V):V.isNilI (.fn a0 a1)=false:=rfl
theorem nilI_fnb (a0:Nat)(a1:List V):V.isNilI (.fnb a0 a1)=false:=rfl
theorem nilI_agg (a0:List V):V.isNilI (.agg a0)=false:=rfl
theorem nilI_tup (a0:List V):V.isNilI (.tup a0)=false:=rfl
theorem nilI_gd (a0:Bool)(a1:V):V.isNilI (.gd a0 a1)=false:=rfl
theorem nilI_iface (a0:TypeId)(a1:V):V.isNilI (.iface a0 a1)=false:=rfl
theorem nilI_nil:V.isNilI (.val .nilIface)=true:=rfl
theorem pick_bool (c x y:Bool):pickV c (.bool x) (.bool y) = .bool (if c then x else y):=rfl
theorem pick_and (c x:Bool):pickV c (.gd c (.bool x)) (.bool false) = .bool (c&&x):=by cases c<;>simp[pickV,V.strip]
theorem pick_or (c x:Bool):pickV c (.bool true) (.gd (!c) (.bool x)) = .bool (c||x):=by cases c<;>simp[pickV,V.strip]
theorem pick_and2 (c x:Bool):pickV c ((V.gd c (.bool x)).strip true) (.bool false) = .bool (c&&x):=by cases c<;>simp[pickV,V.strip]
theorem pick_or2 (c x:Bool):pickV c (.bool true) ((V.gd (!c) (.bool x)).strip true) = .bool (c||x):=by cases c<;>simp[pickV,V.strip]
theorem beq_true' (b:Bool):(b==true)=b:=by cases b<;>rfl
theorem beq_false' (b:Bool):(b==false) = !b:=by cases b<;>rfl
theorem add_add_lit (a b c:Nat):a+b+c=a+(b+c):=Nat.add_assoc a b c
theorem argsE_at (l:List V)(t:Nat):argsE l t=(l[t]?).getD .any:=rfl
theorem app_nil (M:Mem):M.app []=M:=rfl
theorem app_cons (M:Mem)(x:Nat)(k:Option Blk)(r:List (Nat×Option Blk)):M.app ((x,k)::r)=(M.put x k).app r:=rfl
theorem mput_at (M:Mem)(nm x:Nat)(k:Option Blk):(M.put nm k) x=if x=nm then k else M x:=rfl
theorem nil_at (x:Nat):Mem.nil x=none:=rfl
mutual
def V.flat:V→Bool
 | .any | .bool _ | .bit _ _ | .int _ _ | .str _ | .nilp | .upt | .nils | .val _=>true
 | .agg cs=>flatL cs
 | .tup cs=>flatL cs
 | .gd _ v=>v.flat
 | .iface _ v=>v.flat
 | _=>false
def flatL:List V→Bool
 | []=>true
 | v::r=>v.flat&&flatL r
end
theorem flatL_get {l:List V}(h:flatL l=true){i:Nat}{u:V}(hi:l[i]? = some u):u.flat=true:=by
 induction l generalizing i with
 | nil=>simp at hi
 | cons v r ih =>
  simp only[flatL,Bool.and_eq_true]at h
  cases i with
  | zero=>simp at hi;subst hi;exact h.1
  | succ i=>exact ih h.2 (by simpa using hi)
theorem Is.flat {ρ ρ':Names}{D D':Nat→Prop}{w w':World}{v:V}{cv:Value}(h:Is ρ D w v cv)(hp:v.flat=true):Is ρ' D' w' v cv:=by
 induction h with
 | any cv=>exact .any _
 | bool b=>exact .bool _
 | bit b ht hf=>exact .bit b ht hf
 | int k n=>exact .int _ _
 | str s=>exact .str _
 | nilp=>exact .nilp
 | upt p=>exact .upt p
 | ys0=>simp[V.flat]at hp
 | ys=>simp[V.flat]at hp
 | ptr h=>simp[V.flat]at hp
 | rp cv hd hb hc _ ih=>simp[V.flat]at hp
 | nils=>exact .nils
 | sl0 ht=>simp[V.flat]at hp
 | sl cv hc ht hd hb hr hx _ ih=>simp[V.flat]at hp
 | own0=>simp[V.flat]at hp
 | own h hl hc=>simp[V.flat]at hp
 | ownc0=>simp[V.flat]at hp
 | ownc h hl hc=>simp[V.flat]at hp
 | chan h=>simp[V.flat]at hp
 | mp h=>simp[V.flat]at hp
 | fn hn _ ih=>simp[V.flat]at hp
 | fnb hn _ ih=>simp[V.flat]at hp
 | iface _ ih=>exact .iface (ih (by simpa [V.flat] using hp))
 | agg hn _ ih=>exact .agg hn (fun i u cv hi hc=>ih i u cv hi hc (flatL_get (by simpa [V.flat] using hp) hi))
 | tup hn _ ih=>exact .tup hn (fun i u cv hi hc=>ih i u cv hi hc (flatL_get (by simpa [V.flat] using hp) hi))
 | gd _ h0 ih=>exact .gd (fun hb=>ih hb (by simpa [V.flat] using hp)) h0
 | val v=>exact .val _
theorem Ev.view {cx:Cx}{f:FuncId}{nm:Nat}{args:List V}{M:Mem}{v:V}(h:Ev cx f nm (finL [] M args) Mem.nil v [])(hok:finLOk [] M args)(hv:v.flat=true):Ev cx f nm args M v []:=by
  refine⟨h.1,fun X w ρ cargs B hr hfresh hB hn hargs=>?_⟩
  have hdom:∀ b,Dom X ρ Mem.nil b→Dom X ρ M b:=by
    rintro b (hx|⟨nm,l,h1,_⟩)
    · exact .inl hx
    · simp[Mem.nil]at h1
  have hr0:Rel cx.G X w (Blocks ρ Mem.nil) ρ Mem.nil w :=
    { size:=Nat.le_refl _,os:=rfl,tape:=rfl,output:=rfl,old:=fun _ _ _=>rfl
      live:=fun nm k hk=>by simp[Mem.nil]at hk
      inj:=fun nm nm' l l' h1=>by simp[Mem.nil]at h1
      hX:=fun b hb=>⟨(hr.hX b hb).1,by rintro ⟨nm,q,h1,_⟩;simp[Mem.nil]at h1⟩
      glob:=fun g=>(hr.glob g).step (fun _ _ h=>h) (Nat.le_refl _) (fun _ _ _=>rfl) (fun b _ hb=>hdom b hb) }
  refine(h.2 X w ρ cargs B hr0 hfresh (fun x hx=>⟨rfl,(hB x hx).2⟩) (by rw[finL_length];exact hn) ?_).mono ?_
  · intro i u cv hi hc
    rw[finL_get]at hi
    obtain⟨u',h1,rfl⟩:=Option.map_eq_some_iff.1 hi
    refine fin_is (cx:=cx) hr (fun nm y hy=>by simp[newName]at hy) hdom (fun nm l _ hM hl=>?_) (hargs i u' cv h1 hc) (finLOk_get hok h1)
    rintro (hx|⟨nm',q,h2,_⟩)
    · exact(hr.block_lt hM hl).2.1 hx
    · simp[Mem.nil]at h2
  · rintro e' w' ⟨cv,rfl,ρ',r,m,hvv,hn'⟩
    have hkept:∀ b,b<w.heap.size→w'.heap[b]? = w.heap[b]?:=fun b hb=>m.kept b hb (fun nm l h1=>by simp[Mem.nil]at h1)
    have mv:Moves ρ M w ρ M w':=⟨fun _ _ h=>h,m.size,m.os,m.tape,m.output,fun b hb _=>hkept b hb,fun nm l h1 h2 _=>⟨nm,l,h1,h2,rfl⟩⟩
    refine⟨cv,rfl,ρ,?_,mv,hvv.flat hv,fun _ _=>rfl⟩
    exact hr.move mv hr.inj (fun nm k hk=>.inl ⟨hk,id,fun l hl=>hkept l.b (hr.block_lt (by rw[show M nm=some k from hk];rfl) hl).1⟩)
section
variable {cx:Cx} {Q:Post} {st:List Frm} {nm:Nat} {e:Env} {M:Mem}
theorem call_fn_v {d:Bool}{fs:List (List Nat)}{ops:List Oper}{dst:Option Tmp}{g:FuncId}{args:Array Operand}{ats:Array TypeId}{t:TypeId}{pos:String}{af:Array Edge}{r:List Oper}{i:Nat}{as as':List V}
  (l:List Nat) (has:args.toList.map (evalV cx.G true e)=as) (has':finL [] (M.only l) as=as') (hok:finLOk [] (M.only l) as) {v:V} (hv:v.flat=true) (hev:Ev cx g (nm+16*i) as' Mem.nil v []) (h:goOps cx Q st nm (e.putD dst v) M d (fs++[l]) ops r (i+1)):goCall cx Q st nm e M d fs ops ⟨dst,.call ⟨.value (.func g),args,ats⟩,t,pos,af,none⟩ r i :=
 call_fn_full has l (Ev.view (by rw[has'];exact hev) hok hv) (fun x hx=>by simp[effNames]at hx) (by simpa [effNames,Mem.app] using h)
theorem call_fn_new {d:Bool}{fs:List (List Nat)}{ops:List Oper}{dst:Option Tmp}{g:FuncId}{args:Array Operand}{ats:Array TypeId}{t:TypeId}{pos:String}{af:Array Edge}{r:List Oper}{i:Nat}{as:List V}
  (has:args.toList.map (evalV cx.G true e)=as) {v:V} {eff:List (Nat×Option Blk)} (hev:Ev cx g (nm+16*i) as Mem.nil v eff) (he:∀ x∈effNames eff,nm+16*i≤x∧x<nm+16*i+16)
  (h:goOps cx Q st nm (e.putD dst v) (M.app eff) d (fs++[effNames eff]) ops r (i+1)):goCall cx Q st nm e M d fs ops ⟨dst,.call ⟨.value (.func g),args,ats⟩,t,pos,af,none⟩ r i :=
 call_fn_full has [] (by rw[Mem.only_nil];exact hev) (fun x hx=>.inr (he x hx)) (by simpa using h)
theorem call_fn_gv {d:Bool}{fs:List (List Nat)}{ops:List Oper}{c:Bool}{dst:Option Tmp}{g:FuncId}{args:Array Operand}{ats:Array TypeId}{t:TypeId}{pos:String}{af:Array Edge}{gd:Option (Nat×Bool)}{r:List Oper}{i:Nat}{as as':List V}
  (l:List Nat) (has:args.toList.map (evalV cx.G c e)=as) (has':c=true→finL [] (M.only l) as=as') (hok:c=true→finLOk [] (M.only l) as) {v:V} (hv:v.flat=true) (hev:c=true→Ev cx g (nm+16*i) as' Mem.nil v []) (h:goOps cx Q st nm (e.putD dst (.gd c v)) M d (fs++[l]) ops r (i+1)):goCallG cx Q st nm e M d fs c ops ⟨dst,.call ⟨.value (.func g),args,ats⟩,t,pos,af,gd⟩ r i:=by
 subst has
 unfold goCallG vcCallG
 refine .inl ?_
 simp only[evalV,V.tgt,List.nil_append,List.append_nil]
 exact⟨l,v,fun hc=>Ev.view (by rw[has' hc];exact hev hc) (hok hc) hv,h⟩
end
def sigOk (b0:Nat)(M:Mem):List (Nat×Nat)→Prop
 | []=>True
 |(x,j)::r=>(j<16∧b0≤x∧(M x).isSome=true∧obOk M x=true∧plainLL (rowsOf M x)=true)∧(∀ p∈r,p.1≠x∧p.2≠j)∧sigOk b0 M r
def sigE (nm:Nat)(M:Mem)(σ:List (Nat×Nat)):List (Nat×Option Blk):=σ.map (fun p=>(nm+p.2,M p.1))
def sigN (nm:Nat)(σ:List (Nat×Nat)):List (Nat×Nat):=σ.map (fun p=>(p.1,nm+p.2))
theorem sigOk_get {b0:Nat}{M:Mem}{σ:List (Nat×Nat)}(h:sigOk b0 M σ):∀ p∈σ,p.2<16∧b0≤p.1∧(M p.1).isSome=true∧obOk M p.1=true∧plainLL (rowsOf M p.1)=true:=by
 induction σ with
 | nil=>intro p hp;cases hp
 | cons q r ih =>
  intro p hp
  simp only[sigOk]at h
  rcases List.mem_cons.1 hp with rfl|hp
  ·exact h.1
  ·exact ih h.2.2 p hp
theorem sigOk_nodup {b0:Nat}{M:Mem}(nm:Nat){σ:List (Nat×Nat)}(h:sigOk b0 M σ):((sigN nm σ).map (·.1)).Nodup∧((sigN nm σ).map (·.2)).Nodup:=by
 induction σ with
 | nil=>exact⟨List.nodup_nil,List.nodup_nil⟩
 | cons q r ih =>
  simp only[sigOk]at h
  obtain⟨a,b⟩:=ih h.2.2
  refine⟨List.nodup_cons.2 ⟨?_,a⟩,List.nodup_cons.2 ⟨?_,b⟩⟩
  ·intro hm
   simp only[sigN,List.map_map,List.mem_map,Function.comp_apply]at hm
   obtain⟨p,hp,he⟩:=hm
   exact(h.2.1 p hp).1 he
  ·intro hm
   simp only[sigN,List.map_map,List.mem_map,Function.comp_apply]at hm
   obtain⟨p,hp,he⟩:=hm
   exact(h.2.1 p hp).2 (by omega)
theorem Fin.own {cx:Cx}{N:Nat}{rs:List ResultVar}{nm:Nat}{v:V}{eff:List (Nat×Option Blk)}{b0 n:Nat}{e:Env}{M:Mem}(gs:List Nat)(σ:List (Nat×Nat))(h1:resOk cx.P N rs e (M.ghosts n gs))(h2:(resV cx.P rs e (M.ghosts n gs)).finOk (sigN nm σ) (M.ghosts n gs))(h3:((resV cx.P rs e (M.ghosts n gs)).fin (sigN nm σ) (M.ghosts n gs)).le v)(h4:sigE nm (M.ghosts n gs) σ=eff)(h5:sigOk b0 (M.ghosts n gs) σ):FinG cx N rs nm Mem.nil v eff b0 n e M:=by
 refine⟨gs,Fin.two ⟨h1,sigN nm σ,h2,h3,?_,(sigOk_nodup nm h5).1,(sigOk_nodup nm h5).2,?_,fun x hx=>by simp[Mem.nil]at hx⟩⟩
 ·rw[← h4];simp[sigE,sigN]
 ·intro p hp
  simp only[sigN,List.mem_map]at hp
  obtain⟨q,hq,rfl⟩:=hp
  obtain⟨g1,g2,g3,g5,g4⟩:=sigOk_get h5 q hq
  refine⟨.inr ⟨⟨by simp,by simp;omega⟩,g2⟩,?_⟩
  obtain⟨k,hk⟩:=Option.isSome_iff_exists.1 g3
  refine⟨k,hk,?_,?_⟩
  ·simpa [obOk,hk] using g5
  ·simpa [rowsOf,hk] using g4
theorem take_map_len {α β:Type}(f:α→β)(l:List α):(l.map f).take l.length=l.map f:=by rw[← List.length_map (f:=f),List.take_length]
theorem ghosts_nil (M:Mem)(n:Nat):M.ghosts n []=M:=rfl
theorem ghosts_cons (M:Mem)(n s:Nat)(r:List Nat):M.ghosts n (s::r)=(M.put n (some ⟨s,[]⟩)).ghosts (n+1) r:=rfl
theorem newName_nil (x:Nat):newName [] x=none:=rfl
theorem newName_cons (y z x:Nat)(r:List (Nat×Nat)):newName ((y,z)::r) x=if y=x then some z else newName r x:=by
 unfold newName
 rw[List.find?_cons]
 by_cases h:y=x
 ·subst h;simp
 ·have hb:(y==x)=false:=by simpa using h
  simp only[hb,h,if_false]
theorem only_at (M:Mem)(l:List Nat)(x:Nat):(M.only l) x=if x∈l then M x else none:=rfl
theorem plainLL_map {α:Type}(f:α→List V)(h:∀ a,plainL (f a)=true)(l:List α):plainLL (l.map f)=true:=by
 rw[plainLL_all,List.all_eq_true]
 intro x hx
 obtain⟨a,_,rfl⟩:=List.mem_map.1 hx
 exact h a
theorem lt_ne {a b:Nat}(h:a<b):(a=b)=False:=eq_false (by omega)
theorem lt_ne' {a b:Nat}(h:a<b):(b=a)=False:=eq_false (by omega)
theorem lt_ne_add {a b:Nat}(h:a<b)(c:Nat):(a=b+c)=False:=eq_false (by omega)
theorem lt_ne_add' {a b:Nat}(h:a<b)(c:Nat):(b+c=a)=False:=eq_false (by omega)
theorem wrap_in {n:Int}(h1:-9223372036854775808≤n)(h2:n≤9223372036854775807):IntKind.i64.wrap n=n:=IntWalk.i64_in _ ⟨h1,h2⟩
section
variable {cx:Cx} {Q:Post} {st:List Frm} {nm:Nat} {e:Env} {M:Mem}
end
section
variable (cx:Cx) (Q:Post) (st:List Frm) (nm:Nat) (e:Env) (M:Mem)
variable (d:Bool) (fs:List (List Nat)) (ops:List Oper) (dst:Option Tmp) (t:TypeId) (pos:String) (af:Array Edge) (r:List Oper) (i:Nat)
theorem goOps_move (x:Operand):goOps cx Q st nm e M d fs ops (⟨dst,.move x,t,pos,af,none⟩::r) i=(opOk cx true e M ⟨dst,.move x,t,pos,af,none⟩ ∧
  goOps cx Q st nm (e.putD dst (opV cx true e M (nm+16*i) ⟨dst,.move x,t,pos,af,none⟩)) (M.app (opE cx true e M (nm+16*i) ⟨dst,.move x,t,pos,af,none⟩)) d (fs++[opF cx true e (nm+16*i) ⟨dst,.move x,t,pos,af,none⟩]) ops r (i+1)):=propext Iff.rfl
theorem goOps_assign (x:Operand):goOps cx Q st nm e M d fs ops (⟨dst,.assign x,t,pos,af,none⟩::r) i=(opOk cx true e M ⟨dst,.assign x,t,pos,af,none⟩ ∧
  goOps cx Q st nm (e.putD dst (opV cx true e M (nm+16*i) ⟨dst,.assign x,t,pos,af,none⟩)) (M.app (opE cx true e M (nm+16*i) ⟨dst,.assign x,t,pos,af,none⟩)) d (fs++[opF cx true e (nm+16*i) ⟨dst,.assign x,t,pos,af,none⟩]) ops r (i+1)):=propext Iff.rfl
theorem goOps_nilCheck (x:Operand):goOps cx Q st nm e M d fs ops (⟨dst,.nilCheck x,t,pos,af,none⟩::r) i=(opOk cx true e M ⟨dst,.nilCheck x,t,pos,af,none⟩ ∧
  goOps cx Q st nm (e.putD dst (opV cx true e M (nm+16*i) ⟨dst,.nilCheck x,t,pos,af,none⟩)) (M.app (opE cx true e M (nm+16*i) ⟨dst,.nilCheck x,t,pos,af,none⟩)) d (fs++[opF cx true e (nm+16*i) ⟨dst,.nilCheck x,t,pos,af,none⟩]) ops r (i+1)):=propext Iff.rfl
theorem goOps_pick (x y z:Operand):goOps cx Q st nm e M d fs ops (⟨dst,.pick x y z,t,pos,af,none⟩::r) i=(opOk cx true e M ⟨dst,.pick x y z,t,pos,af,none⟩ ∧
  goOps cx Q st nm (e.putD dst (opV cx true e M (nm+16*i) ⟨dst,.pick x y z,t,pos,af,none⟩)) (M.app (opE cx true e M (nm+16*i) ⟨dst,.pick x y z,t,pos,af,none⟩)) d (fs++[opF cx true e (nm+16*i) ⟨dst,.pick x y z,t,pos,af,none⟩]) ops r (i+1)):=propext Iff.rfl
theorem goOps_build (ty:TypeId)(ps:Array (Nat×Operand)):goOps cx Q st nm e M d fs ops (⟨dst,.build ty ps,t,pos,af,none⟩::r) i=(opOk cx true e M ⟨dst,.build ty ps,t,pos,af,none⟩ ∧
  goOps cx Q st nm (e.putD dst (opV cx true e M (nm+16*i) ⟨dst,.build ty ps,t,pos,af,none⟩)) (M.app (opE cx true e M (nm+16*i) ⟨dst,.build ty ps,t,pos,af,none⟩)) d (fs++[opF cx true e (nm+16*i) ⟨dst,.build ty ps,t,pos,af,none⟩]) ops r (i+1)):=propext Iff.rfl
theorem goOps_load (ty:TypeId)(x:Operand):goOps cx Q st nm e M d fs ops (⟨dst,.load ty x,t,pos,af,none⟩::r) i=(opOk cx true e M ⟨dst,.load ty x,t,pos,af,none⟩ ∧
  goOps cx Q st nm (e.putD dst (opV cx true e M (nm+16*i) ⟨dst,.load ty x,t,pos,af,none⟩)) (M.app (opE cx true e M (nm+16*i) ⟨dst,.load ty x,t,pos,af,none⟩)) d (fs++[opF cx true e (nm+16*i) ⟨dst,.load ty x,t,pos,af,none⟩]) ops r (i+1)):=propext Iff.rfl
theorem goOps_binOp (o:BinOp)(ty:TypeId)(x y:Operand)(yt:TypeId):goOps cx Q st nm e M d fs ops (⟨dst,.binOp o ty x y yt,t,pos,af,none⟩::r) i=(opOk cx true e M ⟨dst,.binOp o ty x y yt,t,pos,af,none⟩ ∧
  goOps cx Q st nm (e.putD dst (opV cx true e M (nm+16*i) ⟨dst,.binOp o ty x y yt,t,pos,af,none⟩)) (M.app (opE cx true e M (nm+16*i) ⟨dst,.binOp o ty x y yt,t,pos,af,none⟩)) d (fs++[opF cx true e (nm+16*i) ⟨dst,.binOp o ty x y yt,t,pos,af,none⟩]) ops r (i+1)):=propext Iff.rfl
theorem goOps_unOp (o:UnOp)(ty:TypeId)(x:Operand):goOps cx Q st nm e M d fs ops (⟨dst,.unOp o ty x,t,pos,af,none⟩::r) i=(opOk cx true e M ⟨dst,.unOp o ty x,t,pos,af,none⟩ ∧
  goOps cx Q st nm (e.putD dst (opV cx true e M (nm+16*i) ⟨dst,.unOp o ty x,t,pos,af,none⟩)) (M.app (opE cx true e M (nm+16*i) ⟨dst,.unOp o ty x,t,pos,af,none⟩)) d (fs++[opF cx true e (nm+16*i) ⟨dst,.unOp o ty x,t,pos,af,none⟩]) ops r (i+1)):=propext Iff.rfl
theorem goOps_fieldAddr (ty:TypeId)(x:Operand)(f:Nat):goOps cx Q st nm e M d fs ops (⟨dst,.fieldAddr ty x f,t,pos,af,none⟩::r) i=(opOk cx true e M ⟨dst,.fieldAddr ty x f,t,pos,af,none⟩ ∧
  goOps cx Q st nm (e.putD dst (opV cx true e M (nm+16*i) ⟨dst,.fieldAddr ty x f,t,pos,af,none⟩)) (M.app (opE cx true e M (nm+16*i) ⟨dst,.fieldAddr ty x f,t,pos,af,none⟩)) d (fs++[opF cx true e (nm+16*i) ⟨dst,.fieldAddr ty x f,t,pos,af,none⟩]) ops r (i+1)):=propext Iff.rfl
theorem goOps_field (ty:TypeId)(x:Operand)(f:Nat):goOps cx Q st nm e M d fs ops (⟨dst,.field ty x f,t,pos,af,none⟩::r) i=(opOk cx true e M ⟨dst,.field ty x f,t,pos,af,none⟩ ∧
  goOps cx Q st nm (e.putD dst (opV cx true e M (nm+16*i) ⟨dst,.field ty x f,t,pos,af,none⟩)) (M.app (opE cx true e M (nm+16*i) ⟨dst,.field ty x f,t,pos,af,none⟩)) d (fs++[opF cx true e (nm+16*i) ⟨dst,.field ty x f,t,pos,af,none⟩]) ops r (i+1)):=propext Iff.rfl
theorem goOps_indexAddr (ty:TypeId)(x k:Operand):goOps cx Q st nm e M d fs ops (⟨dst,.indexAddr ty x k,t,pos,af,none⟩::r) i=(opOk cx true e M ⟨dst,.indexAddr ty x k,t,pos,af,none⟩ ∧
  goOps cx Q st nm (e.putD dst (opV cx true e M (nm+16*i) ⟨dst,.indexAddr ty x k,t,pos,af,none⟩)) (M.app (opE cx true e M (nm+16*i) ⟨dst,.indexAddr ty x k,t,pos,af,none⟩)) d (fs++[opF cx true e (nm+16*i) ⟨dst,.indexAddr ty x k,t,pos,af,none⟩]) ops r (i+1)):=propext Iff.rfl
theorem goOps_index (ty:TypeId)(x k:Operand):goOps cx Q st nm e M d fs ops (⟨dst,.index ty x k,t,pos,af,none⟩::r) i=(opOk cx true e M ⟨dst,.index ty x k,t,pos,af,none⟩ ∧
  goOps cx Q st nm (e.putD dst (opV cx true e M (nm+16*i) ⟨dst,.index ty x k,t,pos,af,none⟩)) (M.app (opE cx true e M (nm+16*i) ⟨dst,.index ty x k,t,pos,af,none⟩)) d (fs++[opF cx true e (nm+16*i) ⟨dst,.index ty x k,t,pos,af,none⟩]) ops r (i+1)):=propext Iff.rfl
theorem goOps_extract (x:Operand)(k:Nat):goOps cx Q st nm e M d fs ops (⟨dst,.extract x k,t,pos,af,none⟩::r) i=(opOk cx true e M ⟨dst,.extract x k,t,pos,af,none⟩ ∧
  goOps cx Q st nm (e.putD dst (opV cx true e M (nm+16*i) ⟨dst,.extract x k,t,pos,af,none⟩)) (M.app (opE cx true e M (nm+16*i) ⟨dst,.extract x k,t,pos,af,none⟩)) d (fs++[opF cx true e (nm+16*i) ⟨dst,.extract x k,t,pos,af,none⟩]) ops r (i+1)):=propext Iff.rfl
theorem goOps_makeFunc (f:FuncId)(a c:Array Operand):goOps cx Q st nm e M d fs ops (⟨dst,.makeFunc (.func f) a c,t,pos,af,none⟩::r) i=(opOk cx true e M ⟨dst,.makeFunc (.func f) a c,t,pos,af,none⟩ ∧
  goOps cx Q st nm (e.putD dst (opV cx true e M (nm+16*i) ⟨dst,.makeFunc (.func f) a c,t,pos,af,none⟩)) (M.app (opE cx true e M (nm+16*i) ⟨dst,.makeFunc (.func f) a c,t,pos,af,none⟩)) d (fs++[opF cx true e (nm+16*i) ⟨dst,.makeFunc (.func f) a c,t,pos,af,none⟩]) ops r (i+1)):=propext Iff.rfl
theorem goOps_len (as:Array Operand)(ts:Array TypeId):goOps cx Q st nm e M d fs ops (⟨dst,.call ⟨.builtin .len,as,ts⟩,t,pos,af,none⟩::r) i=(opOk cx true e M ⟨dst,.call ⟨.builtin .len,as,ts⟩,t,pos,af,none⟩ ∧
  goOps cx Q st nm (e.putD dst (opV cx true e M (nm+16*i) ⟨dst,.call ⟨.builtin .len,as,ts⟩,t,pos,af,none⟩)) (M.app (opE cx true e M (nm+16*i) ⟨dst,.call ⟨.builtin .len,as,ts⟩,t,pos,af,none⟩)) d (fs++[opF cx true e (nm+16*i) ⟨dst,.call ⟨.builtin .len,as,ts⟩,t,pos,af,none⟩]) ops r (i+1)):=propext Iff.rfl
theorem goOps_max (as:Array Operand)(ts:Array TypeId):goOps cx Q st nm e M d fs ops (⟨dst,.call ⟨.builtin .max,as,ts⟩,t,pos,af,none⟩::r) i=(opOk cx true e M ⟨dst,.call ⟨.builtin .max,as,ts⟩,t,pos,af,none⟩ ∧
  goOps cx Q st nm (e.putD dst (opV cx true e M (nm+16*i) ⟨dst,.call ⟨.builtin .max,as,ts⟩,t,pos,af,none⟩)) (M.app (opE cx true e M (nm+16*i) ⟨dst,.call ⟨.builtin .max,as,ts⟩,t,pos,af,none⟩)) d (fs++[opF cx true e (nm+16*i) ⟨dst,.call ⟨.builtin .max,as,ts⟩,t,pos,af,none⟩]) ops r (i+1)):=propext Iff.rfl
theorem goOps_min (as:Array Operand)(ts:Array TypeId):goOps cx Q st nm e M d fs ops (⟨dst,.call ⟨.builtin .min,as,ts⟩,t,pos,af,none⟩::r) i=(opOk cx true e M ⟨dst,.call ⟨.builtin .min,as,ts⟩,t,pos,af,none⟩ ∧
  goOps cx Q st nm (e.putD dst (opV cx true e M (nm+16*i) ⟨dst,.call ⟨.builtin .min,as,ts⟩,t,pos,af,none⟩)) (M.app (opE cx true e M (nm+16*i) ⟨dst,.call ⟨.builtin .min,as,ts⟩,t,pos,af,none⟩)) d (fs++[opF cx true e (nm+16*i) ⟨dst,.call ⟨.builtin .min,as,ts⟩,t,pos,af,none⟩]) ops r (i+1)):=propext Iff.rfl
theorem goOps_cap (as:Array Operand)(ts:Array TypeId):goOps cx Q st nm e M d fs ops (⟨dst,.call ⟨.builtin .cap,as,ts⟩,t,pos,af,none⟩::r) i=(opOk cx true e M ⟨dst,.call ⟨.builtin .cap,as,ts⟩,t,pos,af,none⟩ ∧
  goOps cx Q st nm (e.putD dst (opV cx true e M (nm+16*i) ⟨dst,.call ⟨.builtin .cap,as,ts⟩,t,pos,af,none⟩)) (M.app (opE cx true e M (nm+16*i) ⟨dst,.call ⟨.builtin .cap,as,ts⟩,t,pos,af,none⟩)) d (fs++[opF cx true e (nm+16*i) ⟨dst,.call ⟨.builtin .cap,as,ts⟩,t,pos,af,none⟩]) ops r (i+1)):=propext Iff.rfl
theorem goOps_alloc (ty:TypeId):goOps cx Q st nm e M d fs ops (⟨dst,.alloc ty,t,pos,af,none⟩::r) i=(opOk cx true e M ⟨dst,.alloc ty,t,pos,af,none⟩ ∧
  goOps cx Q st nm (e.putD dst (opV cx true e M (nm+16*i) ⟨dst,.alloc ty,t,pos,af,none⟩)) (M.app (opE cx true e M (nm+16*i) ⟨dst,.alloc ty,t,pos,af,none⟩)) d (fs++[opF cx true e (nm+16*i) ⟨dst,.alloc ty,t,pos,af,none⟩]) ops r (i+1)):=propext Iff.rfl
theorem goOps_box (ty:TypeId)(x:Operand):goOps cx Q st nm e M d fs ops (⟨dst,.box ty x,t,pos,af,none⟩::r) i=(opOk cx true e M ⟨dst,.box ty x,t,pos,af,none⟩ ∧
  goOps cx Q st nm (e.putD dst (opV cx true e M (nm+16*i) ⟨dst,.box ty x,t,pos,af,none⟩)) (M.app (opE cx true e M (nm+16*i) ⟨dst,.box ty x,t,pos,af,none⟩)) d (fs++[opF cx true e (nm+16*i) ⟨dst,.box ty x,t,pos,af,none⟩]) ops r (i+1)):=propext Iff.rfl
theorem goOps_buildSlice (ty:TypeId)(n:Nat)(ps:Array (Nat×Operand)):goOps cx Q st nm e M d fs ops (⟨dst,.buildSlice ty n ps,t,pos,af,none⟩::r) i=(opOk cx true e M ⟨dst,.buildSlice ty n ps,t,pos,af,none⟩ ∧
  goOps cx Q st nm (e.putD dst (opV cx true e M (nm+16*i) ⟨dst,.buildSlice ty n ps,t,pos,af,none⟩)) (M.app (opE cx true e M (nm+16*i) ⟨dst,.buildSlice ty n ps,t,pos,af,none⟩)) d (fs++[opF cx true e (nm+16*i) ⟨dst,.buildSlice ty n ps,t,pos,af,none⟩]) ops r (i+1)):=propext Iff.rfl
theorem goOps_store (ty:TypeId)(x v:Operand):goOps cx Q st nm e M d fs ops (⟨dst,.store ty x v,t,pos,af,none⟩::r) i=(opOk cx true e M ⟨dst,.store ty x v,t,pos,af,none⟩ ∧
  goOps cx Q st nm (e.putD dst (opV cx true e M (nm+16*i) ⟨dst,.store ty x v,t,pos,af,none⟩)) (M.app (opE cx true e M (nm+16*i) ⟨dst,.store ty x v,t,pos,af,none⟩)) d (fs++[opF cx true e (nm+16*i) ⟨dst,.store ty x v,t,pos,af,none⟩]) ops r (i+1)):=propext Iff.rfl
theorem goOps_append (as:Array Operand)(ts:Array TypeId):goOps cx Q st nm e M d fs ops (⟨dst,.call ⟨.builtin .append,as,ts⟩,t,pos,af,none⟩::r) i=(opOk cx true e M ⟨dst,.call ⟨.builtin .append,as,ts⟩,t,pos,af,none⟩ ∧
  goOps cx Q st nm (e.putD dst (opV cx true e M (nm+16*i) ⟨dst,.call ⟨.builtin .append,as,ts⟩,t,pos,af,none⟩)) (M.app (opE cx true e M (nm+16*i) ⟨dst,.call ⟨.builtin .append,as,ts⟩,t,pos,af,none⟩)) d (fs++[opF cx true e (nm+16*i) ⟨dst,.call ⟨.builtin .append,as,ts⟩,t,pos,af,none⟩]) ops r (i+1)):=propext Iff.rfl
theorem goOps_copy (as:Array Operand)(ts:Array TypeId):goOps cx Q st nm e M d fs ops (⟨dst,.call ⟨.builtin .copy,as,ts⟩,t,pos,af,none⟩::r) i=(opOk cx true e M ⟨dst,.call ⟨.builtin .copy,as,ts⟩,t,pos,af,none⟩ ∧
  goOps cx Q st nm (e.putD dst (opV cx true e M (nm+16*i) ⟨dst,.call ⟨.builtin .copy,as,ts⟩,t,pos,af,none⟩)) (M.app (opE cx true e M (nm+16*i) ⟨dst,.call ⟨.builtin .copy,as,ts⟩,t,pos,af,none⟩)) d (fs++[opF cx true e (nm+16*i) ⟨dst,.call ⟨.builtin .copy,as,ts⟩,t,pos,af,none⟩]) ops r (i+1)):=propext Iff.rfl
theorem goGuard_move (b want:Bool)(x:Operand)(gd:Option (Nat×Bool)):goGuard cx Q st nm e M d fs (.bool b) want ops ⟨dst,.move x,t,pos,af,gd⟩ r i=(((b==want)=true→opOk cx (b==want) e M ⟨dst,.move x,t,pos,af,gd⟩) ∧
  goOps cx Q st nm (e.putD dst (.gd (b==want) (opV cx (b==want) e M (nm+16*i) ⟨dst,.move x,t,pos,af,gd⟩))) M d (fs++[opF cx (b==want) e (nm+16*i) ⟨dst,.move x,t,pos,af,gd⟩]) ops r (i+1)):=propext Iff.rfl
theorem goGuard_assign (b want:Bool)(x:Operand)(gd:Option (Nat×Bool)):goGuard cx Q st nm e M d fs (.bool b) want ops ⟨dst,.assign x,t,pos,af,gd⟩ r i=(((b==want)=true→opOk cx (b==want) e M ⟨dst,.assign x,t,pos,af,gd⟩) ∧
  goOps cx Q st nm (e.putD dst (.gd (b==want) (opV cx (b==want) e M (nm+16*i) ⟨dst,.assign x,t,pos,af,gd⟩))) M d (fs++[opF cx (b==want) e (nm+16*i) ⟨dst,.assign x,t,pos,af,gd⟩]) ops r (i+1)):=propext Iff.rfl
theorem goGuard_nilCheck (b want:Bool)(x:Operand)(gd:Option (Nat×Bool)):goGuard cx Q st nm e M d fs (.bool b) want ops ⟨dst,.nilCheck x,t,pos,af,gd⟩ r i=(((b==want)=true→opOk cx (b==want) e M ⟨dst,.nilCheck x,t,pos,af,gd⟩) ∧
  goOps cx Q st nm (e.putD dst (.gd (b==want) (opV cx (b==want) e M (nm+16*i) ⟨dst,.nilCheck x,t,pos,af,gd⟩))) M d (fs++[opF cx (b==want) e (nm+16*i) ⟨dst,.nilCheck x,t,pos,af,gd⟩]) ops r (i+1)):=propext Iff.rfl
theorem goGuard_pick (b want:Bool)(x y z:Operand)(gd:Option (Nat×Bool)):goGuard cx Q st nm e M d fs (.bool b) want ops ⟨dst,.pick x y z,t,pos,af,gd⟩ r i=(((b==want)=true→opOk cx (b==want) e M ⟨dst,.pick x y z,t,pos,af,gd⟩) ∧
  goOps cx Q st nm (e.putD dst (.gd (b==want) (opV cx (b==want) e M (nm+16*i) ⟨dst,.pick x y z,t,pos,af,gd⟩))) M d (fs++[opF cx (b==want) e (nm+16*i) ⟨dst,.pick x y z,t,pos,af,gd⟩]) ops r (i+1)):=propext Iff.rfl
theorem goGuard_build (b want:Bool)(ty:TypeId)(ps:Array (Nat×Operand))(gd:Option (Nat×Bool)):goGuard cx Q st nm e M d fs (.bool b) want ops ⟨dst,.build ty ps,t,pos,af,gd⟩ r i=(((b==want)=true→opOk cx (b==want) e M ⟨dst,.build ty ps,t,pos,af,gd⟩) ∧
  goOps cx Q st nm (e.putD dst (.gd (b==want) (opV cx (b==want) e M (nm+16*i) ⟨dst,.build ty ps,t,pos,af,gd⟩))) M d (fs++[opF cx (b==want) e (nm+16*i) ⟨dst,.build ty ps,t,pos,af,gd⟩]) ops r (i+1)):=propext Iff.rfl
theorem goGuard_load (b want:Bool)(ty:TypeId)(x:Operand)(gd:Option (Nat×Bool)):goGuard cx Q st nm e M d fs (.bool b) want ops ⟨dst,.load ty x,t,pos,af,gd⟩ r i=(((b==want)=true→opOk cx (b==want) e M ⟨dst,.load ty x,t,pos,af,gd⟩) ∧
  goOps cx Q st nm (e.putD dst (.gd (b==want) (opV cx (b==want) e M (nm+16*i) ⟨dst,.load ty x,t,pos,af,gd⟩))) M d (fs++[opF cx (b==want) e (nm+16*i) ⟨dst,.load ty x,t,pos,af,gd⟩]) ops r (i+1)):=propext Iff.rfl
theorem goGuard_binOp (b want:Bool)(o:BinOp)(ty:TypeId)(x y:Operand)(yt:TypeId)(gd:Option (Nat×Bool)):goGuard cx Q st nm e M d fs (.bool b) want ops ⟨dst,.binOp o ty x y yt,t,pos,af,gd⟩ r i=(((b==want)=true→opOk cx (b==want) e M ⟨dst,.binOp o ty x y yt,t,pos,af,gd⟩) ∧
  goOps cx Q st nm (e.putD dst (.gd (b==want) (opV cx (b==want) e M (nm+16*i) ⟨dst,.binOp o ty x y yt,t,pos,af,gd⟩))) M d (fs++[opF cx (b==want) e (nm+16*i) ⟨dst,.binOp o ty x y yt,t,pos,af,gd⟩]) ops r (i+1)):=propext Iff.rfl
theorem goGuard_unOp (b want:Bool)(o:UnOp)(ty:TypeId)(x:Operand)(gd:Option (Nat×Bool)):goGuard cx Q st nm e M d fs (.bool b) want ops ⟨dst,.unOp o ty x,t,pos,af,gd⟩ r i=(((b==want)=true→opOk cx (b==want) e M ⟨dst,.unOp o ty x,t,pos,af,gd⟩) ∧
  goOps cx Q st nm (e.putD dst (.gd (b==want) (opV cx (b==want) e M (nm+16*i) ⟨dst,.unOp o ty x,t,pos,af,gd⟩))) M d (fs++[opF cx (b==want) e (nm+16*i) ⟨dst,.unOp o ty x,t,pos,af,gd⟩]) ops r (i+1)):=propext Iff.rfl
theorem goGuard_fieldAddr (b want:Bool)(ty:TypeId)(x:Operand)(f:Nat)(gd:Option (Nat×Bool)):goGuard cx Q st nm e M d fs (.bool b) want ops ⟨dst,.fieldAddr ty x f,t,pos,af,gd⟩ r i=(((b==want)=true→opOk cx (b==want) e M ⟨dst,.fieldAddr ty x f,t,pos,af,gd⟩) ∧
  goOps cx Q st nm (e.putD dst (.gd (b==want) (opV cx (b==want) e M (nm+16*i) ⟨dst,.fieldAddr ty x f,t,pos,af,gd⟩))) M d (fs++[opF cx (b==want) e (nm+16*i) ⟨dst,.fieldAddr ty x f,t,pos,af,gd⟩]) ops r (i+1)):=propext Iff.rfl
theorem goGuard_field (b want:Bool)(ty:TypeId)(x:Operand)(f:Nat)(gd:Option (Nat×Bool)):goGuard cx Q st nm e M d fs (.bool b) want ops ⟨dst,.field ty x f,t,pos,af,gd⟩ r i=(((b==want)=true→opOk cx (b==want) e M ⟨dst,.field ty x f,t,pos,af,gd⟩) ∧
  goOps cx Q st nm (e.putD dst (.gd (b==want) (opV cx (b==want) e M (nm+16*i) ⟨dst,.field ty x f,t,pos,af,gd⟩))) M d (fs++[opF cx (b==want) e (nm+16*i) ⟨dst,.field ty x f,t,pos,af,gd⟩]) ops r (i+1)):=propext Iff.rfl
theorem goGuard_indexAddr (b want:Bool)(ty:TypeId)(x k:Operand)(gd:Option (Nat×Bool)):goGuard cx Q st nm e M d fs (.bool b) want ops ⟨dst,.indexAddr ty x k,t,pos,af,gd⟩ r i=(((b==want)=true→opOk cx (b==want) e M ⟨dst,.indexAddr ty x k,t,pos,af,gd⟩) ∧
  goOps cx Q st nm (e.putD dst (.gd (b==want) (opV cx (b==want) e M (nm+16*i) ⟨dst,.indexAddr ty x k,t,pos,af,gd⟩))) M d (fs++[opF cx (b==want) e (nm+16*i) ⟨dst,.indexAddr ty x k,t,pos,af,gd⟩]) ops r (i+1)):=propext Iff.rfl
theorem goGuard_index (b want:Bool)(ty:TypeId)(x k:Operand)(gd:Option (Nat×Bool)):goGuard cx Q st nm e M d fs (.bool b) want ops ⟨dst,.index ty x k,t,pos,af,gd⟩ r i=(((b==want)=true→opOk cx (b==want) e M ⟨dst,.index ty x k,t,pos,af,gd⟩) ∧
  goOps cx Q st nm (e.putD dst (.gd (b==want) (opV cx (b==want) e M (nm+16*i) ⟨dst,.index ty x k,t,pos,af,gd⟩))) M d (fs++[opF cx (b==want) e (nm+16*i) ⟨dst,.index ty x k,t,pos,af,gd⟩]) ops r (i+1)):=propext Iff.rfl
theorem goGuard_extract (b want:Bool)(x:Operand)(k:Nat)(gd:Option (Nat×Bool)):goGuard cx Q st nm e M d fs (.bool b) want ops ⟨dst,.extract x k,t,pos,af,gd⟩ r i=(((b==want)=true→opOk cx (b==want) e M ⟨dst,.extract x k,t,pos,af,gd⟩) ∧
  goOps cx Q st nm (e.putD dst (.gd (b==want) (opV cx (b==want) e M (nm+16*i) ⟨dst,.extract x k,t,pos,af,gd⟩))) M d (fs++[opF cx (b==want) e (nm+16*i) ⟨dst,.extract x k,t,pos,af,gd⟩]) ops r (i+1)):=propext Iff.rfl
theorem goGuard_makeFunc (b want:Bool)(f:FuncId)(a c:Array Operand)(gd:Option (Nat×Bool)):goGuard cx Q st nm e M d fs (.bool b) want ops ⟨dst,.makeFunc (.func f) a c,t,pos,af,gd⟩ r i=(((b==want)=true→opOk cx (b==want) e M ⟨dst,.makeFunc (.func f) a c,t,pos,af,gd⟩) ∧
  goOps cx Q st nm (e.putD dst (.gd (b==want) (opV cx (b==want) e M (nm+16*i) ⟨dst,.makeFunc (.func f) a c,t,pos,af,gd⟩))) M d (fs++[opF cx (b==want) e (nm+16*i) ⟨dst,.makeFunc (.func f) a c,t,pos,af,gd⟩]) ops r (i+1)):=propext Iff.rfl
theorem goGuard_len (b want:Bool)(as:Array Operand)(ts:Array TypeId)(gd:Option (Nat×Bool)):goGuard cx Q st nm e M d fs (.bool b) want ops ⟨dst,.call ⟨.builtin .len,as,ts⟩,t,pos,af,gd⟩ r i=(((b==want)=true→opOk cx (b==want) e M ⟨dst,.call ⟨.builtin .len,as,ts⟩,t,pos,af,gd⟩) ∧
  goOps cx Q st nm (e.putD dst (.gd (b==want) (opV cx (b==want) e M (nm+16*i) ⟨dst,.call ⟨.builtin .len,as,ts⟩,t,pos,af,gd⟩))) M d (fs++[opF cx (b==want) e (nm+16*i) ⟨dst,.call ⟨.builtin .len,as,ts⟩,t,pos,af,gd⟩]) ops r (i+1)):=propext Iff.rfl
theorem goGuard_max (b want:Bool)(as:Array Operand)(ts:Array TypeId)(gd:Option (Nat×Bool)):goGuard cx Q st nm e M d fs (.bool b) want ops ⟨dst,.call ⟨.builtin .max,as,ts⟩,t,pos,af,gd⟩ r i=(((b==want)=true→opOk cx (b==want) e M ⟨dst,.call ⟨.builtin .max,as,ts⟩,t,pos,af,gd⟩) ∧
  goOps cx Q st nm (e.putD dst (.gd (b==want) (opV cx (b==want) e M (nm+16*i) ⟨dst,.call ⟨.builtin .max,as,ts⟩,t,pos,af,gd⟩))) M d (fs++[opF cx (b==want) e (nm+16*i) ⟨dst,.call ⟨.builtin .max,as,ts⟩,t,pos,af,gd⟩]) ops r (i+1)):=propext Iff.rfl
theorem goGuard_min (b want:Bool)(as:Array Operand)(ts:Array TypeId)(gd:Option (Nat×Bool)):goGuard cx Q st nm e M d fs (.bool b) want ops ⟨dst,.call ⟨.builtin .min,as,ts⟩,t,pos,af,gd⟩ r i=(((b==want)=true→opOk cx (b==want) e M ⟨dst,.call ⟨.builtin .min,as,ts⟩,t,pos,af,gd⟩) ∧
  goOps cx Q st nm (e.putD dst (.gd (b==want) (opV cx (b==want) e M (nm+16*i) ⟨dst,.call ⟨.builtin .min,as,ts⟩,t,pos,af,gd⟩))) M d (fs++[opF cx (b==want) e (nm+16*i) ⟨dst,.call ⟨.builtin .min,as,ts⟩,t,pos,af,gd⟩]) ops r (i+1)):=propext Iff.rfl
theorem goGuard_cap (b want:Bool)(as:Array Operand)(ts:Array TypeId)(gd:Option (Nat×Bool)):goGuard cx Q st nm e M d fs (.bool b) want ops ⟨dst,.call ⟨.builtin .cap,as,ts⟩,t,pos,af,gd⟩ r i=(((b==want)=true→opOk cx (b==want) e M ⟨dst,.call ⟨.builtin .cap,as,ts⟩,t,pos,af,gd⟩) ∧
  goOps cx Q st nm (e.putD dst (.gd (b==want) (opV cx (b==want) e M (nm+16*i) ⟨dst,.call ⟨.builtin .cap,as,ts⟩,t,pos,af,gd⟩))) M d (fs++[opF cx (b==want) e (nm+16*i) ⟨dst,.call ⟨.builtin .cap,as,ts⟩,t,pos,af,gd⟩]) ops r (i+1)):=propext Iff.rfl
theorem goGuard_alloc (b want:Bool)(ty:TypeId)(gd:Option (Nat×Bool)):goGuard cx Q st nm e M d fs (.bool b) want ops ⟨dst,.alloc ty,t,pos,af,gd⟩ r i=(((b==want)=true→opOk cx true e M ⟨dst,.alloc ty,t,pos,af,gd⟩ ∧
  goOps cx Q st nm (e.putD dst (opV cx true e M (nm+16*i) ⟨dst,.alloc ty,t,pos,af,gd⟩)) (M.app (opE cx true e M (nm+16*i) ⟨dst,.alloc ty,t,pos,af,gd⟩)) d (fs++[opF cx true e (nm+16*i) ⟨dst,.alloc ty,t,pos,af,gd⟩]) ops r (i+1))∧((b==want)=false→goOps cx Q st nm (e.putD dst .any) M d (fs++[[]]) ops r (i+1))):=propext Iff.rfl
theorem goGuard_box (b want:Bool)(ty:TypeId)(x:Operand)(gd:Option (Nat×Bool)):goGuard cx Q st nm e M d fs (.bool b) want ops ⟨dst,.box ty x,t,pos,af,gd⟩ r i=(((b==want)=true→opOk cx true e M ⟨dst,.box ty x,t,pos,af,gd⟩ ∧
  goOps cx Q st nm (e.putD dst (opV cx true e M (nm+16*i) ⟨dst,.box ty x,t,pos,af,gd⟩)) (M.app (opE cx true e M (nm+16*i) ⟨dst,.box ty x,t,pos,af,gd⟩)) d (fs++[opF cx true e (nm+16*i) ⟨dst,.box ty x,t,pos,af,gd⟩]) ops r (i+1))∧((b==want)=false→goOps cx Q st nm (e.putD dst .any) M d (fs++[[]]) ops r (i+1))):=propext Iff.rfl
theorem goGuard_buildSlice (b want:Bool)(ty:TypeId)(n:Nat)(ps:Array (Nat×Operand))(gd:Option (Nat×Bool)):goGuard cx Q st nm e M d fs (.bool b) want ops ⟨dst,.buildSlice ty n ps,t,pos,af,gd⟩ r i=(((b==want)=true→opOk cx true e M ⟨dst,.buildSlice ty n ps,t,pos,af,gd⟩ ∧
  goOps cx Q st nm (e.putD dst (opV cx true e M (nm+16*i) ⟨dst,.buildSlice ty n ps,t,pos,af,gd⟩)) (M.app (opE cx true e M (nm+16*i) ⟨dst,.buildSlice ty n ps,t,pos,af,gd⟩)) d (fs++[opF cx true e (nm+16*i) ⟨dst,.buildSlice ty n ps,t,pos,af,gd⟩]) ops r (i+1))∧((b==want)=false→goOps cx Q st nm (e.putD dst .any) M d (fs++[[]]) ops r (i+1))):=propext Iff.rfl
theorem goGuard_store (b want:Bool)(ty:TypeId)(x v:Operand)(gd:Option (Nat×Bool)):goGuard cx Q st nm e M d fs (.bool b) want ops ⟨dst,.store ty x v,t,pos,af,gd⟩ r i=(((b==want)=true→opOk cx true e M ⟨dst,.store ty x v,t,pos,af,gd⟩ ∧
  goOps cx Q st nm (e.putD dst (opV cx true e M (nm+16*i) ⟨dst,.store ty x v,t,pos,af,gd⟩)) (M.app (opE cx true e M (nm+16*i) ⟨dst,.store ty x v,t,pos,af,gd⟩)) d (fs++[opF cx true e (nm+16*i) ⟨dst,.store ty x v,t,pos,af,gd⟩]) ops r (i+1))∧((b==want)=false→goOps cx Q st nm (e.putD dst .any) M d (fs++[[]]) ops r (i+1))):=propext Iff.rfl
theorem goGuard_append (b want:Bool)(as:Array Operand)(ts:Array TypeId)(gd:Option (Nat×Bool)):goGuard cx Q st nm e M d fs (.bool b) want ops ⟨dst,.call ⟨.builtin .append,as,ts⟩,t,pos,af,gd⟩ r i=(((b==want)=true→opOk cx true e M ⟨dst,.call ⟨.builtin .append,as,ts⟩,t,pos,af,gd⟩ ∧
  goOps cx Q st nm (e.putD dst (opV cx true e M (nm+16*i) ⟨dst,.call ⟨.builtin .append,as,ts⟩,t,pos,af,gd⟩)) (M.app (opE cx true e M (nm+16*i) ⟨dst,.call ⟨.builtin .append,as,ts⟩,t,pos,af,gd⟩)) d (fs++[opF cx true e (nm+16*i) ⟨dst,.call ⟨.builtin .append,as,ts⟩,t,pos,af,gd⟩]) ops r (i+1))∧((b==want)=false→goOps cx Q st nm (e.putD dst .any) M d (fs++[[]]) ops r (i+1))):=propext Iff.rfl
theorem goGuard_copy (b want:Bool)(as:Array Operand)(ts:Array TypeId)(gd:Option (Nat×Bool)):goGuard cx Q st nm e M d fs (.bool b) want ops ⟨dst,.call ⟨.builtin .copy,as,ts⟩,t,pos,af,gd⟩ r i=(((b==want)=true→opOk cx true e M ⟨dst,.call ⟨.builtin .copy,as,ts⟩,t,pos,af,gd⟩ ∧
  goOps cx Q st nm (e.putD dst (opV cx true e M (nm+16*i) ⟨dst,.call ⟨.builtin .copy,as,ts⟩,t,pos,af,gd⟩)) (M.app (opE cx true e M (nm+16*i) ⟨dst,.call ⟨.builtin .copy,as,ts⟩,t,pos,af,gd⟩)) d (fs++[opF cx true e (nm+16*i) ⟨dst,.call ⟨.builtin .copy,as,ts⟩,t,pos,af,gd⟩]) ops r (i+1))∧((b==want)=false→goOps cx Q st nm (e.putD dst .any) M d (fs++[[]]) ops r (i+1))):=propext Iff.rfl
theorem goOps_makeSlice (ty:TypeId)(x y:Operand):goOps cx Q st nm e M d fs ops (⟨dst,.makeSlice ty x y,t,pos,af,none⟩::r) i=goExt cx Q st nm e M d fs ops ⟨dst,.makeSlice ty x y,t,pos,af,none⟩ r i:=propext Iff.rfl
theorem goGuard_makeSlice (b want:Bool)(ty:TypeId)(x y:Operand)(gd:Option (Nat×Bool)):goGuard cx Q st nm e M d fs (.bool b) want ops ⟨dst,.makeSlice ty x y,t,pos,af,gd⟩ r i=goExtG cx Q st nm e M d fs (b==want) ops ⟨dst,.makeSlice ty x y,t,pos,af,gd⟩ r i:=propext Iff.rfl
theorem goOps_makeChan (ty:TypeId)(x:Operand):goOps cx Q st nm e M d fs ops (⟨dst,.makeChan ty x,t,pos,af,none⟩::r) i=goExt cx Q st nm e M d fs ops ⟨dst,.makeChan ty x,t,pos,af,none⟩ r i:=propext Iff.rfl
theorem goGuard_makeChan (b want:Bool)(ty:TypeId)(x:Operand)(gd:Option (Nat×Bool)):goGuard cx Q st nm e M d fs (.bool b) want ops ⟨dst,.makeChan ty x,t,pos,af,gd⟩ r i=goExtG cx Q st nm e M d fs (b==want) ops ⟨dst,.makeChan ty x,t,pos,af,gd⟩ r i:=propext Iff.rfl
theorem goOps_makeMap (ty:TypeId)(x:Option Operand):goOps cx Q st nm e M d fs ops (⟨dst,.makeMap ty x,t,pos,af,none⟩::r) i=goExt cx Q st nm e M d fs ops ⟨dst,.makeMap ty x,t,pos,af,none⟩ r i:=propext Iff.rfl
theorem goGuard_makeMap (b want:Bool)(ty:TypeId)(x:Option Operand)(gd:Option (Nat×Bool)):goGuard cx Q st nm e M d fs (.bool b) want ops ⟨dst,.makeMap ty x,t,pos,af,gd⟩ r i=goExtG cx Q st nm e M d fs (b==want) ops ⟨dst,.makeMap ty x,t,pos,af,gd⟩ r i:=propext Iff.rfl
theorem goOps_makeInterface (ty:TypeId)(x:Operand):goOps cx Q st nm e M d fs ops (⟨dst,.makeInterface ty x,t,pos,af,none⟩::r) i=goExt cx Q st nm e M d fs ops ⟨dst,.makeInterface ty x,t,pos,af,none⟩ r i:=propext Iff.rfl
theorem goGuard_makeInterface (b want:Bool)(ty:TypeId)(x:Operand)(gd:Option (Nat×Bool)):goGuard cx Q st nm e M d fs (.bool b) want ops ⟨dst,.makeInterface ty x,t,pos,af,gd⟩ r i=goExtG cx Q st nm e M d fs (b==want) ops ⟨dst,.makeInterface ty x,t,pos,af,gd⟩ r i:=propext Iff.rfl
theorem goOps_typeAssert (x:Operand)(ty ty2:TypeId)(ok:Bool):goOps cx Q st nm e M d fs ops (⟨dst,.typeAssert x ty ty2 ok,t,pos,af,none⟩::r) i=goExt cx Q st nm e M d fs ops ⟨dst,.typeAssert x ty ty2 ok,t,pos,af,none⟩ r i:=propext Iff.rfl
theorem goGuard_typeAssert (b want:Bool)(x:Operand)(ty ty2:TypeId)(ok:Bool)(gd:Option (Nat×Bool)):goGuard cx Q st nm e M d fs (.bool b) want ops ⟨dst,.typeAssert x ty ty2 ok,t,pos,af,gd⟩ r i=goExtG cx Q st nm e M d fs (b==want) ops ⟨dst,.typeAssert x ty ty2 ok,t,pos,af,gd⟩ r i:=propext Iff.rfl
theorem goOps_lookup (ty:TypeId)(x y:Operand)(ok:Bool):goOps cx Q st nm e M d fs ops (⟨dst,.lookup ty x y ok,t,pos,af,none⟩::r) i=goExt cx Q st nm e M d fs ops ⟨dst,.lookup ty x y ok,t,pos,af,none⟩ r i:=propext Iff.rfl
theorem goGuard_lookup (b want:Bool)(ty:TypeId)(x y:Operand)(ok:Bool)(gd:Option (Nat×Bool)):goGuard cx Q st nm e M d fs (.bool b) want ops ⟨dst,.lookup ty x y ok,t,pos,af,gd⟩ r i=goExtG cx Q st nm e M d fs (b==want) ops ⟨dst,.lookup ty x y ok,t,pos,af,gd⟩ r i:=propext Iff.rfl
theorem goOps_mapUpdate (ty:TypeId)(x y z:Operand):goOps cx Q st nm e M d fs ops (⟨dst,.mapUpdate ty x y z,t,pos,af,none⟩::r) i=goExt cx Q st nm e M d fs ops ⟨dst,.mapUpdate ty x y z,t,pos,af,none⟩ r i:=propext Iff.rfl
theorem goGuard_mapUpdate (b want:Bool)(ty:TypeId)(x y z:Operand)(gd:Option (Nat×Bool)):goGuard cx Q st nm e M d fs (.bool b) want ops ⟨dst,.mapUpdate ty x y z,t,pos,af,gd⟩ r i=goExtG cx Q st nm e M d fs (b==want) ops ⟨dst,.mapUpdate ty x y z,t,pos,af,gd⟩ r i:=propext Iff.rfl
theorem goOps_mapEntry (ty:TypeId)(x y:Operand):goOps cx Q st nm e M d fs ops (⟨dst,.mapEntry ty x y,t,pos,af,none⟩::r) i=goExt cx Q st nm e M d fs ops ⟨dst,.mapEntry ty x y,t,pos,af,none⟩ r i:=propext Iff.rfl
theorem goGuard_mapEntry (b want:Bool)(ty:TypeId)(x y:Operand)(gd:Option (Nat×Bool)):goGuard cx Q st nm e M d fs (.bool b) want ops ⟨dst,.mapEntry ty x y,t,pos,af,gd⟩ r i=goExtG cx Q st nm e M d fs (b==want) ops ⟨dst,.mapEntry ty x y,t,pos,af,gd⟩ r i:=propext Iff.rfl
theorem goOps_entryStore (ty:TypeId)(x y z:Operand):goOps cx Q st nm e M d fs ops (⟨dst,.entryStore ty x y z,t,pos,af,none⟩::r) i=goExt cx Q st nm e M d fs ops ⟨dst,.entryStore ty x y z,t,pos,af,none⟩ r i:=propext Iff.rfl
theorem goGuard_entryStore (b want:Bool)(ty:TypeId)(x y z:Operand)(gd:Option (Nat×Bool)):goGuard cx Q st nm e M d fs (.bool b) want ops ⟨dst,.entryStore ty x y z,t,pos,af,gd⟩ r i=goExtG cx Q st nm e M d fs (b==want) ops ⟨dst,.entryStore ty x y z,t,pos,af,gd⟩ r i:=propext Iff.rfl
theorem goOps_insert (ty:TypeId)(x y z:Operand):goOps cx Q st nm e M d fs ops (⟨dst,.insert ty x y z,t,pos,af,none⟩::r) i=goExt cx Q st nm e M d fs ops ⟨dst,.insert ty x y z,t,pos,af,none⟩ r i:=propext Iff.rfl
theorem goGuard_insert (b want:Bool)(ty:TypeId)(x y z:Operand)(gd:Option (Nat×Bool)):goGuard cx Q st nm e M d fs (.bool b) want ops ⟨dst,.insert ty x y z,t,pos,af,gd⟩ r i=goExtG cx Q st nm e M d fs (b==want) ops ⟨dst,.insert ty x y z,t,pos,af,gd⟩ r i:=propext Iff.rfl
theorem goOps_range (ty:TypeId)(x:Operand):goOps cx Q st nm e M d fs ops (⟨dst,.range ty x,t,pos,af,none⟩::r) i=goExt cx Q st nm e M d fs ops ⟨dst,.range ty x,t,pos,af,none⟩ r i:=propext Iff.rfl
theorem goGuard_range (b want:Bool)(ty:TypeId)(x:Operand)(gd:Option (Nat×Bool)):goGuard cx Q st nm e M d fs (.bool b) want ops ⟨dst,.range ty x,t,pos,af,gd⟩ r i=goExtG cx Q st nm e M d fs (b==want) ops ⟨dst,.range ty x,t,pos,af,gd⟩ r i:=propext Iff.rfl
theorem goOps_next (x:Operand)(s:Bool):goOps cx Q st nm e M d fs ops (⟨dst,.next x s,t,pos,af,none⟩::r) i=goExt cx Q st nm e M d fs ops ⟨dst,.next x s,t,pos,af,none⟩ r i:=propext Iff.rfl
theorem goGuard_next (b want:Bool)(x:Operand)(s:Bool)(gd:Option (Nat×Bool)):goGuard cx Q st nm e M d fs (.bool b) want ops ⟨dst,.next x s,t,pos,af,gd⟩ r i=goExtG cx Q st nm e M d fs (b==want) ops ⟨dst,.next x s,t,pos,af,gd⟩ r i:=propext Iff.rfl
theorem goOps_entry (x:Operand):goOps cx Q st nm e M d fs ops (⟨dst,.entry x,t,pos,af,none⟩::r) i=goExt cx Q st nm e M d fs ops ⟨dst,.entry x,t,pos,af,none⟩ r i:=propext Iff.rfl
theorem goGuard_entry (b want:Bool)(x:Operand)(gd:Option (Nat×Bool)):goGuard cx Q st nm e M d fs (.bool b) want ops ⟨dst,.entry x,t,pos,af,gd⟩ r i=goExtG cx Q st nm e M d fs (b==want) ops ⟨dst,.entry x,t,pos,af,gd⟩ r i:=propext Iff.rfl
theorem goOps_close (as:Array Operand)(ts:Array TypeId):goOps cx Q st nm e M d fs ops (⟨dst,.call ⟨.builtin .close,as,ts⟩,t,pos,af,none⟩::r) i=goExt cx Q st nm e M d fs ops ⟨dst,.call ⟨.builtin .close,as,ts⟩,t,pos,af,none⟩ r i:=propext Iff.rfl
theorem goGuard_close (b want:Bool)(as:Array Operand)(ts:Array TypeId)(gd:Option (Nat×Bool)):goGuard cx Q st nm e M d fs (.bool b) want ops ⟨dst,.call ⟨.builtin .close,as,ts⟩,t,pos,af,gd⟩ r i=goExtG cx Q st nm e M d fs (b==want) ops ⟨dst,.call ⟨.builtin .close,as,ts⟩,t,pos,af,gd⟩ r i:=propext Iff.rfl
theorem goOps_delete (as:Array Operand)(ts:Array TypeId):goOps cx Q st nm e M d fs ops (⟨dst,.call ⟨.builtin .delete,as,ts⟩,t,pos,af,none⟩::r) i=goExt cx Q st nm e M d fs ops ⟨dst,.call ⟨.builtin .delete,as,ts⟩,t,pos,af,none⟩ r i:=propext Iff.rfl
theorem goGuard_delete (b want:Bool)(as:Array Operand)(ts:Array TypeId)(gd:Option (Nat×Bool)):goGuard cx Q st nm e M d fs (.bool b) want ops ⟨dst,.call ⟨.builtin .delete,as,ts⟩,t,pos,af,gd⟩ r i=goExtG cx Q st nm e M d fs (b==want) ops ⟨dst,.call ⟨.builtin .delete,as,ts⟩,t,pos,af,gd⟩ r i:=propext Iff.rfl
theorem goOps_clear (as:Array Operand)(ts:Array TypeId):goOps cx Q st nm e M d fs ops (⟨dst,.call ⟨.builtin .clear,as,ts⟩,t,pos,af,none⟩::r) i=goExt cx Q st nm e M d fs ops ⟨dst,.call ⟨.builtin .clear,as,ts⟩,t,pos,af,none⟩ r i:=propext Iff.rfl
theorem goGuard_clear (b want:Bool)(as:Array Operand)(ts:Array TypeId)(gd:Option (Nat×Bool)):goGuard cx Q st nm e M d fs (.bool b) want ops ⟨dst,.call ⟨.builtin .clear,as,ts⟩,t,pos,af,gd⟩ r i=goExtG cx Q st nm e M d fs (b==want) ops ⟨dst,.call ⟨.builtin .clear,as,ts⟩,t,pos,af,gd⟩ r i:=propext Iff.rfl
theorem goOps_unsafeString (as:Array Operand)(ts:Array TypeId):goOps cx Q st nm e M d fs ops (⟨dst,.call ⟨.builtin .unsafeString,as,ts⟩,t,pos,af,none⟩::r) i=goExt cx Q st nm e M d fs ops ⟨dst,.call ⟨.builtin .unsafeString,as,ts⟩,t,pos,af,none⟩ r i:=propext Iff.rfl
theorem goGuard_unsafeString (b want:Bool)(as:Array Operand)(ts:Array TypeId)(gd:Option (Nat×Bool)):goGuard cx Q st nm e M d fs (.bool b) want ops ⟨dst,.call ⟨.builtin .unsafeString,as,ts⟩,t,pos,af,gd⟩ r i=goExtG cx Q st nm e M d fs (b==want) ops ⟨dst,.call ⟨.builtin .unsafeString,as,ts⟩,t,pos,af,gd⟩ r i:=propext Iff.rfl
theorem goOps_unsafeSliceData (as:Array Operand)(ts:Array TypeId):goOps cx Q st nm e M d fs ops (⟨dst,.call ⟨.builtin .unsafeSliceData,as,ts⟩,t,pos,af,none⟩::r) i=goExt cx Q st nm e M d fs ops ⟨dst,.call ⟨.builtin .unsafeSliceData,as,ts⟩,t,pos,af,none⟩ r i:=propext Iff.rfl
theorem goGuard_unsafeSliceData (b want:Bool)(as:Array Operand)(ts:Array TypeId)(gd:Option (Nat×Bool)):goGuard cx Q st nm e M d fs (.bool b) want ops ⟨dst,.call ⟨.builtin .unsafeSliceData,as,ts⟩,t,pos,af,gd⟩ r i=goExtG cx Q st nm e M d fs (b==want) ops ⟨dst,.call ⟨.builtin .unsafeSliceData,as,ts⟩,t,pos,af,gd⟩ r i:=propext Iff.rfl
theorem goOps_unsafeStringData (as:Array Operand)(ts:Array TypeId):goOps cx Q st nm e M d fs ops (⟨dst,.call ⟨.builtin .unsafeStringData,as,ts⟩,t,pos,af,none⟩::r) i=goExt cx Q st nm e M d fs ops ⟨dst,.call ⟨.builtin .unsafeStringData,as,ts⟩,t,pos,af,none⟩ r i:=propext Iff.rfl
theorem goGuard_unsafeStringData (b want:Bool)(as:Array Operand)(ts:Array TypeId)(gd:Option (Nat×Bool)):goGuard cx Q st nm e M d fs (.bool b) want ops ⟨dst,.call ⟨.builtin .unsafeStringData,as,ts⟩,t,pos,af,gd⟩ r i=goExtG cx Q st nm e M d fs (b==want) ops ⟨dst,.call ⟨.builtin .unsafeStringData,as,ts⟩,t,pos,af,gd⟩ r i:=propext Iff.rfl
theorem goOps_unsafeSlice (as:Array Operand)(ts:Array TypeId):goOps cx Q st nm e M d fs ops (⟨dst,.call ⟨.builtin .unsafeSlice,as,ts⟩,t,pos,af,none⟩::r) i=goExt cx Q st nm e M d fs ops ⟨dst,.call ⟨.builtin .unsafeSlice,as,ts⟩,t,pos,af,none⟩ r i:=propext Iff.rfl
theorem goGuard_unsafeSlice (b want:Bool)(as:Array Operand)(ts:Array TypeId)(gd:Option (Nat×Bool)):goGuard cx Q st nm e M d fs (.bool b) want ops ⟨dst,.call ⟨.builtin .unsafeSlice,as,ts⟩,t,pos,af,gd⟩ r i=goExtG cx Q st nm e M d fs (b==want) ops ⟨dst,.call ⟨.builtin .unsafeSlice,as,ts⟩,t,pos,af,gd⟩ r i:=propext Iff.rfl
theorem goOps_send (x y:Operand):goOps cx Q st nm e M d fs ops (⟨dst,.send x y,t,pos,af,none⟩::r) i=goComm cx Q st nm e M d fs ops ⟨dst,.send x y,t,pos,af,none⟩ r i:=propext Iff.rfl
theorem goOps_recv (ty:TypeId)(x:Operand)(ok:Bool):goOps cx Q st nm e M d fs ops (⟨dst,.recv ty x ok,t,pos,af,none⟩::r) i=goComm cx Q st nm e M d fs ops ⟨dst,.recv ty x ok,t,pos,af,none⟩ r i:=propext Iff.rfl
theorem goOps_select (cs:Array SelectCase)(bl:Bool):goOps cx Q st nm e M d fs ops (⟨dst,.select cs bl,t,pos,af,none⟩::r) i=goComm cx Q st nm e M d fs ops ⟨dst,.select cs bl,t,pos,af,none⟩ r i:=propext Iff.rfl
theorem goOps_convert (ts td:TypeId)(x:Operand):goOps cx Q st nm e M d fs ops (⟨dst,.convert ts td x,t,pos,af,none⟩::r) i=if extConv (cx.P.underlying ts) (cx.P.underlying td)=true then goExt cx Q st nm e M d fs ops ⟨dst,.convert ts td x,t,pos,af,none⟩ r i else (opOk cx true e M ⟨dst,.convert ts td x,t,pos,af,none⟩ ∧
  goOps cx Q st nm (e.putD dst (opV cx true e M (nm+16*i) ⟨dst,.convert ts td x,t,pos,af,none⟩)) M d (fs++[opF cx true e (nm+16*i) ⟨dst,.convert ts td x,t,pos,af,none⟩]) ops r (i+1)):=by
 unfold goOps goExt
 simp only[vcOps,isCall,isExt,isComm,Bool.false_eq_true,if_false]
 split<;>rfl
theorem goGuard_convert (b want:Bool)(ts td:TypeId)(x:Operand)(gd:Option (Nat×Bool)):goGuard cx Q st nm e M d fs (.bool b) want ops ⟨dst,.convert ts td x,t,pos,af,gd⟩ r i=if extConv (cx.P.underlying ts) (cx.P.underlying td)=true then goExtG cx Q st nm e M d fs (b==want) ops ⟨dst,.convert ts td x,t,pos,af,gd⟩ r i else (((b==want)=true→opOk cx (b==want) e M ⟨dst,.convert ts td x,t,pos,af,gd⟩) ∧
  goOps cx Q st nm (e.putD dst (.gd (b==want) (opV cx (b==want) e M (nm+16*i) ⟨dst,.convert ts td x,t,pos,af,gd⟩))) M d (fs++[opF cx (b==want) e (nm+16*i) ⟨dst,.convert ts td x,t,pos,af,gd⟩]) ops r (i+1)):=by
 unfold goGuard
 simp only[guardB,isCall,isExt,soft,Bool.false_eq_true,if_false,if_true]
theorem extConv_int (k:IntKind)(x:Option TypeDesc):extConv (some (.int k)) x=false:=rfl
theorem extConv_to_int (k:IntKind)(x:Option TypeDesc):extConv x (some (.int k))=false:=by rcases x with _|x<;>first|rfl|(cases x<;>rfl)
theorem extConv_ss:extConv (some .string) (some .string)=false:=rfl
theorem extConv_sb (e:TypeId):extConv (some .string) (some (.slice e))=true:=rfl
theorem extConv_bs (e:TypeId):extConv (some (.slice e)) (some .string)=true:=rfl
theorem extConv_pu (e:TypeId):extConv (some (.pointer e)) (some .unsafePointer)=true:=rfl
theorem extConv_up (e:TypeId):extConv (some .unsafePointer) (some (.pointer e))=true:=rfl
theorem goOps_slice (ty:TypeId)(x:Operand)(l h m:Option Operand):goOps cx Q st nm e M d fs ops (⟨dst,.slice ty x l h m,t,pos,af,none⟩::r) i=if arrD (cx.P.underlying ty)=true then goExt cx Q st nm e M d fs ops ⟨dst,.slice ty x l h m,t,pos,af,none⟩ r i else (opOk cx true e M ⟨dst,.slice ty x l h m,t,pos,af,none⟩ ∧
  goOps cx Q st nm (e.putD dst (opV cx true e M (nm+16*i) ⟨dst,.slice ty x l h m,t,pos,af,none⟩)) M d (fs++[opF cx true e (nm+16*i) ⟨dst,.slice ty x l h m,t,pos,af,none⟩]) ops r (i+1)):=by
 unfold goOps goExt
 simp only[vcOps,isCall,isExt,isComm,Bool.false_eq_true,if_false]
 split<;>rfl
theorem goGuard_slice (b want:Bool)(ty:TypeId)(x:Operand)(l h m:Option Operand)(gd:Option (Nat×Bool)):goGuard cx Q st nm e M d fs (.bool b) want ops ⟨dst,.slice ty x l h m,t,pos,af,gd⟩ r i=if arrD (cx.P.underlying ty)=true then goExtG cx Q st nm e M d fs (b==want) ops ⟨dst,.slice ty x l h m,t,pos,af,gd⟩ r i else (((b==want)=true→opOk cx (b==want) e M ⟨dst,.slice ty x l h m,t,pos,af,gd⟩) ∧
  goOps cx Q st nm (e.putD dst (.gd (b==want) (opV cx (b==want) e M (nm+16*i) ⟨dst,.slice ty x l h m,t,pos,af,gd⟩))) M d (fs++[opF cx (b==want) e (nm+16*i) ⟨dst,.slice ty x l h m,t,pos,af,gd⟩]) ops r (i+1)):=by
 unfold goGuard
 simp only[guardB,isCall,isExt,soft,Bool.false_eq_true,if_false,if_true]
theorem arrD_str:arrD (some .string)=false:=rfl
theorem arrD_sl (e:TypeId):arrD (some (.slice e))=false:=rfl
theorem arrD_arr (n:Nat)(e:TypeId):arrD (some (.array n e))=true:=rfl
theorem goGuard_call (d:Bool)(fs:List (List Nat))(b want:Bool)(ops:List Oper)(dst:Option Tmp)(f:Operand)(as:Array Operand)(ts:Array TypeId)(t:TypeId)(pos:String)(af:Array Edge)(r:List Oper)(i:Nat)(gd:Option (Nat×Bool)) :
  goGuard cx Q st nm e M d fs (.bool b) want ops ⟨dst,.call ⟨.value f,as,ts⟩,t,pos,af,gd⟩ r i=goCallG cx Q st nm e M d fs (b==want) ops ⟨dst,.call ⟨.value f,as,ts⟩,t,pos,af,gd⟩ r i:=propext Iff.rfl
end
end Go.Proofs.Ytfcfldmioonipaa.Vm
namespace Go.Proofs.Ytfcfldmioonipaa.Vm
open And renaming intro→Ai
set_option linter.unusedSimpArgs false
set_option linter.unusedVariables false
open Go Go.RowKit
set_option linter.defProp false
def vc0 :=
 (Ai (Ai (Ai (Ai @arrD_str (Ai @arrD_sl @arrD_arr)) (Ai @extConv_up (Ai @extConv_pu @typeV.eq_1))) (Ai (Ai @typeV.eq_2 (Ai @typeV.eq_3 @typeV.eq_4)) (Ai @Blk.ty_typed (Ai @Blk.ty_plain @blkT_some)))) (Ai (Ai (Ai @blkT_none (Ai @allocK.eq_1 @extConv_bs)) (Ai @extConv_sb (Ai @extConv_ss @extConv_to_int))) (Ai (Ai @extConv_int (Ai @goOps_select @goOps_recv)) (Ai @goOps_send (Ai @goGuard_unsafeSlice @goOps_unsafeSlice)))))
def vc1 :=
 (Ai (Ai (Ai (Ai @goGuard_unsafeStringData (Ai @goOps_unsafeStringData @goGuard_unsafeSliceData)) (Ai @goOps_unsafeSliceData (Ai @goGuard_unsafeString @goOps_unsafeString))) (Ai (Ai @goGuard_clear (Ai @goOps_clear @goGuard_delete)) (Ai @goOps_delete (Ai @goGuard_close @goOps_close)))) (Ai (Ai (Ai @goGuard_entry (Ai @goOps_entry @goGuard_next)) (Ai @goOps_next (Ai @goGuard_range @goOps_range))) (Ai (Ai @goGuard_insert (Ai @goOps_insert @goGuard_entryStore)) (Ai @goOps_entryStore (Ai @goGuard_mapEntry @goOps_mapEntry)))))
def vc2 :=
 (Ai (Ai (Ai (Ai @goGuard_mapUpdate (Ai @goOps_mapUpdate @goGuard_lookup)) (Ai @goOps_lookup (Ai @goGuard_typeAssert @goOps_typeAssert))) (Ai (Ai @goGuard_makeInterface (Ai @goOps_makeInterface @goGuard_makeMap)) (Ai @goOps_makeMap (Ai @goGuard_makeChan @goOps_makeChan)))) (Ai (Ai (Ai @goGuard_makeSlice (Ai @goOps_makeSlice @goGuard_gd)) (Ai @goGuard_gdf (Ai @goGuard_call @goGuard_append))) (Ai (Ai @goGuard_store (Ai @goGuard_buildSlice @goGuard_box)) (Ai @goGuard_alloc (Ai @goGuard_min @goGuard_max)))))
def vc3 :=
 (Ai (Ai (Ai (Ai @goGuard_len (Ai @goGuard_makeFunc @goGuard_extract)) (Ai @goGuard_index (Ai @goGuard_indexAddr @goGuard_field))) (Ai (Ai @goGuard_fieldAddr (Ai @goGuard_slice @goGuard_convert)) (Ai @goGuard_unOp (Ai @goGuard_binOp @goGuard_load)))) (Ai (Ai (Ai @goGuard_build (Ai @goGuard_pick @goGuard_nilCheck)) (Ai @goGuard_assign (Ai @goGuard_move @goOps_append))) (Ai (Ai @goOps_store (Ai @goOps_buildSlice @goOps_box)) (Ai @goOps_alloc (Ai @goOps_min @goOps_max)))))
def vc4 :=
 (Ai (Ai (Ai (Ai @goOps_len (Ai @goOps_makeFunc @goOps_extract)) (Ai @goOps_index (Ai @goOps_indexAddr @goOps_field))) (Ai (Ai @goOps_fieldAddr (Ai @goOps_slice @goOps_convert)) (Ai @goOps_unOp (Ai @goOps_binOp @goOps_load)))) (Ai (Ai (Ai @goOps_build (Ai @goOps_pick @goOps_nilCheck)) (Ai @goOps_assign (Ai @goOps_move @go_skip))) (Ai (Ai @go_label (Ai @go_exit @go_ret)) (Ai @go_seq (Ai @go_block @go_cond)))))
def vc5 :=
 (Ai (Ai (Ai (Ai @go_loop (Ai @go_region @goEx_nil)) (Ai @goEx_code (Ai @goEx_code_exit @goEx_code_ret))) (Ai (Ai @goEx_blk (Ai @goEx_blk_exit @goEx_blk_ret)) (Ai @goEx_again_exit (Ai @goEx_again_ret @goOps_nil)))) (Ai (Ai (Ai @goOps_nil_draw (Ai @goOps_call @goOps_guard)) (Ai @isCall.eq_1 (Ai @isCall.eq_2 @isCall.eq_3))) (Ai (Ai @soft.eq_1 (Ai @soft.eq_2 @soft.eq_3)) (Ai @soft.eq_4 (Ai @soft.eq_5 @soft.eq_6)))))
def vc6 :=
 (Ai (Ai (Ai (Ai @soft.eq_7 (Ai @soft.eq_8 @soft.eq_9)) (Ai @soft.eq_10 (Ai @soft.eq_11 @guardV.eq_1))) (Ai (Ai @putD_some (Ai @putD_none @put_at)) (Ai @strip_gd_same (Ai @strip_gd_true @strip_any)))) (Ai (Ai (Ai @strip_bool (Ai @strip_int @strip_str)) (Ai @strip_nilp (Ai @strip_ptr @strip_rp))) (Ai (Ai @strip_nils (Ai @strip_sl @strip_own)) (Ai @strip_fn (Ai @strip_agg @strip_tup)))))
def vc7 :=
 (Ai (Ai (Ai (Ai @strip_val (Ai @pick_bool @pick_and)) (Ai @pick_or (Ai @pick_and2 @pick_or2))) (Ai (Ai @ge_iff_le.{0} (Ai @gt_iff_lt.{0} @resOk.eq_1)) (Ai @resOk.eq_2 (Ai @resOk1.eq_1 @resOk1.eq_2)))) (Ai (Ai (Ai @resV.eq_1 (Ai @resV.eq_2 @resV1.eq_1)) (Ai @resV1.eq_2 (Ai @V.fin.eq_1 @V.fin.eq_2))) (Ai (Ai @V.fin.eq_3 (Ai @V.fin.eq_4 @V.fin.eq_5)) (Ai @V.fin.eq_6 (Ai @V.fin.eq_7 @V.fin.eq_8)))))
def vc8 :=
 (Ai (Ai (Ai (Ai @V.fin.eq_9 (Ai @V.fin.eq_10 @V.fin.eq_11)) (Ai @V.fin.eq_12 (Ai @V.finOk.eq_1 @V.finOk.eq_2))) (Ai (Ai @V.finOk.eq_3 (Ai @V.finOk.eq_4 @V.finOk.eq_5)) (Ai @V.finOk.eq_6 (Ai @V.finOk.eq_7 @V.finOk.eq_8)))) (Ai (Ai (Ai @V.finOk.eq_9 (Ai @V.finOk.eq_10 @V.finOk.eq_11)) (Ai @V.finOk.eq_12 (Ai @V.finOk.eq_13 @finL.eq_1))) (Ai (Ai @finL.eq_2 (Ai @finLOk.eq_1 @finLOk.eq_2)) (Ai @V.plain.eq_1 (Ai @V.plain.eq_2 @V.plain.eq_3)))))
def vc9 :=
 (Ai (Ai (Ai (Ai @V.plain.eq_4 (Ai @V.plain.eq_5 @V.plain.eq_6)) (Ai @V.plain.eq_7 (Ai @V.plain.eq_8 @V.plain.eq_9))) (Ai (Ai @V.plain.eq_10 (Ai @V.plain.eq_11 @V.plain.eq_12)) (Ai @V.plain.eq_13 (Ai @V.plain.eq_14 @V.plain.eq_15)))) (Ai (Ai (Ai @plainL.eq_1 (Ai @plainL.eq_2 @plainLL.eq_1)) (Ai @plainLL.eq_2 (Ai @beq_true' @beq_false'))) (Ai (Ai @add_add_lit (Ai @argsE_at @app_nil)) (Ai @app_cons (Ai @mput_at @nil_at)))))
def vc10 :=
 (Ai (Ai (Ai (Ai @opOk.eq_1 (Ai @opV.eq_1 @makeV.eq_1)) (Ai @makeV.eq_2 (Ai @opE.eq_1 @opF.eq_1))) (Ai (Ai @namesV.eq_1 (Ai @namesV.eq_2 @namesV.eq_3)) (Ai @namesV.eq_4 (Ai @namesV.eq_5 @List.flatMap_cons.{0,0})))) (Ai (Ai (Ai @List.flatMap_nil.{0,0} (Ai @evalV.eq_1 @evalV.eq_2)) (Ai @evalV.eq_3 (Ai @evalV.eq_4 @ofV.eq_1))) (Ai (Ai @ofV.eq_2 (Ai @ofV1.eq_1 @ofV1.eq_2)) (Ai @ofV1.eq_3 (Ai @ofV1.eq_4 @ofV1.eq_5)))))
def vc11 :=
 (Ai (Ai (Ai (Ai @ofV1.eq_6 (Ai @intsV.eq_1 @intsV.eq_2)) (Ai @partsV.eq_1 (Ai @builtinV.eq_1 @builtinV.eq_2))) (Ai (Ai @builtinV.eq_3 (Ai @builtinV.eq_4 @builtinV.eq_5)) (Ai @builtinV.eq_6 (Ai @builtinV.eq_7 @builtinV.eq_8)))) (Ai (Ai (Ai @builtinV.eq_9 (Ai @builtinE.eq_1 @builtinE.eq_2)) (Ai @builtinE.eq_3 (Ai @builtinE.eq_4 @builtinE.eq_5))) (Ai (Ai @builtinE.eq_6 (Ai @builtinE.eq_7 @lenFits.eq_def)) (Ai @builtinOk.eq_1 (Ai @builtinOk.eq_2 @builtinOk.eq_3)))))
def vc12 :=
 (Ai (Ai (Ai (Ai @builtinOk.eq_4 (Ai @builtinOk.eq_5 @builtinOk.eq_6)) (Ai @builtinOk.eq_7 (Ai @builtinOk.eq_8 @optInt.eq_1))) (Ai (Ai @optInt.eq_2 (Ai @loadV.eq_1 @loadOk.eq_1)) (Ai @target.eq_1 (Ai @target.eq_2 @target.eq_3)))) (Ai (Ai (Ai @rowOf.eq_1 (Ai @rowsOf.eq_1 @szOf.eq_1)) (Ai @V.isPtr.eq_1 (Ai @V.isPtr.eq_2 @V.isPtr.eq_3))) (Ai (Ai @V.one.eq_1 (Ai @V.one.eq_2 @V.one.eq_3)) (Ai @V.one.eq_4 (Ai @V.one.eq_5 @V.one.eq_6)))))
def vc13 :=
 (Ai (Ai (Ai (Ai @V.cellsV.eq_1 (Ai @V.cellsV.eq_2 @setRowV.eq_1)) (Ai @setRowV.eq_2 (Ai @spliceL.eq_1 @storeOk.eq_1))) (Ai (Ai @storeOk.eq_2 (Ai @boxK.eq_1 @fieldAddrV.eq_1)) (Ai @fieldAddrV.eq_2 (Ai @fieldAddrV.eq_3 @fieldAddrOk.eq_1)))) (Ai (Ai (Ai @partV.eq_1 (Ai @fieldV.eq_1 @fieldV.eq_2)) (Ai @fieldOk.eq_1 (Ai @fieldOk.eq_2 @lenV.eq_1))) (Ai (Ai @lenV.eq_2 (Ai @lenV.eq_3 @lenV.eq_4)) (Ai @lenV.eq_5 (Ai @intV.eq_1 @intV.eq_2)))))
def vc14 :=
 (Ai (Ai (Ai (Ai @indexAddrV.eq_1 (Ai @indexAddrV.eq_2 @indexAddrV.eq_3)) (Ai @indexAddrV.eq_4 (Ai @indexAddrV.eq_5 @indexAddrV.eq_6))) (Ai (Ai @indexAddrOk.eq_def (Ai @indexV.eq_1 @indexV.eq_2)) (Ai @indexV.eq_3 (Ai @indexOk.eq_1 @indexOk.eq_2)))) (Ai (Ai (Ai @indexOk.eq_3 (Ai @sliceV.eq_1 @sliceV.eq_2)) (Ai @sliceV.eq_3 (Ai @sliceV.eq_4 @sliceV.eq_5))) (Ai (Ai @sliceV.eq_6 (Ai @sliceV.eq_7 @sliceV.eq_8)) (Ai @sliceOk.eq_1 (Ai @hiN.eq_1 @hiN.eq_2)))))
def vc15 :=
 (Ai (Ai (Ai (Ai @intBin.eq_1 (Ai @intBin.eq_2 @intBin.eq_3)) (Ai @intBin.eq_4 (Ai @intBin.eq_5 @intBin.eq_6))) (Ai (Ai @intBin.eq_7 (Ai @intBin.eq_8 @intBin.eq_9)) (Ai @intBin.eq_10 (Ai @intBin.eq_11 @intBin.eq_12)))) (Ai (Ai (Ai @intBin.eq_13 (Ai @intBin.eq_14 @intBin.eq_15)) (Ai @intBin.eq_16 (Ai @intBin.eq_17 @intBinOk.eq_1))) (Ai (Ai @intBinOk.eq_2 (Ai @intBinOk.eq_3 @intBinOk.eq_4)) (Ai @intBinOk.eq_5 (Ai @strBin.eq_1 @strBin.eq_2)))))
def vc16 :=
 (Ai (Ai (Ai (Ai @strBin.eq_3 (Ai @strBin.eq_4 @strBin.eq_5)) (Ai @strBin.eq_6 (Ai @strBin.eq_7 @strBin.eq_8))) (Ai (Ai @strBinOk.eq_1 (Ai @strBinOk.eq_2 @strBinOk.eq_3)) (Ai @strBinOk.eq_4 (Ai @strBinOk.eq_5 @strBinOk.eq_6)))) (Ai (Ai (Ai @strBinOk.eq_7 (Ai @strBinOk.eq_8 @eqS.eq_1)) (Ai @eqS.eq_2 (Ai @eqS.eq_3 @eqS.eq_4))) (Ai (Ai @eqL.eq_1 (Ai @eqL.eq_2 @eqLOk.eq_1)) (Ai @eqLOk.eq_2 (Ai @binV.eq_1 @binV.eq_2)))))
def vc17 :=
 (Ai (Ai (Ai (Ai @binV.eq_3 (Ai @binV.eq_4 @binV.eq_5)) (Ai @binV.eq_6 (Ai @binV.eq_7 @binV.eq_8))) (Ai (Ai @binV.eq_9 (Ai @binV.eq_10 @binV.eq_11)) (Ai @binV.eq_12 (Ai @binV.eq_13 @binV.eq_14)))) (Ai (Ai (Ai @binV.eq_15 (Ai @binOk.eq_1 @binOk.eq_2)) (Ai @binOk.eq_3 (Ai @binOk.eq_4 @binOk.eq_5))) (Ai (Ai @binOk.eq_6 (Ai @binOk.eq_7 @binOk.eq_8)) (Ai @binOk.eq_9 (Ai @binOk.eq_10 @binOk.eq_11)))))
def vc18 :=
 (Ai (Ai (Ai (Ai @binOk.eq_12 (Ai @binOk.eq_13 @binOk.eq_14)) (Ai @binOk.eq_15 (Ai @unV.eq_1 @unV.eq_2))) (Ai (Ai @unV.eq_3 (Ai @unV.eq_4 @unV.eq_5)) (Ai @unOk.eq_1 (Ai @unOk.eq_2 @unOk.eq_3)))) (Ai (Ai (Ai @unOk.eq_4 (Ai @unOk.eq_5 @convIntV.eq_def)) (Ai @convIntOk.eq_def (Ai @minmaxV.eq_1 @minmaxV.eq_2))) (Ai (Ai @minmaxOk.eq_1 (Ai @minmaxOk.eq_2 @extractV.eq_1)) (Ai @extractV.eq_2 (Ai @extractOk.eq_1 @extractOk.eq_2)))))
def vc19 :=
 (Ai (Ai (Ai (Ai @buildL.eq_1 (Ai @buildL.eq_2 @buildLOk.eq_1)) (Ai @buildLOk.eq_2 (Ai @buildV.eq_1 @buildOk.eq_1))) (Ai (Ai @fillR.eq_1 (Ai @fillR.eq_2 @fillROk.eq_1)) (Ai @fillROk.eq_2 (Ai @buildSliceK.eq_1 @buildSliceOk.eq_1)))) (Ai (Ai (Ai @rowsV.eq_1 (Ai @rowsV.eq_2 @rowsV.eq_3)) (Ai @rowsV.eq_4 (Ai @rowsV.eq_5 @srcOk.eq_1))) (Ai (Ai @srcOk.eq_2 (Ai @srcOk.eq_3 @srcOk.eq_4)) (Ai @srcOk.eq_5 (Ai @srcOk.eq_6 @dstOk.eq_1)))))
def vc20 :=
 (Ai (Ai (Ai (Ai @dstOk.eq_2 (Ai @dstOk.eq_3 @appendK.eq_1)) (Ai @appendV.eq_1 (Ai @appendOk.eq_1 @List.toList_toArray.{0}))) (Ai (Ai @Int.toNat_natCast (Ai @Int.natCast_nonneg @Int.toNat_zero)) (Ai @Int.toNat_one (Ai @Nat.le_refl @Int.le_refl)))) (Ai (Ai (Ai @Nat.zero_le (Ai @Nat.zero_mul @Nat.one_mul)) (Ai @Nat.mul_one (Ai @Nat.add_zero @Nat.zero_add))) (Ai (Ai @Nat.mul_zero (Ai @Nat.add_left_cancel_iff @if_true.{1})) (Ai @if_true.{0} (Ai @if_false.{1} @if_false.{0})))))
def vc21 :=
 (Ai (Ai (Ai (Ai @ite_true.{1} (Ai @ite_true.{0} @ite_false.{1})) (Ai @ite_false.{0} (Ai @Bool.false_eq_true @Bool.true_eq_false))) (Ai (Ai @Bool.not_true (Ai @Bool.not_false @decide_true)) (Ai @decide_false (Ai @true_implies @false_implies)))) (Ai (Ai (Ai @implies_true.{1} (Ai @implies_true.{0} @and_true)) (Ai @true_and (Ai @and_false @false_and))) (Ai (Ai @and_self (Ai @List.getElem?_cons_zero.{0} @List.getElem?_cons_succ.{0})) (Ai @List.getElem?_nil.{0} (Ai @List.map_cons.{0,0} @List.map_nil.{0,0})))))
def vc22 :=
 (Ai (Ai (Ai (Ai @List.length_cons.{0} (Ai @List.length_nil.{0} @List.cons_append.{0})) (Ai @List.nil_append.{0} (Ai @List.append_nil.{0} @Option.getD_some.{0}))) (Ai (Ai @Option.getD_none.{0} (Ai @Option.isSome_some.{0} @Option.isSome_none.{0})) (Ai @Option.map_some.{0,0} (Ai @Option.map_none.{0,0} @List.drop_zero.{0})))) (Ai (Ai (Ai @List.drop_succ_cons.{0} (Ai @List.take_zero.{0} @List.take_succ_cons.{0})) (Ai @List.set_cons_zero.{0} (Ai @List.set_cons_succ.{0} @List.all_cons.{0}))) (Ai (Ai @List.all_nil.{0} (Ai @Bool.and_true @Bool.true_and)) (Ai @List.headD_cons.{0} (Ai @atEnd.eq_1 @atEnd.eq_2)))))
def vc23 :=
 (Ai (Ai (Ai (Ai @atEnd.eq_3 (Ai @Nat.left_eq_add @Nat.add_eq_left)) (Ai @List.replicate_zero.{0} (Ai @List.replicate_succ.{0} @Nat.add_right_cancel_iff))) (Ai (Ai @strip_bit (Ai @List.isEmpty_cons.{0} @List.isEmpty_nil.{0})) (Ai @le_nils (Ai @le_nils_own @le_nils_sl)))) (Ai (Ai (Ai @le_agg (Ai @le_tup @le_bool)) (Ai @le_bit (Ai @le_int @le_str))) (Ai (Ai @le_nilp (Ai @le_any @le_ptr)) (Ai @le_rp (Ai @le_sl @le_own)))))
def vc24 :=
 (Ai (Ai (Ai (Ai @le_fn (Ai @le_gd @le_val)) (Ai @leL_nil (Ai @leL_cons @newName_nil))) (Ai (Ai @newName_cons (Ai @take_map_len @List.take_length.{0})) (Ai @or_true (Ai @true_or @or_false)))) (Ai (Ai (Ai @false_or (Ai @or_self @forall_const.{1})) (Ai @forall_const.{0} (Ai @List.isEmpty_iff.{0} @List.map_eq_nil_iff.{0,0}))) (Ai (Ai @ne_eq.{1} (Ai @ne_eq.{0} @Option.some.injEq.{0})) (Ai @not_false_eq_true (Ai @effNames.eq_1 @Int.ofNat_lt)))))
def vc25 :=
 (Ai (Ai (Ai (Ai @Int.ofNat_le (Ai @Nat.lt_irrefl @beq_self_eq_true.{0})) (Ai @bne_self_eq_false.{0} (Ai @Int.natCast_zero @Int.cast_ofNat_Int))) (Ai (Ai @goOps_cap (Ai @goOps_copy @goGuard_cap)) (Ai @goGuard_copy (Ai @go_scope @strip_ownc)))) (Ai (Ai (Ai @strip_chan (Ai @le_ownc_own @le_chan)) (Ai @capV.eq_1 (Ai @capV.eq_2 @capV.eq_3))) (Ai (Ai @capOk.eq_1 (Ai @capOk.eq_2 @capOk.eq_3)) (Ai @capOk.eq_4 (Ai @copyOk.eq_1 @copyDst.eq_1)))))
def vc26 :=
 (Ai (Ai (Ai (Ai @copyDst.eq_2 (Ai @copyDst.eq_3 @copyDst.eq_4)) (Ai @copyE.eq_1 (Ai @copyE.eq_2 @copyE.eq_3))) (Ai (Ai @copyK.eq_1 (Ai @copyL.eq_1 @lenS.eq_1)) (Ai @lenS.eq_2 (Ai @lenS.eq_3 @isCellsM.eq_1)))) (Ai (Ai (Ai @isCells_inst (Ai @obOk.eq_1 @zerosOk.eq_def)) (Ai @zerosK.eq_1 (Ai @intKind.eq_1 @sliceT.eq_1))) (Ai (Ai @Nat.sub_zero (Ai @goCond_true @goCond_false)) (Ai @goEx_cut_exit (Ai @goEx_cut_ret @endP_q)))))
def vc27 :=
 (Ai (Ai (Ai (Ai @endP_b0 (Ai @strip_mp @strip_fnb)) (Ai @strip_iface (Ai @le_mp @le_fnb))) (Ai (Ai @le_iface (Ai @strip_upt @strip_ys)) (Ai @le_upt (Ai @le_ys @le_ys_sl)))) (Ai (Ai (Ai @le_nils_ys (Ai @nilI_any @nilI_bool)) (Ai @nilI_bit (Ai @nilI_int @nilI_str))) (Ai (Ai @nilI_nilp (Ai @nilI_upt @nilI_ys)) (Ai @nilI_ptr (Ai @nilI_rp @nilI_nils)))))
def vc28 :=
 (Ai (Ai (Ai @nilI_sl (Ai @nilI_own @nilI_ownc)) (Ai (Ai @nilI_chan @nilI_mp) (Ai @nilI_fn @nilI_fnb))) (Ai (Ai (Ai @nilI_agg @nilI_tup) (Ai @nilI_gd @nilI_iface)) (Ai (Ai @nilI_nil @isConst.eq_1) (Ai @isConst.eq_2 @ifaceT.eq_1))))
def vcs:=(Ai (Ai (Ai (Ai vc0 (Ai vc1 vc2)) (Ai (Ai vc3 vc4) (Ai vc5 vc6))) (Ai (Ai vc7 (Ai vc8 vc9)) (Ai (Ai vc10 vc11) (Ai vc12 vc13)))) (Ai (Ai (Ai vc14 (Ai vc15 vc16)) (Ai (Ai vc17 vc18) (Ai vc19 vc20))) (Ai (Ai (Ai vc21 vc22) (Ai vc23 vc24)) (Ai (Ai vc25 vc26) (Ai vc27 vc28)))))
end Go.Proofs.Ytfcfldmioonipaa.Vm
