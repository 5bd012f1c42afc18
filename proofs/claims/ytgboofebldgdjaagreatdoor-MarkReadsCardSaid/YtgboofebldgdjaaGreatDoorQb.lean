/-
 Texts joined: XVl,XVm,XVn,XVo,XVp,XVw,XVx,XVK,XVy,XVq,XVr.
-/
import Derived.Scope
import Derived.Test.YtgboofebldgdjaaGreatDoorQa
set_option linter.all false
namespace Go.Proofs.YtgboofebldgdjaaGreatDoor.Vm
open Go Go.RowKit
structure Cx where
 P:Program
 G:Nat->V
 D:List Deferred
def ma (c:Bool)(G:Nat->V)(e:Env)(x:Option Operand):Option Int:=match x with
 | some o=>match ap G c e o with | .int _ n=>some n|_=>none
 | none=>none
def dH (G:Nat->V)(c:Bool)(e:Env)(ps:Array (Nat×Operand)):List (Nat×V):=ps.toList.map fun p=>(p.1,ap G c e p.2)
def co (cx:Cx)(M:ah)(nm:Nat)(b:Builtin)(t:TypeId)(args:List V):V:=match b,args with
 | .len,[x]=>.int .i64 (A1 M x)
 | .append,[.nils,.str []]=>.nils
 | .append,[s,.int _ m]=>.own nm 0 ((aJ M s).length+m.toNat)
 | .append,[s,x]=>fS M nm s x
 | .cap,[x]=>.int .i64 (Ao x)
 | .copy,[d,x]=>.int .i64 (jz M d x)
 | .max,[a,b]=>lA true a b
 | .min,[a,b]=>lA false a b
 | _,_=>.any
def bN (cx:Cx)(M:ah)(nm:Nat)(b:Builtin)(t:TypeId)(args:List V):List (Nat×Option Blk):=match b,args with
 | .append,[.nils,.str []]=>[]
 | .append,[s,.int _ m]=>[(nm,some (oS cx.P t M s m.toNat))]
 | .append,[.own ns lo n,x]=>[(ns,none),(nm,some (eY cx.P t M (.own ns lo n) x))]
 | .append,[.ownc ns lo n c,x]=>[(ns,none),(nm,some (eY cx.P t M (.ownc ns lo n c) x))]
 | .append,[s,x]=>[(nm,some (eY cx.P t M s x))]
 | .copy,[d,x]=>nz M d x
 | _,_=>[]
def uA (P:Program)(t:TypeId)(x:V):Bool:=match P.underlying t,x with
 | some .string,.str _=>true
 | some (.slice _),.sl _ _ _=>true
 | some (.slice _),.own _ _ _=>true
 | some (.slice _),.ownc _ _ _ _=>true
 | some (.slice _),.nils=>true
 | _,_=>false
def cK (cx:Cx)(M:ah)(b:Builtin)(ts:List TypeId)(args:List V):Prop:=match b,ts,args with
 | .len,[t],[x]=>uA cx.P t x=true
 | .append,[t,t2],[s,.int _ m]=>pA cx.P t t2 M s m
 | .append,[t,t2],[s,x]=>fX cx.P t t2 M s x
 | .cap,[t],[x]=>tB cx.P t x
 | .copy,[t,_],[d,x]=>nT cx.P t M d x
 | .max,_,[a,b]=>jP a b
 | .min,_,[a,b]=>jP a b
 | _,_,_=>False
def Hs (f:Nat):List V->List V->V
 | [],caps=>.fn f caps
 | x::l,_=>.fnb f (x::l)
def j6 (cx:Cx)(c:Bool)(e:Env)(M:ah)(nm:Nat)(o:Oper):V:=match o.op with
 | .move x | .assign x | .nilCheck x=>ap cx.G c e x
 | .pick x a b=>match ap cx.G c e x with | .bool q=>j7 q (ap cx.G c e a) (ap cx.G c e b)|_=>.any
 | .alloc _ | .box _ _=>.ptr nm 0 0
 | .build t ps=>vb cx.P t (dH cx.G c e ps)
 | .buildSlice _ n _=>.own nm 0 n
 | .load t x=>y6 cx.P t M (ap cx.G c e x)
 | .binOp op t x y _=>lg cx.P op t (ap cx.G c e x) (ap cx.G c e y)
 | .unOp op _ x=>TY op (ap cx.G c e x)
 | .convert _ d x=>lW cx.P d (ap cx.G c e x)
 | .slice _ x l h m=>jl (ap cx.G c e x) (ma c cx.G e l) (ma c cx.G e h) (ma c cx.G e m)
 | .fieldAddr t x f=>gZ cx.P t f (ap cx.G c e x)
 | .field t x f=>vz cx.P t f (ap cx.G c e x)
 | .indexAddr t x i=>ce cx.P t M (ap cx.G c e x) ((rv (ap cx.G c e i)).getD 0)
 | .index t x i=>qr cx.P t (ap cx.G c e x) ((rv (ap cx.G c e i)).getD 0)
 | .extract x i=>od i (ap cx.G c e x)
 | .makeFunc (.func f) first caps=>Hs f (first.toList.map (ap cx.G c e)) (caps.toList.map (ap cx.G c e))
 | .call { callee:=.builtin b,args,argTypes }=>co cx M nm b (argTypes.toList.headD 0) (args.toList.map (ap cx.G c e))
 | _=>.any
def kU (cx:Cx)(c:Bool)(e:Env)(M:ah)(nm:Nat)(o:Oper):List (Nat×Option Blk):=match o.op with
 | .alloc t=>[(nm,some (EA cx.P t ((ez cx.P t).getD [])))]
 | .box _ x=>[(nm,some (Sz (ap cx.G c e x).cellsV))]
 | .buildSlice t n ps=>[(nm,some (jy cx.P t n (dH cx.G c e ps)))]
 | .store _ x v=>match ap cx.G c e x with
  | .ptr p i j=>[(p,(M p).map fun k=>⟨k.sz,k.rows.set i (nt (rowOf M p i) j (ap cx.G c e v))⟩)]
  | _=>[]
 | .call { callee:=.builtin b,args,argTypes }=>bN cx M nm b (argTypes.toList.headD 0) (args.toList.map (ap cx.G c e))
 | _=>[]
def lL (c:Bool)(G:Nat->V)(e:Env)(x:Option Operand):Prop:=match x with
 | some o=>(rv (ap G c e o)).isSome=true
 | none=>True
def eW (cx:Cx)(c:Bool)(e:Env)(M:ah)(o:Oper):Prop:=match o.op with
 | .move _ | .assign _=>True
 | .nilCheck x=>(ap cx.G c e x).isPtr=true
 | .pick x _ _=>match ap cx.G c e x with | .bool _=>True|_=>False
 | .alloc t=>(ez cx.P t).isSome=true
 | .box _ x=>(ap cx.G c e x).cellsV.all V.one=true
 | .build t ps=>uq cx.P t (dH cx.G c e ps)
 | .buildSlice t n ps=>j9 cx.P t n (dH cx.G c e ps)
 | .load t x=>v4 cx.P t M (ap cx.G c e x)
 | .store t x v=>kj cx.P t M (ap cx.G c e x) (ap cx.G c e v)
 | .binOp op t x y _=>iH cx.P op t (ap cx.G c e x) (ap cx.G c e y)/\((ap cx.G c e x).isNilI=true->(isConst x||isConst y)=true)
 | .unOp op _ x=>D8 op (ap cx.G c e x)
 | .convert s d x=>oV cx.P s d (ap cx.G c e x)
 | .slice t x l h m=>uH cx.P t M (ap cx.G c e x) (ma c cx.G e l) (ma c cx.G e h) (ma c cx.G e m)/\lL c cx.G e l/\lL c cx.G e h/\lL c cx.G e m
 | .fieldAddr t x f=>og cx.P t f (ap cx.G c e x)
 | .field t x f=>ri cx.P t f (ap cx.G c e x)
 | .indexAddr t x i=>(rv (ap cx.G c e i)).isSome=true/\dU cx.P t M (ap cx.G c e x) ((rv (ap cx.G c e i)).getD 0)
 | .index t x i=>(rv (ap cx.G c e i)).isSome=true/\ru cx.P t (ap cx.G c e x) ((rv (ap cx.G c e i)).getD 0)
 | .extract x i=>lZ i (ap cx.G c e x)
 | .makeFunc (.func _) first caps=>first = #[]\/caps = #[]
 | .call { callee:=.builtin b,args,argTypes }=>cK cx M b argTypes.toList (args.toList.map (ap cx.G c e))
 | _=>False
section
variable {cx:Cx} {X:Nat->Prop} {w0:World} {I:Nat->Prop} {ρ:Names} {M:ah} {w:World} {D:Nat->Prop}
def oU {N:Nat}{e:Env}{a:Act}{c:Bool}(h:Rel cx.G X w0 I ρ M w)(he:EnvAt cx.D ρ (bV X ρ M) w N e a)(hc:c=true)(xs:ZE)(hx:∀ x∈xs.toList,Hi N x) :
  ∀(i:Nat) (u:V) (cv:Value),(xs.toList.map (ap cx.G c e))[i]? = some u->(xs.map a.eval)[i]? = some cv->Is ρ (bV X ρ M) w u cv:=by
 intro i u cv h1 h2
 rw[WG]at h1
 obtain⟨x,h3,rfl⟩:=BY.1 h1
 rw[Array.getElem?_map]at h2
 obtain⟨y,h4,rfl⟩:=BY.1 h2
 rw[XE]at h3
 rw[h3]at h4;cases h4
 exact he.eval h hc (hx _ (By (by rw[XE];exact h3)))
def zq {N:Nat}{e:Env}{a:Act}{c:Bool}(h:Rel cx.G X w0 I ρ M w)(he:EnvAt cx.D ρ (bV X ρ M) w N e a)(hc:c=true)(ps:Array (Nat×Operand))(hx:∀ p∈ps.toList,Hi N p.2) :
  (dH cx.G c e ps).length=(ps.map fun p=>(p.1,a.eval p.2)).size /\ ∀(j:Nat) (u:Nat×V) (b:Nat×Value),(dH cx.G c e ps)[j]? = some u->(ps.map fun p=>(p.1,a.eval p.2))[j]? = some b->u.1=b.1/\Is ρ (bV X ρ M) w u.2 b.2:=by
 refine⟨by simp[dH],?_⟩
 intro j u b h1 h2
 simp only[dH,WG]at h1
 obtain⟨x,h3,rfl⟩:=BY.1 h1
 rw[Array.getElem?_map]at h2
 obtain⟨y,h4,rfl⟩:=BY.1 h2
 rw[XE]at h3
 rw[h3]at h4;cases h4
 exact⟨rfl,he.eval h hc (hx _ (By (by rw[XE];exact h3)))⟩
def AZ {N:Nat}{e:Env}{a:Act}{c:Bool}(h:Rel cx.G X w0 I ρ M w)(he:EnvAt cx.D ρ (bV X ρ M) w N e a)(hc:c=true)(x:Option Operand)(hx:∀ o,x=some o->Hi N o)(hi:lL c cx.G e x) :
  xH (x.map a.eval) (ma c cx.G e x):=by
 cases x with
 | none=>exact .inl ⟨rfl,rfl⟩
 | some o =>
  have hv:=he.eval h hc (hx o rfl)
  simp only[lL]at hi
  obtain⟨n,hn⟩:=OF.1 hi
  obtain⟨k,h1,h2⟩:=hv.int_inv hn
  refine .inr ⟨k,n,by simp_all,?_⟩
  simp_all[ma]
def Ny {N:Nat}{e:Env}{a:Act}{c:Bool}{o:Oper}{nm:Nat}(h:Rel cx.G X w0 I ρ M w)(he:EnvAt cx.D ρ (bV X ρ M) w N e a)(hc:c=true)(hx:∀ x∈o.op.operands.toList,Hi N x)(hM:M nm=none)(hρ:ρ nm=none)
  (hok:eW cx c e M o):∃ cv w',db cx.G X w0 I ρ M w nm (j6 cx c e M nm o) (M.app (kU cx c e M nm o)) cv w' /\ ∀ K Q,K (a.put o.dst cv) w'->o.wp cx.P a w K Q:=by
 obtain⟨dst,op,type,pos,after,guard⟩:=o
 have val:∀ {s:Sem Value} {cv:Value} {w':World},(execOp a.eval ⟨dst,op,type,pos,after,guard⟩=(do pure (.value (<- s))))->s.run cx.P w = .ok cv w' -> ∀ K Q,K (a.put dst cv) w'->(⟨dst,op,type,pos,after,guard⟩:Oper).wp cx.P a w K Q:=by
  intro s cv w' h1 h2 K Q h3
  unfold Oper.wp
  rw[h1,Sem.run_bind,h2]
  exact h3
 cases op<;>simp only[eW]at hok<;>try (exact hok.elim)
 case move x =>
  refine⟨a.eval x,w,.still h (he.eval h hc (hx x (by simp[Op.operands]))),?_⟩
  intro K Q h3;exact h3
 case assign x =>
  refine⟨a.eval x,w,.still h (he.eval h hc (hx x (by simp[Op.operands]))),?_⟩
  intro K Q h3;exact h3
 case pick x y z =>
  have h1:=he.eval h hc (hx x (by simp[Op.operands]))
  have h2:=he.eval h hc (hx y (by simp[Op.operands]))
  have h3:=he.eval h hc (hx z (by simp[Op.operands]))
  simp only[j6,kU]
  split at hok
  ·rename_i q hq
   rw[hq]at h1
   cases hcx:a.eval x<;>rw[hcx]at h1<;>try (cases h1;done)
   cases h1
   refine⟨_,w,.still h (F9 h2 h3),?_⟩
   intro K Q h4
   unfold Oper.wp execOp
   simp only[hcx,asBool,Sem.run_bind,Sem.run_pure,Result.andThen_ok]
   exact h4
  simp_all
 case alloc t =>
  obtain⟨cells,hz⟩:=OF.1 hok
  obtain⟨cv,w',hr,hs⟩:=BR h hM hρ t hz
  refine⟨cv,w',?_,val rfl hr⟩
  simp_all[j6,kU,ah.app]
 case box t x =>
  obtain⟨cv,w',hr,hs⟩:=Ib (P:=cx.P) h hM hρ t (he.eval h hc (hx x (by simp[Op.operands]))) hok
  exact⟨cv,w',hs,val rfl hr⟩
 case build t ps =>
  obtain⟨p1,p2⟩:=zq h he hc ps (fun p hp=>hx _ (by grind[Op.operands]))
  obtain⟨cv,hr,hs⟩:=B7 (P:=cx.P) p1 p2 hok
  exact⟨cv,w,.still h hs,val rfl hr⟩
 case buildSlice t n ps =>
  obtain⟨p1,p2⟩:=zq h he hc ps (fun p hp=>hx _ (by grind[Op.operands]))
  obtain⟨cv,w',hr,hs⟩:=si (P:=cx.P) h hM hρ p1 p2 hok
  exact⟨cv,w',hs,val rfl hr⟩
 case load t x =>
  obtain⟨cv,hr,hs⟩:=v5 (P:=cx.P) h (he.eval h hc (hx x (by simp[Op.operands]))) hok
  exact⟨cv,w,.still h hs,val rfl hr⟩
 case store t x y =>
  obtain⟨w',hr,hs,hm⟩:=DW (P:=cx.P) h (he.eval h hc (hx x (by simp[Op.operands]))) (he.eval h hc (hx y (by simp[Op.operands]))) hok
  refine⟨undef,w',⟨ρ,?_,?_,.any _,fun _ _=>rfl⟩,?_⟩
  ·simp only[kU]
   unfold tf at hs
   split at hs
   ·rename_i hq;simp_all[ah.app]
   simp_all[kj]
  ·simp only[kU]
   unfold tf at hm
   split at hm
   ·rename_i hq;simp_all[ah.app]
   simp_all[kj]
  ·intro K Q h4
   unfold Oper.wp execOp
   simp only[Sem.run_bind,hr,Result.andThen_ok,Sem.run_pure]
   exact h4
 case nilCheck x =>
  have h1:=he.eval h hc (hx x (by simp[Op.operands]))
  obtain⟨b,q,hb,_⟩:=h.target h1 hok
  refine⟨a.eval x,w,.still h h1,?_⟩
  intro K Q h4
  unfold Oper.wp execOp
  simp only[hb]
  rw[hb]at h4
  exact h4
 case binOp op t x y yt =>
  obtain⟨cv,hr,hs⟩:=H6 (P:=cx.P) op t x y (he.eval h hc (hx x (by simp[Op.operands]))) (he.eval h hc (hx y (by simp[Op.operands]))) hok.1 hok.2
  exact⟨cv,w,.still h hs,val rfl hr⟩
 case unOp op t x =>
  obtain⟨cv,hr,hs⟩:=OV (P:=cx.P) op (he.eval h hc (hx x (by simp[Op.operands]))) hok
  exact⟨cv,w,.still h hs,val rfl hr⟩
 case convert s d x =>
  obtain⟨cv,hr,hs⟩:=ET (P:=cx.P) (he.eval h hc (hx x (by simp[Op.operands]))) hok
  exact⟨cv,w,.still h hs,val rfl hr⟩
 case makeFunc f first caps =>
  cases f<;>simp only at hok<;>try (exact hok.elim)
  rename_i f
  refine⟨.func (.func f) (first.map a.eval) (caps.map a.eval),w,.still h ?_,val (s:=Instr.makeFunc (.func f) (first.map a.eval) (caps.map a.eval)) rfl (by rfl)⟩
  have hx1:=oU h he hc first (fun x hxx=>hx x (by simp_all[Op.operands]))
  have hx2:=oU h he hc caps (fun x hxx=>hx x (by simp_all[Op.operands]))
  show Is ρ _ w (Hs f (first.toList.map (ap cx.G c e)) (caps.toList.map (ap cx.G c e))) _
  cases hfl:first.toList with
  | nil =>
   have hf0:first = #[]:=by simp_all
   subst hf0
   rw[Array.map_empty]
   exact .fn ZH hx2
  | cons y ys =>
   have hc0:caps = #[]:=by
    grind
   subst hc0
   rw[hfl]at hx1
   rw[Array.map_empty]
   refine .fnb ?_ hx1
   grind
 case slice t x l hh m =>
  obtain⟨h1,h2,h3,h4⟩:=hok
  obtain⟨cv,hr,hs⟩:=DU (P:=cx.P) h (AZ h he hc l (fun o e=>hx o (by simp_all[Op.operands])) h2) (AZ h he hc hh (fun o e=>hx o (by simp_all[Op.operands])) h3) (AZ h he hc m (fun o e=>hx o (by simp_all[Op.operands])) h4)
   (he.eval h hc (hx x (by simp[Op.operands]))) h1
  exact⟨cv,w,.still h hs,val rfl hr⟩
 case fieldAddr t x f =>
  obtain⟨cv,hr,hs⟩:=ua (P:=cx.P) (he.eval h hc (hx x (by simp[Op.operands]))) hok
  exact⟨cv,w,.still h hs,val rfl hr⟩
 case field t x f =>
  obtain⟨cv,hr,hs⟩:=CC (P:=cx.P) (he.eval h hc (hx x (by simp[Op.operands]))) hok
  exact⟨cv,w,.still h hs,val rfl hr⟩
 case indexAddr t x i =>
  obtain⟨h1,h2⟩:=hok
  obtain⟨n,hn⟩:=OF.1 h1
  rw[hn,Option.getD_some]at h2
  obtain⟨cv,hr,hs⟩:=ui (P:=cx.P) h (he.eval h hc (hx x (by simp[Op.operands]))) (he.eval h hc (hx i (by simp[Op.operands]))) hn h2
  refine⟨cv,w,.still h ?_,val rfl hr⟩
  simp_all[j6]
 case index t x i =>
  obtain⟨h1,h2⟩:=hok
  obtain⟨n,hn⟩:=OF.1 h1
  rw[hn,Option.getD_some]at h2
  obtain⟨cv,hr,hs⟩:=C4 (P:=cx.P) (he.eval h hc (hx x (by simp[Op.operands]))) (he.eval h hc (hx i (by simp[Op.operands]))) hn h2
  refine⟨cv,w,.still h ?_,val rfl hr⟩
  simp_all[j6]
 case extract x i =>
  obtain⟨cv,hr,hs⟩:=xW (P:=cx.P) (he.eval h hc (hx x (by simp[Op.operands]))) hok
  exact⟨cv,w,.still h hs,val rfl hr⟩
 case call cl =>
  obtain⟨callee,args,argTypes⟩:=cl
  cases callee<;>simp only at hok<;>try (exact hok.elim)
  rename_i b
  have hin:∀ x∈args.toList,Hi N x:=fun x hxx=>hx x (by simp_all[Op.operands,Call.operands])
  have bval:∀ {s:Sem Value} {cv:Value} {w':World},(∀ consts,builtin b argTypes type consts (args.map a.eval)=(do pure (.value (<- s))))->s.run cx.P w = .ok cv w' -> ∀ K Q,K (a.put dst cv) w'->(⟨dst,.call ⟨.builtin b,args,argTypes⟩,type,pos,after,guard⟩:Oper).wp cx.P a w K Q:=by
   intro s cv w' h1 h2 K Q h3
   simp_all[Oper.wp,execOp,resolve,invoke]
  have hargs:=oU h he hc args hin
  have h1:∀ {x:Operand},args.toList=[x]->args.map a.eval = #[a.eval x]:=fun e=>by rw[<- Array.toList_inj];simp[e]
  have h2:∀ {x y:Operand},args.toList=[x,y]->args.map a.eval = #[a.eval x,a.eval y]:=fun e=>by rw[<- Array.toList_inj];simp[e]
  unfold cK at hok
  split at hok
  ·rename_i t x0 hts hxs
   obtain⟨x,hx1,rfl⟩:∃ x,args.toList=[x]/\ap cx.G c e x=x0:=by
    simp_all
   have ht:argTypes = #[t]:=by grind
   have hlk:cD cx.P t=true:=by
    unfold uA at hok
    grind[cD]
   have hfit:(match cx.P.underlying t,ap cx.G c e x with|some .string,.str _=>true|some (.slice _),.sl _ _ _|some (.slice _),.own _ _ _|some (.slice _),.ownc _ _ _ _|some (.slice _),.nils=>true|_,_=>false)=true:=by
    simp_all[uA]
   have hr:=Je (P:=cx.P) (M:=M) (w:=w) hlk hfit type (he.eval h hc (hin x (by rw[hx1];simp)))
   subst ht
   refine⟨_,w,.still h ?_,bval (s:=Builtin.len_ #[t] type (args.map a.eval)) (fun _=>rfl) (by rw[h1 hx1];exact hr)⟩
   simp only[j6,co,hxs]
   exact .int _ _
  ·rename_i t t2 s0 k0 m0 hts hxs
   obtain⟨s,x,hx1,rfl,hxe⟩:∃ s x,args.toList=[s,x]/\ap cx.G c e s=s0/\ap cx.G c e x = .int k0 m0:=by
    cases hl:args.toList with
    | nil=>simp_all
    | cons x r=>cases r with
     | nil=>simp_all
     | cons y r=>rw[hl]at hxs;simp at hxs;grind
   have ht:argTypes = #[t,t2]:=by grind
   subst ht
   have hxv:=he.eval h hc (hin x (by rw[hx1];simp))
   rw[hxe]at hxv
   obtain⟨cv,w',hr,hs⟩:=Em (P:=cx.P) (ty:=type) (k:=k0) h hM hρ (he.eval h hc (hin s (by rw[hx1];simp))) hok
   have hev:a.eval x = .int k0 m0:=by
    generalize a.eval x=q at hxv
    cases hxv;rfl
   refine⟨cv,w',?_,bval (s:=Builtin.append_ #[t,t2] type (args.map a.eval)) (fun _=>rfl) (by simp_all)⟩
   simp_all[j6,kU,co,bN,ah.app]
  ·rename_i t t2 s0 x0 hnz hts hxs
   obtain⟨s,x,hx1,rfl,rfl⟩:∃ s x,args.toList=[s,x]/\ap cx.G c e s=s0/\ap cx.G c e x=x0:=by
    cases hl:args.toList with
    | nil=>simp_all
    | cons x r=>cases r with
     | nil=>simp_all
     | cons y r=>rw[hl]at hxs;simp at hxs;grind
   have ht:argTypes = #[t,t2]:=by grind
   subst ht
   by_cases hno:ap cx.G c e s = .nils/\ap cx.G c e x = .str []
   ·obtain⟨n1,n2⟩:=hno
    have v1:=he.eval h hc (hin s (by rw[hx1];simp))
    have v2:=he.eval h hc (hin x (by rw[hx1];simp))
    rw[n1]at v1;rw[n2]at v2
    have q1:a.eval s = .slice none 0 0:=by generalize a.eval s=q at v1;cases v1;rfl
    have q2:a.eval x = .string ⟨#[]⟩:=by generalize a.eval x=q at v2;cases v2;rfl
    rw[n1,n2]at hok
    obtain⟨hk,hok⟩:=hok
    cases hel:cR cx.P t with
    | none=>simp_all
    | some y =>
    obtain⟨el,i,z,hu,hi,hz,hzs,hpos,hzc,hzl,hbi⟩:=gc hel
    refine⟨.slice none 0 0,w,?_,bval (s:=Builtin.append_ #[t,t2] type (args.map a.eval)) (fun _=>rfl) (by
     rw[h2 hx1,q1,q2]
     exact run_append_room (P:=cx.P) (w:=w) (w':=w) (A:=none) (n:=0) (c:=0) (m:=0) (new:=#[]) hu hi hk rfl (by simp[Builtin.firstCells]) (IS _) (fun _ h=>by cases h) (fun _=>rfl))⟩
    simp only[j6,kU,hxs,n1,n2]
    exact .still h .nils
   obtain⟨cv,w',hr,hs⟩:=Ab (P:=cx.P) (ty:=type) h hM hρ (he.eval h hc (hin s (by rw[hx1];simp))) (he.eval h hc (hin x (by rw[hx1];simp))) hok
   refine⟨cv,w',?_,bval (s:=Builtin.append_ #[t,t2] type (args.map a.eval)) (fun _=>rfl) (by simp_all)⟩
   simp only[j6,kU,hxs,List.headD_cons]
   have e1:M.app (bN cx M nm .append t [ap cx.G c e s,ap cx.G c e x])=fA cx.P t M nm (ap cx.G c e s) (ap cx.G c e x):=by
    generalize ap cx.G c e s=s' at *
    generalize ap cx.G c e x=x' at *
    cases x'<;>first|exact(hnz _ _ rfl).elim|(cases s'<;>rfl)|(rename_i l;cases l<;>cases s'<;>first|rfl|simp_all)
   have e2:co cx M nm .append t [ap cx.G c e s,ap cx.G c e x]=fS M nm (ap cx.G c e s) (ap cx.G c e x):=by
    generalize ap cx.G c e s=s' at *
    generalize ap cx.G c e x=x' at *
    cases x'<;>first|exact(hnz _ _ rfl).elim|(cases s'<;>rfl)|(rename_i l;cases l<;>cases s'<;>first|rfl|simp_all)
   simp_all
  ·rename_i t x0 hts hxs
   obtain⟨x,hx1,rfl⟩:∃ x,args.toList=[x]/\ap cx.G c e x=x0:=by
    simp_all
   have ht:argTypes = #[t]:=by grind
   subst ht
   have hr:=Ig (P:=cx.P) (w:=w) (ty:=type) (he.eval h hc (hin x (by rw[hx1];simp))) hok
   refine⟨_,w,.still h ?_,bval (s:=Builtin.cap_ #[t] type (args.map a.eval)) (fun _=>rfl) (by rw[h1 hx1];exact hr)⟩
   simp only[j6,co,hxs]
   exact .int _ _
  ·rename_i t t2 s0 x0 hts hxs
   obtain⟨s,x,hx1,rfl,hxe⟩:∃ s x,args.toList=[s,x]/\ap cx.G c e s=s0/\ap cx.G c e x=x0:=by
    cases hl:args.toList with
    | nil=>simp_all
    | cons x r=>cases r with
     | nil=>simp_all
     | cons y r=>rw[hl]at hxs;simp at hxs;grind
   have ht:argTypes = #[t,t2]:=by grind
   subst ht
   subst hxe
   obtain⟨w',hr,hs,hm⟩:=EU (P:=cx.P) (t2:=t2) (ty:=type) h (he.eval h hc (hin s (by rw[hx1];simp))) (he.eval h hc (hin x (by rw[hx1];simp))) hok
   refine⟨_,w',?_,bval (s:=Builtin.copy_ #[t,t2] type (args.map a.eval)) (fun _=>rfl) (by rw[h2 hx1];exact hr)⟩
   simp only[j6,kU,co,bN,hxs]
   exact⟨ρ,hs,hm,.int _ _,fun _ _=>rfl⟩
  ·rename_i x0 y0 hxs
   obtain⟨s,x,hx1,rfl,rfl⟩:∃ s x,args.toList=[s,x]/\ap cx.G c e s=x0/\ap cx.G c e x=y0:=by
    cases hl:args.toList with
    | nil=>simp_all
    | cons x r=>cases r with
     | nil=>simp_all
     | cons y r=>rw[hl]at hxs;simp at hxs;grind
   obtain⟨cv,hr,hs⟩:=Jh (P:=cx.P) (ts:=argTypes) (t:=type) (he.eval h hc (hin s (by rw[hx1];simp))) (he.eval h hc (hin x (by rw[hx1];simp))) hok
   refine⟨cv,w,.still h ?_,bval (s:=Builtin.max_ argTypes type (args.map a.eval)) (fun _=>rfl) (by simp_all)⟩
   simp_all[j6,co]
  ·rename_i x0 y0 hxs
   obtain⟨s,x,hx1,rfl,rfl⟩:∃ s x,args.toList=[s,x]/\ap cx.G c e s=x0/\ap cx.G c e x=y0:=by
    cases hl:args.toList with
    | nil=>simp_all
    | cons x r=>cases r with
     | nil=>simp_all
     | cons y r=>rw[hl]at hxs;simp at hxs;grind
   obtain⟨cv,hr,hs⟩:=Jp (P:=cx.P) (ts:=argTypes) (t:=type) (he.eval h hc (hin s (by rw[hx1];simp))) (he.eval h hc (hin x (by rw[hx1];simp))) hok
   refine⟨cv,w,.still h ?_,bval (s:=Builtin.min_ argTypes type (args.map a.eval)) (fun _=>rfl) (by simp_all)⟩
   simp_all[j6,co]
  simp_all
end
def ah.only (M:ah)(l:ZB):ah:=fun x=>if x∈l then M x else none
def ah.nil:ah:=fun _=>none
theorem ah.only_nil (M:ah):M.only []=ah.nil:=by rfl
def al (l:List (Nat×Option Blk)):ZB:=l.map (·.1)
def ah.app_of_notin {l:List (Nat×Option Blk)} : ∀ {M:ah} {x:Nat},x ∉ al l->(M.app l) x=M x:=by
 induction l with
 | nil=>intro M x _;rfl
 | cons p r ih =>
  obtain⟨y,k⟩:=p
  intro M x hx
  simp only[al,Wc,WZ,not_or]at hx
  simp only[ah.app]
  rw[ih (by simp_all[al]),ah.put_ne _ _ hx.1]
def ah.app_congr {l:List (Nat×Option Blk)} : ∀ {M M':ah} {x:Nat},(x ∉ al l->M x=M' x)->(M.app l) x=(M'.app l) x:=by
 induction l with
 | nil=>intro M M' x h;exact h (by simp[al])
 | cons p r ih =>
  obtain⟨y,k⟩:=p
  intro M M' x h
  simp only[ah.app]
  refine ih (fun hx=>?_)
  by_cases e:x=y
  ·subst e;simp[ah.put_same]
  ·rw[ah.put_ne _ _ e,ah.put_ne _ _ e]
   exact h (by simp only[al,Wc,WZ,not_or];exact⟨e,by simpa [al] using hx⟩)
def b9 (nm x:Nat):Prop:=nm<=x/\x<nm+16
def fb (G:Nat->V)(X:Nat->Prop)(w0:World)(I:Nat->Prop)(ρ:Names)(M:ah)(w:World)(nm:Nat)(v:V)(M':ah)(cv:Value)(w':World):Prop :=
 ∃ ρ',Rel G X w0 I ρ' M' w'/\Moves ρ M w ρ' M' w'/\Is ρ' (bV X ρ' M') w' v cv /\ ∀ x,¬ b9 nm x->ρ' x=ρ x
def db.n {G:Nat->V}{X:Nat->Prop}{w0:World}{I:Nat->Prop}{ρ:Names}{M:ah}{w:World}{nm:Nat}{v:V}{M':ah}{cv:Value}{w':World}(h:db G X w0 I ρ M w nm v M' cv w'):fb G X w0 I ρ M w nm v M' cv w':=by
 obtain⟨ρ',h1,h2,h3,h4⟩:=h
 exact⟨ρ',h1,h2,h3,fun x hx=>h4 x (fun e=>hx (by subst e;exact⟨IS _,by omega⟩))⟩
section
variable {G:Nat->V} {X:Nat->Prop} {w0:World} {I:Nat->Prop} {ρ ρ':Names} {M:ah} {w w':World}
def FX (X:Nat->Prop)(ρ:Names)(M:ah)(l:ZB)(b:Nat):Prop:=X b \/ ∃ nm q,(M nm).isSome=true/\nm ∉ l/\ρ nm=some q/\q.b=b
def bQ (ρ:Names)(M:ah)(b:Nat):Prop:=∃ nm q,(M nm).isSome=true/\ρ nm=some q/\q.b=b
def dC {l:ZB}{x:Nat} :((M.only l) x).isSome=true↔(M x).isSome=true/\x∈l:=by
 unfold ah.only;grind
def Bc {l:ZB}{x:Nat}{k:Blk} :(M.only l) x=some k↔M x=some k/\x∈l:=by
 unfold ah.only;grind
def sq (l:ZB)(b:Nat):bV (FX X ρ M l) ρ (M.only l) b↔bV X ρ M b:=by
 constructor
 ·rintro ((h|⟨nm,q,h1,_,h3,h4⟩)|⟨nm,q,h1,h2,h3⟩)
  ·exact .inl h
  ·exact .inr ⟨nm,q,h1,h3,h4⟩
  ·exact .inr ⟨nm,q,(dC.1 h1).1,h2,h3⟩
 ·rintro (h|⟨nm,q,h1,h2,h3⟩)
  ·exact .inl (.inl h)
  ·by_cases e:nm∈l
   ·exact .inr ⟨nm,q,dC.2 ⟨h1,e⟩,h2,h3⟩
   ·exact .inl (.inr ⟨nm,q,h1,e,h2,h3⟩)
def Rel.block_lt (h:Rel G X w0 I ρ M w){nm:Nat}{q:Loc}(hM:(M nm).isSome=true)(hq:ρ nm=some q):q.b<w.heap.size /\ ¬ X q.b/\(I q.b\/w0.heap.size<=q.b):=by
 obtain⟨k,hk⟩:=OF.1 hM
 rcases h.live nm k hk with ⟨_,a⟩|⟨l',a1,a2,a3,⟨cs,e,_,a4,_⟩|⟨_,_,_,_,_,_,_,a4,_⟩⟩
 ·rw[hq]at a;cases a
 ·rw[hq]at a1;cases a1;exact⟨kQ a4,a3,a2⟩
 ·rw[hq]at a1;cases a1;exact⟨kQ a4,a3,a2⟩
def Rel.focus (h:Rel G X w0 I ρ M w)(l:ZB):Rel G (FX X ρ M l) w (bQ ρ (M.only l)) ρ (M.only l) w where
  size:=IS _
  os:=rfl
  tape:=rfl
  output:=rfl
  old:=fun _ _ _=>rfl
  live:=fun nm k hk=>by
    obtain⟨h1,h2⟩:=Bc.1 hk
    rcases h.live nm k h1 with a|⟨q,a1,a2,a3,a4⟩
    · exact .inl a
    · refine .inr ⟨q,a1,.inl ⟨nm,q,dC.2 ⟨by rw[h1];rfl,h2⟩,a1,rfl⟩,?_,a4.mono rfl (fun u cv _ c2=>?_)⟩
      · rintro (hx|⟨nm',q',b1,b2,b3,b4⟩)
        · exact a3 hx
        · exact b2 (by rw[h.inj nm' nm q' q b1 (by rw[h1];rfl) b3 a1 b4];exact h2)
      · exact c2.step (fun _ _ h=>h) (IS _) (fun _ _ _=>rfl) (fun b _ hb=>(sq l b).1 hb)
  inj:=fun a b q q' h1 h2=>h.inj a b q q' (dC.1 h1).1 (dC.1 h2).1
  hX:=fun b hb=>by
    rcases hb with hb|⟨nm,q,h1,h2,h3,rfl⟩
    · refine⟨Wi (h.hX b hb).1 h.size,?_⟩
      rintro ⟨nm,q,h1,h3,rfl⟩
      exact(h.block_lt (dC.1 h1).1 h3).2.1 hb
    · refine⟨(h.block_lt h1 h3).1,?_⟩
      rintro ⟨nm',q',b1,b3,b4⟩
      exact h2 (by rw[h.inj nm nm' q q' h1 (dC.1 b1).1 h3 b3 b4.symm];exact(dC.1 b1).2)
  glob:=fun g=>(h.glob g).step (fun _ _ h=>h) (IS _) (fun _ _ _=>rfl) (fun b _ hb=>(sq l b).1 hb)
def Is.focus {l:ZB}{v:V}{cv:Value}(h:Is ρ (bV X ρ M) w v cv):Is ρ (bV (FX X ρ M l) ρ (M.only l)) w v cv :=
 h.step (fun _ _ h=>h) (IS _) (fun _ _ _=>rfl) (fun b _ hb=>(sq l b).1 hb)
def Rel.unfocus (h:Rel G X w0 I ρ M w){l:ZB}{nm:Nat}(hf:∀ x,b9 nm x->M x=none){eff:List (Nat×Option Blk)}(he:∀ x∈al eff,x∈l\/b9 nm x){v:V}{cv:Value}
  (hs:fb G (FX X ρ M l) w (bQ ρ (M.only l)) ρ (M.only l) w nm v ((M.only l).app eff) cv w'):fb G X w0 I ρ M w nm v (M.app eff) cv w':=by
 obtain⟨ρ',r,m,hv,hn⟩:=hs
 -- a name of the whole: the callee's,or one that it was not shown
 have part:∀ x k,(M.app eff) x=some k->((M.only l).app eff) x=some k\/(M x=some k/\x ∉ l /\ ¬ b9 nm x):=fun x k hx=>by
  by_cases hxe:x∈al eff
  ·exact .inl ((ah.app_congr (fun hne=>absurd hxe hne)).trans hx)
  ·rw[ah.app_of_notin hxe]at hx
   by_cases hxl:x∈l
   ·exact .inl (by rw[ah.app_of_notin hxe];exact Bc.2 ⟨hx,hxl⟩)
   grind
 have partS:∀ x,((M.app eff) x).isSome=true->(((M.only l).app eff) x).isSome=true\/((M x).isSome=true/\x ∉ l /\ ¬ b9 nm x):=fun x hx=>by
  obtain⟨k,hk⟩:=OF.1 hx
  grind
 have hdom:∀ b,bV X ρ' (M.app eff) b->bV (FX X ρ M l) ρ' ((M.only l).app eff) b:=by
  rintro b (hx|⟨x,q,h1,h2,h3⟩)
  ·exact .inl (.inl hx)
  ·rcases partS x h1 with h4|⟨h4,h5,h6⟩
   ·exact .inr ⟨x,q,h4,h2,h3⟩
   ·exact .inl (.inr ⟨x,q,h4,h5,by simp_all,h3⟩)
 have up:∀ {u:V} {c:Value},Is ρ' (bV (FX X ρ M l) ρ' ((M.only l).app eff)) w' u c->Is ρ' (bV X ρ' (M.app eff)) w' u c:=fun hu =>
  hu.step (fun _ _ h=>h) (IS _) (fun _ _ _=>rfl) (fun b _ hb=>hdom b hb)
 have mv:Moves ρ M w ρ' (M.app eff) w':=by
  refine⟨m.names,m.size,m.os,m.tape,m.output,fun b hb hk=>m.kept b hb (fun x q h1 h2=>hk x q (dC.1 h1).1 h2),fun x q h1 h2 h3=>?_⟩
  rcases partS x h1 with h4|⟨h4,h5,h6⟩
  ·obtain⟨y,q',b1,b2,b3⟩:=m.dom x q h4 h2 h3
   exact⟨y,q',(dC.1 b1).1,b2,b3⟩
  grind
 refine⟨ρ',?_,mv,up hv,hn⟩
 refine h.move mv ?_ ?_
 ·intro x y q q' h1 h2 h3 h4 h5
  rcases partS x h1 with a|⟨a1,a2,a3⟩<;>rcases partS y h2 with b|⟨b1,b2,b3⟩
  ·exact r.inj x y q q' a b h3 h4 h5
  ·exfalso
   exact(r.block_lt a h3).2.1 (.inr ⟨y,q',b1,b2,by simp_all,h5.symm⟩)
  ·exfalso
   exact(r.block_lt b h4).2.1 (.inr ⟨x,q,a1,a2,by simp_all,h5⟩)
  ·exact h.inj x y q q' a1 b1 (by simp_all) (by simp_all) h5
 ·intro x k hx
  rcases part x k hx with a|⟨a1,a2,a3⟩
  ·rcases r.live x k a with a|⟨q,a1,a2,a3,a4⟩
   ·simp_all
   ·refine .inr (.inr ⟨q,a1,?_,fun hx=>a3 (.inl hx),a4.mono rfl (fun u c _ c2=>up c2)⟩)
    ·rcases a2 with ⟨y,q',b1,b3,b4⟩|a2
     ·rw[<- b4];exact(h.block_lt (dC.1 b1).1 b3).2.2
     ·exact .inr (W4 h.size a2)
  ·refine .inl ⟨a1,fun hnn=>by simp_all,fun q hq=>?_⟩
   have hlt:=(h.block_lt (by rw[a1];rfl) hq).1
   refine r.old q.b hlt ?_
   rintro ⟨y,q',b1,b3,b4⟩
   exact a2 (by rw[h.inj x y q q' (by rw[a1];rfl) (dC.1 b1).1 hq b3 b4.symm];exact(dC.1 b1).2)
end
def nJ (P:Program)(f:FuncId)(cargs:ZG)(w:World)(R:Ending->World->Prop):Prop :=
 ((callFunc f cargs).run P w = .ok (.enter f cargs) w/\Calls P f cargs w R) \/ ∃ cv w',(callFunc f cargs).run P w = .ok (.value cv) w'/\R (.returned cv) w'
def nJ.mono {P:Program}{f:FuncId}{cargs:ZG}{w:World}{R R':Ending->World->Prop}(h:nJ P f cargs w R)(hq:∀ e w,R e w->R' e w):nJ P f cargs w R':=by
 rcases h with ⟨h1,h2⟩|⟨cv,w',h1,h2⟩
 ·exact .inl ⟨h1,h2.mono hq⟩
 ·exact .inr ⟨cv,w',h1,hq _ _ h2⟩
def nJ.calls {P:Program}{f:FuncId}{cargs:ZG}{w:World}{R:Ending->World->Prop}(h:nJ P f cargs w R)(he:(callFunc f cargs).run P w = .ok (.enter f cargs) w):Calls P f cargs w R:=by
 rcases h with ⟨_,h2⟩|⟨cv,w',h1,_⟩
 ·exact h2
 ·rw[he]at h1;cases h1
def Ev (cx:Cx)(f:FuncId)(nm:Nat)(args:List V)(M:ah)(v:V)(eff:List (Nat×Option Blk)):Prop :=
  True /\
  ∀(X:Nat->Prop) (w:World) (ρ:Names) (cargs:ZG) (B:Nat),Rel cx.G X w (bQ ρ M) ρ M w->(∀ x,b9 nm x->ρ x=none)->(∀ x,B<=x->M x=none/\ρ x=none)->args.length=cargs.size ->
    (∀(i:Nat) (u:V) (cv:Value),args[i]? = some u->cargs[i]? = some cv->Is ρ (bV X ρ M) w u cv) ->
    nJ cx.P f cargs w fun e w'=>∃ cv,e = .returned cv/\fb cx.G X w (bQ ρ M) ρ M w nm v (M.app eff) cv w'
def BI (cx:Cx)(f:FuncId)(nm:Nat)(args:List V)(M:ah)(v:V):Prop :=
  True /\
  ∀(X:Nat->Prop) (w:World) (ρ:Names) (cargs:ZG) (B:Nat),Rel cx.G X w (bQ ρ M) ρ M w->(∀ x,b9 nm x->ρ x=none)->(∀ x,B<=x->M x=none/\ρ x=none)->args.length=cargs.size ->
    (∀(i:Nat) (u:V) (cv:Value),args[i]? = some u->cargs[i]? = some cv->Is ρ (bV X ρ M) w u cv) ->
    nJ cx.P f cargs w fun e w'=>∃ cv,e = .panicked [{ v:=cv,recovered:=false }]/\fb cx.G X w (bQ ρ M) ρ M w nm v ah.nil cv w'
def Sa (cx:Cx)(f:FuncId)(nm:Nat)(args:List V)(M:ah)(R:V->Prop)(eff:List (Nat×Option Blk)):Prop :=
  True /\
  ∀(X:Nat->Prop) (w:World) (ρ:Names) (cargs:ZG) (B:Nat),Rel cx.G X w (bQ ρ M) ρ M w->(∀ x,b9 nm x->ρ x=none)->(∀ x,B<=x->M x=none/\ρ x=none)->args.length=cargs.size ->
    (∀(i:Nat) (u:V) (cv:Value),args[i]? = some u->cargs[i]? = some cv->Is ρ (bV X ρ M) w u cv) ->
    nJ cx.P f cargs w fun e w'=>∃ cv,e = .returned cv /\ ∃ v,R v/\fb cx.G X w (bQ ρ M) ρ M w nm v (M.app eff) cv w'
def lv (l:ZB):List (Nat×Option Blk):=l.map fun x=>(x,none)
def FQ (l:ZB):al (lv l)=l:=by unfold al lv;rw[YD];exact Y4 l
def v7:∀(l:ZB) (M:ah) (x:Nat),(M.app (lv l)) x=if x∈l then none else M x
 | [],M,x=>by simp[lv,ah.app]
 | y::l,M,x=>by
  have:M.app (lv (y::l))=(M.put y none).app (lv l):=rfl
  rw[this,v7 l]
  by_cases h:x∈l
  ·simp[h]
  ·by_cases e:x=y
   ·subst e;simp[h,ah.put]
   ·simp[h,e,ah.put]
def Jg (l:ZB)(M:ah):(M.only l).app (lv l)=ah.nil:=by
 funext x
 rw[v7]
 unfold ah.only ah.nil
 simp_all
section
variable {cx:Cx} {X:Nat->Prop} {w0:World} {I:Nat->Prop} {ρ:Names} {M:ah} {w:World}
def _root_.Go.Proofs.YtgboofebldgdjaaGreatDoor.Vm.V.tgt:V->Option (FuncId×List V×List V)
 | .fn g caps=>some (g,caps,[])
 | .fnb g first=>some (g,[],first)
 | _=>none
def pY {N:Nat}{e:Env}{a:Act}{c:Bool}{o:Oper}{nm:Nat}(h:Rel cx.G X w0 I ρ M w)(he:EnvAt cx.D ρ (bV X ρ M) w N e a)(hc:c=true)(hx:∀ x∈o.op.operands.toList,Hi N x)(hf:∀ x,b9 nm x->M x=none/\ρ x=none)(hB:∃ B,∀ x,B<=x->M x=none/\ρ x=none)
  {fo:Operand} {args:ZE} {ats:ZF} (ho:o.op = .call { callee:=.value fo,args:=args,argTypes:=ats }) {f:FuncId} {caps fi:List V} (hfo:(ap cx.G c e fo).tgt=some (f,caps,fi)) {l:ZB} {v:V} {eff:List (Nat×Option Blk)}
  (hev:Ev cx f nm (fi++(args.toList.map (ap cx.G c e)++caps)) (M.only l) v eff) (heff:∀ x∈al eff,x∈l\/b9 nm x) (Q:Exit->Act->World->Prop) (K:Act->World->Prop)
  (hK:∀ cv w',fb cx.G X w0 I ρ M w nm v (M.app eff) cv w'->K (a.put o.dst cv) w'):o.wp cx.P a w K Q:=by
 have hops:o.op.operands.toList=fo::args.toList:=by simp_all[Op.operands,Call.operands]
 rw[hops]at hx
 have h1:=he.eval h hc (hx fo ZH)
 have hargs:=oU h he hc args (fun x hxx=>hx x (by simp[hxx]))
 obtain⟨fvs,cvs,hcf,hnf,huf,hn,hu⟩:∃ fvs cvs,a.eval fo = .func (.func f) fvs cvs/\fi.length=fvs.size/\(∀(i:Nat) (u:V) (cv:Value),fi[i]? = some u->fvs[i]? = some cv->Is ρ (bV X ρ M) w u cv)/\caps.length=cvs.size/\(∀(i:Nat) (u:V) (cv:Value),caps[i]? = some u->cvs[i]? = some cv->Is ρ (bV X ρ M) w u cv):=by
  generalize ap cx.G c e fo=fv at hfo h1
  generalize a.eval fo=cvv at h1
  unfold V.tgt at hfo
  split at hfo<;>first|(cases hfo;done)|skip
  ·cases hfo
   cases h1 with
   | fn hn hu=>grind
  ·cases hfo
   cases h1 with
   | fnb hn hu=>grind
 ·obtain⟨B,hB⟩:=hB
  have hcalls:=hev.2 (FX X ρ M l) w ρ (fvs++args.map a.eval++cvs) B (h.focus l) (fun x hfx=>(hf x hfx).2) (fun x hx=>⟨by unfold ah.only;simp_all,(hB x hx).2⟩) (by simp[hn,hnf]) (fun i u cv h3 h4=>by
   rw[Ws]at h3
   split at h3
   ·rename_i hlt
    rw[Xp,W2 Y6]at h4
    exact(huf i u cv h3 h4).focus
   ·rename_i hge
    rw[Xp,XF Y6,<- hnf]at h4
    rw[Ws]at h3
    split at h3
    ·rename_i hlt
     rw[W2 (by simp_all)]at h4
     exact(hargs _ u cv h3 h4).focus
    ·rename_i hge
     rw[XF (by simp_all)]at h4
     exact(hu _ u cv h3 (by simpa using h4)).focus)
  unfold Oper.wp execOp
  rcases hcalls with ⟨hce,hcalls⟩|⟨cv,w',hce,cv',hcv',hs⟩
  ·simp only[ho,resolve,Deferred.ofValue,hcf,Sem.run_bind,Sem.run_pure,Result.andThen_ok,invoke,hce]
   refine hcalls.mono ?_
   rintro e' w' ⟨cv,rfl,hs⟩
   exact hK cv w' (h.unfocus (fun x hfx=>(hf x hfx).1) heff hs)
  ·cases hcv'
   simp only[ho,resolve,Deferred.ofValue,hcf,Sem.run_bind,Sem.run_pure,Result.andThen_ok,invoke,hce]
   exact hK cv w' (h.unfocus (fun x hfx=>(hf x hfx).1) heff hs)
def GE {N:Nat}{e:Env}{a:Act}{c:Bool}{o:Oper}{nm:Nat}(h:Rel cx.G X w0 I ρ M w)(he:EnvAt cx.D ρ (bV X ρ M) w N e a)(hc:c=true)(hx:∀ x∈o.op.operands.toList,Hi N x)(hf:∀ x,b9 nm x->M x=none/\ρ x=none)(hB:∃ B,∀ x,B<=x->M x=none/\ρ x=none)
  {fo:Operand} {args:ZE} {ats:ZF} (ho:o.op = .call { callee:=.value fo,args:=args,argTypes:=ats }) {f:FuncId} {caps fi:List V} (hfo:(ap cx.G c e fo).tgt=some (f,caps,fi)) {l:ZB} {R:V->Prop} {eff:List (Nat×Option Blk)}
  (hev:Sa cx f nm (fi++(args.toList.map (ap cx.G c e)++caps)) (M.only l) R eff) (heff:∀ x∈al eff,x∈l\/b9 nm x) (Q:Exit->Act->World->Prop) (K:Act->World->Prop)
  (hK:∀ v cv w',R v->fb cx.G X w0 I ρ M w nm v (M.app eff) cv w'->K (a.put o.dst cv) w'):o.wp cx.P a w K Q:=by
 have hops:o.op.operands.toList=fo::args.toList:=by simp_all[Op.operands,Call.operands]
 rw[hops]at hx
 have h1:=he.eval h hc (hx fo ZH)
 have hargs:=oU h he hc args (fun x hxx=>hx x (by simp[hxx]))
 obtain⟨fvs,cvs,hcf,hnf,huf,hn,hu⟩:∃ fvs cvs,a.eval fo = .func (.func f) fvs cvs/\fi.length=fvs.size/\(∀(i:Nat) (u:V) (cv:Value),fi[i]? = some u->fvs[i]? = some cv->Is ρ (bV X ρ M) w u cv)/\caps.length=cvs.size/\(∀(i:Nat) (u:V) (cv:Value),caps[i]? = some u->cvs[i]? = some cv->Is ρ (bV X ρ M) w u cv):=by
  generalize ap cx.G c e fo=fv at hfo h1
  generalize a.eval fo=cvv at h1
  unfold V.tgt at hfo
  split at hfo<;>first|(cases hfo;done)|skip
  ·cases hfo
   cases h1 with
   | fn hn hu=>grind
  ·cases hfo
   cases h1 with
   | fnb hn hu=>grind
 ·obtain⟨B,hB⟩:=hB
  have hcalls:=hev.2 (FX X ρ M l) w ρ (fvs++args.map a.eval++cvs) B (h.focus l) (fun x hfx=>(hf x hfx).2) (fun x hx=>⟨by unfold ah.only;simp_all,(hB x hx).2⟩) (by simp[hn,hnf]) (fun i u cv h3 h4=>by
   rw[Ws]at h3
   split at h3
   ·rename_i hlt
    rw[Xp,W2 Y6]at h4
    exact(huf i u cv h3 h4).focus
   ·rename_i hge
    rw[Xp,XF Y6,<- hnf]at h4
    rw[Ws]at h3
    split at h3
    ·rename_i hlt
     rw[W2 (by simp_all)]at h4
     exact(hargs _ u cv h3 h4).focus
    ·rename_i hge
     rw[XF (by simp_all)]at h4
     exact(hu _ u cv h3 (by simpa using h4)).focus)
  unfold Oper.wp execOp
  rcases hcalls with ⟨hce,hcalls⟩|⟨cv,w',hce,cv',hcv',v,hv,hs⟩
  ·simp only[ho,resolve,Deferred.ofValue,hcf,Sem.run_bind,Sem.run_pure,Result.andThen_ok,invoke,hce]
   refine hcalls.mono ?_
   rintro e' w' ⟨cv,rfl,v,hv,hs⟩
   exact hK v cv w' hv (h.unfocus (fun x hfx=>(hf x hfx).1) heff hs)
  ·cases hcv'
   simp only[ho,resolve,Deferred.ofValue,hcf,Sem.run_bind,Sem.run_pure,Result.andThen_ok,invoke,hce]
   exact hK v cv w' hv (h.unfocus (fun x hfx=>(hf x hfx).1) heff hs)
def JB {N:Nat}{e:Env}{a:Act}{c:Bool}{o:Oper}{nm:Nat}(h:Rel cx.G X w0 I ρ M w)(he:EnvAt cx.D ρ (bV X ρ M) w N e a)(hc:c=true)(hx:∀ x∈o.op.operands.toList,Hi N x)(hf:∀ x,b9 nm x->M x=none/\ρ x=none)(hB:∃ B,∀ x,B<=x->M x=none/\ρ x=none)
  {fo:Operand} {args:ZE} {ats:ZF} (ho:o.op = .call { callee:=.value fo,args:=args,argTypes:=ats }) {f:FuncId} {caps fi:List V} (hfo:(ap cx.G c e fo).tgt=some (f,caps,fi)) {l:ZB} {v:V}
  (hev:BI cx f nm (fi++(args.toList.map (ap cx.G c e)++caps)) (M.only l) v) (Q:Exit->Act->World->Prop) (K:Act->World->Prop)
  (hK:∀ cv w',fb cx.G X w0 I ρ M w nm v (M.app (lv l)) cv w'->Q (.panic [{ v:=cv,recovered:=false }]) a w'):o.wp cx.P a w K Q:=by
 have hops:o.op.operands.toList=fo::args.toList:=by simp_all[Op.operands,Call.operands]
 rw[hops]at hx
 have h1:=he.eval h hc (hx fo ZH)
 have hargs:=oU h he hc args (fun x hxx=>hx x (by simp[hxx]))
 obtain⟨fvs,cvs,hcf,hnf,huf,hn,hu⟩:∃ fvs cvs,a.eval fo = .func (.func f) fvs cvs/\fi.length=fvs.size/\(∀(i:Nat) (u:V) (cv:Value),fi[i]? = some u->fvs[i]? = some cv->Is ρ (bV X ρ M) w u cv)/\caps.length=cvs.size/\(∀(i:Nat) (u:V) (cv:Value),caps[i]? = some u->cvs[i]? = some cv->Is ρ (bV X ρ M) w u cv):=by
  generalize ap cx.G c e fo=fv at hfo h1
  generalize a.eval fo=cvv at h1
  unfold V.tgt at hfo
  split at hfo<;>first|(cases hfo;done)|skip
  ·cases hfo
   cases h1 with
   | fn hn hu=>grind
  ·cases hfo
   cases h1 with
   | fnb hn hu=>grind
 ·obtain⟨B,hB⟩:=hB
  have hcalls:=hev.2 (FX X ρ M l) w ρ (fvs++args.map a.eval++cvs) B (h.focus l) (fun x hfx=>(hf x hfx).2) (fun x hx=>⟨by unfold ah.only;simp_all,(hB x hx).2⟩) (by simp[hn,hnf]) (fun i u cv h3 h4=>by
   rw[Ws]at h3
   split at h3
   ·rename_i hlt
    rw[Xp,W2 Y6]at h4
    exact(huf i u cv h3 h4).focus
   ·rename_i hge
    rw[Xp,XF Y6,<- hnf]at h4
    rw[Ws]at h3
    split at h3
    ·rename_i hlt
     rw[W2 (by simp_all)]at h4
     exact(hargs _ u cv h3 h4).focus
    ·rename_i hge
     rw[XF (by simp_all)]at h4
     exact(hu _ u cv h3 (by simpa using h4)).focus)
  unfold Oper.wp execOp
  rcases hcalls with ⟨hce,hcalls⟩|⟨cv,w',hce,cv',hcv',hs⟩
  ·simp only[ho,resolve,Deferred.ofValue,hcf,Sem.run_bind,Sem.run_pure,Result.andThen_ok,invoke,hce]
   refine hcalls.mono ?_
   rintro e' w' ⟨cv,rfl,hs⟩
   exact hK cv w' (h.unfocus (fun x hfx=>(hf x hfx).1) (fun x hx=>by rw[FQ]at hx;exact .inl hx) (by simp_all[Jg]))
  ·cases hcv'
end
def rW:Op->Bool
 | .alloc _ | .box _ _ | .buildSlice _ _ _ | .store _ _ _=>false
 | .call { callee:=.builtin b,.. }=>match b with | .len | .max | .min | .cap=>true|_=>false
 | .call _=>false
 | _=>true
def jZ:Op->Bool
 | .call { callee:=.value _,.. }=>true
 | .panic _=>true
 | _=>false
def gE (cx:Cx)(c:Bool)(e:Env)(M:ah)(nm:Nat)(o:Oper)(K:V->List (Nat×Option Blk)->ZB->Prop):Prop:=match o.op with
 | .call { callee:=.value fo,args,.. }=>match (ap cx.G c e fo).tgt with
  | some (g,caps,fi)=>∃ l v eff,Ev cx g nm (fi++(args.toList.map (ap cx.G c e)++caps)) (M.only l) v eff/\(∀ x∈al eff,(x∈l/\(M x).isSome=true)\/b9 nm x)/\K v eff l
  | _=>False
 | _=>False
def xp (cx:Cx)(e:Env)(M:ah)(nm:Nat)(o:Oper)(K:V->List (Nat×Option Blk)->ZB->Prop):Prop:=match o.op with
 | .call { callee:=.value fo,args,.. }=>match (ap cx.G true e fo).tgt with
  | some (g,caps,fi)=>∃ l R eff,Sa cx g nm (fi++(args.toList.map (ap cx.G true e)++caps)) (M.only l) R eff/\(∀ x∈al eff,(x∈l/\(M x).isSome=true)\/b9 nm x) /\ ∀ v,R v->K v eff l
  | _=>False
 | _=>False
def r6 (cx:Cx)(e:Env)(M:ah)(nm:Nat)(o:Oper)(K:V->ZB->Prop):Prop:=match o.op with
 | .call { callee:=.value fo,args,.. }=>match (ap cx.G true e fo).tgt with
  | some (g,caps,fi)=>∃ l v,BI cx g nm (fi++(args.toList.map (ap cx.G true e)++caps)) (M.only l) v/\K v l
  | _=>False
 | .panic x=>match ap cx.G true e x with
  | .iface t v=>K (.iface t v) []
  | _=>False
 | _=>False
def jx (cx:Cx)(c:Bool)(e:Env)(M:ah)(nm:Nat)(o:Oper)(K:V->ZB->Prop):Prop:=match o.op with
 | .call { callee:=.value fo,args,.. }=>match (ap cx.G c e fo).tgt with
  | some (g,caps,fi)=>∃ l v,(c=true->Ev cx g nm (fi++(args.toList.map (ap cx.G c e)++caps)) (M.only l) v [])/\K v l
  | _=>False
 | _=>False
def jt:Option TypeDesc->Option TypeDesc->Bool
 | some .string,some (.slice _)=>true
 | some (.slice _),some .string=>true
 | some (.pointer _),some .unsafePointer=>true
 | some .unsafePointer,some (.pointer _)=>true
 | _,_=>false
def HW:Option TypeDesc->Bool
 | some (.array _ _)=>true
 | _=>false
def ou (P:Program):Op->Bool
 | .convert s d _=>jt (P.underlying s) (P.underlying d)
 | .slice t _ _ _ _=>HW (P.underlying t)
 | .makeSlice _ _ _ | .makeChan _ _ | .makeMap _ _ | .makeInterface _ _ | .typeAssert _ _ _ _ | .lookup _ _ _ _ | .mapUpdate _ _ _ _ | .mapEntry _ _ _ | .entryStore _ _ _ _ | .insert _ _ _ _ | .range _ _ | .next _ _ | .entry _ | .sliceToArrayPointer _ _=>true
 | .call { callee:=.builtin b,.. }=>match b with | .len | .max | .min | .cap | .append | .copy=>false|_=>true
 | _=>false
def nY (P:Program):Op->Bool
 | .convert s d _=>match P.underlying s,P.underlying d with|some (.slice _),some .string=>true|_,_=>false
 | .lookup _ _ _ _ | .entry _=>true
 | _=>false
def iK:Op->Bool
 | .makeInterface _ _ | .typeAssert _ _ _ _=>true
 | _=>false
def lJ:Op->Bool
 | .send _ _ | .recv _ _ _ | .select _ _=>true
 | _=>false
def kM (ops:ZD)(e:Env)(j:Nat):V:=match ops[j]? with
 | some o=>match o.dst with|some t=>(e t).strip true|none=>.any
 | none=>.any
def bt:V->ZB
 | .ptr nm _ _ | .own nm _ _ | .ownc nm _ _ _ | .chan nm=>[nm]
 | _=>[]
def wn (cx:Cx)(c:Bool)(e:Env)(nm:Nat)(o:Oper):ZB:=match o.op with
 | .load _ x | .indexAddr _ x _ | .slice _ x _ _ _ | .store _ x _=>bt (ap cx.G c e x)
 | .alloc _ | .box _ _ | .buildSlice _ _ _=>[nm]
 | .call { callee:=.builtin .append,args,.. }=>nm::(args.toList.map (ap cx.G c e)).flatMap bt
 | .call { callee:=.builtin .copy,args,.. }=>(args.toList.map (ap cx.G c e)).flatMap bt
 | _=>[]
def oq:V->Bool->Option Bool
 | .bool b,want=>some (b==want)
 | .gd c (.bool x),want=>some (c&&(x==want))
 | .gd false _,_=>some false
 | _,_=>none
structure ExtDoes (cx:Cx) (o:Oper) (n:Nat) (e:Env) (M:ah) (v:V) (eff:List (Nat×Option Blk)) (ft:ZB):Prop where
 names:∀ x∈al eff,x∈ft
 live:∀ x∈al eff,(M x).isSome=true\/b9 n x
 writer:eff≠[]->nY cx.P o.op=false
 mem:ft≠[]->iK o.op=false
 run:∀(N:Nat) (X:Nat->Prop) (w0:World) (I:Nat->Prop) (ρ:Names) (e':Env) (M':ah) (a:Act) (w:World),Rel cx.G X w0 I ρ M' w->EnvAt cx.D ρ (bV X ρ M') w N e' a->(∀ x∈o.op.operands.toList,Hi N x)->(∀ x∈o.op.operands.toList,ap cx.G true e' x=ap cx.G true e x)->(∀ x∈ft,M' x=M x) ->
  (∀ x,b9 n x->M' x=none/\ρ x=none) -> ∃ cv w',fb cx.G X w0 I ρ M' w n v (M'.app eff) cv w' /\ ∀ K Q,K (a.put o.dst cv) w'->o.wp cx.P a w K Q
structure CommDoes (cx:Cx) (o:Oper) (n:Nat) (e:Env) (M:ah) (v:V) (eff:List (Nat×Option Blk)):Prop where
 live:∀ x∈al eff,(M x).isSome=true
 run:∀(N:Nat) (X:Nat->Prop) (w0:World) (I:Nat->Prop) (ρ:Names) (a:Act) (w:World),Rel cx.G X w0 I ρ M w->EnvAt cx.D ρ (bV X ρ M) w N e a->(∀ x∈o.op.operands.toList,Hi N x) ->
  ∀(b:Frame) (ops:Array Oper) (i:Nat) (l:ZB) (k:List Item) (cs:List Frame),b.kind ≠ .early->ops[i]? = some o->Region.wanted o (yielded ops a.tmps)=true ->
  ∃ cv w',step cx.P (lone (b.at a (.inRegion ops (i::l)::k)) cs w) = .next (lone (b.at (a.put o.dst cv) (.inRegion ops l::k)) cs w')/\fb cx.G X w0 I ρ M w n v (M.app eff) cv w'
def cU (cx:Cx)(ops:ZD)(dr:Bool)(Kp:Nat->Env->ah->V->Prop):ZD->Nat->Nat->Env->ah->Y9->(Nat->Env->ah->Y9->Prop)->Prop
 | [],nm,i,e,M,fs,K=>K (nm+16*i) e M fs
 | o::r,nm,i,e,M,fs,K=>match o.guard with
  | none=>if jZ o.op=true then gE cx true e M (nm+16*i) o (fun v eff l=>cU cx ops dr Kp r nm (i+1) (e.putD o.dst v) (M.app eff) (fs++[l++al eff]) K)\/r6 cx e M (nm+16*i) o (fun v l=>Kp (nm+16*(i+1)) e (M.app (lv l)) v)\/(dr=false/\xp cx e M (nm+16*i) o (fun v eff l=>cU cx ops dr Kp r nm (i+1) (e.putD o.dst v) (M.app eff) (fs++[l++al eff]) K))
   else if ou cx.P o.op=true then ∃ v eff ft,ExtDoes cx o (nm+16*i) e M v eff ft/\cU cx ops dr Kp r nm (i+1) (e.putD o.dst v) (M.app eff) (fs++[ft]) K
   else if lJ o.op=true then ∃ v eff,CommDoes cx o (nm+16*i) e M v eff/\cU cx ops dr Kp r nm (i+1) (e.putD o.dst v) (M.app eff) (fs++[al eff]) K
   else eW cx true e M o/\cU cx ops dr Kp r nm (i+1) (e.putD o.dst (j6 cx true e M (nm+16*i) o)) (M.app (kU cx true e M (nm+16*i) o)) (fs++[wn cx true e (nm+16*i) o]) K
  | some (j,want)=>match oq (kM ops e j) want with
   | some c=>if jZ o.op=true then jx cx c e M (nm+16*i) o (fun v l=>cU cx ops dr Kp r nm (i+1) (e.putD o.dst (.gd c v)) M (fs++[l]) K)\/(c=true/\gE cx true e M (nm+16*i) o (fun v eff l=>cU cx ops dr Kp r nm (i+1) (e.putD o.dst v) (M.app eff) (fs++[l++al eff]) K))
    else if ou cx.P o.op=true then (∃ v ft,(ft≠[]->iK o.op=false)/\(c=true->ExtDoes cx o (nm+16*i) e M v [] ft)/\cU cx ops dr Kp r nm (i+1) (e.putD o.dst (.gd c v)) M (fs++[ft]) K) \/
     ((c=true -> ∃ v eff ft,ExtDoes cx o (nm+16*i) e M v eff ft/\cU cx ops dr Kp r nm (i+1) (e.putD o.dst v) (M.app eff) (fs++[ft]) K)/\(c=false->cU cx ops dr Kp r nm (i+1) (e.putD o.dst .any) M (fs++[[]]) K))
    else if rW o.op=true then (c=true->eW cx c e M o)/\cU cx ops dr Kp r nm (i+1) (e.putD o.dst (.gd c (j6 cx c e M (nm+16*i) o))) M (fs++[wn cx c e (nm+16*i) o]) K
    else (c=true->eW cx true e M o/\cU cx ops dr Kp r nm (i+1) (e.putD o.dst (j6 cx true e M (nm+16*i) o)) (M.app (kU cx true e M (nm+16*i) o)) (fs++[wn cx true e (nm+16*i) o]) K) /\
     (c=false->cU cx ops dr Kp r nm (i+1) (e.putD o.dst .any) M (fs++[[]]) K)
   | none=>False
def HL (N:Nat):Operand->Bool
 | .tmp t=>decide (t<N)
 | _=>true
def Ra:Op->List Operand
 | .alloc _ | .ready _ | .waits _=>[]
 | .move x | .assign x | .box _ x | .load _ x | .nilCheck x | .unOp _ _ x | .convert _ _ x | .sliceToArrayPointer _ x | .makeInterface _ x
 | .makeChan _ x | .fieldAddr _ x _ | .field _ x _ | .range _ x | .next x _ | .entry x | .typeAssert x _ _ _ | .extract x _ | .panic x | .recv _ x _=>[x]
 | .pick c a b=>[c,a,b]
 | .build _ ps | .buildSlice _ _ ps=>ps.toList.map (·.2)
 | .store _ a v | .binOp _ _ a v _ | .makeSlice _ a v | .indexAddr _ a v | .index _ a v | .lookup _ a v _ | .mapEntry _ a v | .send a v=>[a,v]
 | .makeFunc _ first captured=>first.toList++captured.toList
 | .makeMap _ r=>r.toList
 | .slice _ x l h m=>x::(l.toList++h.toList++m.toList)
 | .mapUpdate _ m k v | .entryStore _ m k v | .insert _ m k v=>[m,k,v]
 | .call c | .go c | .defer c=>(match c.callee with | .value f=>[f] | .invoke r _=>[r] | .builtin _=>[])++c.args.toList
 | .select cs _=>(cs.flatMap fun c=>#[c.chan]++c.send.toArray).toList
theorem HC (op:Op):op.operands.toList=Ra op:=by
 cases op<;>simp[Op.operands,Ra,Call.operands]
 all_goals (rename_i c;cases c.callee<;>simp)
def qy (N:Nat)(o:Oper):Bool:=(Ra o.op).all (HL N)&&(match o.dst with|some d=>decide (d<N)|none=>true)
def FE {N:Nat}{x:Operand}(h:HL N x=true):Hi N x:=by
 cases x<;>simp_all [HL,Hi]
structure Lies (cx:Cx) (N:Nat) (X:Nat->Prop) (w0:World) (I:Nat->Prop) (ρ0:Names) (b0:Nat) (nm:Nat) (e:Env) (M:ah) (ρ:Names) (a:Act) (w:World):Prop where
 rel:Rel cx.G X w0 I ρ M w
 env:EnvAt cx.D ρ (bV X ρ M) w N e a
 free:∀ x,nm<=x->M x=none/\ρ x=none
 names:∀ x l,ρ0 x=some l->ρ x=some l
 base:b0<=nm
 low:∀ x,x<b0->ρ x=ρ0 x
 top:∀ x,b0<=x->ρ0 x=none
section
variable {cx:Cx} {N:Nat} {X:Nat->Prop} {w0:World} {I:Nat->Prop} {ρ0 ρ:Names} {b0:Nat} {nm:Nat} {e:Env} {M:ah} {a:Act} {w:World}
def EnvAt.put {ds:List Deferred}{D:Nat->Prop}(he:EnvAt ds ρ D w N e a)(d:ZC)(hd:∀ t,d=some t->t<N){v:V}{cv:Value}(hv:Is ρ D w v cv):EnvAt ds ρ D w N (e.putD d v) (a.put d cv):=by
 cases d with
 | none=>exact he
 | some t =>
  refine⟨by simp[Act.put,he.size],he.defers,fun x hx=>?_⟩
  have ht:=hd t rfl
  simp only[Env.putD,Env.put,Act.put]
  by_cases e1:x=t
  ·subst e1
   rw[if_pos rfl]
   have:(a.tmps.setIfInBounds x cv).getD x undef=cv:=by
    simp_all[he.size]
   grind
  ·rw[if_neg e1]
   have:(a.tmps.setIfInBounds t cv).getD x undef=a.tmps.getD x undef:=by
    simp only[Wu,Array.getElem?_setIfInBounds]
    grind
   rw[this];exact he.is x hx
def EnvAt.moves {ds:List Deferred}{ρ':Names}{M':ah}{w':World}(he:EnvAt ds ρ (bV X ρ M) w N e a)(m:Moves ρ M w ρ' M' w'):EnvAt ds ρ' (bV X ρ' M') w' N e a:=⟨he.size,he.defers,fun t ht=>m.is (he.is t ht)⟩
def Lies.panic (h:Lies cx N X w0 I ρ0 b0 nm e M ρ a w){v:V}{M':ah}{cv:Value}{w':World}(hs:fb cx.G X w0 I ρ M w nm v M' cv w')(hM:∀ x,nm<=x->M' x=none):∃ ρ',Lies cx N X w0 I ρ0 b0 (nm+16) e M' ρ' a w'/\Is ρ' (bV X ρ' M') w' v cv:=by
 obtain⟨ρ',r,m,hv,hnn⟩:=hs
 refine⟨ρ',⟨r,h.env.moves m,fun x hx=>⟨hM x Y6,?_⟩,fun x l hx=>m.names x l (h.names x l hx),by have:=h.base;omega,fun x hx=>by
  have hb:=h.base
  rw[hnn x (fun hf=>by have:=hf.1;omega),h.low x hx],h.top⟩,hv⟩
 rw[hnn x (fun hf=>by have:=hf.2;omega)]
 exact(h.free x Y6).2
def Lies.step (h:Lies cx N X w0 I ρ0 b0 nm e M ρ a w){d:ZC}(hd:∀ t,d=some t->t<N){v u:V}{eff:List (Nat×Option Blk)}{cv:Value}{w':World}{n:Nat}(hn:nm<=n)(hs:fb cx.G X w0 I ρ M w n v (M.app eff) cv w')(he:∀ x∈al eff,x<n+16)
  (hu:∀ {ρ':Names} {D':Nat->Prop},Is ρ' D' w' v cv->Is ρ' D' w' u cv):∃ ρ',Lies cx N X w0 I ρ0 b0 (n+16) (e.putD d u) (M.app eff) ρ' (a.put d cv) w':=by
 obtain⟨ρ',r,m,hv,hnn⟩:=hs
 refine⟨ρ',r,(h.env.moves m).put d hd (hu hv),fun x hx=>⟨?_,?_⟩,fun x l hx=>m.names x l (h.names x l hx),by have:=h.base;omega,fun x hx=>by
  have hb:=h.base
  rw[hnn x (fun hf=>by have:=hf.1;omega),h.low x hx],h.top⟩
 ·rw[ah.app_of_notin (fun hxe=>by grind)]
  exact(h.free x Y6).1
 ·rw[hnn x (fun hf=>by have:=hf.2;omega)]
  exact(h.free x Y6).2
def Lies.mono (h:Lies cx N X w0 I ρ0 b0 nm e M ρ a w){n:Nat}(hn:nm<=n):Lies cx N X w0 I ρ0 b0 n e M ρ a w:=⟨h.rel,h.env,fun x hx=>h.free x (W4 hn hx),h.names,W4 h.base hn,h.low,h.top⟩
def Lies.skip (h:Lies cx N X w0 I ρ0 b0 nm e M ρ a w){d:ZC}(hd:∀ t,d=some t->t<N){v:V}{cv:Value}(hv:Is ρ (bV X ρ M) w v cv):Lies cx N X w0 I ρ0 b0 nm (e.putD d v) M ρ (a.put d cv) w :=
 ⟨h.rel,h.env.put d hd hv,h.free,h.names,h.base,h.low,h.top⟩
def Nv {o:Oper}{n:Nat}(c:Bool)(hok:eW cx c e M o):∀ x∈al (kU cx c e M n o),(M x).isSome=true\/x=n:=by
 intro x hx
 obtain⟨dst,op,type,pos,after,guard⟩:=o
 cases op<;>simp only[kU,al,Wx,Wc,Wv,WW]at hx<;>try (exact .inr hx)
 case store t p v =>
  split at hx
  ·rename_i q i j hq
   simp only[Wc,Wx,WW]at hx
   subst hx
   left
   simp only[eW,hq,kj]at hok
   split at hok
   ·obtain⟨h1,_,_,h2⟩:=hok
    cases hM:M x with
    | none=>simp_all[rowOf]
    | some k=>rfl
   simp_all
  ·simp at hx
 case call cl =>
  obtain⟨callee,args,argTypes⟩:=cl
  cases callee<;>simp only at hx<;>try (simp at hx;done)
  rename_i b
  simp only[eW]at hok
  revert hx hok
  generalize args.toList.map (ap cx.G c e)=l
  intro hok hx
  have key:∀(ts:List TypeId) (s y:V),(∀ k m,y ≠ .int k m)->cK cx M .append ts [s,y] -> ∃ t t2,fX cx.P t t2 M s y:=by
   intro ts s y hy hok
   rcases ts with _|⟨t,_|⟨t2,_|⟨t3,r⟩⟩⟩<;>try (simp[cK]at hok;done)
   refine⟨t,t2,?_⟩
   cases y<;>first|exact absurd rfl (hy _ _)|exact hok
  unfold bN at hx
  split at hx
  ·simp at hx
  ·simp_all
  ·rename_i ns lo k x' hnz
   simp only[Wc,Wx,WZ,Wv,XU]at hx
   rcases hx with rfl|rfl
   ·left
    obtain⟨t,t2,_,hok⟩:=key _ _ _ (fun k m e=>hnz k m e) hok
    split at hok
    ·exact hok.1.1
    simp_all
   omega
  ·rename_i ns lo k cc x' hnz
   simp only[Wc,Wx,WZ,Wv,XU]at hx
   rcases hx with rfl|rfl
   ·left
    obtain⟨t,t2,_,hok⟩:=key _ _ _ (fun k m e=>hnz k m e) hok
    split at hok
    ·exact hok.1.1
    simp_all
   omega
  ·simp_all
  ·rename_i d x'
   left
   have hsome:∀ {y:Nat},iM M y=true->(M y).isSome=true:=fun h=>by
    obtain⟨k,hk,_⟩:=pL h
    rw[hk];rfl
   rcases hts:argTypes.toList with _|⟨t,_|⟨t2,_|⟨t3,r⟩⟩⟩<;>rw[hts]at hok<;>try (simp[cK]at hok;done)
   simp only[cK,nT]at hok
   split at hok
   ·obtain⟨_,hok⟩:=hok
    cases d<;>simp only[nz,Wc,Wx,WZ,Wv,XU]at hx
    ·subst hx;exact hsome hok.1
    ·subst hx;exact hsome hok.1
   simp_all
  ·simp at hx
end
def R6:Operand->ZC
 | .tmp t=>some t
 | _=>none
def looksAt (ops:ZD)(o:Oper):ZB:=(Ra o.op).filterMap R6++(match o.guard with|some (j,_)=>((ops[j]?).bind (·.dst)).toList|none=>[])
def iY (P:Program):Op->Bool
 | .alloc _ | .box _ _ | .buildSlice _ _ _ | .store _ _ _=>true
 | .call { callee:=.builtin .append,.. }=>true
 | .call { callee:=.builtin .copy,.. }=>true
 | .call { callee:=.value _,.. }=>true
 | op=>ou P op && !(nY P op) && !(iK op)
def tJ (P:Program):Op->Bool
 | .load _ _ | .indexAddr _ _ _ | .slice _ _ _ _ _=>true
 | op=>iY P op||(ou P op && !(iK op))
section
variable {cx:Cx} {N:Nat} {X:Nat->Prop} {w0:World} {I:Nat->Prop} {ρ0:Names} {b0:Nat}
def Cz {G:Nat->V}{c:Bool}{e e':Env}{x:Operand}(h:∀ t,R6 x=some t->e' t=e t):ap G c e' x=ap G c e x:=by
 cases x with
 | tmp t=>simp only[ap,h t rfl]
 | const v=>rfl
 | global g=>rfl
 | func f=>rfl
def Bx {M M':ah}{v:V}(h:∀ x∈bt v,M' x=M x):target M' v=target M v:=by
 cases v<;>try rfl
 rename_i nm i j
 simp only[target,rowOf,h nm (by simp[bt])]
def fw {M M':ah}{v:V}(h:∀ x∈bt v,M' x=M x):aJ M' v=aJ M v:=by
 cases v<;>try rfl
 ·rename_i nm i j
  simp only[aJ,bD,h nm (by simp[bt])]
 ·rename_i nm i j c
  simp only[aJ,bD,h nm (by simp[bt])]
def lF {M M':ah}{s:Nat}{v:V}(h:∀ x∈bt v,M' x=M x):fx M' s v=fx M s v:=by
 cases v<;>try rfl
 ·rename_i nm i j
  simp only[fx,bD,eT,h nm (by simp[bt])]
 ·rename_i nm i j c
  simp only[fx,bD,eT,h nm (by simp[bt])]
def D7 {P:Program}{t:TypeId}{M M':ah}{s:V}(h:∀ y∈bt s,M' y=M y):ld P t M' s=ld P t M s:=by
 cases s<;>try rfl
 all_goals simp only[ld,h _ (WW.2 rfl)]
def xI {P:Program}{t:TypeId}{M M':ah}{s x:V}(h:∀ y∈bt s,M' y=M y)(h':∀ y∈bt x,M' y=M y):eY P t M' s x=eY P t M s x:=by
 simp_all[eY,fw,D7]
def uU {P:Program}{t t2:TypeId}{M M':ah}{s x:V}(h:∀ y∈bt s,M' y=M y)(h':∀ y∈bt x,M' y=M y):fX P t t2 M' s x=fX P t t2 M s x:=by
 have e:pJ M' x s=pJ M x s:=by
  simp_all[pJ,fw]
 simp_all[fX,lF,fw]
def tX {P:Program}{t t2:TypeId}{M M':ah}{s:V}{m:Int}(h:∀ y∈bt s,M' y=M y):pA P t t2 M' s m=pA P t t2 M s m/\oS P t M' s m.toNat=oS P t M s m.toNat:=by
 simp_all[oS,fw,pA,lF]
def qa {P:Program}{t:TypeId}{M M':ah}{d x:V}(h:∀ y∈bt d,M' y=M y)(h':∀ y∈bt x,M' y=M y):nT P t M' d x=nT P t M d x/\jz M' d x=jz M d x/\nz M' d x=nz M d x:=by
 have e1:=fw h'
 have e2:jz M' d x=jz M d x:=by simp_all[jz]
 refine⟨?_,e2,?_⟩
 ·have e3:∀ s,jr M' s d x=jr M s d x:=fun s=>by
   cases d<;>try rfl
   ·rename_i nm lo n
    simp only[jr,iM,eT,bD,e1,e2,h nm (by simp[bt])]
   ·rename_i nm lo n c
    simp only[jr,iM,eT,bD,e1,e2,h nm (by simp[bt])]
  simp_all[nT,lF]
 ·cases d<;>try rfl
  ·rename_i nm lo n
   simp only[nz,qV,eT,bD,e1,e2,h nm (by simp[bt])]
  ·rename_i nm lo n c
   simp only[nz,qV,eT,bD,e1,e2,h nm (by simp[bt])]
def Nw {c:Bool}{e e':Env}{M M':ah}{n:Nat}{o:Oper}(he:∀ x∈o.op.operands.toList,ap cx.G c e' x=ap cx.G c e x)(hM:∀ x∈wn cx c e n o,M' x=M x) :
  eW cx c e' M' o=eW cx c e M o/\j6 cx c e' M' n o=j6 cx c e M n o/\kU cx c e' M' n o=kU cx c e M n o:=by
 obtain⟨dst,op,type,pos,after,guard⟩:=o
 have parts:∀ ps:Array (Nat×Operand),(∀ p∈ps.toList,ap cx.G c e' p.2=ap cx.G c e p.2)->dH cx.G c e' ps=dH cx.G c e ps:=fun ps h=>by
  unfold dH
  exact W7 (fun p hp=>by rw[h p hp])
 have ints:∀ x:Option Operand,(∀ y,x=some y->ap cx.G c e' y=ap cx.G c e y)->ma c cx.G e' x=ma c cx.G e x/\lL c cx.G e' x=lL c cx.G e x:=fun x h=>by
  cases x with
  | none=>exact⟨rfl,rfl⟩
  | some y=>simp only[ma,lL,h y rfl];simp_all
 have list:∀ as:ZE,(∀ x∈as.toList,ap cx.G c e' x=ap cx.G c e x)->as.toList.map (ap cx.G c e')=as.toList.map (ap cx.G c e):=fun as h=>W7 h
 cases op
 case move x=>have:=he x (by simp[Op.operands]);simp_all[eW,j6,kU]
 case assign x=>have:=he x (by simp[Op.operands]);simp_all[eW,j6,kU]
 case nilCheck x=>have:=he x (by simp[Op.operands]);simp_all[eW,j6,kU]
 case pick x a b =>
  have h1:=he x (by simp[Op.operands]);have h2:=he a (by simp[Op.operands]);have h3:=he b (by simp[Op.operands])
  simp_all[eW,j6,kU]
 case alloc t=>exact⟨rfl,rfl,rfl⟩
 case box t x=>have:=he x (by simp[Op.operands]);simp_all[eW,j6,kU]
 case build t ps =>
  have:=parts ps (fun p hp=>he _ (by grind[Op.operands]))
  simp_all[eW,j6,kU]
 case buildSlice t k ps =>
  have:=parts ps (fun p hp=>he _ (by grind[Op.operands]))
  simp_all[eW,j6,kU]
 case load t x =>
  have h1:=he x (by simp[Op.operands])
  have h2:=Bx (M:=M) (M':=M') (v:=ap cx.G c e x) hM
  simp_all[eW,j6,kU,v4,y6]
 case store t x v =>
  have h1:=he x (by simp[Op.operands]);have h2:=he v (by simp[Op.operands])
  simp only[wn]at hM
  simp only[eW,j6,kU,h1,h2]
  cases hx:ap cx.G c e x<;>simp only[kj,XJ]
  rename_i nm i j
  rw[hx]at hM
  have h3:=hM nm (by simp[bt])
  simp_all[rowOf]
 case binOp op t x y yt =>
  have h1:=he x (by simp[Op.operands]);have h2:=he y (by simp[Op.operands])
  simp_all[eW,j6,kU]
 case unOp op t x=>have:=he x (by simp[Op.operands]);simp_all[eW,j6,kU]
 case convert s d x=>have:=he x (by simp[Op.operands]);simp_all[eW,j6,kU]
 case slice t x l h m =>
  have h1:=he x (by simp[Op.operands])
  obtain⟨l1,l2⟩:=ints l (fun y hy=>he y (by simp_all[Op.operands]))
  obtain⟨k1,k2⟩:=ints h (fun y hy=>he y (by simp_all[Op.operands]))
  obtain⟨m1,m2⟩:=ints m (fun y hy=>he y (by simp_all[Op.operands]))
  simp only[wn]at hM
  simp only[eW,j6,kU,h1,l1,l2,k1,k2,m1,m2]
  cases hx:ap cx.G c e x<;>simp only[uH,XJ]
  ·rename_i nm i j
   rw[hx]at hM
   have h3:=hM nm (by simp[bt])
   simp_all[eT]
  ·rename_i nm i j c
   rw[hx]at hM
   have h3:=hM nm (by simp[bt])
   simp_all[eT]
 case fieldAddr t x f=>have:=he x (by simp[Op.operands]);simp_all[eW,j6,kU]
 case field t x f=>have:=he x (by simp[Op.operands]);simp_all[eW,j6,kU]
 case indexAddr t x i =>
  have h1:=he x (by simp[Op.operands]);have h2:=he i (by simp[Op.operands])
  simp only[wn]at hM
  simp only[eW,j6,kU,h1,h2]
  revert hM
  generalize ap cx.G c e x=v
  intro hM
  have h3:∀ k,dU cx.P t M' v k=dU cx.P t M v k:=fun k=>by
   unfold dU
   cases oZ cx.P t with
   | none=>rfl
   | some y =>
    obtain⟨q,s,g⟩:=y
    cases q<;>cases v<;>try rfl
    ·rename_i nm a b
     have h4:=hM nm (by simp[bt])
     simp_all[eT]
    ·rename_i nm a b c
     have h4:=hM nm (by simp[bt])
     simp_all[eT]
  have h5:∀ k,ce cx.P t M' v k=ce cx.P t M v k:=fun k=>by rfl
  simp_all
 case index t x i =>
  have h1:=he x (by simp[Op.operands]);have h2:=he i (by simp[Op.operands])
  simp_all[eW,j6,kU]
 case extract x i=>have:=he x (by simp[Op.operands]);simp_all[eW,j6,kU]
 case makeFunc f first caps =>
  cases f<;>try exact⟨rfl,rfl,rfl⟩
  have:=list caps (fun x hx=>he x (by simp_all[Op.operands]))
  have h2:=list first (fun x hx=>he x (by simp_all[Op.operands]))
  simp only[eW,j6,kU,this,h2,XJ]
 case call cl =>
  obtain⟨callee,args,ats⟩:=cl
  cases callee<;>try exact⟨rfl,rfl,rfl⟩
  rename_i b
  have hl:=list args (fun x hx=>he x (by simp_all[Op.operands,Call.operands]))
  simp only[eW,j6,kU,hl]
  have key:∀(ts:List TypeId) (l:List V),(b = .append\/b = .copy -> ∀ y∈l.flatMap bt,M' y=M y) ->
    cK cx M' b ts l=cK cx M b ts l/\co cx M' n b (ts.headD 0) l=co cx M n b (ts.headD 0) l/\bN cx M' n b (ts.headD 0) l=bN cx M n b (ts.headD 0) l:=by
   intro ts l hl
   by_cases hb:b = .append
   ·subst hb
    rcases l with _|⟨s,_|⟨x,_|⟨y,r⟩⟩⟩
    ·rcases ts with _|⟨t,_|⟨t2,_|⟨t3,q⟩⟩⟩<;>exact⟨rfl,rfl,rfl⟩
    ·rcases ts with _|⟨t,_|⟨t2,_|⟨t3,q⟩⟩⟩<;>(refine⟨?_,?_,?_⟩<;>(cases s<;>rfl))
    ·have g:=hl (.inl rfl)
     have g1:∀ y∈bt s,M' y=M y:=fun y hy=>g y (by simp[hy])
     have g2:∀ y∈bt x,M' y=M y:=fun y hy=>g y (by simp[hy])
     by_cases hi:∃ k m,x = .int k m
     ·obtain⟨k,m,rfl⟩:=hi
      refine⟨?_,?_,?_⟩
      ·rcases ts with _|⟨t,_|⟨t2,_|⟨t3,r⟩⟩⟩<;>try rfl
       exact(tX g1).1
      ·simp_all[co,fw]
      ·simp only[bN,(tX (P:=cx.P) (t:=ts.headD 0) (t2:=0) (m:=m) g1).2]
     ·have e1:=xI (P:=cx.P) (t:=ts.headD 0) g1 g2
      have e2:fS M' n s x=fS M n s x:=by simp_all[fS,fw]
      refine⟨?_,?_,?_⟩
      ·rcases ts with _|⟨t,_|⟨t2,_|⟨t3,r⟩⟩⟩<;>try rfl
       have e3:=uU (P:=cx.P) (t:=t) (t2:=t2) g1 g2
       cases x<;>first|exact(hi ⟨_,_,rfl⟩).elim|exact e3
      ·cases x<;>first|exact(hi ⟨_,_,rfl⟩).elim|(cases s<;>exact e2)|(rename_i l;cases l<;>cases s<;>first|rfl|exact e2)
      ·cases x<;>first|exact(hi ⟨_,_,rfl⟩).elim|(cases s<;>simp only[bN,e1];done)|(rename_i l;cases l<;>cases s<;>first|rfl|simp_all[bN])
    ·rcases ts with _|⟨t,_|⟨t2,_|⟨t3,q⟩⟩⟩<;>(refine⟨?_,?_,?_⟩<;>(cases x<;>first|rfl|(cases s<;>rfl)|(rename_i l;cases l<;>cases s<;>rfl)))
   ·by_cases hb2:b = .copy
    ·subst hb2
     rcases l with _|⟨s,_|⟨x,_|⟨y,r⟩⟩⟩
     ·rcases ts with _|⟨t,_|⟨t2,_|⟨t3,q⟩⟩⟩<;>exact⟨rfl,rfl,rfl⟩
     ·rcases ts with _|⟨t,_|⟨t2,_|⟨t3,q⟩⟩⟩<;>exact⟨rfl,rfl,rfl⟩
     ·have g:=hl (.inr rfl)
      have g1:∀ y∈bt s,M' y=M y:=fun y hy=>g y (by simp[hy])
      have g2:∀ y∈bt x,M' y=M y:=fun y hy=>g y (by simp[hy])
      refine⟨?_,?_,?_⟩
      ·rcases ts with _|⟨t,_|⟨t2,_|⟨t3,r⟩⟩⟩<;>try rfl
       exact(qa g1 g2).1
      ·simp only[co,(qa (P:=cx.P) (t:=0) g1 g2).2.1]
      ·simp only[bN,(qa (P:=cx.P) (t:=0) g1 g2).2.2]
     ·rcases ts with _|⟨t,_|⟨t2,_|⟨t3,q⟩⟩⟩<;>(refine⟨?_,?_,?_⟩<;>(rfl))
    ·have e3:∀ M,bN cx M n b (ts.headD 0) l=[]:=fun M=>by
      simp_all[bN]
     refine⟨?_,?_,by rw[e3,e3]⟩
     ·unfold cK
      grind
     ·unfold co
      split<;>first|rfl|simp_all|simp_all|(rename_i x;cases x<;>rfl)
  grind[wn]
 all_goals exact⟨rfl,rfl,rfl⟩
end
structure OpDoes (cx:Cx) (N:Nat) (ops:ZD) (o:Oper) (n:Nat) (e:Env) (M:ah) (v:V) (eff:List (Nat×Option Blk)) (ft:ZB):Prop where
 names:∀ x∈al eff,x∈ft
 live:∀ x∈al eff,(M x).isSome=true\/b9 n x
 writer:eff≠[]->iY cx.P o.op=true
 mem:ft≠[]->tJ cx.P o.op=true
 run:∀(X:Nat->Prop) (w0:World) (I:Nat->Prop) (ρ:Names) (e':Env) (M':ah) (a:Act) (w:World),Rel cx.G X w0 I ρ M' w->EnvAt cx.D ρ (bV X ρ M') w N e' a->(∀ t∈looksAt ops o,e' t=e t)->(∀ x∈ft,M' x=M x) ->
  (∀ x,b9 n x->M' x=none/\ρ x=none)->(∃ B,∀ x,B<=x->M' x=none/\ρ x=none) -> ∀(J:Act->World->Prop) (Q:Exit->Act->World->Prop),(∀ cv w',fb cx.G X w0 I ρ M' w n v (M'.app eff) cv w'->J (a.put o.dst cv) w') ->
  if Region.wanted o (yielded ops.toArray a.tmps) then o.wp cx.P a w J Q else J (a.put o.dst undef) w
section
variable {cx:Cx} {N:Nat} {X:Nat->Prop} {w0:World} {I:Nat->Prop} {ρ0:Names} {b0:Nat}
def gL {o:Oper}(h:qy N o=true):∀ x∈o.op.operands.toList,Hi N x:=by
 intro x hx
 rw[HC]at hx
 simp only[qy,In,WI]at h
 exact FE (h.1 x hx)
def ml {o:Oper}(h:qy N o=true):∀ t,o.dst=some t->t<N:=by
 intro t ht
 simp_all[qy]
def CX {ops:ZD}(hin:∀ o∈ops,qy N o=true){ρ:Names}{D:Nat->Prop}{e:Env}{a:Act}{w:World}(h:EnvAt cx.D ρ D w N e a){j:Nat}{b:Bool}(hg:kM ops e j = .bool b):yielded ops.toArray a.tmps j=some b:=by
 unfold kM at hg
 cases ho:ops[j]? with
 | none=>simp_all
 | some o =>
  rw[ho]at hg
  cases hd:o.dst with
  | none=>simp_all
  | some t =>
   simp only[hd]at hg
   have ht:=ml (hin o (By ho)) t hd
   have hv:=(h.is t ht).strip (c:=true) rfl
   rw[hg]at hv
   have hlt:t<a.tmps.size:=by simp_all[h.size]
   have he:a.tmps.getD t undef=a.tmps[t]:=by simp_all
   rw[he]at hv
   unfold yielded
   simp only[Xs,ho,Option.bind_some,hd,Wg hlt]
   cases hb:a.tmps[t]<;>rw[hb]at hv<;>cases hv
   rfl
def AU {ops:ZD}(hin:∀ o∈ops,qy N o=true){ρ:Names}{D:Nat->Prop}{e:Env}{a:Act}{w:World}(h:EnvAt cx.D ρ D w N e a){j:Nat}{want c:Bool}(hg:oq (kM ops e j) want=some c):(yielded ops.toArray a.tmps j==some want)=c:=by
 have key:∀ {q:Bool} {v:V},kM ops e j = .gd q v -> ∃ cv,Is ρ D w (.gd q v) cv/\yielded ops.toArray a.tmps j=(match cv with | .bool b=>some b|_=>none):=by
  intro q v hb
  unfold kM at hb
  cases ho:ops[j]? with
  | none=>simp_all
  | some o =>
   rw[ho]at hb
   cases hd:o.dst with
   | none=>simp_all
   | some t =>
    simp only[hd]at hb
    have ht:=ml (hin o (By ho)) t hd
    have hv:=(h.is t ht).strip (c:=true) rfl
    rw[hb]at hv
    have hlt:t<a.tmps.size:=by simp_all[h.size]
    have he:a.tmps.getD t undef=a.tmps[t]:=by simp_all
    rw[he]at hv
    refine⟨_,hv,?_⟩
    unfold yielded
    grind
 unfold oq at hg
 split at hg
 ·rename_i b wt hb
  rw[CX hin h hb]
  simp_all
 ·rename_i x q wt hb
  cases hg
  obtain⟨cv,hv,hy⟩:=key hb
  rw[hy]
  cases hv with
  | gd h1 h0 =>
   cases q with
   | false=>rw[h0 rfl];rfl
   | true =>
    have h2:=h1 rfl
    cases h2
    rfl
 ·cases hg
  obtain⟨cv,hv,hy⟩:=key ‹_›
  rw[hy]
  cases hv with
  | gd h1 h0=>rw[h0 rfl];rfl
 ·cases hg
def AR {ops:ZD}{e e':Env}{o:Oper}{j:Nat}{want:Bool}(hg:o.guard=some (j,want))(h:∀ t∈looksAt ops o,e' t=e t):kM ops e' j=kM ops e j:=by
 unfold kM
 cases ho:ops[j]? with
 | none=>rfl
 | some oj =>
  cases hd:oj.dst with
  | none=>simp only[hd]
  | some t =>
   simp only[hd]
   rw[h t (by simp_all[looksAt])]
def gf {ops:ZD}{e e':Env}{o:Oper}(h:∀ t∈looksAt ops o,e' t=e t)(G:Nat->V)(c:Bool):∀ x∈o.op.operands.toList,ap G c e' x=ap G c e x:=fun x hx =>
 Cz (fun t ht=>h t (by grind[looksAt,HC]))
def HB {c:Bool}{e:Env}{n:Nat}{o:Oper}(h:wn cx c e n o≠[]):tJ cx.P o.op=true:=by
 obtain⟨dst,op,type,pos,after,guard⟩:=o
 cases op<;>simp only[wn]at h<;>first|rfl|exact absurd rfl h|skip
 rename_i cl
 obtain⟨callee,args,ats⟩:=cl
 cases callee<;>first|rfl|exact absurd rfl h|skip
 rename_i b
 cases b<;>first|rfl|simp_all
def F4 {c:Bool}{e:Env}{M:ah}{n:Nat}{o:Oper}(h:kU cx c e M n o≠[]):iY cx.P o.op=true:=by
 obtain⟨dst,op,type,pos,after,guard⟩:=o
 cases op<;>simp only[kU]at h<;>first|rfl|exact absurd rfl h|skip
 rename_i cl
 obtain⟨callee,args,ats⟩:=cl
 cases callee<;>first|rfl|exact absurd rfl h|skip
 rename_i b
 by_cases hb:b = .append
 ·subst hb;rfl
 ·by_cases hb2:b = .copy
  ·subst hb2;rfl
  simp_all[bN]
def Tv {c:Bool}{e:Env}{M:ah}{n:Nat}{o:Oper} : ∀ x∈al (kU cx c e M n o),x∈wn cx c e n o:=by
 obtain⟨dst,op,type,pos,after,guard⟩:=o
 cases op<;>simp only[kU,wn,al,Wx,Wc,Wv,Yk,Yo,WW,imp_self]<;>try trivial
 case store t p v =>
  intro x hx
  split at hx
  ·rename_i q i j hq
   rw[hq]
   simpa [bt] using hx
  ·simp at hx
 case call cl =>
  obtain⟨callee,args,ats⟩:=cl
  cases callee<;>simp only[Wx,Wv,Yk,Yo]
  rename_i b
  intro x hx
  by_cases hb:b = .append
  ·subst hb
   simp only
   revert hx
   generalize args.toList.map (ap cx.G c e)=l
   intro hx
   unfold bN at hx
   split at hx
   ·simp at hx
   ·simp only[Wc,Wx,WZ,Wv,XU]at hx
    subst hx;simp
   ·simp only[Wc,Wx,WZ,Wv,XU]at hx
    rcases hx with rfl|rfl
    ·simp[bt]
    ·simp
   ·simp only[Wc,Wx,WZ,Wv,XU]at hx
    rcases hx with rfl|rfl
    ·simp[bt]
    ·simp
   ·simp only[Wc,Wx,WZ,Wv,XU]at hx
    subst hx;simp
   ·exact absurd ‹Builtin.append=Builtin.copy› ZH
   ·simp at hx
  ·by_cases hb2:b = .copy
   ·subst hb2
    simp only
    revert hx
    generalize args.toList.map (ap cx.G c e)=l
    intro hx
    unfold bN at hx
    split at hx<;>first|exact absurd ‹Builtin.copy=Builtin.append› ZH|skip
    ·rename_i d x' _
     cases d<;>simp only[nz,Wc,Wx,WZ,Wv,XU]at hx
     ·subst hx;simp[bt]
     ·subst hx;simp[bt]
    ·simp at hx
   ·exfalso
    unfold bN at hx
    split at hx<;>first|exact absurd rfl hb|exact absurd rfl hb2|simp at hx
def yN {P:Program}{op:Op}(h:ou P op=true):(nY P op=false->iK op=false->iY P op=true)/\(iK op=false->tJ P op=true):=by
 have key:iY P op=(ou P op && !(nY P op) && !(iK op))\/iY P op=true:=by
  cases op<;>first|exact .inl rfl|exact .inr rfl|skip
  rename_i cl
  obtain⟨callee,args,ats⟩:=cl
  cases callee<;>first|exact .inl rfl|exact .inr rfl|skip
  rename_i b
  cases b<;>first|exact .inl rfl|exact .inr rfl
 have key2:tJ P op=(iY P op||(ou P op && !(iK op)))\/tJ P op=true:=by
  cases op<;>first|exact .inl rfl|exact .inr rfl
 grind
def Nx {ops:ZD}(hin:∀ o∈ops,qy N o=true){o:Oper}(ho:qy N o=true)(hnc:o.guard=none->lJ o.op=false){r:ZD}{nm i:Nat}{e:Env}{M:ah}(hfree:∀ x,nm+16*i<=x->M x=none){fs:Y9}{K:Nat->Env->ah->Y9->Prop}{dr:Bool}{Kp:Nat->Env->ah->V->Prop}(hvc:cU cx ops dr Kp (o::r) nm i e M fs K) :
    (∃ v eff ft,OpDoes cx N ops o (nm+16*i) e M v eff ft/\cU cx ops dr Kp r nm (i+1) (e.putD o.dst v) (M.app eff) (fs++[ft]) K)\/(o.guard=none/\r6 cx e M (nm+16*i) o (fun v l=>Kp (nm+16*(i+1)) e (M.app (lv l)) v))\/(o.guard=none/\dr=false/\xp cx e M (nm+16*i) o (fun v eff l=>cU cx ops dr Kp r nm (i+1) (e.putD o.dst v) (M.app eff) (fs++[l++al eff]) K)):=by
  have hx:=gL ho
  have liveE:∀ c,eW cx c e M o -> ∀ x∈al (kU cx c e M (nm+16*i) o),(M x).isSome=true\/b9 (nm+16*i) x:=fun c hok x hxe=>by
    rcases Nv c hok x hxe with h|h
    · exact .inl h
    · exact .inr (by subst h;exact⟨IS _,by omega⟩)
  -- an operation that is carried out
  have does:∀(c:Bool),c=true->eW cx c e M o->(∀(e':Env) (a:Act) (ρ:Names) (D:Nat->Prop) (w:World),EnvAt cx.D ρ D w N e' a->(∀ t∈looksAt ops o,e' t=e t)->Region.wanted o (yielded ops.toArray a.tmps)=true) ->
      ∀(u:V),(∀ {ρ':Names} {D':Nat->Prop} {w':World} {cv:Value},Is ρ' D' w' (j6 cx c e M (nm+16*i) o) cv->Is ρ' D' w' u cv)->OpDoes cx N ops o (nm+16*i) e M u (kU cx c e M (nm+16*i) o) (wn cx c e (nm+16*i) o):=by
    intro c hc hok hw u hu
    refine⟨Tv,liveE c hok,F4,HB,?_⟩
    intro X w0 I ρ e' M' a w hrel henv hl hm hfr _ J Q hJ
    rw[if_pos (hw e' a ρ _ w henv hl)]
    obtain⟨c1,c2,c3⟩:=Nw (cx:=cx) (c:=c) (n:=nm+16*i) (o:=o) (gf hl cx.G c) hm
    have hfn:=hfr (nm+16*i) ⟨IS _,by omega⟩
    obtain⟨cv,w',hs,hwp⟩:=Ny (cx:=cx) hrel henv hc hx hfn.1 hfn.2 (by simp_all)
    rw[c2,c3]at hs
    refine hwp J Q (hJ cv w' ?_)
    obtain⟨ρ',g1,g2,g3,g4⟩:=hs.n
    exact⟨ρ',g1,g2,hu g3,g4⟩
  -- one that is left out
  have skips:∀(u:V) (ft:ZB),(∀ {ρ':Names} {D':Nat->Prop} {w':World},Is ρ' D' w' u undef)->(ft≠[]->tJ cx.P o.op=true)->(∀(e':Env) (a:Act) (ρ:Names) (D:Nat->Prop) (w:World),EnvAt cx.D ρ D w N e' a->(∀ t∈looksAt ops o,e' t=e t)->Region.wanted o (yielded ops.toArray a.tmps)=false) ->
      OpDoes cx N ops o (nm+16*i) e M u [] ft:=by
    intro u ft hu hft hw
    refine⟨fun x hx=>by grind[al],fun x hx=>by grind[al],fun h=>absurd rfl h,hft,?_⟩
    intro X w0 I ρ e' M' a w hrel henv hl hm hfr _ J Q hJ
    rw[hw e' a ρ _ w henv hl]
    simp only[WH,WS]
    exact hJ undef w ⟨ρ,hrel,.refl _ _ _,hu,fun _ _=>rfl⟩
  -- one with a law of its own
  have exts:ou cx.P o.op=true -> ∀ {v:V} {eff:List (Nat×Option Blk)} {ft:ZB},ExtDoes cx o (nm+16*i) e M v eff ft->(∀(e':Env) (a:Act) (ρ:Names) (D:Nat->Prop) (w:World),EnvAt cx.D ρ D w N e' a->(∀ t∈looksAt ops o,e' t=e t)->Region.wanted o (yielded ops.toArray a.tmps)=true) ->
      ∀(u:V),(∀ {ρ':Names} {D':Nat->Prop} {w':World} {cv:Value},Is ρ' D' w' v cv->Is ρ' D' w' u cv)->OpDoes cx N ops o (nm+16*i) e M u eff ft:=by
    intro hext v eff ft hd hw u hu
    obtain⟨m1,m2⟩:=yN hext
    refine⟨hd.names,hd.live,fun hne=>m1 (hd.writer hne) (hd.mem (fun hf=>by
      cases hel:eff with
      | nil=>exact hne hel
      | cons p q=>have:=hd.names p.1 (by simp_all[al]);simp_all)),fun hne=>m2 (hd.mem hne),?_⟩
    intro X w0 I ρ e' M' a w hrel henv hl hm hfr _ J Q hJ
    rw[if_pos (hw e' a ρ _ w henv hl)]
    obtain⟨cv,w',hs,hwp⟩:=hd.run N X w0 I ρ e' M' a w hrel henv hx (gf hl cx.G true) hm hfr
    refine hwp J Q (hJ cv w' ?_)
    obtain⟨ρ',g1,g2,g3,g4⟩:=hs
    exact⟨ρ',g1,g2,hu g3,g4⟩
  cases hg:o.guard with
  | none =>
    have hw:∀(e':Env) (a:Act) (ρ:Names) (D:Nat->Prop) (w:World),EnvAt cx.D ρ D w N e' a->(∀ t∈looksAt ops o,e' t=e t)->Region.wanted o (yielded ops.toArray a.tmps)=true:=fun _ a _ _ _ _ _=>by simp_all[Region.wanted]
    simp only[cU,hg]at hvc
    split at hvc
    · rcases hvc with hvc|hvc|hvc
      rotate_left 1
      · simp_all
      · grind
      left
      obtain⟨dst,op,type,pos,after,guard⟩:=o
      unfold gE at hvc
      split at hvc
      · rename_i fo args ats hop
        split at hvc
        · rename_i g caps fi hfo
          obtain⟨l,v,eff,hev,heff,hr⟩:=hvc
          simp only at hop
          refine⟨v,eff,l++al eff,⟨fun x hx=>YU _ hx,fun x hx=>(heff x hx).imp (fun h=>h.2) id,fun _=>by subst hop;rfl,fun _=>by subst hop;rfl,?_⟩,hr⟩
          intro X w0 I ρ e' M' a w hrel henv hl hm hfr hB J Q hJ
          rw[if_pos (hw e' a ρ _ w henv hl)]
          have hlo:=gf hl cx.G true
          have hops:(⟨dst,op,type,pos,after,guard⟩:Oper).op.operands.toList=fo::args.toList:=by simp_all[Op.operands,Call.operands]
          rw[hops]at hlo
          have honly:M'.only l=M.only l:=by
            funext x
            unfold ah.only
            simp_all
          refine pY (cx:=cx) hrel henv rfl hx hfr hB hop (by rw[hlo fo ZH];exact hfo) (l:=l) (v:=v) (eff:=eff) (by rw[honly,W7 (fun x hx=>hlo x (by simp[hx]))];exact hev) (fun x hx=>(heff x hx).imp (fun h=>h.1) id) Q J hJ
        simp_all
      simp_all
    grind
  | some p =>
    left
    obtain⟨j,want⟩:=p
    simp only[cU,hg]at hvc
    split at hvc
    · rename_i c hb
      have hw:∀(e':Env) (a:Act) (ρ:Names) (D:Nat->Prop) (w:World),EnvAt cx.D ρ D w N e' a->(∀ t∈looksAt ops o,e' t=e t)->Region.wanted o (yielded ops.toArray a.tmps)=c:=fun e' a ρ D w he hl=>by
        have hy:=AU hin he (want:=want) (c:=c) (by rw[AR hg hl];exact hb)
        simp_all[Region.wanted]
      split at hvc
      · rcases hvc with hvc|⟨hc,hvc⟩
        rotate_left 1
        · subst hc
          unfold gE at hvc
          split at hvc
          · rename_i fo args ats hop
            split at hvc
            · rename_i g caps fi hfo
              obtain⟨l,v,eff,hev,heff,hr⟩:=hvc
              refine⟨v,eff,l++al eff,⟨fun x hx=>YU _ hx,fun x hx=>(heff x hx).imp (fun h=>h.2) id,fun _=>by rw[hop];rfl,fun _=>by rw[hop];rfl,?_⟩,hr⟩
              intro X w0 I ρ e' M' a w hrel henv hl hm hfr hB J Q hJ
              rw[if_pos (hw e' a ρ _ w henv hl)]
              have hlo:=gf hl cx.G true
              have hops:o.op.operands.toList=fo::args.toList:=by simp_all[Op.operands,Call.operands]
              rw[hops]at hlo
              have honly:M'.only l=M.only l:=by
                funext x
                unfold ah.only
                simp_all
              refine pY (cx:=cx) hrel henv rfl hx hfr hB hop (by rw[hlo fo ZH];exact hfo) (l:=l) (v:=v) (eff:=eff) (by rw[honly,W7 (fun x hx=>hlo x (by simp[hx]))];exact hev) (fun x hx=>(heff x hx).imp (fun h=>h.1) id) Q J hJ
            simp_all
          simp_all
        unfold jx at hvc
        split at hvc
        · rename_i fo args ats hop
          split at hvc
          · rename_i g caps fi hfo
            obtain⟨l,v,hev,hr⟩:=hvc
            cases hbw:c with
            | false =>
              rw[hbw]at hr hw
              exact⟨_,[],l,skips _ l (.gd (fun h=>by cases h) (fun _=>rfl)) (fun _=>by rw[hop];rfl) hw,hr⟩
            | true =>
              rw[hbw]at hr hev hfo hw
              refine⟨_,[],l,⟨fun x hx=>by grind[al],fun x hx=>by grind[al],fun h=>absurd rfl h,fun _=>by rw[hop];rfl,?_⟩,hr⟩
              intro X w0 I ρ e' M' a w hrel henv hl hm hfr hB J Q hJ
              rw[if_pos (hw e' a ρ _ w henv hl)]
              have hlo:=gf hl cx.G true
              have hops:o.op.operands.toList=fo::args.toList:=by simp_all[Op.operands,Call.operands]
              rw[hops]at hlo
              have honly:M'.only l=M.only l:=by
                funext x
                unfold ah.only
                simp_all
              refine pY (cx:=cx) (l:=l) (eff:=[]) hrel henv rfl hx hfr hB hop (by rw[hlo fo ZH];exact hfo) (by rw[honly,W7 (fun x hx=>hlo x (by simp[hx]))];exact hev rfl) (fun x hx=>by grind[al]) Q J ?_
              intro cv w' hs
              obtain⟨ρ',g1,g2,g3,g4⟩:=hs
              exact hJ cv w' ⟨ρ',g1,g2,.gd (fun _=>g3) (fun h=>by cases h),g4⟩
          simp_all
        simp_all
      · by_cases hext:ou cx.P o.op=true
        · rw [if_pos hext]at hvc
          rcases hvc with ⟨v,ft,hst,hd,hr⟩|⟨h1,h2⟩
          · cases hbw:c with
            | false =>
              rw[hbw]at hr hw
              exact⟨_,[],ft,skips _ ft (.gd (fun h=>by cases h) (fun _=>rfl)) (fun hf=>(yN hext).2 (hst hf)) hw,hr⟩
            | true =>
              rw[hbw]at hr hd hw
              exact⟨_,[],ft,exts hext (hd rfl) hw (.gd true v) (fun hv=>.gd (fun _=>hv) (fun h=>by cases h)),hr⟩
          · cases hbw:c with
            | false =>
              rw[hbw]at hw
              exact⟨.any,[],[],skips .any [] (.any _) (fun h=>absurd rfl h) hw,h2 hbw⟩
            | true =>
              grind
        rw[if_neg hext]at hvc
        split at hvc
        · rename_i hsoft
          obtain⟨hok,hr⟩:=hvc
          have heff:∀ c,kU cx c e M (nm+16*i) o=[]:=fun c=>by
            clear hnc hext
            obtain⟨dst,op,type,pos,after,guard⟩:=o
            cases op<;>simp only[rW,WH]at hsoft<;>try rfl
            grind[kU,bN]
          cases hbw:c with
          | false =>
            rw[hbw]at hr hw
            exact⟨_,[],_,skips _ _ (.gd (fun h=>by cases h) (fun _=>rfl)) HB hw,hr⟩
          | true =>
            rw[hbw]at hr hok hw
            have hd:=does true rfl (hok rfl) hw (.gd true (j6 cx true e M (nm+16*i) o)) (fun hv=>.gd (fun _=>hv) (fun h=>by cases h))
            rw[heff true]at hd
            exact⟨_,[],_,hd,hr⟩
        · obtain⟨h1,h2⟩:=hvc
          cases hbw:c with
          | false =>
            rw[hbw]at hw
            exact⟨.any,[],[],skips .any [] (.any _) (fun h=>absurd rfl h) hw,h2 hbw⟩
          | true =>
            grind
    simp_all
def tu (P:Program)(ops:Array Oper)(Q:Exit->Act->World->Prop)(l:ZB)(a:Act)(w:World):Prop :=
 ∀(b:Frame) (k:List Item) (cs:List Frame),b.kind ≠ .early -> ∃ x a' w',Q x a' w'/\Arrives P (lone (b.at a (.inRegion ops l::k)) cs w) b k cs x a' w'
def tu.nil {P:Program}{ops:Array Oper}{Q:Exit->Act->World->Prop}{a:Act}{w:World}(h:Q .normal a w):tu P ops Q [] a w:=fun _ _ _ _=>⟨.normal,a,w,h,.one step_region_end⟩
def tu.step {P:Program}{ops:Array Oper}{Q:Exit->Act->World->Prop}{a:Act}{w:World}{i:Nat}{l:ZB}{o:Oper}(ho:ops[i]? = some o)
  (h:∀ K:Act->World->Prop,(∀ a w,tu P ops Q l a w->K a w)->if Region.wanted o (yielded ops a.tmps) then o.wp P a w K Q else K (a.put o.dst undef) w):tu P ops Q (i::l) a w:=by
 have h:=h _ (fun _ _ h=>h)
 intro b k cs hb
 have hfin:∀ v,(b.at a (.inRegion ops (i::l)::k)).finish v=b.at (a.put o.dst v) (.inRegion ops l::k):=fun v=>by rw[Frame.finish_at,ho];rfl
 split at h
 ·rename_i hw
  have hg:=stepG_op (P:=P) (b:=b) (k:=k) (cs:=cs) (w:=w) (rest:=l) ho hw
  have go:∀ {v:Value} {w':World},(stepG P true { frame:=b.at a (.inRegion ops (i::l)::k),callers:=cs,status:=.running,dying:=none } w).bare = .go { frame:=(b.at a (.inRegion ops (i::l)::k)).finish v,callers:=cs,status:=.running,dying:=none } w'->tu P ops Q l (a.put o.dst v) w' ->
    ∃ x a' w',Q x a' w'/\Arrives P (lone (b.at a (.inRegion ops (i::l)::k)) cs w) b k cs x a' w':=by
   intro v w' hs ht
   obtain⟨x,a',w'',hq,harr⟩:=ht b k cs hb
   rw[<- hfin]at harr
   exact⟨x,a',w'',hq,.of_steps (.one (step_lone_go hs)) harr⟩
  unfold Oper.wp at h
  generalize hr:(execOp a.eval o).run P w=res at h
  unfold Oper.upon at h
  split at h
  ·exact go (by simp_all[stepG.apply]) h
  ·exact go (by simp_all[stepG.apply]) h
  ·rename_i d w'
   obtain⟨x,a',w'',hq,harr⟩:=h b k cs hb
   refine⟨x,a',w'',hq,.of_steps (.one (step_lone_go ?_)) harr⟩
   have hfd:({ b.at a (.inRegion ops (i::l)::k) with defers:=d::a.defers } : Frame).finish undef=b.at ({ a with defers:=d::a.defers }.put o.dst undef) (.inRegion ops l::k):=by
    have:=Frame.finish_at b { a with defers:=d::a.defers } ops i l k undef
    rw[ho]at this;exact this
   rw[hg];simp only[stepG.apply,Sem.runT_eq,hr,GStep.bare_after]
   exact congrArg (fun fr=>GStep.go { frame:=fr,callers:=cs,status:=.running,dying:=none } w') hfd
  ·rename_i f args w'
   obtain⟨en,w'',fr,hR,hsteps,_,hleave⟩:=h (b.at a (.inRegion ops (i::l)::k)::cs)
   have henter:Go.step P (lone (b.at a (.inRegion ops (i::l)::k)) cs w) = .next (lone (Frame.enter P f args .normal) (b.at a (.inRegion ops (i::l)::k)::cs) w') :=
    step_lone_go (by simp_all[stepG.apply,Frame.at])
   cases en with
   | returned v =>
    obtain⟨x,a',w₃,hq,harr⟩:=hR b k cs hb
    rw[<- hfin]at harr
    exact⟨x,a',w₃,hq,.of_steps (.head henter (hsteps.trans (.one (step_leave_returned hleave)))) harr⟩
   | panicked chain =>
    refine⟨.panic chain,a,w'',hR,.inRegion ops (i::l)::k,.head henter (hsteps.trans (.one ?_))⟩
    rw[<- Frame.raise_at];exact step_leave_panicked hleave
   | outgrown =>
    obtain⟨a₀,w₀,hq⟩:=hR
    exact⟨.outgrown,a₀,w₀,hq,.inr (Outgrown.of_steps (.one henter) hsteps)⟩
  ·rename_i row args w'
   obtain⟨v,w'',hR,hsteps⟩:=h (b.at a (.inRegion ops (i::l)::k)) cs
   have henter:Go.step P (lone (b.at a (.inRegion ops (i::l)::k)) cs w) = .next (lone (Frame.ofRow P row args .normal) (b.at a (.inRegion ops (i::l)::k)::cs) w') :=
    step_lone_go (by simp_all[stepG.apply,Frame.at])
   obtain⟨x,a',w₃,hq,harr⟩:=hR b k cs hb
   rw[<- hfin]at harr
   exact⟨x,a',w₃,hq,.of_steps (.head henter hsteps) harr⟩
  ·rename_i v w'
   refine⟨_,a,w',h,.inRegion ops (i::l)::k,.one (step_lone_go ?_)⟩
   simp_all[Frame.raise_at,stepG.apply]
  simp_all
 ·rename_i hw
  obtain⟨x,a',w'',hq,harr⟩:=h b k cs hb
  have hs:=step_op_skip (P:=P) (b:=b) (a:=a) (k:=k) (cs:=cs) (w:=w) (ops:=ops) (i:=i) (rest:=l) (by simp_all)
  rw[ho]at hs
  exact⟨x,a',w'',hq,.of_steps (.one hs) harr⟩
def pj {ops:ZD}(hin:∀ o∈ops,qy N o=true){Q:Exit->Act->World->Prop}{K:Nat->Env->ah->Y9->Prop}{dr:Bool}{Kp:Nat->Env->ah->V->Prop}(hK:∀ n e M fs ρ a w,Lies cx N X w0 I ρ0 b0 n e M ρ a w->K n e M fs->Q .normal a w)
    (hKp:∀ n e M v cv ρ a w,Lies cx N X w0 I ρ0 b0 n e M ρ a w->Is ρ (bV X ρ M) w v cv->Kp n e M v->Q (.panic [{ v:=cv,recovered:=false }]) a w) :
    ∀(r:ZD) (nm i:Nat) (e:Env) (M:ah) (fs:Y9) (ρ:Names) (a:Act) (w:World),(∀ j,r[j]? = ops[i+j]?)->(∀ o∈r,qy N o=true)->Lies cx N X w0 I ρ0 b0 (nm+16*i) e M ρ a w->cU cx ops dr Kp r nm i e M fs K->tu cx.P ops.toArray Q (List.range' i r.length) a w
  | [],nm,i,e,M,fs,ρ,a,w,_,_,h,hvc=>.nil (hK _ e M fs ρ a w h hvc)
  | o::r,nm,i,e,M,fs,ρ,a,w,hro,hr,h,hvc=>by
    have ho:ops[i]? = some o:=by simpa using (hro 0).symm
    have hro':∀ j,r[j]? = ops[(i+1)+j]?:=fun j=>by have:=hro (j+1);grind
    rw[List.length_cons,List.range'_succ]
    by_cases hnc0:lJ o.op=true/\o.guard=none
    · have hnc:=hnc0.1
      have hcm:o.guard=none -> ∃ v eff,CommDoes cx o (nm+16*i) e M v eff/\cU cx ops dr Kp r nm (i+1) (e.putD o.dst v) (M.app eff) (fs++[al eff]) K:=fun hg=>by
        have h1:jZ o.op=false:=by
          obtain⟨dst,op,type,pos,after,guard⟩:=o
          cases op<;>first|rfl|simp_all[lJ]
        have h2:ou cx.P o.op=false:=by
          obtain⟨dst,op,type,pos,after,guard⟩:=o
          cases op<;>first|rfl|(simp[lJ]at hnc)
        simp_all[cU]
      cases hg:o.guard with
      | none =>
        obtain⟨v,eff,hd,hvc'⟩:=hcm hg
        have hwn:Region.wanted o (yielded ops.toArray a.tmps)=true:=by simp_all[Region.wanted]
        intro b k cs hb
        obtain⟨cv,w',hst,hs⟩:=hd.run N X w0 I ρ a w h.rel h.env (gL (hr o ZH)) b ops.toArray i (List.range' (i+1) r.length) k cs hb (by simpa using ho) hwn
        obtain⟨ρ',hl⟩:=h.step (ml (hr o ZH)) (IS _) hs (fun x hx=>by
          have g:=hd.live x hx
          rcases YE x (nm+16*i) with q|q
          · omega
          · rw[(h.free x q).1]at g;cases g) (u:=v) id
        obtain⟨x,a',w'',hq,harr⟩:=pj hin hK hKp r nm (i+1) _ _ _ ρ' _ _ hro' (fun o ho=>hr o (by simp[ho])) Y6 hvc' b k cs hb
        exact⟨x,a',w'',hq,.of_steps (.one hst) harr⟩
      | some p=>simp_all
    have hnc:o.guard=none->lJ o.op=false:=fun hg=>by
      simp_all
    refine .step (by simpa using ho) (fun J hJ=>?_)
    rcases Nx hin (hr o ZH) hnc (fun x hx=>(h.free x hx).1) hvc with ⟨v,eff,ft,hd,hvc'⟩|⟨hgn,hp⟩|⟨hgn,_,hp⟩
    rotate_left 2
    · rw [if_pos (by simp_all[Region.wanted])]
      unfold xp at hp
      split at hp
      · rename_i fo args ats hop
        split at hp
        · rename_i g caps fi hfo
          obtain⟨l,R,eff,hev,heff,hk⟩:=hp
          refine GE (cx:=cx) h.rel h.env rfl (gL (hr o ZH)) (fun x hx=>h.free x hx.1) ⟨_,h.free⟩ hop hfo hev (fun x hx=>(heff x hx).imp (fun h=>h.1) id) Q J ?_
          intro v cv w' hv hs
          obtain⟨ρ',hl⟩:=h.step (ml (hr o ZH)) (IS _) hs (fun x hx=>by
            rcases heff x hx with g|g
            · rcases YE x (nm+16*i) with q|q
              · omega
              · rw[(h.free x q).1]at g;cases g.2
            · exact g.2) (u:=v) id
          exact hJ _ _ (pj hin hK hKp r nm (i+1) _ _ _ ρ' _ _ hro' (fun o ho=>hr o (by simp[ho])) Y6 (hk v hv))
        simp_all
      simp_all
    rotate_left 1
    · rw [if_pos (by simp_all[Region.wanted])]
      unfold r6 at hp
      split at hp
      · rename_i fo args ats hop
        split at hp
        · rename_i g caps fi hfo
          obtain⟨l,v,hev,hk⟩:=hp
          refine JB (cx:=cx) h.rel h.env rfl (gL (hr o ZH)) (fun x hx=>h.free x hx.1) ⟨_,h.free⟩ hop hfo hev Q J ?_
          intro cv w' hs
          obtain⟨ρ',hl,hv⟩:=h.panic hs (fun x hx=>by
            rw[v7]
            split
            · rfl
            · exact(h.free x hx).1)
          grind
        simp_all
      · rename_i x hop
        split at hp
        · rename_i t v hxv
          have hx:=gL (hr o ZH) x (by simp_all[Op.operands])
          have he:=h.env.eval h.rel (c:=true) rfl hx
          rw[hxv]at he
          obtain⟨cv0,h1,h2⟩:∃ cv0,a.eval x = .iface t cv0/\Is ρ (bV X ρ M) w v cv0:=by
            generalize a.eval x=c0 at he
            cases he with
            | iface hi=>simp_all
          have hrun:(execOp a.eval o).run cx.P w = .halt (.panic (.iface t cv0)) w:=by
            unfold execOp
            simp only[hop,h1]
            rfl
          unfold Oper.wp
          rw[hrun]
          exact hKp _ _ _ _ _ ρ _ _ ⟨h.rel,h.env,fun x hx=>h.free x Y6,h.names,by have:=h.base;omega,h.low,h.top⟩ (.iface h2) hp
        simp_all
      simp_all
    refine hd.run X w0 I ρ e M a w h.rel h.env (fun _ _=>rfl) (fun _ _=>rfl) (fun x hx=>h.free x hx.1) ⟨_,h.free⟩ J Q ?_
    intro cv w' hs
    obtain⟨ρ',hl⟩:=h.step (ml (hr o ZH)) (IS _) hs (fun x hx=>by
      rcases hd.live x hx with g|g
      · rcases YE x (nm+16*i) with q|q
        · omega
        · rw[(h.free x q).1]at g;cases g
      · exact g.2) (u:=v) id
    exact hJ _ _ (pj hin hK hKp r nm (i+1) _ _ _ ρ' _ _ hro' (fun o ho=>hr o (by simp[ho])) Y6 hvc')
end
def pN (acc:ZB):List Edge->Nat
 | []=>0
 | e::r=>if Region.binds .any e=true then (2 ^ e.on ||| acc.getD e.on 0) ||| pN acc r else pN acc r
def iR:ZD->ZB->ZB
 | [],acc=>acc
 | o::r,acc=>iR r (acc++[pN acc o.after.toList])
def ob (ms:ZB)(i k:Nat):Bool:=(ms.getD k 0).testBit i
def na:∀(r:ZD) (acc:ZB),∃ s,iR r acc=acc++s/\s.length=r.length
 | [],acc=>⟨[],by simp[iR],rfl⟩
 | o::r,acc=>by
  obtain⟨s,h1,h2⟩:=na r (acc++[pN acc o.after.toList])
  simp_all[iR]
def Dj:∀(r:ZD) (acc:ZB) (j:Nat) (o:Oper),r[j]? = some o->(iR r acc)[acc.length+j]? = some (pN ((iR r acc).take (acc.length+j)) o.after.toList)
 | [],_,j,o,h=>by simp at h
 | p::r,acc,0,o,h=>by
  simp at h;subst h
  obtain⟨s,h1,h2⟩:=na (p::r) acc
  obtain⟨s',h3,h4⟩:=na r (acc++[pN acc p.after.toList])
  simp only[iR,h3,Nat.add_zero]
  simp_all
 | p::r,acc,j+1,o,h=>by
  have:=Dj r (acc++[pN acc p.after.toList]) j o (by simpa using h)
  simp only[iR]
  grind
def sM {acc:ZB}{i:Nat} : ∀(es:List Edge),(pN acc es).testBit i=true -> ∃ e∈es,Region.binds .any e=true/\(e.on=i\/(acc.getD e.on 0).testBit i=true)
 | [],h=>by grind[pN]
 | e::r,h=>by
  unfold pN at h
  split at h
  ·rename_i hb
   rw[Nat.testBit_or,Nat.testBit_or,Xf,Xf]at h
   rcases h with (h|h)|h
   ·grind
   ·simp_all
   ·obtain⟨e',h1,h2,h3⟩:=sM r h
    grind
  ·obtain⟨e',h1,h2,h3⟩:=sM r h
   grind
def Q1 {ops:ZD}{i k:Nat}{o:Oper}(ho:ops[k]? = some o)(h:ob (iR ops []) i k=true):∃ e∈o.after.toList,Region.binds .any e=true/\(e.on=i\/(e.on<k/\ob (iR ops []) i e.on=true)):=by
 have h1:=Dj ops [] k o ho
 simp only[List.length_nil,We]at h1
 unfold ob at h
 rw[XB,h1,Option.getD_some]at h
 obtain⟨e,h2,h3,h4⟩:=sM _ h
 grind[ob]
def oN (ops:ZD)(a b:Oper):Bool :=
 (match a.dst with|some d=>(looksAt ops b).contains d||b.dst==some d|none=>false)||(match b.dst with|some d=>(looksAt ops a).contains d|none=>false)
def ur (ops:ZD)(ms:ZB)(i k:Nat):Bool:=match ops[i]?,ops[k]? with
 | some a,some b=>!(oN ops a b)||ob ms i k
 | _,_=>true
def As (k:Nat)(o:Oper):Bool:=o.after.toList.all fun e=>!(Region.binds .any e)||decide (e.on<k)
def vr (ops:ZD)(ms:ZB):Bool:=(List.range ops.length).all fun k=>(match ops[k]? with|some o=>As k o|none=>true)&&(List.range k).all fun i=>ur ops ms i k
def Ar (ops:ZD):Bool:=vr ops (iR ops [])
def F6 (P:Program)(ops:ZD)(ms:ZB)(i k:Nat):Bool:=match ops[i]?,ops[k]? with
 | some a,some b=>((iY P a.op&&tJ P b.op)||(tJ P a.op&&iY P b.op)) && !(ob ms i k)
 | _,_=>false
def zk (P:Program)(ops:ZD)(ms:ZB):Y8:=(List.range ops.length).flatMap fun k=>(List.range k).filterMap fun i=>if F6 P ops ms i k then some (i,k) else none
def tQ (P:Program)(ops:ZD):Y8:=zk P ops (iR ops [])
def lC (P:Program)(ops:ZD)(fs:Y9):Prop:=∀ p∈tQ P ops,∀ x∈fs.getD p.1 [],x ∉ fs.getD p.2 []
def F7 {P:Program}{ops:ZD}{fs:Y9}(h:tQ P ops=[]):lC P ops fs:=by
 intro p hp;simp_all
structure T where
 v:V
 eff:List (Nat×Option Blk)
 ft:ZB
def Tr (cx:Cx)(N:Nat)(ops:ZD)(nm:Nat):ZD->List T->Nat->Env->ah->Prop
 | [],[],_,_,_=>True
 | o::r,t::ts,i,e,M=>OpDoes cx N ops o (nm+16*i) e M t.v t.eff t.ft/\Tr cx N ops nm r ts (i+1) (e.putD o.dst t.v) (M.app t.eff)
 | _,_,_,_,_=>False
def ek (D:Nat->Bool):ZD->List T->Nat->Env->Env
 | o::r,t::ts,i,e=>ek D r ts (i+1) (if D i then e.putD o.dst t.v else e)
 | _,_,_,e=>e
def c9 (D:Nat->Bool):List T->Nat->ah->ah
 | t::ts,i,M=>c9 D ts (i+1) (if D i then M.app t.eff else M)
 | [],_,M=>M
section
variable {cx:Cx} {N:Nat}
def ah.free_app {nm i:Nat}{o:Oper}{ops:ZD}{e:Env}{M:ah}{v:V}{eff:List (Nat×Option Blk)}{ft:ZB}(hd:OpDoes cx N ops o (nm+16*i) e M v eff ft)(hf:∀ x,nm+16*i<=x->M x=none):∀ x,nm+16*(i+1)<=x->(M.app eff) x=none:=fun x hx=>by
 rw[ah.app_of_notin]
 ·grind
 ·intro hxe
  rcases hd.live x hxe with h|h
  ·grind
  ·have:=h.2;omega
def R7 {ops:ZD}(hin:∀ o∈ops,qy N o=true){K:Nat->Env->ah->Y9->Prop}{dr:Bool}(hdr:dr=true){Kp:Nat->Env->ah->V->Prop}(hKp:∀ n e M v,¬ Kp n e M v){nm:Nat} : ∀(r:ZD) (i:Nat) (e:Env) (M:ah) (fs:Y9),(∀ o∈r,qy N o=true)->(∀ o∈r,lJ o.op=false)->(∀ x,nm+16*i<=x->M x=none)->cU cx ops dr Kp r nm i e M fs K ->
  ∃ ts:List T,Tr cx N ops nm r ts i e M/\ts.length=r.length/\K (nm+16*(i+r.length)) (ek (fun _=>true) r ts i e) (c9 (fun _=>true) ts i M) (fs++ts.map (·.ft))
 | [],i,e,M,fs,_,_,_,h=>⟨[],trivial,rfl,by simp_all[cU,ek,c9]⟩
 | o::r,i,e,M,fs,hr,hc,hf,h=>by
  rcases Nx hin (hr o ZH) (fun _=>hc o ZH) hf h with ⟨v,eff,ft,hd,h'⟩|⟨_,hp⟩|⟨_,hf,_⟩
  rotate_left 2
  ·simp_all
  rotate_left 1
  ·exfalso
   unfold r6 at hp
   grind
  obtain⟨ts,h1,h2,h3⟩:=R7 hin hdr hKp r (i+1) _ _ _ (fun o ho=>hr o (by simp[ho])) (fun o ho=>hc o (by simp[ho])) (ah.free_app hd hf) h'
  refine⟨⟨v,eff,ft⟩::ts,⟨hd,h1⟩,by simp[h2],?_⟩
  simp only[ek,c9,WQ,Wc,List.length_cons]
  grind
def Tr.at {ops:ZD}{nm:Nat} : ∀ {r:ZD} {ts:List T} {i:Nat} {e:Env} {M:ah},Tr cx N ops nm r ts i e M -> ∀ {j:Nat} {o:Oper} {t:T},r[j]? = some o->ts[j]? = some t ->
  OpDoes cx N ops o (nm+16*(i+j)) (ek (fun k=>decide (k<i+j)) r ts i e) (c9 (fun k=>decide (k<i+j)) ts i M) t.v t.eff t.ft
 | [],_,_,_,_,_,_,_,_,h,_=>by simp at h
 | _::_,[],_,_,_,h,_,_,_,_,_=>h.elim
 | o'::r,t'::ts,i,e,M,h,0,o,t,ho,ht=>by
  simp at ho ht;subst ho;subst ht
  have stopE:∀(r:ZD) (ts:List T) (k:Nat) (e:Env),i<=k->ek (fun k=>decide (k<i)) r ts k e=e:=by
   intro r
   induction r with
   | nil=>intro ts k e _;rfl
   | cons p r ih =>
    intro ts k e hk
    cases ts with
    | nil=>rfl
    | cons t ts=>simp only[ek];grind
  have stopM:∀(ts:List T) (k:Nat) (M:ah),i<=k->c9 (fun k=>decide (k<i)) ts k M=M:=by
   intro ts
   induction ts with
   | nil=>intro k M _;rfl
   | cons t ts ih=>intro k M hk;simp only[c9];grind
  simp only[Nat.add_zero]
  rw[stopE _ _ _ _ (IS _),stopM _ _ _ (IS _)]
  exact h.1
 | o'::r,t'::ts,i,e,M,h,j+1,o,t,ho,ht=>by
  have:=Tr.at h.2 (j:=j) (o:=o) (t:=t) (by simpa using ho) (by simpa using ht)
  simp only[ek,c9]
  grind
def ii {D D':Nat->Bool}{t:Nat} : ∀(r:ZD) (ts:List T) (i:Nat) (e e':Env),e t=e' t->(∀ j o,r[j]? = some o->o.dst=some t->D (i+j)=D' (i+j))->ek D r ts i e t=ek D' r ts i e' t
 | [],ts,i,e,e',h,_=>by cases ts<;>exact h
 | o::r,[],i,e,e',h,_=>h
 | o::r,t'::ts,i,e,e',h,hD=>by
  simp only[ek]
  refine ii r ts (i+1) _ _ ?_ (fun j o' hj hd=>by have:=hD (j+1) o' (by simpa using hj) hd;rwa[show i+(j+1)=i+1+j by omega]at this)
  have h0:=hD 0 o rfl
  simp only[Nat.add_zero]at h0
  by_cases hd:o.dst=some t
  ·rw[h0 hd]
   split
   ·rw[hd];simp[Env.putD,Env.put]
   ·exact h
  ·have he:∀(e:Env),(e.putD o.dst t'.v) t=e t:=fun e=>by
    cases ho:o.dst with
    | none=>rfl
    | some d =>
     have:t≠d:=fun q=>hd (by rw[ho,q])
     simp[Env.putD,Env.put,this]
   split<;>split<;>simp only[he,h]
def ij {D D':Nat->Bool}{x:Nat} : ∀(ts:List T) (i:Nat) (M M':ah),M x=M' x->(∀ j t,ts[j]? = some t->x∈al t.eff->D (i+j)=D' (i+j))->c9 D ts i M x=c9 D' ts i M' x
 | [],i,M,M',h,_=>h
 | t::ts,i,M,M',h,hD=>by
  simp only[c9]
  refine ij ts (i+1) _ _ ?_ (fun j t' hj hd=>by have:=hD (j+1) t' (by simpa using hj) hd;grind)
  have h0:=hD 0 t rfl
  simp only[Nat.add_zero]at h0
  by_cases hx:x∈al t.eff
  ·rw[h0 hx]
   split
   ·exact ah.app_congr (fun hn=>absurd hx hn)
   ·exact h
  ·split<;>split<;>simp only[ah.app_of_notin hx,h]
def vn {D:Nat->Bool}{t:Nat} : ∀(r:ZD) (ts:List T) (i:Nat) (e:Env) (j:Nat) (o:Oper) (q:T),r[j]? = some o->ts[j]? = some q->o.dst=some t->D (i+j)=true->(∀ k o',r[k]? = some o'->j<k->o'.dst=some t->D (i+k)=false)->ek D r ts i e t=q.v
 | [],_,_,_,j,_,_,h,_,_,_,_=>by simp at h
 | _::_,[],_,_,j,_,_,_,h,_,_,_=>by simp at h
 | o'::r,t'::ts,i,e,0,o,q,ho,hq,hd,hD,hl=>by
  simp at ho hq;subst ho;subst hq
  simp only[ek,Nat.add_zero]at hD ⊢
  rw[if_pos hD]
  have:=ii (D:=D) (D':=fun _=>false) (t:=t) r ts (i+1) (e.putD o'.dst t'.v) (e.putD o'.dst t'.v) rfl (fun k o2 hk hd2=>by have:=hl (k+1) o2 (by simpa using hk) Y6 hd2;grind)
  rw[this]
  have none:∀(r:ZD) (ts:List T) (i:Nat) (e:Env),ek (fun _=>false) r ts i e=e:=by
   intro r
   induction r with
   | nil=>intro ts i e;rfl
   | cons o r ih=>intro ts i e;cases ts with|nil=>rfl|cons t ts=>simp_all[ek]
  simp_all[Env.putD,Env.put]
 | o'::r,t'::ts,i,e,j+1,o,q,ho,hq,hd,hD,hl=>by
  simp only[ek]
  exact vn r ts (i+1) _ j o q (by simpa using ho) (by simpa using hq) hd (by grind) (fun k o2 hk hjk hd2=>by have:=hl (k+1) o2 (by simpa using hk) Y6 hd2;grind)
def vo {D:Nat->Bool}{x:Nat} : ∀(ts:List T) (i:Nat) (M:ah) (j:Nat) (q:T),ts[j]? = some q->x∈al q.eff->D (i+j)=true->(∀ k t',ts[k]? = some t'->j<k->x∈al t'.eff->D (i+k)=false) -> ∀ M':ah,c9 D ts i M x=(M'.app q.eff) x
 | [],_,_,j,_,h,_,_,_,_=>by simp at h
 | t'::ts,i,M,0,q,hq,hx,hD,hl,M'=>by
  simp at hq;subst hq
  simp only[c9,Nat.add_zero]at hD ⊢
  rw[if_pos hD]
  have:=ij (D:=D) (D':=fun _=>false) (x:=x) ts (i+1) (M.app t'.eff) (M.app t'.eff) rfl (fun k o2 hk hd2=>by have:=hl (k+1) o2 (by simpa using hk) Y6 hd2;grind)
  rw[this]
  have none:∀(ts:List T) (i:Nat) (M:ah),c9 (fun _=>false) ts i M=M:=by
   intro ts
   induction ts with
   | nil=>intro i M;rfl
   | cons t ts ih=>simp_all[c9]
  rw[none]
  exact ah.app_congr (fun hn=>absurd hx hn)
 | t'::ts,i,M,j+1,q,hq,hx,hD,hl,M'=>by
  simp only[c9]
  exact vo ts (i+1) _ j q (by simpa using hq) hx (by grind) (fun k o2 hk hjk hd2=>by have:=hl (k+1) o2 (by simpa using hk) Y6 hd2;grind) M'
def kG {D:Nat->Bool}{x:Nat} : ∀(ts:List T) (i:Nat) (M:ah),(c9 D ts i M x).isSome=true->(M x).isSome=true \/ ∃ j t,ts[j]? = some t/\D (i+j)=true/\x∈al t.eff
 | [],i,M,h=>.inl h
 | t::ts,i,M,h=>by
  simp only[c9]at h
  rcases kG ts (i+1) _ h with h1|⟨j,t',h1,h2,h3⟩
  ·by_cases hx:D i=true/\x∈al t.eff
   ·exact .inr ⟨0,t,rfl,by simp_all,hx.2⟩
   ·left
    split at h1
    ·rename_i hd
     rwa[ah.app_of_notin (fun hn=>hx ⟨hd,hn⟩)]at h1
    ·exact h1
  ·exact .inr ⟨j+1,t',by simpa using h1,by grind,h3⟩
end
section
variable {cx:Cx} {N:Nat} {X:Nat->Prop} {w0:World} {I:Nat->Prop} {ρ0:Names} {b0:Nat}
def Closed (ops:ZD)(D:Nat->Bool):Prop:=∀ k o,ops[k]? = some o->D k=true -> ∀ e∈o.after.toList,Region.binds .any e=true->D e.on=true
def sP {ops:ZD}{D:Nat->Bool}(hc:Closed ops D):∀(k j:Nat) (o:Oper),ops[k]? = some o->(∀ e∈o.after.toList,Region.binds .any e=true->D e.on=true)->ob (iR ops []) j k=true->D j=true:=by
 intro k
 induction k using Nat.strongRecOn with
 | _ k ih =>
  intro j o ho hd hob
  obtain⟨e,h1,h2,h3⟩:=Q1 ho hob
  rcases h3 with rfl|⟨h3,h4⟩
  ·simp_all
  ·have he:=hd e h1 h2
   cases hoe:ops[e.on]? with
   | none =>
    grind
   | some oe=>exact ih e.on h3 j oe hoe (hc e.on oe hoe he) h4
structure St (cx:Cx) (N:Nat) (X:Nat->Prop) (w0:World) (I:Nat->Prop) (ρ0:Names) (b0:Nat) (ops:ZD) (nm:Nat) (e0:Env) (M0:ah) (ts:List T) (D:Nat->Bool) (ρ:Names) (a:Act) (w:World):Prop where
 rel:Rel cx.G X w0 I ρ (c9 D ts 0 M0) w
 env:EnvAt cx.D ρ (bV X ρ (c9 D ts 0 M0)) w N (ek D ops ts 0 e0) a
 fresh:∀ i,i<ops.length->D i=false -> ∀ x,b9 (nm+16*i) x->ρ x=none
 high:∀ x,nm+16*ops.length<=x->ρ x=none
 names:∀ x l,ρ0 x=some l->ρ x=some l
 low:∀ x,x<b0->ρ x=ρ0 x
def HU {ops:ZD}(hin:∀ o∈ops,qy N o=true)(hok:Ar ops=true){nm:Nat}(hb0:b0<=nm){e0:Env}{M0:ah}{ts:List T}(hTr:Tr cx N ops nm ops ts 0 e0 M0)(hlen:ts.length=ops.length)(hfree:∀ x,nm<=x->M0 x=none)
    (hpairs:lC cx.P ops (ts.map (·.ft))) {Q:Exit->Act->World->Prop} (hQ:∀ ρ a w,St cx N X w0 I ρ0 b0 ops nm e0 M0 ts (fun _=>true) ρ a w->Q .normal a w) :
    ∀(fuel:Nat) (listed:Array Bool) (ρ:Names) (a:Act) (w:World),listed.size=ops.length->((List.range ops.length).filter fun i=>!listed.getD i false).length<=fuel->Closed ops (fun k=>listed.getD k false) ->
      St cx N X w0 I ρ0 b0 ops nm e0 M0 ts (fun k=>listed.getD k false) ρ a w->wpAny cx.P .any ops.toArray Q fuel listed a w:=by
  -- what the check says
  have hchk:∀ k o,ops[k]? = some o->As k o=true /\ ∀ i,i<k->ur ops (iR ops []) i k=true:=fun k o ho=>by
    have hk:=(AS.1 ho).1
    unfold Ar vr at hok
    rw[WI]at hok
    have h1:=hok k (by simpa using hk)
    rw[In,ho]at h1
    refine⟨h1.1,fun i hi=>?_⟩
    have h2:=h1.2
    rw[WI]at h2
    exact h2 i (by simpa using hi)
  have hts:∀ k o,ops[k]? = some o -> ∃ t,ts[k]? = some t:=fun k o ho=>by
    have hk:=(AS.1 ho).1
    exact⟨ts[k],AT Y6⟩
  have hos:∀(k:Nat) (t:T),ts[k]? = some t -> ∃ o,ops[k]? = some o:=fun k t ht=>by
    have hk:=(AS.1 ht).1
    exact⟨ops[k],AT Y6⟩
  have hdo:∀ k o t,ops[k]? = some o->ts[k]? = some t->OpDoes cx N ops o (nm+16*k) (ek (fun j=>decide (j<k)) ops ts 0 e0) (c9 (fun j=>decide (j<k)) ts 0 M0) t.v t.eff t.ft:=fun k o t ho ht=>by
    have:=hTr.at ho ht
    simpa using this
  have ftAt:∀ k t,ts[k]? = some t->(ts.map (·.ft)).getD k []=t.ft:=fun k t ht=>by
    rw[XB,WG,ht];rfl
  -- two that touch one name,one writing: the later waits for the earlier
  have memOrd:∀ i k oi ok ti tk x,i<k->ops[i]? = some oi->ops[k]? = some ok->ts[i]? = some ti->ts[k]? = some tk->x∈ti.ft->x∈tk.ft->(x∈al ti.eff\/x∈al tk.eff)->ob (iR ops []) i k=true:=by
    intro i k oi ok ti tk x hik hoi hok' hti htk hxi hxk hw
    cases hob:ob (iR ops []) i k with
    | true=>rfl
    | false =>
      exfalso
      have di:=hdo i oi ti hoi hti
      have dk:=hdo k ok tk hok' htk
      have hp:(i,k)∈tQ cx.P ops:=by
        unfold tQ zk
        rw[List.mem_flatMap]
        refine⟨k,by simpa using (AS.1 hok').1,?_⟩
        rw[List.mem_filterMap]
        refine⟨i,by simpa using hik,?_⟩
        have hm1:=di.mem (fun h=>by rw[h]at hxi;cases hxi)
        have hm2:=dk.mem (fun h=>by rw[h]at hxk;cases hxk)
        have:F6 cx.P ops (iR ops []) i k=true:=by
          unfold F6
          rw[hoi,hok']
          simp only[hob,Yb,Wz]
          rcases hw with hw|hw
          · have:=di.writer (fun h=>by rw[h]at hw;simp[al]at hw)
            simp[this,hm2]
          · have:=dk.writer (fun h=>by rw[h]at hw;simp[al]at hw)
            simp[this,hm1]
        rw[if_pos this]
      have:=hpairs (i,k) hp x (by simp only[ftAt i ti hti];exact hxi)
      exact this (by simp only[ftAt k tk htk];exact hxk)
  -- a fresh name of an operation is first laid by it
  have freshFirst:∀ k t i oi ti x,ts[k]? = some t->ops[i]? = some oi->ts[i]? = some ti->x∈al t.eff->b9 (nm+16*i) x->i≠k->i<k/\x∈al ti.eff:=by
    intro k
    induction k using Nat.strongRecOn with
    | _ k ih =>
      intro t i oi ti x ht hoi hti hx hfr hik
      obtain⟨o,ho⟩:=hos k t ht
      rcases(hdo k o t ho ht).live x hx with h1|h1
      · rcases kG ts 0 M0 h1 with h2|⟨j,tj,h2,h3,h4⟩
        · rw[hfree x (by have:=hfr.1;omega)]at h2;cases h2
        · have hj:j<k:=by simpa using h3
          by_cases e:i=j
          · subst e
            rw[hti]at h2;cases h2
            exact⟨hj,h4⟩
          · obtain⟨g1,g2⟩:=ih j hj tj i oi ti x h2 hoi hti h4 hfr e
            exact⟨by omega,g2⟩
      · exfalso
        have:=hfr.1;have:=hfr.2;have:=h1.1;have:=h1.2
        omega
  intro fuel
  induction fuel with
  | zero =>
    intro listed ρ a w hsz hcnt hcl hst
    have hall:∀ i,i<ops.length->listed.getD i false=true:=fun i hi=>by
      have h0:((List.range ops.length).filter fun i=>!listed.getD i false)=[]:=Wp Y6
      rw[List.filter_eq_nil_iff]at h0
      have:=h0 i (by simpa using hi)
      simpa using this
    refine⟨?_,?_⟩
    · unfold Region.ready
      rw[List.filter_eq_nil_iff]
      intro i hi
      have hi':i<ops.length:=by simpa using hi
      have hl:=hall i hi'
      have hl2:listed.getD i true=true:=by
        simp only[Wu,Wg (show i<listed.size by omega),Option.getD_some]at hl ⊢
        exact hl
      simp[hl2]
    · refine hQ ρ a w ?_
      have eE:ek (fun k=>listed.getD k false) ops ts 0 e0=ek (fun _=>true) ops ts 0 e0:=funext fun t=>ii ops ts 0 e0 e0 rfl (fun j o hj _=>by simpa using hall j (AS.1 hj).1)
      have eM:c9 (fun k=>listed.getD k false) ts 0 M0=c9 (fun _=>true) ts 0 M0:=funext fun x=>ij ts 0 M0 M0 rfl (fun j t hj _=>by simpa using hall j (by have:=(AS.1 hj).1;omega))
      obtain⟨h1,h2,h3,h4,h5,h6⟩:=hst
      rw[eM]at h1 h2
      rw[eE]at h2
      exact⟨h1,h2,(fun i _ h=>by cases h),h4,h5,h6⟩
  | succ fuel ih =>
    intro listed ρ a w hsz hcnt hcl hst
    refine⟨?_,?_⟩
    · -- nothing is ready: all are done
      intro hr
      have hall:∀ i,i<ops.length->listed.getD i false=true:=by
        intro i
        induction i using Nat.strongRecOn with
        | _ i ih2 =>
          intro hi
          cases hl:listed.getD i false with
          | true=>rfl
          | false =>
            exfalso
            have hl2:listed.getD i true=false:=by
              simp only[Wu,Wg (show i<listed.size by omega),Option.getD_some]at hl ⊢
              exact hl
            have hmem:i∈Region.ready .any ops.toArray listed:=by
              unfold Region.ready
              rw[YM]
              refine⟨by simpa using hi,?_⟩
              have ho:ops[i]? = some ops[i]:=AT hi
              simp only[hl2,Yb,Wq,Xs,ho,Option.map_some,Option.getD_some]
              rw[<- Array.all_toList,WI]
              intro e he
              have h1:=(hchk i _ ho).1
              unfold As at h1
              rw[WI]at h1
              have h2:=h1 e he
              cases hb:Region.binds .any e with
              | false=>rfl
              | true =>
                rw[hb]at h2
                have h3:e.on<i:=by simpa using h2
                rw[ih2 e.on h3 Y6]
                rfl
            rw[hr]at hmem
            cases hmem
      refine hQ ρ a w ?_
      have eE:ek (fun k=>listed.getD k false) ops ts 0 e0=ek (fun _=>true) ops ts 0 e0:=funext fun t=>ii ops ts 0 e0 e0 rfl (fun j o hj _=>by simpa using hall j (AS.1 hj).1)
      have eM:c9 (fun k=>listed.getD k false) ts 0 M0=c9 (fun _=>true) ts 0 M0:=funext fun x=>ij ts 0 M0 M0 rfl (fun j t hj _=>by simpa using hall j (by have:=(AS.1 hj).1;omega))
      obtain⟨h1,h2,h3,h4,h5,h6⟩:=hst
      rw[eM]at h1 h2
      rw[eE]at h2
      exact⟨h1,h2,(fun i _ h=>by cases h),h4,h5,h6⟩
    · intro i hi
      unfold Region.ready at hi
      rw[YM]at hi
      obtain⟨hi1,hi2⟩:=hi
      have hi':i<ops.length:=by simpa using hi1
      have ho:ops[i]? = some ops[i]:=AT hi'
      generalize hoo:ops[i]=o at ho
      simp only[Xs,ho,Option.map_some,Option.getD_some,In]at hi2
      obtain⟨hnl,hedges⟩:=hi2
      have hnl':listed.getD i false=false:=by
        simp only[Wu,Wg (show i<listed.size by omega),Option.getD_some]at hnl ⊢
        simpa using hnl
      have hdirect:∀ e∈o.after.toList,Region.binds .any e=true->listed.getD e.on false=true:=fun e he hb=>by
        rw[<- Array.all_toList,WI]at hedges
        have:=hedges e he
        rw[hb]at this
        simpa using this
      obtain⟨t,ht⟩:=hts i o ho
      have hd:=hdo i o t ho ht
      -- those that it has to wait for are done;those that wait for it are not
      have before:∀ j,ob (iR ops []) j i=true->listed.getD j false=true:=fun j hj=>sP (D:=fun k=>listed.getD k false) hcl i j o ho hdirect hj
      have behind:∀ k ok,ops[k]? = some ok->ob (iR ops []) i k=true->listed.getD k false=false:=fun k ok hk hob=>by
        cases hl:listed.getD k false with
        | false=>rfl
        | true =>
          have:=sP (D:=fun k=>listed.getD k false) hcl k i ok hk (hcl k ok hk hl) hob
          rw[hnl']at this;cases this
      -- a temporary that it names: just those ahead of it in the text have been written
      have tmpD:∀ t',t'∈looksAt ops o\/o.dst=some t' -> ∀ j oj,ops[j]? = some oj->oj.dst=some t'->j≠i->listed.getD j false=decide (j<i):=by
        intro t' ht' j oj hj hdj hji
        rcases YN hji with hlt|hgt
        · rw[AI hlt]
          have hc:=(hchk i o ho).2 j hlt
          unfold ur at hc
          rw[hj,ho]at hc
          have hcl2:oN ops oj o=true:=by
            unfold oN
            rw[hdj]
            rcases ht' with h1|h1
            · simp[h1]
            · simp[h1]
          simp only[hcl2,Yj,XN]at hc
          exact before j hc
        · rw[WA Y6]
          have hc:=(hchk j oj hj).2 i hgt
          unfold ur at hc
          rw[hj,ho]at hc
          have hcl2:oN ops o oj=true:=by
            unfold oN
            rw[hdj]
            rcases ht' with h1|h1
            · simp[h1]
            · simp[h1]
          simp only[hcl2,Yj,XN]at hc
          exact behind j oj hj hc
      have memD:∀ x,x∈t.ft -> ∀ j tj,ts[j]? = some tj->x∈al tj.eff->j≠i->listed.getD j false=decide (j<i):=by
        intro x hx j tj hj hxj hji
        obtain⟨oj,hoj⟩:=hos j tj hj
        have hxf:=(hdo j oj tj hoj hj).names x hxj
        rcases YN hji with hlt|hgt
        · rw[AI hlt]
          exact before j (memOrd j i oj o tj t x hlt hoj ho hj ht hxf hx (.inl hxj))
        · rw[WA Y6]
          exact behind j oj hoj (memOrd i j o oj t tj x hgt ho hoj ht hj hx hxf (.inr hxj))
      have freshM:∀ k ok,ops[k]? = some ok->listed.getD k false=false -> ∀ x,b9 (nm+16*k) x->c9 (fun k=>listed.getD k false) ts 0 M0 x=none:=by
        intro k ok hk hlk x hx
        cases hs:c9 (fun k=>listed.getD k false) ts 0 M0 x with
        | none=>rfl
        | some b =>
          exfalso
          rcases kG ts 0 M0 (x:=x) (D:=fun k=>listed.getD k false) (by rw[hs];rfl) with h1|⟨j,tj,h1,h2,h3⟩
          · rw[hfree x (by have:=hx.1;omega)]at h1;cases h1
          · simp only[We]at h2
            obtain⟨tk,htk⟩:=hts k ok hk
            have hkj:k≠j:=fun e=>by subst e;rw[hlk]at h2;cases h2
            obtain⟨g1,g2⟩:=freshFirst j tj k ok tk x h1 hk htk h3 hx hkj
            obtain⟨oj,hoj⟩:=hos j tj h1
            have hob:=memOrd k j ok oj tk tj x g1 hk hoj htk h1 ((hdo k ok tk hk htk).names x g2) ((hdo j oj tj hoj h1).names x h3) (.inl g2)
            have:=sP (D:=fun k=>listed.getD k false) hcl j k oj hoj (hcl j oj hoj h2) hob
            rw[hlk]at this;cases this
      have highM:∀ x,nm+16*ops.length<=x->c9 (fun k=>listed.getD k false) ts 0 M0 x=none:=by
        have gen:∀ x,nm+16*ops.length<=x -> ∀(j:Nat) (tj:T),ts[j]? = some tj->x ∉ al tj.eff:=by
          intro x hx j
          induction j using Nat.strongRecOn with
          | _ j ihj =>
            intro tj hj hxe
            obtain⟨oj,hoj⟩:=hos j tj hj
            have hjl:=(AS.1 hoj).1
            rcases(hdo j oj tj hoj hj).live x hxe with h1|h1
            · rcases kG ts 0 M0 h1 with h2|⟨q,tq,h2,h3,h4⟩
              · rw[hfree x Y6]at h2;cases h2
              · exact ihj q (by simpa using h3) tq h2 h4
            · have:=h1.2
              omega
        intro x hx
        cases hs:c9 (fun k=>listed.getD k false) ts 0 M0 x with
        | none=>rfl
        | some b =>
          exfalso
          rcases kG ts 0 M0 (x:=x) (D:=fun k=>listed.getD k false) (by rw[hs];rfl) with h1|⟨j,tj,h1,_,h3⟩
          · rw[hfree x Y6]at h1;cases h1
          · exact gen x hx j tj h1 h3
      have hrun:=hd.run X w0 I ρ (ek (fun k=>listed.getD k false) ops ts 0 e0) (c9 (fun k=>listed.getD k false) ts 0 M0) a w hst.rel hst.env
        (fun t' ht'=>ii ops ts 0 e0 e0 rfl (fun j oj hj hdj=>by
          simp only[We]
          by_cases hji:j=i
          · subst hji;rw[hnl'];simp
          · exact tmpD t' (.inl ht') j oj hj hdj hji))
        (fun x hx=>ij ts 0 M0 M0 rfl (fun j tj hj hxj=>by
          simp only[We]
          by_cases hji:j=i
          · subst hji;rw[hnl'];simp
          · exact memD x hx j tj hj hxj hji))
        (fun x hx=>⟨freshM i o ho hnl' x hx,hst.fresh i hi' hnl' x hx⟩) ⟨nm+16*ops.length,fun x hx=>⟨highM x hx,hst.high x hx⟩⟩
        (wpAny cx.P .any ops.toArray Q fuel (listed.setIfInBounds i true)) Q
      have hset:∀ k,(listed.setIfInBounds i true).getD k false=if k=i then true else listed.getD k false:=fun k=>by
        simp only[Wu,Array.getElem?_setIfInBounds]
        by_cases e:i=k
        · subst e;simp[show i<listed.size by omega]
        · rw[if_neg e,if_neg (fun h=>e h.symm)]
      have hnext:=hrun (fun cv w' hs=>by
        obtain⟨ρ',r1,m1,v1,n1⟩:=hs
        have eE:ek (fun k=>(listed.setIfInBounds i true).getD k false) ops ts 0 e0=(ek (fun k=>listed.getD k false) ops ts 0 e0).putD o.dst t.v:=by
          funext t'
          by_cases hdt:o.dst=some t'
          · have h1:=vn (D:=fun k=>(listed.setIfInBounds i true).getD k false) (t:=t') ops ts 0 e0 i o t ho ht hdt (by simp only[We,hset,WQ]) (fun k ok hk hik hdk=>by
              simp only[We,hset]
              rw[if_neg Y6,tmpD t' (.inr hdt) k ok hk hdk Y6]
              simp;omega)
            rw[h1,hdt]
            simp[Env.putD,Env.put]
          · have h1:((ek (fun k=>listed.getD k false) ops ts 0 e0).putD o.dst t.v) t'=ek (fun k=>listed.getD k false) ops ts 0 e0 t':=by
              cases hod:o.dst with
              | none=>rfl
              | some d =>
                have:t'≠d:=fun q=>hdt (by rw[hod,q])
                simp[Env.putD,Env.put,this]
            rw[h1]
            refine ii ops ts 0 e0 e0 rfl (fun j oj hj hdj=>?_)
            simp only[We,hset]
            rw[if_neg (fun e=>by subst e;rw[ho]at hj;cases hj;exact hdt hdj)]
        have eM:c9 (fun k=>(listed.setIfInBounds i true).getD k false) ts 0 M0=(c9 (fun k=>listed.getD k false) ts 0 M0).app t.eff:=by
          funext x
          by_cases hxe:x∈al t.eff
          · exact vo (D:=fun k=>(listed.setIfInBounds i true).getD k false) ts 0 M0 i t ht hxe (by simp only[We,hset,WQ]) (fun k tk hk hik hxk=>by
              simp only[We,hset]
              rw[if_neg Y6,memD x (hd.names x hxe) k tk hk hxk Y6]
              simp;omega) _
          · rw[ah.app_of_notin hxe]
            refine ij ts 0 M0 M0 rfl (fun j tj hj hxj=>?_)
            simp only[We,hset]
            rw[if_neg (fun e=>by subst e;rw[ht]at hj;cases hj;exact hxe hxj)]
        refine ih (listed.setIfInBounds i true) ρ' _ w' (by simpa using hsz) ?_ ?_ ⟨?_,?_,?_,?_,?_,?_⟩
        · have hlt:((List.range ops.length).filter fun k=>!(listed.setIfInBounds i true).getD k false).length<((List.range ops.length).filter fun k=>!listed.getD k false).length:=by
            have hsub:((List.range ops.length).filter fun k=>!(listed.setIfInBounds i true).getD k false)=((List.range ops.length).filter fun k=>!listed.getD k false).filter (fun k=>decide (k≠i)):=by
              rw[List.filter_filter]
              refine List.filter_congr (fun k _=>?_)
              rw[hset]
              by_cases e:k=i<;>simp[e]
            rw[hsub]
            have hm:i∈(List.range ops.length).filter fun k=>!listed.getD k false:=by
              rw[YM];exact⟨by simpa using hi',by rw[hnl'];rfl⟩
            generalize ((List.range ops.length).filter fun k=>!listed.getD k false)=L at hm
            have:=List.length_filter_lt_length_iff_exists (p:=fun k=>decide (k≠i)) (l:=L)
            exact this.2 ⟨i,hm,by simp⟩
          omega
        · intro k ok hk hDk e he hb
          simp only[hset]at hDk ⊢
          split
          · rfl
          · split at hDk
            · rename_i hki
              subst hki
              rw[ho]at hk;cases hk
              exact hdirect e he hb
            · exact hcl k ok hk hDk e he hb
        · rw[eM];exact r1
        · rw[eM,eE]
          exact(hst.env.moves m1).put o.dst (ml (hin o (By ho))) v1
        · intro k hk hDk x hx
          simp only[hset]at hDk
          split at hDk
          · cases hDk
          · rename_i hki
            rw[n1 x (fun hf=>by have:=hf.1;have:=hf.2;have:=hx.1;have:=hx.2;omega)]
            exact hst.fresh k hk hDk x hx
        · intro x hx
          rw[n1 x (fun hf=>by have:=hf.2;omega)]
          exact hst.high x hx
        · exact fun x l hx=>m1.names x l (hst.names x l hx)
        · intro x hx
          rw[n1 x (fun hf=>by have:=hf.1;omega),hst.low x hx])
      unfold wpOp
      simp only[Xs,ho]
      split
      · rename_i hw
        rw[if_pos hw]at hnext
        exact .inl hnext
      · rename_i hw
        rw[if_neg hw]at hnext
        exact hnext
end
def kA (P:Program)(c:Code)(Q:Exit->Act->World->Prop)(a:Act)(w:World):Prop :=
 ∀(b:Frame) (k:List Item) (cs:List Frame),b.kind ≠ .early -> ∃ e a' w',Q e a' w'/\Arrives P (lone (b.at a (.code c::k)) cs w) b k cs e a' w'
section
variable {P:Program} {Q:Exit->Act->World->Prop} {a:Act} {w:World}
def kA.of {c:Code}(h:c.wp P Q a w):kA P c Q a w:=fun b k cs _=>h b k cs
def kA.mono {c:Code}{Q':Exit->Act->World->Prop}(h:kA P c Q a w)(hq:∀ e a w,Q e a w->Q' e a w):kA P c Q' a w :=
 fun b k cs hb=>let ⟨e,a',w',q,r⟩:=h b k cs hb;⟨e,a',w',hq _ _ _ q,r⟩
def qM {m:Machine}{b:Frame}{x:Item}{k:List Item}{cs:List Frame}{e:Exit}{a:Act}{w:World}(hx:x.plain=true)(he:e ≠ .normal)(h:Arrives P m b (x::k) cs e a w):Arrives P m b k cs e a w :=
 .pass hx (fun _ _=>.inl he) h
def kA.seq {x y:Code}(h:kA P x (Exit.then (kA P y Q) Q) a w):kA P (.seq x y) Q a w:=by
 intro b k cs hb
 obtain⟨e,a₁,w₁,hq,harr⟩:=h b (.code y::k) cs hb
 by_cases he:e = .normal
 ·subst he
  obtain⟨e₂,a₂,w₂,hq₂,harr₂⟩:=hq b k cs hb
  exact⟨e₂,a₂,w₂,hq₂,.of_steps (.head step_seq harr) harr₂⟩
 ·refine⟨e,a₁,w₁,?_,.of_steps (.one step_seq) (qM rfl he harr)⟩
  cases e<;>first|exact absurd rfl he|exact hq
def kA.cond {c:Operand}{x y:Code}{t:Bool}(hc:a.eval c = .bool t)(ht:t=true->kA P x Q a w)(hf:t=false->kA P y Q a w):kA P (.cond c x y) Q a w:=by
 intro b k cs hb
 have key:kA P (if t then x else y) Q a w:=by cases t<;>first|exact hf rfl|exact ht rfl
 obtain⟨e,a',w',q,r⟩:=key b k cs hb
 exact⟨e,a',w',q,.of_steps (.one (step_cond hc)) r⟩
def kA.block {id:Nat}{c:Code}(h:kA P c (Exit.inBlock id Q) a w):kA P (.block id c) Q a w:=by
 intro b k cs hb
 obtain⟨e,a₁,w₁,hq,harr⟩:=h b (.inBlock id::k) cs hb
 cases e with
 | normal=>exact⟨.normal,a₁,w₁,hq,.head step_block (Steps.trans harr (.one step_inBlock))⟩
 | exit id' =>
  by_cases hid:id'=id
  ·simp only[Exit.inBlock,hid,WQ]at hq
   exact⟨.normal,a₁,w₁,hq,.head step_block (harr k (by simp[exitTo,hid]))⟩
  ·simp only[Exit.inBlock,hid,WS]at hq
   refine⟨.exit id',a₁,w₁,hq,fun k' hk=>.head step_block (harr k' ?_)⟩
   have:(id==id')=false:=by simp;exact fun h=>hid h.symm
   simp[exitTo,this,hk]
 | goto l=>exact⟨_,a₁,w₁,hq,fun k' hk=>.head step_block (harr k' (by simp[gotoIn,hk]))⟩
 | ret=>exact⟨_,a₁,w₁,hq,.of_steps (.one step_block) harr⟩
 | panic ch=>exact⟨_,a₁,w₁,hq,.of_steps (.one step_block) harr⟩
 | outgrown=>exact⟨_,a₁,w₁,hq,.of_steps (b:=b) (k:=k) (cs:=cs) (e:=.outgrown) (.one step_block) harr⟩
def kA.scope {c:Code}(h:kA P c (Exit.noGoto Q) a w):kA P (.scope c) Q a w:=by
 intro b k cs hb
 obtain⟨e,a₁,w₁,hq,harr⟩:=h b (.inScope c::k) cs hb
 cases e with
 | normal=>exact⟨.normal,a₁,w₁,hq,.head step_scope (Steps.trans harr (.one step_inScope))⟩
 | exit id=>exact⟨.exit id,a₁,w₁,hq,fun k' hk=>.head step_scope (harr k' (by simp[exitTo,hk]))⟩
 | goto l=>exact hq.elim
 | ret=>exact⟨_,a₁,w₁,hq,.of_steps (.one step_scope) harr⟩
 | panic ch=>exact⟨_,a₁,w₁,hq,.of_steps (.one step_scope) harr⟩
 | outgrown=>exact⟨_,a₁,w₁,hq,.of_steps (.one step_scope) harr⟩
def kA.loop {c:Code}(I:Nat->Act->World->Prop)(n₀:Nat)(h₀:I n₀ a w)(round:∀ n a w,I n a w->kA P c (Exit.then (fun a' w'=>∃ n',n'<n/\I n' a' w') Q) a w):kA P (.loop c) Q a w:=by
 intro b k cs hb
 have key:∀ n a w,I n a w -> ∃ e a' w',Q e a' w'/\Arrives P (lone (b.at a (.code c :: .inLoop c::k)) cs w) b k cs e a' w':=by
  intro n
  induction n using Nat.strongRecOn with
  | _ n ih =>
   intro a w hI
   obtain⟨e,a₁,w₁,hq,harr⟩:=round n a w hI b (.inLoop c::k) cs hb
   by_cases he:e = .normal
   ·subst he
    obtain⟨n',hlt,hI'⟩:=hq
    obtain⟨e₂,a₂,w₂,hq₂,harr₂⟩:=ih n' hlt a₁ w₁ hI'
    exact⟨e₂,a₂,w₂,hq₂,.of_steps (Steps.trans harr (.one step_inLoop)) harr₂⟩
   ·refine⟨e,a₁,w₁,?_,qM rfl he harr⟩
    cases e<;>first|exact absurd rfl he|exact hq
 obtain⟨e,a',w',hq,harr⟩:=key n₀ a w h₀
 exact⟨e,a',w',hq,.of_steps (.one step_loop) harr⟩
def kA.region {id:Nat}{ops:Array Oper}(h:tu P ops Q (List.range' 0 ops.toList.length) a w):kA P (.region id ops false) Q a w:=by
 intro b k cs hb
 obtain⟨e,a',w',hq,harr⟩:=h b k cs hb
 refine⟨e,a',w',hq,.of_steps (.one step_region) ?_⟩
 rw[List.range_eq_range',<- Array.length_toList]
 exact harr
def mT {f:FuncId}{fn:Func}{c:Code}{args:ZG}{R:Ending->World->Prop}(hf:P.funcs[f]? = some fn)(hb:fn.body=some c)
  (h:kA P c (bodyPost P fn R) { tmps:=args++Array.replicate (fn.ntmps-args.size) undef,defers:=[] } w):Calls P f args w R:=by
 intro cs
 have henter:Frame.enter P f args .normal=({ (default:Frame) with fn:=f,kind:=.normal } : Frame).at { tmps:=args++Array.replicate (fn.ntmps-args.size) undef,defers:=[] } [.code c]:=by
  simp[Frame.enter,Frame.at,hf,hb]
 obtain⟨e,a',w',hq,harr⟩:=h { (default:Frame) with fn:=f,kind:=.normal } [] cs ZH
 rw[<- henter]at harr
 cases e with
 | normal =>
  obtain⟨hd,v,hr,hR⟩:=hq
  exact⟨.returned v,w',_,hR,Steps.trans harr (.one step_end),rfl,rfl,hd,rfl,fn,hf,hr⟩
 | ret =>
  obtain⟨hd,v,hr,hR⟩:=hq
  obtain⟨todo,hs⟩:=harr
  exact⟨.returned v,w',_,hR,hs,rfl,rfl,hd,rfl,fn,hf,hr⟩
 | panic chain =>
  obtain⟨hd,hR⟩:=hq
  obtain⟨todo,hs⟩:=harr
  exact⟨.panicked chain,w',_,hR,hs,rfl,rfl,hd,fn,hf⟩
 | exit id=>exact hq.elim
 | goto l=>exact hq.elim
 | outgrown=>exact⟨.outgrown,w',{ (default:Frame) with fn:=f,kind:=.normal },hq,harr.resolve_left ZH,rfl,trivial⟩
end
inductive Ex where
 | normal
 | exit (id:Nat)
 | ret
 | panic (v:V)
def pW (cx:Cx)(b0:Nat)(nm:Nat)(e:Env)(M:ah)(nm':Nat)(e':Env)(M':ah):Prop :=
 ∀(N:Nat) (X:Nat->Prop) (w0:World) (I:Nat->Prop) (ρ0 ρ:Names) (a:Act) (w:World),Lies cx N X w0 I ρ0 b0 nm e M ρ a w -> ∃ ρ',Lies cx N X w0 I ρ0 b0 nm' e' M' ρ' a w
def pW.refl (cx:Cx)(b0 nm:Nat)(e:Env)(M:ah):pW cx b0 nm e M nm e M:=fun _ _ _ _ _ ρ _ _ h=>⟨ρ,h⟩
def vc (cx:Cx)(b0:Nat):Code->(Ex->Nat->Env->ah->Prop)->Nat->Env->ah->Prop
 | .skip,Q,nm,e,M=>Q .normal nm e M
 | .label _,Q,nm,e,M=>Q .normal nm e M
 | .region _ ops draw,Q,nm,e,M=>cU cx ops.toList draw (fun n e M v=>draw=false/\Q (.panic v) n e M) ops.toList nm 0 e M [] (fun n e M fs=>(draw=true->lC cx.P ops.toList fs)/\Q .normal n e M)
 | .seq a b,Q,nm,e,M=>vc cx b0 a (fun x n e M=>match x with | .normal=>vc cx b0 b Q n e M | .exit id=>Q (.exit id) n e M | .ret=>Q .ret n e M | .panic v=>Q (.panic v) n e M) nm e M
 | .cond c a b,Q,nm,e,M=>match ap cx.G true e c with
  | .bool t=>(t=true->vc cx b0 a Q nm e M)/\(t=false->vc cx b0 b Q nm e M)
  | .bit t f=>(t=true->vc cx b0 a Q nm e M)/\(f=true->vc cx b0 b Q nm e M)
  | _=>False
 | .scope c,Q,nm,e,M=>vc cx b0 c Q nm e M
 | .block id c,Q,nm,e,M=>vc cx b0 c (fun x n e M=>match x with | .normal=>Q .normal n e M | .exit id'=>if id'=id then Q .normal n e M else Q (.exit id') n e M | .ret=>Q .ret n e M | .panic v=>Q (.panic v) n e M) nm e M
 | .loop c,Q,nm,e,M=>∃(J:Nat->Nat->Env->ah->Prop) (g:Nat),(∃ nm' e' M',pW cx b0 nm e M nm' e' M'/\J g nm' e' M') /\ ∀ g nm e M,J g nm e M->vc cx b0 c (fun x n e M=>match x with | .normal=>∃ g',g'<g /\ ∃ nm' e' M',pW cx b0 n e M nm' e' M'/\J g' nm' e' M' | .exit id=>Q (.exit id) n e M | .ret=>Q .ret n e M | .panic v=>Q (.panic v) n e M) nm e M
 | .exit id,Q,nm,e,M=>Q (.exit id) nm e M
 | .ret,Q,nm,e,M=>Q .ret nm e M
 | _,_,_,_,_=>False
def dc (N:Nat):Code->Bool
 | .skip | .label _ | .exit _ | .ret | .refuse _ | .goto _=>true
 | .region _ ops draw=>ops.toList.all (qy N)&&(!draw||(ops.toList.all (fun o=>!(lJ o.op))&&Ar ops.toList))
 | .seq a b=>dc N a&&dc N b
 | .cond c a b=>HL N c&&dc N a&&dc N b
 | .block _ c | .loop c | .scope c=>dc N c
 | _=>false
section
variable {cx:Cx} {N:Nat} {X:Nat->Prop} {w0:World} {I:Nat->Prop} {ρ0:Names} {b0:Nat}
def E0:∀(r:ZD) (ts:List T) (i:Nat) (e:Env),ek (fun _=>false) r ts i e=e:=by
 intro r
 induction r with
 | nil=>intro ts i e;rfl
 | cons o r ih=>intro ts i e;cases ts with|nil=>rfl|cons t ts=>simp_all[ek]
def vp:∀(ts:List T) (i:Nat) (M:ah),c9 (fun _=>false) ts i M=M:=by
 intro ts
 induction ts with
 | nil=>intro i M;rfl
 | cons t ts ih=>simp_all[c9]
def E1 (hm:cx.P.follows .mixedOrders=true){id:Nat}{ops:Array Oper}(hin:∀ o∈ops.toList,qy N o=true)(hok0:(ops.toList.all (fun o=>!(lJ o.op))&&Ar ops.toList)=true){Q:Exit->Act->World->Prop}{nm:Nat}{e:Env}{M:ah}{ρ:Names}{a:Act}{w:World}
    (h:Lies cx N X w0 I ρ0 b0 nm e M ρ a w) {K:Nat->Env->ah->Y9->Prop} {Kp:Nat->Env->ah->V->Prop} (hKp:∀ n e M v,¬ Kp n e M v) (hvc:cU cx ops.toList true Kp ops.toList nm 0 e M [] K) (hK:∀ n e M fs ρ a w,Lies cx N X w0 I ρ0 b0 n e M ρ a w->K n e M fs->Q .normal a w)
    (hp:∀ n e M fs,K n e M fs->lC cx.P ops.toList fs):(Code.region id ops true).wp cx.P Q a w:=by
  rw[In]at hok0
  have hnc:∀ o∈ops.toList,lJ o.op=false:=fun o ho=>by grind
  have hok:=hok0.2
  refine wp_region_any hm ?_
  have hfree:∀ x,nm<=x->M x=none:=fun x hx=>(h.free x hx).1
  obtain⟨ts,h1,h2,h3⟩:=R7 hin rfl hKp ops.toList 0 e M [] hin hnc Y6 hvc
  simp only[We,List.nil_append]at h3
  have hlow:∀ k,(Array.replicate ops.size false).getD k false=false:=fun k=>by
    simp only[Wu,Array.getElem?_replicate]
    split<;>rfl
  have heq:(fun k=>(Array.replicate ops.size false).getD k false)=fun _=>false:=funext hlow
  obtain⟨r1,m1⟩:=h.rel.draw (w.drawn+1)
  have := HU (cx:=cx) (N:=N) (X:=X) (w0:=w0) (I:=I) (ρ0:=ρ0) (b0:=b0) (ops:=ops.toList) hin hok (nm:=nm) h.base h1 h2 hfree (by grind) (Q:=Q) (fun ρ' a' w' hst=>by
      have hfin:Lies cx N X w0 I ρ0 b0 (nm+16*ops.toList.length) (ek (fun _=>true) ops.toList ts 0 e) (c9 (fun _=>true) ts 0 M) ρ' a' w':=by
        refine⟨hst.rel,hst.env,fun x hx=>⟨?_,hst.high x hx⟩,hst.names,W4 h.base Y6,hst.low,h.top⟩
        have gen:∀(r:ZD) (ts:List T) (i:Nat) (e:Env) (M:ah),Tr cx N ops.toList nm r ts i e M->(∀ x,nm+16*i<=x->M x=none) -> ∀ x,nm+16*(i+r.length)<=x->c9 (fun _=>true) ts i M x=none:=by
          intro r
          induction r with
          | nil =>
            intro ts i e M htr hf x hx
            cases ts with
            | nil=>exact hf x (by simpa using hx)
            | cons t ts=>exact htr.elim
          | cons o r ihr =>
            intro ts i e M htr hf x hx
            cases ts with
            | nil=>exact htr.elim
            | cons t ts =>
              simp only[c9,WQ]
              exact ihr ts (i+1) _ _ htr.2 (ah.free_app htr.1 hf) x (by grind)
        exact gen ops.toList ts 0 e M h1 Y6 x (by simpa using hx)
      grind) ops.size (Array.replicate ops.size false) ρ a { w with drawn:=w.drawn+1 } ZH (by
        grind) (fun k o _ hk=>by simp_all) (by
        rw[heq]
        refine⟨by simp_all[vp],by rw[vp,E0];exact h.env.moves m1,fun i _ _ x hx=>(h.free x (by have:=hx.1;omega)).2,fun x hx=>(h.free x Y6).2,h.names,h.low⟩)
  omega
def GY (cx:Cx)(N:Nat)(X:Nat->Prop)(w0:World)(I:Nat->Prop)(ρ0:Names)(b0:Nat)(Q:Ex->Nat->Env->ah->Prop)(x:Exit)(a:Act)(w:World):Prop :=
 ∃ n e M ρ,Lies cx N X w0 I ρ0 b0 n e M ρ a w/\match x with | .normal=>Q .normal n e M | .exit id=>Q (.exit id) n e M | .ret=>Q .ret n e M | .panic ch=>∃ v cv,ch=[{ v:=cv,recovered:=false }]/\Is ρ (bV X ρ M) w v cv/\Q (.panic v) n e M|_=>False
def dM (hm:cx.P.follows .mixedOrders=true):∀(c:Code) (Q:Ex->Nat->Env->ah->Prop) (nm:Nat) (e:Env) (M:ah) (ρ:Names) (a:Act) (w:World),dc N c=true->Lies cx N X w0 I ρ0 b0 nm e M ρ a w->vc cx b0 c Q nm e M->kA cx.P c (GY cx N X w0 I ρ0 b0 Q) a w
 | .skip,Q,nm,e,M,ρ,a,w,_,h,hv=>.of (wp_skip ⟨nm,e,M,ρ,h,hv⟩)
 | .label _,Q,nm,e,M,ρ,a,w,_,h,hv=>.of (wp_label ⟨nm,e,M,ρ,h,hv⟩)
 | .exit id,Q,nm,e,M,ρ,a,w,_,h,hv=>.of (wp_exit ⟨nm,e,M,ρ,h,hv⟩)
 | .ret,Q,nm,e,M,ρ,a,w,_,h,hv=>.of (wp_ret ⟨nm,e,M,ρ,h,hv⟩)
 | .region id ops draw,Q,nm,e,M,ρ,a,w,hc,h,hv=>by
  simp only[dc,In,WI]at hc
  simp only[vc]at hv
  cases draw with
  | false =>
   refine .region ?_
   have:=pj (ops:=ops.toList) hc.1 (Q:=GY cx N X w0 I ρ0 b0 Q) (K:=fun n e M fs=>(false=true->lC cx.P ops.toList fs)/\Q .normal n e M) (Kp:=fun n e M v=>false=false/\Q (.panic v) n e M) (fun n e M fs ρ a w h hq=>⟨n,e,M,ρ,h,hq.2⟩) (fun n e M v cv ρ a w h hv hq=>⟨n,e,M,ρ,h,v,cv,rfl,hv,hq.2⟩) ops.toList nm 0 e M [] ρ a w (fun j=>by simp_all) hc.1 (by simpa using h) hv
   omega
  | true =>
   exact .of <| E1 hm hc.1 (by simp_all) h (Kp:=fun n e M v=>true=false/\Q (.panic v) n e M) (fun n e M v hk=>by cases hk.1) hv (fun n e M fs ρ a w h hq=>⟨n,e,M,ρ,h,hq.2⟩) (fun n e M fs hq=>hq.1 rfl)
 | .seq x y,Q,nm,e,M,ρ,a,w,hc,h,hv=>by
  simp only[dc,In]at hc
  simp only[vc]at hv
  refine .seq (kA.mono (dM hm x _ nm e M ρ a w hc.1 h hv) ?_)
  rintro ex a' w' ⟨n,e',M',ρ',h',hq⟩
  cases ex<;>simp only[]at hq<;>try (exact hq.elim)
  case normal=>exact dM hm y Q n e' M' ρ' a' w' hc.2 h' hq
  case exit id=>exact⟨n,e',M',ρ',h',hq⟩
  case ret=>exact⟨n,e',M',ρ',h',hq⟩
  case panic ch=>exact⟨n,e',M',ρ',h',hq⟩
 | .cond c x y,Q,nm,e,M,ρ,a,w,hc,h,hv=>by
  simp only[dc,In]at hc
  simp only[vc]at hv
  split at hv
  ·rename_i t ht
   have he:=h.env.eval h.rel (c:=true) rfl (FE hc.1.1)
   rw[ht]at he
   have hb:a.eval c = .bool t:=by
    cases hcx:a.eval c<;>rw[hcx]at he<;>cases he
    rfl
   exact .cond hb (fun h1=>dM hm x Q nm e M ρ a w hc.1.2 h (hv.1 h1)) (fun h1=>dM hm y Q nm e M ρ a w hc.2 h (hv.2 h1))
  ·rename_i t f ht
   have he:=h.env.eval h.rel (c:=true) rfl (FE hc.1.1)
   rw[ht]at he
   obtain⟨b,hb,g1,g2⟩:∃ b,a.eval c = .bool b/\(b=true->t=true)/\(b=false->f=true):=by
    cases hcx:a.eval c<;>rw[hcx]at he<;>cases he
    simp_all
   exact .cond hb (fun h1=>dM hm x Q nm e M ρ a w hc.1.2 h (hv.1 (g1 h1))) (fun h1=>dM hm y Q nm e M ρ a w hc.2 h (hv.2 (g2 h1)))
  simp_all
 | .scope c,Q,nm,e,M,ρ,a,w,hc,h,hv=>by
  simp only[dc]at hc
  simp only[vc]at hv
  refine .scope (kA.mono (dM hm c Q nm e M ρ a w hc h hv) ?_)
  rintro ex a' w' ⟨n,e',M',ρ',h',hq⟩
  cases ex<;>simp only[]at hq<;>try (exact hq.elim)
  ·exact⟨n,e',M',ρ',h',hq⟩
  ·exact⟨n,e',M',ρ',h',hq⟩
  ·exact⟨n,e',M',ρ',h',hq⟩
  ·exact⟨n,e',M',ρ',h',hq⟩
 | .block id c,Q,nm,e,M,ρ,a,w,hc,h,hv=>by
  simp only[dc]at hc
  simp only[vc]at hv
  refine .block (kA.mono (dM hm c _ nm e M ρ a w hc h hv) ?_)
  rintro ex a' w' ⟨n,e',M',ρ',h',hq⟩
  cases ex<;>simp only[]at hq<;>try (exact hq.elim)
  case normal=>exact⟨n,e',M',ρ',h',hq⟩
  case exit id' =>
   simp only[Exit.inBlock]
   split at hq
   ·rename_i he;rw[if_pos he];exact⟨n,e',M',ρ',h',hq⟩
   ·rename_i he;rw[if_neg he];exact⟨n,e',M',ρ',h',hq⟩
  case ret=>exact⟨n,e',M',ρ',h',hq⟩
  case panic ch=>exact⟨n,e',M',ρ',h',hq⟩
 | .loop c,Q,nm,e,M,ρ,a,w,hc,h,hv=>by
  simp only[dc]at hc
  simp only[vc]at hv
  obtain⟨J,g,⟨nm1,e1,M1,hwk,h0⟩,hr⟩:=hv
  obtain⟨ρ1,hl1⟩:=hwk _ _ _ _ _ _ _ _ h
  refine .loop (fun g a w=>∃ n e M ρ,Lies cx N X w0 I ρ0 b0 n e M ρ a w/\J g n e M) g ⟨nm1,e1,M1,ρ1,hl1,h0⟩ ?_
  rintro g a w ⟨n,e,M,ρ,h,hj⟩
  refine kA.mono (dM hm c _ n e M ρ a w hc h (hr g n e M hj)) ?_
  rintro ex a' w' ⟨n,e',M',ρ',h',hq⟩
  cases ex<;>simp only[]at hq<;>try (exact hq.elim)
  case normal =>
   obtain⟨g',h1,nm2,e2,M2,hw2,h2⟩:=hq
   obtain⟨ρ2,hl2⟩:=hw2 _ _ _ _ _ _ _ _ h'
   exact⟨g',h1,nm2,e2,M2,ρ2,hl2,h2⟩
  case exit id=>exact⟨n,e',M',ρ',h',hq⟩
  case ret=>exact⟨n,e',M',ρ',h',hq⟩
  case panic ch=>exact⟨n,e',M',ρ',h',hq⟩
 | .rangeFunc _ _ _ _,_,_,_,_,_,_,_,hc,_,_=>by grind[dc]
 | .refuse _,_,_,_,_,_,_,_,_,_,hv=>by simp_all[vc]
 | .goto _,_,_,_,_,_,_,_,_,_,hv=>by simp_all[vc]
end
mutual
def V.plain:V->Bool
 | .ptr _ _ _ | .own _ _ _ | .ownc _ _ _ _ | .chan _ | .mp _=>false
 | .rp cs=>plainL cs
 | .sl _ _ rows=>plainLL rows
 | .ys _ _ rows=>plainLL rows
 | .fn _ cs=>plainL cs
 | .fnb _ cs=>plainL cs
 | .iface _ v=>v.plain
 | .agg cs=>plainL cs
 | .tup cs=>plainL cs
 | .gd _ v=>v.plain
 | _=>true
def plainL:List V->Bool
 | []=>true
 | v::r=>v.plain&&plainL r
def plainLL:List (List V)->Bool
 | []=>true
 | r::rs=>plainL r&&plainLL rs
end
theorem ww (l:List V):plainL l=l.all V.plain:=by
 induction l with
 | nil=>simp[plainL]
 | cons v r ih=>simp[plainL,ih]
theorem jR (l:List (List V)):plainLL l=l.all plainL:=by
 induction l with
 | nil=>simp[plainLL]
 | cons v r ih=>simp[plainLL,ih]
def dI {l:List V}(h:plainL l=true){i:Nat}{u:V}(hi:l[i]? = some u):u.plain=true:=by
 grind[ww]
def jS {l:List (List V)}(h:plainLL l=true){i:Nat}{u:List V}(hi:l[i]? = some u):plainL u=true:=by
 grind[jR]
def Is.plain {ρ ρ':Names}{D D':Nat->Prop}{w w':World}(hs:w.heap.size<=w'.heap.size)(hk:∀ b,b<w.heap.size -> ¬ D b->w'.heap[b]? = w.heap[b]?)(hD:∀ b,b<w.heap.size->D' b->D b){v:V}{cv:Value}(h:Is ρ D w v cv)(hp:v.plain=true):Is ρ' D' w' v cv:=by
 induction h with
 | any cv=>exact .any _
 | bool b=>exact .bool _
 | bit b ht hf=>exact .bit b ht hf
 | int k n=>exact .int _ _
 | str s=>exact .str _
 | nilp=>exact .nilp
 | upt p=>exact .upt p
 | ys0=>exact .ys0
 | ys cv hc hL hd hb hf hr hx _ ih=>exact .ys cv hc hL (fun h=>hd (hD _ hb h)) (Wi hb hs) (by simp_all) hr (fun i j row u hi hj=>(World.cell?_of_block (w:=w) (hk _ hb hd)).trans (hx i j row u hi hj)) (fun i j row u hi hj=>ih i j row u hi hj (dI (jS (by simp_all[V.plain]) hi) hj))
 | ptr h=>grind[V.plain]
 | rp cv hd hb hc _ ih=>exact .rp cv (fun h=>hd (hD _ hb h)) (Wi hb hs) (fun j u hj=>(World.cell?_of_block (w:=w) (hk _ hb hd)).trans (hc j u hj)) (fun j u hj=>ih j u hj (dI (by simp_all[V.plain]) hj))
 | nils=>exact .nils
 | sl0 ht=>exact .sl0 ht
 | sl cv hc ht hd hb hr hx _ ih =>
  exact .sl cv hc ht (fun h=>hd (hD _ hb h)) (Wi hb hs) hr (fun i j row u hi hj=>(World.cell?_of_block (w:=w) (hk _ hb hd)).trans (hx i j row u hi hj)) (fun i j row u hi hj=>ih i j row u hi hj (dI (jS (by simp_all[V.plain]) hi) hj))
 | own0=>grind[V.plain]
 | own h hl hc=>grind[V.plain]
 | ownc0=>grind[V.plain]
 | ownc h hl hc=>grind[V.plain]
 | chan h=>grind[V.plain]
 | mp h=>grind[V.plain]
 | fn hn _ ih=>exact .fn hn (fun i u cv hi hc=>ih i u cv hi hc (dI (by simp_all[V.plain]) hi))
 | fnb hn _ ih=>exact .fnb hn (fun i u cv hi hc=>ih i u cv hi hc (dI (by simp_all[V.plain]) hi))
 | iface _ ih=>exact .iface (ih (by simp_all[V.plain]))
 | agg hn _ ih=>exact .agg hn (fun i u cv hi hc=>ih i u cv hi hc (dI (by simp_all[V.plain]) hi))
 | tup hn _ ih=>exact .tup hn (fun i u cv hi hc=>ih i u cv hi hc (dI (by simp_all[V.plain]) hi))
 | gd _ h0 ih=>exact .gd (fun hb=>ih hb (by simp_all[V.plain])) h0
 | val v=>exact .val _
def aO (σ:Y8)(nm:Nat):ZC:=(σ.find? (fun p=>p.1==nm)).map (·.2)
mutual
def V.fin (σ:Y8)(M:ah):V->V
 | .own nm lo n=>match aO σ nm with|some y=>.own y lo n|none=>.sl false (eT M nm) (((bD M nm).drop lo).take n)
 | .ownc nm lo n _=>match aO σ nm with|some y=>.own y lo n|none=>.sl false (eT M nm) (((bD M nm).drop lo).take n)
 | .chan nm=>match aO σ nm with|some y=>.chan y|none=>.any
 | .mp nm=>match aO σ nm with|some y=>.mp y|none=>.any
 | .ptr nm i j=>match aO σ nm with|some y=>.ptr y i j|none=>.rp ((rowOf M nm i).drop j)
 | .agg cs=>.agg (finL σ M cs)
 | .tup cs=>.tup (finL σ M cs)
 | .fn f cs=>.fn f (finL σ M cs)
 | .fnb f cs=>.fnb f (finL σ M cs)
 | .iface t v=>.iface t (v.fin σ M)
 | .gd b v=>.gd b (v.fin σ M)
 | v=>v
def finL (σ:Y8)(M:ah):List V->List V
 | []=>[]
 | v::r=>v.fin σ M::finL σ M r
end
mutual
def V.finOk (σ:Y8)(M:ah):V->Prop
 | .own nm lo n=>aO σ nm=none->(n=0\/(M nm).isSome=true/\lo+n<=(bD M nm).length)/\plainLL (((bD M nm).drop lo).take n)=true
 | .ownc nm lo n _=>aO σ nm=none->(n=0\/(M nm).isSome=true/\lo+n<=(bD M nm).length)/\plainLL (((bD M nm).drop lo).take n)=true
 | .ptr nm i j=>aO σ nm=none->(M nm).isSome=true/\plainL ((rowOf M nm i).drop j)=true
 | .agg cs=>finLOk σ M cs
 | .tup cs=>finLOk σ M cs
 | .gd _ v=>v.finOk σ M
 | .rp cs=>plainL cs=true
 | .sl _ _ rows=>plainLL rows=true
 | .ys _ _ rows=>plainLL rows=true
 | .fn _ cs=>finLOk σ M cs
 | .fnb _ cs=>finLOk σ M cs
 | .iface _ v=>v.finOk σ M
 | _=>True
def finLOk (σ:Y8)(M:ah):List V->Prop
 | []=>True
 | v::r=>v.finOk σ M/\finLOk σ M r
end
def gH {σ:Y8}{M:ah}{l:List V}{i:Nat} :(finL σ M l)[i]? =(l[i]?).map (V.fin σ M):=by
 induction l generalizing i with
 | nil=>simp[finL]
 | cons v r ih=>cases i<;>simp[finL,ih]
def dR {σ:Y8}{M:ah}{l:List V} :(finL σ M l).length=l.length:=by
 induction l with
 | nil=>simp[finL]
 | cons v r ih=>simp[finL,ih]
def eQ {σ:Y8}{M:ah}{l:List V}(h:finLOk σ M l){i:Nat}{u:V}(hi:l[i]? = some u):u.finOk σ M:=by
 induction l generalizing i with
 | nil=>simp at hi
 | cons v r ih =>
  grind[finLOk]
section
variable {cx:Cx} {N:Nat} {X:Nat->Prop} {w0:World} {I:Nat->Prop} {ρ ρ':Names} {M:ah} {w:World}
def qh (h:Rel cx.G X w0 I ρ M w){σ:Y8}{D':Nat->Prop}(hσ:∀ nm y,aO σ nm=some y->ρ' y=ρ nm)(hD:∀ b,D' b->bV X ρ M b)(hout:∀ nm l,aO σ nm=none->(M nm).isSome=true->ρ nm=some l -> ¬ D' l.b)
    {v:V} {cv:Value} (hv:Is ρ (bV X ρ M) w v cv) (hok:v.finOk σ M):Is ρ' D' w (v.fin σ M) cv:=by
  have pl:∀ {u:V} {c:Value},Is ρ (bV X ρ M) w u c->u.plain=true->Is ρ' D' w u c:=fun hu hp=>hu.plain (IS _) (fun _ _ _=>rfl) (fun b _ hb=>hD b hb) hp
  have hcv:=hv
  induction hv with
  | any cv=>exact .any _
  | bool b=>exact .bool _
  | bit b ht hf=>exact .bit b ht hf
  | int k n=>exact .int _ _
  | str s=>exact .str _
  | nilp=>exact .nilp
  | upt p=>exact .upt p
  | ys0=>exact .ys0
  | ys cv hc hL hd hb hf hr hx hu ih=>simp_all[V.finOk,V.fin,V.plain]
  | nils=>exact .nils
  | val v=>exact .val _
  | rp cv hd hb hc hu ih=>simp_all[V.finOk,V.fin,V.plain]
  | sl0 ht=>exact .sl0 ht
  | sl cv hc ht hd hb hr hx hu ih=>simp_all[V.finOk,V.fin,V.plain]
  | fn hn hu ih =>
    simp only[V.finOk]at hok
    simp only[V.fin]
    refine .fn (by simp_all[dR]) (fun i u cv hi hc=>?_)
    rw[gH]at hi
    obtain⟨u',h1,rfl⟩:=BY.1 hi
    exact ih i u' cv h1 hc (eQ hok h1) (hu i u' cv h1 hc)
  | fnb hn hu ih =>
    simp only[V.finOk]at hok
    simp only[V.fin]
    refine .fnb (by simp_all[dR]) (fun i u cv hi hc=>?_)
    rw[gH]at hi
    obtain⟨u',h1,rfl⟩:=BY.1 hi
    exact ih i u' cv h1 hc (eQ hok h1) (hu i u' cv h1 hc)
  | iface h ih =>
    simp only[V.finOk]at hok
    simp only[V.fin]
    exact .iface (ih hok h)
  | agg hn hu ih =>
    simp only[V.finOk]at hok
    simp only[V.fin]
    refine .agg (by simp_all[dR]) (fun i u cv hi hc=>?_)
    rw[gH]at hi
    obtain⟨u',h1,rfl⟩:=BY.1 hi
    exact ih i u' cv h1 hc (eQ hok h1) (hu i u' cv h1 hc)
  | tup hn hu ih =>
    simp only[V.finOk]at hok
    simp only[V.fin]
    refine .tup (by simp_all[dR]) (fun i u cv hi hc=>?_)
    rw[gH]at hi
    obtain⟨u',h1,rfl⟩:=BY.1 hi
    exact ih i u' cv h1 hc (eQ hok h1) (hu i u' cv h1 hc)
  | gd hg h0 ih =>
    simp only[V.finOk]at hok
    simp only[V.fin]
    exact .gd (fun hb=>ih hb hok (hg hb)) h0
  | ptr hl =>
    rename_i nm i j l
    simp only[V.finOk]at hok
    simp only[V.fin]
    cases hn:aO σ nm with
    | some y=>exact .ptr (by grind)
    | none =>
      obtain⟨hM,hp⟩:=hok hn
      obtain⟨k,hk⟩:=OF.1 hM
      obtain⟨b,o,hb,hc⟩:=h.target hcv rfl
      cases hb
      have hbl:=h.block_lt hM hl
      refine .rp (fun j'=>(w.cell? ⟨l.b,l.o+i*l.sz+j+j',none⟩).getD undef) (hout nm l hn hM hl) hbl.1 (fun j' u hj=>?_) (fun j' u hj=>?_)
      · obtain⟨c,c1,_⟩:=hc j' u hj
        rw[c1];rfl
      · obtain⟨c,c1,c2⟩:=hc j' u hj
        rw[c1]
        exact pl c2 (dI hp hj)
  | own0 =>
    rename_i nm lo A
    simp only[V.fin]
    cases hn:aO σ nm with
    | some y=>exact .own0
    | none =>
      simp only[List.take_zero]
      exact .sl0 (fun h=>by cases h)
  | own hl hlc hnc =>
    rename_i nm lo n c l
    simp only[V.finOk]at hok
    simp only[V.fin]
    cases hn:aO σ nm with
    | some y=>exact .own (by grind) hlc hnc
    | none =>
      obtain⟨h0,hp⟩:=hok hn
      rcases X4 n with rfl|hpos
      · simp only[List.take_zero]
        exact .sl0 (fun h=>by cases h)
      · rcases h0 with rfl|⟨hM,hle⟩
        · omega
        · obtain⟨k,hk⟩:=OF.1 hM
          have hro:bD M nm=k.rows:=by rw[bD,hk]
          have hsz:eT M nm=k.sz:=by rw[eT,hk]
          have hbl:=h.block_lt hM hl
          rw[hro]at hle hp ⊢
          rw[hsz]
          rcases h.live nm k hk with ⟨_,a2⟩|⟨l2,a1,_,_,⟨cs,e,_,a4,a5,a6,a7,a8,a9⟩|⟨_,_,_,_,_,_,_,_,_,a4,_⟩⟩
          rotate_right
          · simp_all
          · simp_all
          · rw [hl]at a1;cases a1
            have hg:∀(i:Nat) (row:List V),((k.rows.drop lo).take n)[i]? = some row->k.rows[lo+i]? = some row:=fun i row hi=>by
              grind
            have hlen:((k.rows.drop lo).take n).length=n:=by simp;omega
            have hcell:∀(i j:Nat) (row:List V) (u:V),((k.rows.drop lo).take n)[i]? = some row->row[j]? = some u -> ∃ c,w.cell? ⟨l.b,l.o+lo*l.sz+i*l.sz+j,none⟩=some c/\Is ρ (bV X ρ M) w u c:=fun i j row u hi hj=>by
              obtain⟨c',c1,c2⟩:=a9 _ j row u (hg i row hi) hj
              refine⟨c',?_,c2⟩
              rw[cell_of_row w l.b _ cs e _ a4,<- c1]
              grind
            have:=Is.sl (ρ:=ρ') (D:=D') (w:=w) (t:=false) (sz:=k.sz) (rows:=(k.rows.drop lo).take n) (b:=l.b) (o:=l.o+lo*l.sz) (c:=c) (fun i j=>(w.cell? ⟨l.b,l.o+lo*l.sz+i*l.sz+j,none⟩).getD undef) Y6 (fun h=>by cases h) (hout nm l hn hM hl) hbl.1
              (fun i row hi=>by grind) (fun i j row u hi hj=>by
                grind) (fun i j row u hi hj=>by
                obtain⟨c',c1,c2⟩:=hcell i j row u hi hj
                rw[c1]
                exact pl c2 (dI (jS hp hi) hj))
            simp_all
  | ownc0 =>
    rename_i nm lo A
    simp only[V.fin]
    cases hn:aO σ nm with
    | some y=>exact .own0
    | none =>
      simp only[List.take_zero]
      exact .sl0 (fun h=>by cases h)
  | ownc hl hlc hnc hcp =>
    rename_i nm lo n c l
    simp only[V.finOk]at hok
    simp only[V.fin]
    cases hn:aO σ nm with
    | some y=>exact .own (by grind) hlc hnc
    | none =>
      obtain⟨h0,hp⟩:=hok hn
      rcases X4 n with rfl|hpos
      · simp only[List.take_zero]
        exact .sl0 (fun h=>by cases h)
      · rcases h0 with rfl|⟨hM,hle⟩
        · omega
        · obtain⟨k,hk⟩:=OF.1 hM
          have hro:bD M nm=k.rows:=by rw[bD,hk]
          have hsz:eT M nm=k.sz:=by rw[eT,hk]
          have hbl:=h.block_lt hM hl
          rw[hro]at hle hp ⊢
          rw[hsz]
          rcases h.live nm k hk with ⟨_,a2⟩|⟨l2,a1,_,_,⟨cs,e,_,a4,a5,a6,a7,a8,a9⟩|⟨_,_,_,_,_,_,_,_,_,a4,_⟩⟩
          rotate_right
          · simp_all
          · simp_all
          · rw [hl]at a1;cases a1
            have hg:∀(i:Nat) (row:List V),((k.rows.drop lo).take n)[i]? = some row->k.rows[lo+i]? = some row:=fun i row hi=>by
              grind
            have hlen:((k.rows.drop lo).take n).length=n:=by simp;omega
            have hcell:∀(i j:Nat) (row:List V) (u:V),((k.rows.drop lo).take n)[i]? = some row->row[j]? = some u -> ∃ c,w.cell? ⟨l.b,l.o+lo*l.sz+i*l.sz+j,none⟩=some c/\Is ρ (bV X ρ M) w u c:=fun i j row u hi hj=>by
              obtain⟨c',c1,c2⟩:=a9 _ j row u (hg i row hi) hj
              refine⟨c',?_,c2⟩
              rw[cell_of_row w l.b _ cs e _ a4,<- c1]
              grind
            have:=Is.sl (ρ:=ρ') (D:=D') (w:=w) (t:=false) (sz:=k.sz) (rows:=(k.rows.drop lo).take n) (b:=l.b) (o:=l.o+lo*l.sz) (c:=c) (fun i j=>(w.cell? ⟨l.b,l.o+lo*l.sz+i*l.sz+j,none⟩).getD undef) Y6 (fun h=>by cases h) (hout nm l hn hM hl) hbl.1
              (fun i row hi=>by grind) (fun i j row u hi hj=>by
                grind) (fun i j row u hi hj=>by
                obtain⟨c',c1,c2⟩:=hcell i j row u hi hj
                rw[c1]
                exact pl c2 (dI (jS hp hi) hj))
            simp_all
  | chan hl =>
    rename_i nm l
    simp only[V.fin]
    cases hn:aO σ nm with
    | some y=>exact .chan (by grind)
    | none=>exact .any _
  | mp hl =>
    rename_i nm l
    simp only[V.fin]
    cases hn:aO σ nm with
    | some y=>exact .mp (by grind)
    | none=>exact .any _
end
mutual
def V.le:V->V->Prop
 | .nils,.own _ _ n=>n=0
 | .ownc nm lo n _,.own nm' lo' n'=>nm=nm'/\lo=lo'/\n=n'
 | .nils,.sl _ _ rows=>rows=[]
 | .nils,.ys _ _ rows=>rows=[]
 | .ys _ s rows,.sl t s' rows'=>t=false/\s=s'/\rows=rows'
 | .agg xs,.agg ys=>leL xs ys
 | .tup xs,.tup ys=>leL xs ys
 | v,u=>v=u
def leL:List V->List V->Prop
 | [],[]=>True
 | x::xs,y::ys=>x.le y/\leL xs ys
 | _,_=>False
end
def ke:∀ {xs ys:List V},leL xs ys->xs.length=ys.length /\ ∀(i:Nat) (u:V),ys[i]? = some u -> ∃ v,xs[i]? = some v/\v.le u
 | [],[],_=>⟨rfl,fun i u h=>by simp at h⟩
 | x::xs,y::ys,h=>by
  simp only[leL]at h
  obtain⟨h1,h2⟩:=ke h.2
  grind
 | [],_::_,h=>by grind[leL]
 | _::_,[],h=>by grind[leL]
def V.solo:V->Bool
 | .nils | .agg _ | .tup _ | .ownc _ _ _ _ | .ys _ _ _=>false
 | _=>true
def V.le_solo {v u:V}(h:v.solo=true):v.le u↔v=u:=by
 cases v<;>first|(simp[V.solo]at h;done)|simp only[V.le]
def Is.le {ρ:Names}{D:Nat->Prop}{w:World}{v:V}{cv:Value}(h:Is ρ D w v cv):∀ u:V,v.le u->Is ρ D w u cv:=by
 have hcv:=h
 induction h with
 | nils =>
  intro u hu
  cases u<;>simp only[V.le]at hu<;>try (cases hu;done)
  ·subst hu;exact .ys0
  ·exact hcv
  ·subst hu;exact .sl0 (fun _=>rfl)
  ·subst hu;exact .own0
 | ownc0 =>
  intro u hu
  cases u<;>simp only[V.le]at hu<;>try (cases hu;done)
  ·obtain⟨rfl,rfl,rfl⟩:=hu;exact .own0
  simp_all
 | ownc h hl hc hp =>
  intro u hu
  cases u<;>simp only[V.le]at hu<;>try (cases hu;done)
  ·obtain⟨rfl,rfl,rfl⟩:=hu;exact .own h hl hc
  simp_all
 | ys0 =>
  intro u hu
  cases u<;>simp only[V.le]at hu<;>try (cases hu;done)
  ·simp_all
  ·obtain⟨rfl,rfl,rfl⟩:=hu;exact .sl0 (fun h=>by cases h)
 | ys cv hc hL hd hb hf hr hx hs ih =>
  intro u hu
  cases u<;>simp only[V.le]at hu<;>try (cases hu;done)
  ·simp_all
  ·obtain⟨rfl,rfl,rfl⟩:=hu;exact .sl cv hc (fun h=>by cases h) hd hb hr hx hs
 | agg hn hc ih =>
  intro u hu
  cases u<;>simp only[V.le]at hu<;>try (cases hu;done)
  obtain⟨h1,h2⟩:=ke hu
  refine .agg Y6 (fun i u cv hi hj=>?_)
  grind
 | tup hn hc ih =>
  intro u hu
  cases u<;>simp only[V.le]at hu<;>try (cases hu;done)
  obtain⟨h1,h2⟩:=ke hu
  refine .tup Y6 (fun i u cv hi hj=>?_)
  grind
 | _=>intro u hu;rw[V.le_solo rfl]at hu;subst hu;exact hcv
def QI:V.le .nils .nils=True:=X0 (by rfl)
def Dd (y lo n:Nat):V.le .nils (.own y lo n)=(n=0):=by rfl
def bR (t:Bool)(s:Nat)(rows:List (List V)):V.le .nils (.sl t s rows)=(rows=[]):=by rfl
def FO (a b:Nat)(r:List (List V)):V.le .nils (.ys a b r)=(r=[]):=by rfl
def S9 (xs ys:List V):V.le (.agg xs) (.agg ys)=leL xs ys:=by rfl
def m9 (xs ys:List V):V.le (.tup xs) (.tup ys)=leL xs ys:=by rfl
def QF (b:Bool)(u:V):V.le (.bool b) u=(.bool b=u):=propext (V.le_solo rfl)
def Tb (b c:Bool)(u:V):V.le (.bit b c) u=(.bit b c=u):=propext (V.le_solo rfl)
def jh (k:IntKind)(n:Int)(u:V):V.le (.int k n) u=(.int k n=u):=propext (V.le_solo rfl)
def vW (s:ZA)(u:V):V.le (.str s) u=(.str s=u):=propext (V.le_solo rfl)
def QH (u:V):V.le .nilp u=(.nilp=u):=propext (V.le_solo rfl)
def Ta (u:V):V.le .any u=(.any=u):=propext (V.le_solo rfl)
def Tf (u:V):V.le .upt u=(.upt=u):=propext (V.le_solo rfl)
def UM (a b a' b':Nat)(r r':List (List V)):V.le (.ys a b r) (.ys a' b' r')=(a=a'/\b=b'/\r=r'):=by simp_all[V.le]
def MU (a b b':Nat)(t:Bool)(r r':List (List V)):V.le (.ys a b r) (.sl t b' r')=(t=false/\b=b'/\r=r'):=by rfl
def Te (a b c:Nat)(u:V):V.le (.ptr a b c) u=(.ptr a b c=u):=propext (V.le_solo rfl)
def UK (l:List V)(u:V):V.le (.rp l) u=(.rp l=u):=propext (V.le_solo rfl)
def UL (t:Bool)(s:Nat)(l:List (List V))(u:V):V.le (.sl t s l) u=(.sl t s l=u):=propext (V.le_solo rfl)
def Td (a b c:Nat)(u:V):V.le (.own a b c) u=(.own a b c=u):=propext (V.le_solo rfl)
def De (a b c d a' b' c':Nat):V.le (.ownc a b c d) (.own a' b' c')=(a=a'/\b=b'/\c=c'):=by rfl
def QG (a:Nat)(u:V):V.le (.chan a) u=(.chan a=u):=propext (V.le_solo rfl)
def UH (f:Nat)(l:List V)(u:V):V.le (.fn f l) u=(.fn f l=u):=propext (V.le_solo rfl)
def UJ (a:Nat)(u:V):V.le (.mp a) u=(.mp a=u):=propext (V.le_solo rfl)
def Tc (f:Nat)(l:List V)(u:V):V.le (.fnb f l) u=(.fnb f l=u):=propext (V.le_solo rfl)
def MT (t:TypeId)(v u:V):V.le (.iface t v) u=(.iface t v=u):=propext (V.le_solo rfl)
def UI (b:Bool)(v u:V):V.le (.gd b v) u=(.gd b v=u):=propext (V.le_solo rfl)
def Tg (v:Value)(u:V):V.le (.val v) u=(.val v=u):=propext (V.le_solo rfl)
def dQ:leL [] []=True:=X0 (by grind[leL])
def cS (x y:V)(xs ys:List V):leL (x::xs) (y::ys)=(x.le y/\leL xs ys):=by rfl
def zI (P:Program)(e:Env)(M:ah):ResultVar->V
 | .tmp t=>(e t).strip true
 | .cell a t=>y6 P t M ((e a).strip true)
def Bn (P:Program)(N:Nat)(e:Env)(M:ah):ResultVar->Prop
 | .tmp t=>t<N
 | .cell a t=>a<N/\v4 P t M ((e a).strip true)
def mD (P:Program)(rs:List ResultVar)(e:Env)(M:ah):V:=match rs with
 | [r]=>zI P e M r
 | rs=>.tup (rs.map (zI P e M))
def mC (P:Program)(N:Nat)(rs:List ResultVar)(e:Env)(M:ah):Prop:=match rs with
 | []=>True
 | r::q=>Bn P N e M r/\mC P N q e M
mutual
def V.ren (σ:Y8):V->V
 | .own nm lo n=>.own ((aO σ nm).getD nm) lo n
 | .ownc nm lo n _=>.own ((aO σ nm).getD nm) lo n
 | .ptr nm i j=>.ptr ((aO σ nm).getD nm) i j
 | .chan nm=>.chan ((aO σ nm).getD nm)
 | .mp nm=>.mp ((aO σ nm).getD nm)
 | .agg cs=>.agg (renL σ cs)
 | .tup cs=>.tup (renL σ cs)
 | .fn f cs=>.fn f (renL σ cs)
 | .fnb f cs=>.fnb f (renL σ cs)
 | .iface t v=>.iface t (v.ren σ)
 | .gd b v=>.gd b (v.ren σ)
 | v=>v
def renL (σ:Y8):List V->List V
 | []=>[]
 | v::r=>v.ren σ::renL σ r
end
mutual
def V.renOk (σ:Y8):V->Bool
 | .own nm _ _ | .ownc nm _ _ _ | .ptr nm _ _ | .chan nm | .mp nm=>(aO σ nm).isSome
 | .agg cs=>renOkL σ cs
 | .tup cs=>renOkL σ cs
 | .fn _ cs=>renOkL σ cs
 | .fnb _ cs=>renOkL σ cs
 | .iface _ v=>v.renOk σ
 | .gd _ v=>v.renOk σ
 | .rp cs=>plainL cs
 | .sl _ _ rows=>plainLL rows
 | .ys _ _ rows=>plainLL rows
 | _=>true
def renOkL (σ:Y8):List V->Bool
 | []=>true
 | v::r=>v.renOk σ&&renOkL σ r
end
def j8 (σ:Y8)(rows:List (List V)):List (List V):=if plainLL rows=true then rows else rows.map (renL σ)
def gA (σ:Y8)(rows:List (List V)):Bool:=plainLL rows||rows.all (renOkL σ)
abbrev Ob.ren (σ:Y8):Ob->Ob
 | .cells=>.cells
 | .typed t=>.typed t
 | .chan cap closed ms=>.chan cap closed (if plainL ms=true then ms else renL σ ms)
 | .obj o=>.obj o
def Ob.renOk (σ:Y8):Ob->Bool
 | .cells=>true
 | .typed _=>true
 | .chan _ _ ms=>plainL ms||renOkL σ ms
 | .obj _=>true
def Blk.ren (σ:Y8)(k:Blk):Blk:=@Blk.mk k.sz (j8 σ k.rows) (k.ob.ren σ)
def Blk.renOk (σ:Y8)(k:Blk):Bool:=gA σ k.rows&&k.ob.renOk σ
def Q0 (M:ah)(x:Nat):Bool:=match M x with|some k=>k.ob.isCells|none=>true
def Blk.ren_plain {σ:Y8}{k:Blk}(h:plainLL k.rows=true)(h0:k.ob = .cells):k.ren σ=k:=by
 obtain⟨sz,rows⟩:=k
 simp_all[Blk.ren,j8]
def mB {σ:Y8}{l:List V}{i:Nat} :(renL σ l)[i]? =(l[i]?).map (V.ren σ):=by
 induction l generalizing i with
 | nil=>simp[renL]
 | cons v r ih=>cases i<;>simp[renL,ih]
theorem iD {σ:Y8}{l:List V} :(renL σ l).length=l.length:=by
 induction l with
 | nil=>simp[renL]
 | cons v r ih=>simp[renL,ih]
def jk {σ:Y8}{l:List V}(h:renOkL σ l=true){i:Nat}{u:V}(hi:l[i]? = some u):u.renOk σ=true:=by
 induction l generalizing i with
 | nil=>simp at hi
 | cons v r ih =>
  simp only[renOkL,In]at h
  grind
def MM {ρ ρ':Names}{D D':Nat->Prop}{w:World}{σ:Y8}(hσ:∀ x y,aO σ x=some y->ρ' y=ρ x)(hD:∀ b,D' b->D b){v:V}{cv:Value}(h:Is ρ D w v cv):v.renOk σ=true->Is ρ' D' w (v.ren σ) cv:=by
 have hname:∀ {x:Nat},(aO σ x).isSome=true->ρ' ((aO σ x).getD x)=ρ x:=fun {x} hx=>by
  obtain⟨y,hy⟩:=OF.1 hx
  grind
 have pl:∀ {u:V} {c:Value},Is ρ D w u c->u.plain=true->Is ρ' D' w u c:=fun hu hp=>hu.plain (IS _) (fun _ _ _=>rfl) (fun b _ hb=>hD b hb) hp
 have hcv:=h
 induction h with
 | any cv=>intro _;exact .any _
 | bool b=>intro _;exact .bool _
 | bit b ht hf=>intro _;exact .bit b ht hf
 | int k n=>intro _;exact .int _ _
 | str s=>intro _;exact .str _
 | nilp=>intro _;exact .nilp
 | upt p=>intro _;exact .upt p
 | ys0=>intro _;exact .ys0
 | ys cv hc hL hd hb hf hr hx hu _=>simp_all[V.plain,V.renOk,V.ren]
 | nils=>intro _;exact .nils
 | val v=>intro _;exact .val _
 | ptr h=>intro hok;exact .ptr ((hname hok).trans h)
 | own0=>intro _;exact .own0
 | own h hl hc=>intro hok;exact .own ((hname hok).trans h) hl hc
 | ownc0=>intro _;exact .own0
 | ownc h hl hc hp=>intro hok;exact .own ((hname hok).trans h) hl hc
 | chan h=>intro hok;exact .chan ((hname hok).trans h)
 | mp h=>intro hok;exact .mp ((hname hok).trans h)
 | iface h ih=>intro hok;exact .iface (ih h hok)
 | rp cv hd hb hc hu _=>simp_all[V.plain,V.renOk,V.ren]
 | sl0 ht=>intro _;exact .sl0 ht
 | sl cv hc ht hd hb hr hx hu _=>simp_all[V.plain,V.renOk,V.ren]
 | fn hn hu ih =>
  intro hok
  refine .fn (by simp_all[iD]) (fun i u cv hi hc=>?_)
  rw[mB]at hi
  obtain⟨u',h1,rfl⟩:=BY.1 hi
  exact ih i u' cv h1 hc (hu i u' cv h1 hc) (jk hok h1)
 | fnb hn hu ih =>
  intro hok
  refine .fnb (by simp_all[iD]) (fun i u cv hi hc=>?_)
  rw[mB]at hi
  obtain⟨u',h1,rfl⟩:=BY.1 hi
  exact ih i u' cv h1 hc (hu i u' cv h1 hc) (jk hok h1)
 | agg hn hu ih =>
  intro hok
  refine .agg (by simp_all[iD]) (fun i u cv hi hc=>?_)
  rw[mB]at hi
  obtain⟨u',h1,rfl⟩:=BY.1 hi
  exact ih i u' cv h1 hc (hu i u' cv h1 hc) (jk hok h1)
 | tup hn hu ih =>
  intro hok
  refine .tup (by simp_all[iD]) (fun i u cv hi hc=>?_)
  rw[mB]at hi
  obtain⟨u',h1,rfl⟩:=BY.1 hi
  exact ih i u' cv h1 hc (hu i u' cv h1 hc) (jk hok h1)
 | gd hg h0 ih=>intro hok;exact .gd (fun hb=>ih hb (hg hb) hok) h0
def Ob.ren_ok {σ:Y8}{o:Ob}{e:TypeId}{l:Loc}(h:o.okCells e l):(o.ren σ).okCells e l:=by
 cases o<;>first|exact h|exact h.elim
def lP.ren {ρ ρ':Names}{D D':Nat->Prop}{w:World}{σ:Y8}(hσ:∀ x y,aO σ x=some y->ρ' y=ρ x)(hD:∀ b,D' b->D b){l:Loc}{k:Blk}(h:lP ρ D w l k)(hok:k.renOk σ=true):lP ρ' D' w l (k.ren σ):=by
 obtain⟨sz,rows⟩:=k
 simp only[Blk.renOk,In]at hok
 have pl:∀ {u:V} {c:Value},Is ρ D w u c->u.plain=true->Is ρ' D' w u c:=fun hu hp=>hu.plain (IS _) (fun _ _ _=>rfl) (fun b _ hb=>hD b hb) hp
 rcases h with ⟨cs,e,h1,h2,h3,h4,h5,h6,h7⟩|⟨cap,closed,msgs,buf,s,r,h1,h2,h3,h4,h5,h6,h7⟩
 ·simp only at h1 h3 h4 h6 h7
  refine .inl ⟨cs,e,by rw[show(Blk.ren σ (Blk.mk sz rows)).ob=Ob.ren σ _ from rfl];exact Ob.ren_ok h1,h2,h3,?_,h5,?_,?_⟩
  ·grind[Blk.ren,j8]
  ·grind[Blk.ren,j8,iD]
  ·intro i j row u hi hj
   simp only[Blk.ren,j8]at hi
   split at hi
   ·rename_i hp
    obtain⟨cv,c1,c2⟩:=h7 i j row u hi hj
    exact⟨cv,c1,pl c2 (dI (jS hp hi) hj)⟩
   ·rename_i hp
    rw[WG]at hi
    obtain⟨row',h8,rfl⟩:=BY.1 hi
    rw[mB]at hj
    obtain⟨u',h9,rfl⟩:=BY.1 hj
    obtain⟨cv,c1,c2⟩:=h7 i j row' u' h8 h9
    have hall:=hok.1
    simp only[gA,Xf,hp,false_or,WI]at hall
    exact⟨cv,c1,MM hσ hD c2 (jk (hall.resolve_left ZH row' (By h8)) h9)⟩
 ·simp only at h1 h3 h4
  subst h4
  rename_i ob0
  have hok2:=hok.2
  have hlast:∀ ms:List V,(plainL ms||renOkL σ ms)=true->(∀(i:Nat) (u:V),ms[i]? = some u -> ∃ cv,buf[i]? = some cv/\Is ρ D w u cv) -> ∀(i:Nat) (u:V),(if plainL ms=true then ms else renL σ ms)[i]? = some u -> ∃ cv,buf[i]? = some cv/\Is ρ' D' w u cv:=by
   intro ms hok2 h7 i u hi
   split at hi
   ·rename_i hp
    obtain⟨cv,c1,c2⟩:=h7 i u hi
    exact⟨cv,c1,pl c2 (dI hp hi)⟩
   ·rename_i hp
    rw[mB]at hi
    obtain⟨u',h8,rfl⟩:=BY.1 hi
    obtain⟨cv,c1,c2⟩:=h7 i u' h8
    simp only[Xf,hp,WH,false_or]at hok2
    exact⟨cv,c1,MM hσ hD c2 (jk hok2 h8)⟩
  cases ob0 with
  | cells=>exact h1.elim
  | typed t=>exact h1.elim
  | chan cap' closed' ms =>
   obtain⟨rfl,hx⟩:=h1
   refine .inr ⟨cap,closed,(if plainL ms=true then ms else renL σ ms),buf,s,r,⟨rfl,hx⟩,h2,h3,by rfl,h5,?_,hlast ms hok2 h7⟩
   grind[iD]
  | obj x =>
   exact .inr ⟨cap,closed,msgs,buf,s,r,h1,h2,h3,by rfl,h5,h6,fun i u hi=>by rw[h1.2.1]at hi;simp at hi⟩
def Sb (cx:Cx)(N:Nat)(rs:List ResultVar)(nm:Nat)(M0:ah)(v:V)(eff:List (Nat×Option Blk))(b0:Nat)(e:Env)(M:ah):Prop :=
 mC cx.P N rs e M /\ ∃(σ:Y8) (δ:ZB),(mD cx.P rs e M).finOk σ M/\((mD cx.P rs e M).fin σ M).le v/\eff=δ.map (fun x=>(x,none))++σ.map (fun p=>(p.2,(M p.1).map (Blk.ren σ)))/\(σ.map (·.1)).Nodup/\(σ.map (·.2)).Nodup /\
  (∀ p∈σ,((p.1=p.2/\(M0 p.2).isSome=true)\/(b9 nm p.2/\(b0<=p.1\/(M0 p.1).isSome=true))) /\ ∃ k,M p.1=some k/\k.renOk σ=true) /\
  (∀ x,(M0 x).isSome=true->x∈σ.map (·.2)\/x∈δ)
def Fin (cx:Cx)(N:Nat)(rs:List ResultVar)(nm:Nat)(M0:ah)(v:V)(eff:List (Nat×Option Blk))(b0:Nat)(e:Env)(M:ah):Prop :=
 mC cx.P N rs e M /\ ∃ σ:Y8,(mD cx.P rs e M).finOk σ M/\((mD cx.P rs e M).fin σ M).le v/\eff=σ.map (fun p=>(p.2,M p.1))/\(σ.map (·.1)).Nodup/\(σ.map (·.2)).Nodup /\
  (∀ p∈σ,((p.1=p.2/\(M0 p.2).isSome=true)\/(b9 nm p.2/\b0<=p.1)) /\ ∃ k,M p.1=some k/\k.ob.isCells=true/\plainLL k.rows=true) /\
  (∀ x,(M0 x).isSome=true->x∈σ.map (·.2))
def Fin.two {cx:Cx}{N:Nat}{rs:List ResultVar}{nm:Nat}{M0:ah}{v:V}{eff:List (Nat×Option Blk)}{b0:Nat}{e:Env}{M:ah}(h:Fin cx N rs nm M0 v eff b0 e M):Sb cx N rs nm M0 v eff b0 e M:=by
 obtain⟨h1,σ,h2,h3,h4,h5,h6,h7,h8⟩:=h
 refine⟨h1,σ,[],h2,h3,?_,h5,h6,fun p hp=>?_,fun x hx=>.inl (h8 x hx)⟩
 ·rw[h4,Wx,List.nil_append]
  refine W7 (fun p hp=>?_)
  obtain⟨_,k,k1,k2,k3⟩:=h7 p hp
  rw[k1,Option.map_some,Blk.ren_plain k3 (Ob.isCells_eq k2)]
 ·obtain⟨a,k,k1,k2,k3⟩:=h7 p hp
  refine⟨?_,k,k1,by simp only[Blk.renOk,gA,k3,Ob.isCells_eq k2,Ob.renOk];rfl⟩
  grind
def Bo (tmps:ZG):ResultVar->Sem Value
 | .tmp t=>pure (tmps.getD t undef)
 | .cell p t=>do loadVar t (<- asAddr (tmps.getD p undef))
def fp (args:List V):Env:=fun t=>(args[t]?).getD .any
section
variable {cx:Cx} {N:Nat} {X:Nat->Prop} {w0:World} {I:Nat->Prop} {ρ ρ0 ρ':Names} {M:ah} {w:World} {b0:Nat}
def Gv (h:Rel cx.G X w0 I ρ M w){e:Env}{a:Act}(he:EnvAt cx.D ρ (bV X ρ M) w N e a)(r:ResultVar)(hok:Bn cx.P N e M r) :
  ∃ c,(Bo a.tmps r).run cx.P w = .ok c w/\Is ρ (bV X ρ M) w (zI cx.P e M r) c:=by
 cases r with
 | tmp t=>exact⟨_,rfl,(he.is t hok).strip rfl⟩
 | cell p t =>
  obtain⟨hp,hl⟩:=hok
  have hv:=(he.is p hp).strip (c:=true) rfl
  obtain⟨c,h1,h2⟩:=v5 (P:=cx.P) h hv hl
  obtain⟨b,o,hb,_⟩:=h.target hv hl.1
  refine⟨c,?_,h2⟩
  simp_all[Bo,Instr.loadAt,Instr.sureAddr,asAddr]
def DP (h:Rel cx.G X w0 I ρ M w){e:Env}{a:Act}(he:EnvAt cx.D ρ (bV X ρ M) w N e a):∀(rs:List ResultVar),mC cx.P N rs e M ->
  ∃ cs:List Value,(rs.mapM (Bo a.tmps)).run cx.P w = .ok cs w/\cs.length=rs.length /\
   ∀(i:Nat) (u:V) (c:Value),(rs.map (zI cx.P e M))[i]? = some u->cs[i]? = some c->Is ρ (bV X ρ M) w u c
 | [],_=>⟨[],rfl,rfl,fun i u c h=>by simp at h⟩
 | r::q,hok=>by
  obtain⟨c,h1,h2⟩:=Gv h he r hok.1
  obtain⟨cs,h3,h4,h5⟩:=DP h he q hok.2
  refine⟨c::cs,by simp_all,by simp[h4],?_⟩
  grind
def sY (h:Rel cx.G X w0 I ρ M w){e:Env}{a:Act}(he:EnvAt cx.D ρ (bV X ρ M) w N e a)(fn:Func)(hok:mC cx.P N fn.results.toList e M) :
  ∃ c,(results fn a.tmps).run cx.P w = .ok c w/\Is ρ (bV X ρ M) w (mD cx.P fn.results.toList e M) c:=by
 obtain⟨cs,h1,h2,h3⟩:=DP h he fn.results.toList hok
 have hrun:(results fn a.tmps).run cx.P w = .ok (if h:cs.toArray.size=1 then cs.toArray[0] else .tuple cs.toArray) w:=by
  have hres:results fn a.tmps=(do let vs <- fn.results.mapM (Bo a.tmps);pure (if h:vs.size=1 then vs[0] else .tuple vs)):=by
   rfl
  simp_all[Array.mapM_eq_mapM_toList]
 refine⟨_,hrun,?_⟩
 unfold mD
 split
 ·rename_i r hr
  rw[hr]at h2 h3
  have hl:cs.length=1:=by simpa using h2
  rw[dif_pos (by simpa using hl)]
  refine h3 0 _ _ ZH (by simp[hl])
 ·rename_i hne
  have hl:cs.toArray.size≠1:=by
   intro hl
   rw[List.size_toArray,h2]at hl
   match hq:fn.results.toList,hl with
   | [r],_=>exact hne r hq
  rw[dif_neg hl]
  exact .tup (by simp[h2]) (fun i u c hi hc=>h3 i u c hi (by simpa using hc))
def ki {σ:Y8}{nm y:Nat}(h:aO σ nm=some y):(nm,y)∈σ:=by
 unfold aO at h
 obtain⟨p,h1,rfl⟩:=BY.1 h
 grind
def A7 {σ:Y8}{nm:Nat}(h:aO σ nm=none):nm ∉ σ.map (·.1):=by
 unfold aO at h
 grind[Option.map_eq_none_iff]
def bE (σ:Y8)(y:Nat):ZC:=(σ.find? (fun p=>p.2==y)).map (·.1)
def dj {σ:Y8}{x y:Nat}(h:bE σ y=some x):(x,y)∈σ:=by
 unfold bE at h
 obtain⟨p,h1,rfl⟩:=BY.1 h
 grind
def rL {σ:Y8}{y:Nat}(h:bE σ y=none):y ∉ σ.map (·.2):=by
 unfold bE at h
 grind[Option.map_eq_none_iff]
def qx {σ:Y8}(hn:(σ.map (·.2)).Nodup){x y:Nat}(h:(x,y)∈σ):bE σ y=some x:=by
 cases ho:bE σ y with
 | none=>exact absurd (Wn.2 ⟨_,h,rfl⟩) (rL ho)
 | some x' =>
  have h':=dj ho
  clear ho
  induction σ with
  | nil=>cases h
  | cons p r ih =>
   grind
def Pt {σ:Y8}{Mf:ah} : ∀ {M0:ah},(σ.map (·.2)).Nodup -> ∀ y,(M0.app (σ.map (fun p=>(p.2,Mf p.1)))) y=match bE σ y with|some x=>Mf x|none=>M0 y:=by
 induction σ with
 | nil=>intro M0 _ y;rfl
 | cons p r ih =>
  intro M0 hn y
  simp only[Wc,Xg]at hn
  simp only[Wc,ah.app]
  rw[ih hn.2]
  by_cases e:p.2=y
  ·have h1:bE (p::r) y=some p.1:=by simp[bE,e]
   have h2:bE r y=none:=by
    cases ho:bE r y with
    | none=>rfl
    | some x=>exact absurd (Wn.2 ⟨_,dj ho,rfl⟩) (by rw[<- e];exact hn.1)
   simp_all[ah.put_same]
  ·have h1:bE (p::r) y=bE r y:=by simp_all[bE]
   rw[h1]
   split
   ·rfl
   ·rw[ah.put_ne _ _ (fun h=>e h.symm)]
def sv {w00:World}{rs:List ResultVar}{nm:Nat}{M0:ah}{v:V}{eff:List (Nat×Option Blk)}{n:Nat}{e:Env}{a:Act}(h0:Rel cx.G X w00 (bQ ρ0 M0) ρ0 M0 w00)(hfr:∀ x,b9 nm x->ρ0 x=none)(hb:∀ x,b0<=x->M0 x=none/\ρ0 x=none)
  (h:Lies cx N X w00 (bQ ρ0 M0) ρ0 b0 n e M ρ a w) (hf:Sb cx N rs nm M0 v eff b0 e M) {cv:Value} (hcv:Is ρ (bV X ρ M) w (mD cx.P rs e M) cv):fb cx.G X w00 (bQ ρ0 M0) ρ0 M0 w00 nm v (M0.app eff) cv w:=by
 obtain⟨_,σ,δ,f1,f2,rfl,f4,f5,f6,f7⟩:=hf
 have happ:∀(l1 l2:List (Nat×Option Blk)) (m:ah),m.app (l1++l2)=(m.app l1).app l2:=by
  intro l1
  induction l1 with
  | nil=>intro l2 m;rfl
  | cons p r ih=>intro l2 m;obtain⟨y,k⟩:=p;simp only[List.cons_append,ah.app];exact ih l2 _
 have hδ:∀(l:ZB) (m:ah) (y:Nat),(m.app (l.map (fun x=>(x,none)))) y=if y∈l then none else m y:=by
  intro l
  induction l with
  | nil=>intro m y;simp[ah.app]
  | cons z r ih =>
   intro m y
   simp only[Wc,ah.app,ih,WZ]
   by_cases e1:y∈r
   ·rw[if_pos e1,if_pos (.inr e1)]
   ·rw[if_neg e1]
    by_cases e2:y=z
    ·subst e2;rw[ah.put_same,if_pos (.inl rfl)]
    ·rw[ah.put_ne _ _ e2,if_neg (by simp[e1,e2])]
 rw[happ]
 have hM':=Pt (σ:=σ) (Mf:=fun x=>(M x).map (Blk.ren σ)) (M0:=M0.app (δ.map (fun x=>(x,none)))) f5
 generalize hM1:(M0.app (δ.map (fun x=>(x,none)))).app (σ.map (fun p=>(p.2,(M p.1).map (Blk.ren σ))))=M1 at hM' ⊢
 -- the new names
 let ρ1:Names:=fun y=>match bE σ y with|some x=>ρ x|none=>ρ0 y
 have hρ1:∀ y x,bE σ y=some x->ρ1 y=ρ x:=fun y x hy=>by show(match bE σ y with|some x=>ρ x|none=>ρ0 y)=_;rw[hy]
 have hρ1':∀ y,bE σ y=none->ρ1 y=ρ0 y:=fun y hy=>by show(match bE σ y with|some x=>ρ x|none=>ρ0 y)=_;rw[hy]
 -- a name of the contract's memory: one of the call's end,of the same block
 have src:∀ y k,M1 y=some k -> ∃ x k',M x=some k'/\k=k'.ren σ/\k'.renOk σ=true/\ρ1 y=ρ x/\bE σ y=some x:=fun y k hy=>by
  rw[hM']at hy
  cases ho:bE σ y with
  | some x =>
   rw[ho]at hy
   simp only at hy
   obtain⟨g1,k',g2,g3⟩:=f6 _ (dj ho)
   simp only at g2
   rw[g2,Option.map_some]at hy
   exact⟨x,k',g2,(Ww hy).symm,g3,hρ1 y x ho,rfl⟩
  | none =>
   rw[ho]at hy
   simp only at hy
   rw[hδ]at hy
   by_cases e:y∈δ
   ·rw[if_pos e]at hy;cases hy
   ·rw[if_neg e]at hy
    rcases f7 y (by rw[hy];rfl) with h|h
    ·exact absurd h (rL ho)
    ·exact absurd h e
 have hdom:∀ b,bV X ρ1 M1 b->bV X ρ M b:=by
  rintro b (hx|⟨y,l,h1,h2,h3⟩)
  ·exact .inl hx
  ·obtain⟨k,hk⟩:=OF.1 h1
   obtain⟨x,k',g1,_,_,g2,_⟩:=src y k hk
   exact .inr ⟨x,l,by rw[g1];rfl,by rw[<- g2];exact h2,h3⟩
 have hinj:∀ y y' x,bE σ y=some x->bE σ y'=some x->y=y':=by
  have key:∀ {τ:Y8},(τ.map (·.1)).Nodup -> ∀ {x y y'},(x,y)∈τ->(x,y')∈τ->y=y':=by
   intro τ hn
   induction τ with
   | nil=>intro x y y' h1;cases h1
   | cons p r ih =>
    intro x y y' h1 h2
    simp only[Wc,Xg]at hn
    rcases WZ.1 h1 with g1|g1<;>rcases WZ.1 h2 with g2|g2
    ·rw[<- g1]at g2;cases g2;rfl
    ·exact absurd (Wn.2 ⟨_,g2,by rw[<- g1]⟩) hn.1
    ·exact absurd (Wn.2 ⟨_,g1,by rw[<- g2]⟩) hn.1
    ·exact ih hn.2 g1 g2
  intro y y' x h1 h2
  exact key f4 (dj h1) (dj h2)
 have mv:Moves ρ0 M0 w00 ρ1 M1 w:=by
  refine⟨fun y l hy=>?_,h.rel.size,h.rel.os,h.rel.tape,h.rel.output,fun b hbb hk=>h.rel.old b hbb (fun ⟨nm',q,g1,g2,g3⟩=>hk nm' q g1 g2 g3),fun y l h1 h2 h3=>?_⟩
  ·cases ho:bE σ y with
   | none=>rw[hρ1' y ho];exact hy
   | some x =>
    rw[hρ1 y x ho]
    rcases(f6 _ (dj ho)).1 with ⟨g1,_⟩|⟨g1,_⟩
    ·simp only at g1;subst g1;exact h.names _ _ hy
    ·rw[hfr y g1]at hy;cases hy
  ·obtain⟨k,hk⟩:=OF.1 h1
   obtain⟨x,k',g1,_,_,g2,_⟩:=src y k hk
   have hbl:=h.rel.block_lt (nm:=x) (by rw[g1];rfl) (by rw[<- g2];exact h2)
   rcases hbl.2.2 with ⟨nm',q,c1,c2,c3⟩|c
   ·exact⟨nm',q,c1,c2,c3⟩
   ·omega
 refine⟨ρ1,?_,mv,?_,fun y hy=>?_⟩
 ·refine h0.move mv ?_ ?_
  ·intro y y' l l' h1 h2 h3 h4 h5
   obtain⟨k,hk⟩:=OF.1 h1
   obtain⟨k',hk'⟩:=OF.1 h2
   obtain⟨x,q1,g1,_,_,g2,g5⟩:=src y k hk
   obtain⟨x',q2,g1',_,_,g2',g5'⟩:=src y' k' hk'
   have:=h.rel.inj x x' l l' (by rw[g1];rfl) (by rw[g1'];rfl) (by rw[<- g2];exact h3) (by rw[<- g2'];exact h4) h5
   subst this
   exact hinj y y' x g5 g5'
  ·intro y k hy
   obtain⟨x,k',g1,rfl,g3,g2,_⟩:=src y k hy
   rcases h.rel.live x k' g1 with ⟨a1,a2⟩|⟨l,a1,a2,a3,a4⟩
   ·exact .inr (.inl ⟨by simp[Blk.ren,j8,a1,plainLL],by rw[g2];exact a2⟩)
   ·exact .inr (.inr ⟨l,by rw[g2];exact a1,a2,a3,a4.ren (fun x y hxy=>hρ1 y x (qx f5 (ki hxy))) hdom g3⟩)
 ·refine(qh h.rel (fun x y hxy=>hρ1 y x (qx f5 (ki hxy))) hdom ?_ hcv f1).le _ f2
  rintro x l hn hMx hl (hX|⟨y,l',h1,h2,h3⟩)
  ·exact(h.rel.block_lt hMx hl).2.1 hX
  ·obtain⟨k,hk⟩:=OF.1 h1
   obtain⟨x',q1,g1,_,_,g2,g5⟩:=src y k hk
   have:=h.rel.inj x' x l' l (by rw[g1];rfl) hMx (by rw[<- g2];exact h2) hl h3
   subst this
   exact A7 hn (Wn.2 ⟨_,dj g5,rfl⟩)
 ·cases ho:bE σ y with
  | none=>exact hρ1' y ho
  | some x =>
   rcases(f6 _ (dj ho)).1 with ⟨g1,g2⟩|⟨g1,_⟩
   ·simp only at g1 g2;subst g1
    rw[hρ1 x x ho]
    have hlt:x<b0:=by
     rcases YE x b0 with h1|h1
     ·exact h1
     ·rw[(hb x h1).1]at g2;cases g2
    exact h.low x hlt
   ·exact absurd g1 hy
def ah.ghosts (M:ah)(n:Nat):ZB->ah
 | []=>M
 | s::r=>(M.put n (some ⟨s,[]⟩)).ghosts (n+1) r
def Lies.ghosts:∀(gs:ZB) {n:Nat} {M:ah} {e:Env} {a:Act} {nm:Nat},Lies cx N X w0 I ρ0 nm n e M ρ a w->Lies cx N X w0 I ρ0 nm (n+gs.length) e (M.ghosts n gs) ρ a w
 | [],n,M,e,a,nm,h=>h
 | s::r,n,M,e,a,nm,h=>by
  have hf:=h.free n (IS _)
  obtain⟨r1,m1⟩:=h.rel.ghost hf.1 hf.2 s
  have h1:Lies cx N X w0 I ρ0 nm (n+1) e (M.put n (some ⟨s,[]⟩)) ρ a w :=
   ⟨r1,h.env.moves m1,fun x hx=>⟨by rw[ah.put_ne _ _ Y6];exact(h.free x Y6).1,(h.free x Y6).2⟩,h.names,by have:=h.base;omega,h.low,h.top⟩
  have:=Lies.ghosts r h1
  rw[show n+(s::r).length=n+1+r.length by simp;omega]
  exact this
end
end Go.Proofs.YtgboofebldgdjaaGreatDoor.Vm
