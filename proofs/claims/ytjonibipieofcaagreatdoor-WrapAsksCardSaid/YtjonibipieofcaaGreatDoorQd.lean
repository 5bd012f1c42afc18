/-
 Texts joined: XRa,XRb,XRc,XRd,XVA,XVB,XVC,XVD.
-/
import GoSem.ClaimChange
import GoSem.ClaimDataLaid
import Derived.DataReads
import Derived.ChangeOld
import GoSem.ClaimJoined
import Derived.SizedLaws
import Derived.Carry
import Derived.OpenShut
import Derived.WideShapes
import Derived.Deep.DeepHandedRow
import Derived.Test.YtjonibipieofcaaGreatDoorQc
set_option linter.all false
namespace Go.Proofs.YtjonibipieofcaaGreatDoor.Vm
open Go Go.RowKit
def vB (S:TypeId->List V->Prop):List Field->List V->Prop
 | [],vs=>vs=[]
 | f::r,vs=>∃ a b,vs=a++b/\S f.type a/\vB S r b
def Shape (P:Program):Nat->TypeId->List V->Prop
 | 0,_,_=>False
 | n+1,t,vs=>match P.underlying t with
  | some .bool=>∃ b,vs=[.bool b]
  | some (.int k)=>∃ m,vs=[.int k m]/\(Lit.int k m).wf=true
  | some .string=>∃ s:List UInt8,vs=[.str s]/\s.length<=reachBytes
  | some (.slice e)=>∃ rows,vs=[.sl false (P.cellsOf e) rows]/\rows.length<=maxLen/\rows.length*P.bytesOf e<=reachBytes /\ ∀ r∈rows,Shape P n e r
  | some (.struct fs)=>vB (Shape P n) fs.toList vs
  | some (.pointer e)=>vs=[.nilp] \/ ∃ cells,vs=[.rp cells]/\Shape P n e cells
  | _=>False
def dJ (w:World)(vs:List V)(cs:List Value):Prop:=vs.length=cs.length /\ ∀(i:Nat) (v:V) (c:Value),vs[i]? = some v->cs[i]? = some c->Is (fun _=>none) (fun _=>False) w v c
def dJ.nil (w:World):dJ w [] []:=⟨rfl,fun i v c h=>by simp at h⟩
def dJ.one {w:World}{v:V}{c:Value}(h:Is (fun _=>none) (fun _=>False) w v c):dJ w [v] [c]:=⟨rfl,fun i u d hu hd=>by
 cases i with
 | zero=>simp at hu hd;subst hu;subst hd;exact h
 | succ i=>simp at hu⟩
def dJ.append {w:World}{vs us:List V}{cs ds:List Value}(h:dJ w vs cs)(k:dJ w us ds):dJ w (vs++us) (cs++ds):=by
 refine⟨by simp[h.1,k.1],fun i v c hv hc=>?_⟩
 rw[List.getElem?_append]at hv hc
 rw[h.1]at hv
 split at hv
 ·rename_i hlt
  rw[if_pos hlt]at hc
  exact h.2 i v c hv hc
 ·rename_i hlt
  rw[if_neg hlt]at hc
  exact k.2 _ v c hv hc
def ql {α:Type} : ∀(n:Nat) (p:Nat->α->Prop),(∀ i,i<n -> ∃ r,p i r) -> ∃ l:List α,l.length=n /\ ∀(i:Nat) (r:α),l[i]? = some r->p i r
 | 0,p,_=>⟨[],rfl,fun i r h=>by simp at h⟩
 | n+1,p,h=>by
  obtain⟨l,h1,h2⟩:=ql n p (fun i hi=>h i (by omega))
  obtain⟨r,hr⟩:=h n (by omega)
  refine⟨l++[r],by simp[h1],fun i r' hi=>?_⟩
  rw[List.getElem?_append]at hi
  split at hi
  ·exact h2 i r' hi
  ·rename_i hge
   have:i=n:=by
    rcases Nat.lt_or_ge i (n+1) with h3|h3
    ·omega
    ·rw[List.getElem?_eq_none (by simp;omega)]at hi;cases hi
   subst this
   rw[h1,Nat.sub_self]at hi
   simp at hi;subst hi;exact hr
def mapM_length {α β:Type}{f:α->Option β} : ∀ {l:List α} {r:List β},l.mapM f=some r->r.length=l.length
 | [],r,h=>by simp at h;subst h;rfl
 | x::l,r,h=>by
  simp only[List.mapM_cons,Option.bind_eq_bind,Option.pure_def]at h
  obtain⟨y,h1,h2⟩:=Option.bind_eq_some_iff.1 h
  obtain⟨l',h3,h4⟩:=Option.bind_eq_some_iff.1 h2
  simp only[Option.some.injEq]at h4
  subst h4
  simp[mapM_length h3]
def yM {α β:Type}{f:α->Option β} : ∀ {l:List α} {r:List β},l.mapM f=some r -> ∀(i:Nat) (a:α),l[i]? = some a -> ∃ b,f a=some b/\r[i]? = some b
 | [],_,_,i,a,ha=>by simp at ha
 | x::l,r,h,i,a,ha=>by
  simp only[List.mapM_cons,Option.bind_eq_bind,Option.pure_def]at h
  obtain⟨y,h1,h2⟩:=Option.bind_eq_some_iff.1 h
  obtain⟨l',h3,h4⟩:=Option.bind_eq_some_iff.1 h2
  simp only[Option.some.injEq]at h4
  subst h4
  cases i with
  | zero=>simp at ha;subst ha;exact⟨y,h1,rfl⟩
  | succ i=>obtain⟨b,b1,b2⟩:=yM h3 i a (by simpa using ha);exact⟨b,b1,by simpa using b2⟩
def lS {H:Type}{P:Program}{e:TypeId}{m:Nat} : ∀ {l:List (DataW H)} {d:DataW H},d∈l->m∈d.weights P e->m∈DataW.weightsAll P e l
 | x::l,d,hd,hm=>by
  unfold DataW.weightsAll
  rcases List.mem_cons.1 hd with rfl|hd
  ·exact List.mem_append_left _ hm
  ·exact List.mem_append_right _ (lS hd hm)
def GB (P:Program)(tot:Nat):List Field->Nat->Bool
 | [],o=>o==tot
 | f::r,o=>f.offset==o&&GB P tot r (o+P.cellsOf f.type)
def Cg (P:Program)(ts:List TypeId):Bool:=ts.all fun t=>match P.underlying t with
 | some .bool|some (.int _)|some .string=>true
 | some (.slice e)=>ts.contains e&&decide (0<P.cellsOf e)
 | some (.pointer e)=>ts.contains e&&decide (0<P.cellsOf e)
 | some (.struct fs)=>(fs.toList.all fun f=>ts.contains f.type)&&GB P (P.cellsOf t) fs.toList 0
 | _=>false
def nV {w:World}{base:Nat}{a:Addr}{n:Nat}{cs:List Value}(h:w.cells? base a n=some cs):cs.length=n /\ ∀ i,i<n->w.cell? (a.add i)=cs[i]?:=by
 exact(World.cells?_some h).2
def rM {w:World}{a:Addr}{v:Value}(h:w.cell? (a.add 0)=some v):(a.add 0).spot=none/\a.block<w.heap.size:=by
 have ha:a.add 0=a:=by simp[Addr.add]
 rw[ha]at h ⊢
 unfold World.cell? at h
 split at h
 ·rename_i hb
  refine⟨?_,iV hb⟩
  cases hs:a.spot with
  | none=>rfl
  | some s=>rw[hs]at h;simp at h
 ·cases h
def add_plain {a:Addr}(h:(a.add 0).spot=none)(i:Nat):a.add i=⟨a.block,a.off+i,none⟩:=by
 have ha:a.add 0=a:=by simp[Addr.add]
 rw[ha]at h
 unfold Addr.add
 split
 ·rename_i h0;subst h0;cases a;simp_all
 ·cases a;simp
def oo {P:Program}{w:World}{H:Type}{T:TypeId->List Value->Option (DataW H×List MemPlace)}{S:TypeId->List V->Prop}{tot:Nat}{cs:List Value}(hcs:cs.length=tot) :
    ∀(fs:List Field) (o:Nat) (xs:List (DataW H×List MemPlace)),(∀ f∈fs,∀(as:List Value) (y:DataW H×List MemPlace),T f.type as=some y->(∀ m∈y.1.weights P f.type,m<=reachBytes) -> ∃ vs,S f.type vs/\dJ w vs as)->GB P tot fs o=true ->
      fs.mapM (fun f=>T f.type ((cs.drop f.offset).take (P.cellsOf f.type)))=some xs->(∀ m∈DataW.weightsEach P (fs.map (·.type)) (xs.map (·.1)),m<=reachBytes) -> ∃ vs,vB S fs vs/\dJ w vs (cs.drop o)
  | [],o,xs,_,hl,_,_=>by
    simp only[GB,beq_iff_eq]at hl
    subst hl
    exact⟨[],rfl,by rw[<- hcs,List.drop_length];exact dJ.nil w⟩
  | f::r,o,xs,hT,hl,h,hw=>by
    simp only[GB,Bool.and_eq_true,beq_iff_eq]at hl
    obtain⟨rfl,hl⟩:=hl
    simp only[List.mapM_cons,Option.bind_eq_bind,Option.pure_def]at h
    obtain⟨y,h1,h2⟩:=Option.bind_eq_some_iff.1 h
    obtain⟨l',h3,h4⟩:=Option.bind_eq_some_iff.1 h2
    simp only[Option.some.injEq]at h4
    subst h4
    simp only[List.map_cons,DataW.weightsEach,List.mem_append]at hw
    obtain⟨vs,g1,g2⟩:=hT f (by simp) _ y h1 (fun m hm=>hw m (.inl hm))
    obtain⟨us,g3,g4⟩:=oo hcs r _ l' (fun f' hf=>hT f' (by simp[hf])) hl h3 (fun m hm=>hw m (.inr hm))
    refine⟨vs++us,⟨vs,us,rfl,g1,g3⟩,?_⟩
    have:=g2.append g4
    rw[<- List.drop_drop,List.take_append_drop]at this
    exact this
def kM {P:Program}{ts:List TypeId}(hts:Cg P ts=true){w:World}{H:Type}{enc:TypeId×Value->H}{base:Nat}{spare:Nat->Bool}{held:Bool} :
  ∀(n:Nat) (t:TypeId) (cs:List Value) (x:DataW H×List MemPlace),t∈ts->DataW.trod enc P w base spare held n t cs=some x->(∀ m∈x.1.weights P t,m<=reachBytes) -> ∃ vs,Shape P n t vs/\dJ w vs cs
 | 0,t,cs,x,_,h,_=>by simp[DataW.trod]at h
 | n+1,t,cs,x,ht,h,hw=>by
  have hk:=List.all_eq_true.1 hts t ht
  unfold DataW.trod at h
  unfold Shape
  split at h<;>rename_i hu<;>try (cases h;done)
  all_goals rw[hu]at hk ⊢
  all_goals simp only at hk ⊢
  all_goals try (cases hk;done)
  ·exact⟨_,⟨_,rfl⟩,dJ.one (.bool _)⟩
  ·rename_i k k' m
   split at h
   ·rename_i hkk
    obtain⟨rfl,hwf⟩:=hkk
    exact⟨_,⟨_,rfl,hwf⟩,dJ.one (.int _ _)⟩
   ·cases h
  ·rename_i s
   split at h
   ·rename_i hs
    cases h
    refine⟨[.str s.data.toList],⟨_,rfl,hw _ (by simp[DataW.weights])⟩,dJ.one ?_⟩
    have:=Is.str (ρ:=fun _=>none) (D:=fun _=>False) (w:=w) s.data.toList
    rw[Array.toArray_toList]at this
    exact this
   ·cases h
  ·exact⟨_,.inl rfl,dJ.one .nilp⟩
  ·rename_i e a
   rw[Bool.and_eq_true,decide_eq_true_eq,List.contains_iff_mem]at hk
   obtain⟨y,h1,h0⟩:=Option.map_eq_some_iff.1 h
   subst h0
   simp only[DataW.weights,hu]at hw
   obtain⟨cs',h2,h3⟩:=Option.bind_eq_some_iff.1 h1
   obtain⟨vs,g1,g2,g3⟩:=kM hts n e cs' y hk.1 h3 hw
   obtain⟨c1,c2⟩:=nV h2
   obtain⟨v0,hv0⟩:∃ v,cs'[0]? = some v:=⟨_,List.getElem?_eq_getElem (by omega)⟩
   obtain⟨p1,p2⟩:=rM ((c2 0 (by omega)).trans hv0)
   refine⟨[.rp vs],.inr ⟨vs,rfl,g1⟩,dJ.one ?_⟩
   have ha:a=⟨a.block,a.off,none⟩:=by cases a;simp only[Addr.add]at p1;simp_all
   rw[ha]
   have hcell:∀(j:Nat) (u:V),vs[j]? = some u -> ∃ c,w.cell? ⟨a.block,a.off+j,none⟩=some c/\Is (fun _=>none) (fun _=>False) w u c:=fun j u hj=>by
    have hlt:=(List.getElem?_eq_some_iff.1 hj).1
    obtain⟨c,hc⟩:∃ v,cs'[j]? = some v:=⟨_,List.getElem?_eq_getElem (by omega)⟩
    exact⟨c,by rw[<- add_plain p1,c2 j (by omega),hc],g3 j u c hj hc⟩
   refine .rp (fun j=>(w.cell? ⟨a.block,a.off+j,none⟩).getD undef) (fun h=>h) p2 (fun j u hj=>?_) (fun j u hj=>?_)
   ·obtain⟨c,c1,_⟩:=hcell j u hj
    rw[c1];rfl
   ·obtain⟨c,c1,c2⟩:=hcell j u hj
    rw[c1];exact c2
  ·exact⟨_,⟨[],rfl,Nat.zero_le _,by simp,fun r hr=>by cases hr⟩,dJ.one (.sl0 (fun h=>by cases h))⟩
  ·rename_i e a len cap
   rw[Bool.and_eq_true,decide_eq_true_eq,List.contains_iff_mem]at hk
   split at h
   ·rename_i hb
    obtain⟨elems,h1,h0⟩:=Option.bind_eq_some_iff.1 h
    obtain⟨rest,_,h0⟩:=Option.map_eq_some_iff.1 h0
    subst h0
    simp only[DataW.weights,hu,List.mem_cons,List.mem_append]at hw
    have hlen:elems.length=len:=by have:=mapM_length h1;simpa using this
    have hrow:∀ i,i<len -> ∃ r:List V,Shape P n e r/\r.length=P.cellsOf e /\ ∃ cs',w.cells? base (a.add (i*P.cellsOf e)) (P.cellsOf e)=some cs'/\dJ w r cs':=fun i hi=>by
     obtain⟨y,hy,hy2⟩:=yM h1 i i (by simp[hi])
     obtain⟨cs',h2,h3⟩:=Option.bind_eq_some_iff.1 hy
     obtain⟨vs,g1,g2⟩:=kM hts n e cs' y hk.1 h3 (fun m hm=>hw m (.inr (.inl (lS (List.mem_map.2 ⟨y,List.mem_of_getElem? hy2,rfl⟩) hm))))
     exact⟨vs,g1,by rw[g2.1,(nV h2).1],cs',h2,g2⟩
    obtain⟨rows,r1,r2⟩:=ql len _ hrow
    refine⟨[.sl false (P.cellsOf e) rows],⟨rows,rfl,by omega,?_,fun r hr=>?_⟩,dJ.one ?_⟩
    ·have h5:=hw _ (.inl rfl)
     simp only[List.length_map,hlen]at h5
     rw[r1]
     exact Nat.le_trans (Nat.mul_le_mul_right _ (by omega)) h5
    ·obtain⟨i,hi⟩:=List.mem_iff_getElem?.1 hr
     exact(r2 i r hi).1
    ·rcases Nat.eq_zero_or_pos len with h0|hpos
     ·subst h0
      rw[List.eq_nil_of_length_eq_zero r1]
      exact .sl0 (fun h=>by cases h)
     ·obtain⟨r0,hr0⟩:∃ r,rows[0]? = some r:=⟨_,List.getElem?_eq_getElem (by omega)⟩
      obtain⟨_,_,cs0,q1,q2⟩:=r2 0 r0 hr0
      obtain⟨c1,c2⟩:=nV q1
      obtain⟨v0,hv0⟩:∃ v,cs0[0]? = some v:=⟨_,List.getElem?_eq_getElem (by omega)⟩
      have hz:=(c2 0 (by omega)).trans hv0
      rw[Nat.zero_mul,show(a.add 0).add 0=a.add 0 by simp[Addr.add]]at hz
      obtain⟨p1,p2⟩:=rM hz
      have ha:a=⟨a.block,a.off,none⟩:=by cases a;simp only[Addr.add]at p1;simp_all
      have hcell:∀(i j:Nat) (row:List V) (u:V),rows[i]? = some row->row[j]? = some u -> ∃ c,w.cell? ⟨a.block,a.off+i*P.cellsOf e+j,none⟩=some c/\Is (fun _=>none) (fun _=>False) w u c:=fun i j row u hi hj=>by
       obtain⟨_,g2,cs',g3,g4,g5⟩:=r2 i row hi
       obtain⟨d1,d2⟩:=nV g3
       have hlt:=(List.getElem?_eq_some_iff.1 hj).1
       obtain⟨c,hc⟩:∃ v,cs'[j]? = some v:=⟨_,List.getElem?_eq_getElem (by omega)⟩
       refine⟨c,?_,g5 j u c hj hc⟩
       rw[<- hc,<- d2 j (by omega),add_plain p1]
       rw[add_plain (a:=⟨a.block,a.off+i*P.cellsOf e,none⟩) (by simp[Addr.add])]
      rw[ha,<- r1]
      refine .sl (fun i j=>(w.cell? ⟨a.block,a.off+i*P.cellsOf e+j,none⟩).getD undef) (by omega) (fun h=>by cases h) (fun h=>h) p2 (fun i row hi=>(r2 i row hi).2.1) (fun i j row u hi hj=>?_) (fun i j row u hi hj=>?_)
      ·obtain⟨c,c1,_⟩:=hcell i j row u hi hj
       rw[c1];rfl
      ·obtain⟨c,c1,c2⟩:=hcell i j row u hi hj
       rw[c1];exact c2
   ·cases h
  ·rename_i fs
   rw[Bool.and_eq_true]at hk
   split at h
   ·rename_i hlen
    obtain⟨xs,h1,h0⟩:=Option.map_eq_some_iff.1 h
    subst h0
    simp only[DataW.weights,hu]at hw
    exact oo hlen fs.toList 0 xs (fun f hf as y hy hm=>kM hts n f.type as y (List.contains_iff_mem.1 (List.all_eq_true.1 hk.1 f hf)) hy hm) hk.2 h1 hw
   ·cases h
open Go Go.RowKit Go.ChangeShapes Go.WideShapes
def CC (P:Program)(t:TypeId)(vs:List V):V:=match P.underlying t with
 | some (.struct _)=>.agg vs
 | _=>vs.headD .any
def jD (P:Program):List TypeId->List V->Prop
 | [],as=>as=[]
 | t::ts,as=>∃ n vs r,as=CC P t vs::r/\Shape P n t vs/\jD P ts r
def o7 {H:Type}{P:Program} : ∀ {ts us:List TypeId} {ds:List (DataW H)} {m:Nat},ts.length=ds.length->m∈DataW.weightsEach P ts ds->m∈DataW.weightsEach P (ts++us) (ds++[])
 | [],us,[],m,_,h=>by simp[DataW.weightsEach]at h
 | [],_,_::_,_,hl,_=>by simp at hl
 | _::_,_,[],_,hl,_=>by simp at hl
 | t::ts,us,d::ds,m,hl,h=>by
  simp only[DataW.weightsEach,List.cons_append,List.mem_append]at h ⊢
  rcases h with h|h
  ·exact .inl h
  ·exact .inr (o7 (by simpa using hl) h)
def MT {P:Program}{w:World}{r:Reach}{base:Nat}{t:TypeId}{v:Value}(ht:P.underlying t=some .bool)(h:Value.okWide P w r base t v):∃ b,v = .bool b:=by
 simp only[Value.okWide,ht,Cell.okWide]at h
 cases v<;>simp_all [Cell.ok]
def zo {P:Program}{ts:List TypeId}(hts:Cg P ts=true){w:World}{H:Type}{enc:TypeId×Value->H}{base base':Nat}{spare:Nat->Bool}{held:Bool}{r:Reach}{t:TypeId}{v:Value}{d:DataW H}{p:List MemPlace}(ht:t∈ts)
  (h:DataW.Trod enc P w base spare held t v d p) (hw:∀ m∈d.weights P t,m<=reachBytes) (hok:Value.okWide P w r base' t v):∃ n vs,Shape P n t vs/\Is (fun _=>none) (fun _=>False) w (CC P t vs) v:=by
 obtain⟨n,hn⟩:=h
 obtain⟨vs,h1,h2,h3⟩:=kM hts n t _ _ ht hn hw
 refine⟨n,vs,h1,?_⟩
 have hk:=List.all_eq_true.1 hts t ht
 unfold CC
 cases n with
 | zero=>exact h1.elim
 | succ n =>
 unfold Shape at h1
 cases hu:P.underlying t with
 | none=>rw[hu]at h1;exact h1.elim
 | some u =>
  rw[hu]at h1
  have single:∀ u',vs=[u']->v.cells = #[v]->Is (fun _=>none) (fun _=>False) w (vs.headD .any) v:=fun u' e hc=>by
   subst e
   exact h3 0 u' v rfl (by rw[hc];rfl)
  cases u with
  | struct fs =>
   obtain⟨cs,rfl,hsz⟩:=okWide_struct hu hok
   exact .agg (by simpa [Value.cells] using h2) (fun i u cv hi hc=>h3 i u cv hi (by simpa [Value.cells] using hc))
  | bool =>
   obtain⟨b,e⟩:=h1
   obtain⟨b',rfl⟩:∃ b,v = .bool b:=MT hu hok
   exact single _ e rfl
  | int k =>
   obtain⟨m,e,_⟩:=h1
   obtain⟨n,rfl⟩:=okWide_int hu hok
   exact single _ e rfl
  | string =>
   obtain⟨s,e,_⟩:=h1
   obtain⟨n,rfl⟩:=okWide_string hu hok
   exact single _ e rfl
  | slice e =>
   obtain⟨rows,e,_⟩:=h1
   obtain⟨a,l,c,rfl⟩:=okWide_slice hu hok
   exact single _ e rfl
  | pointer e =>
   obtain⟨a,rfl⟩:=okWide_pointer hu hok
   have hv:(Value.pointer a).cells = #[.pointer a]:=rfl
   rcases h1 with e|⟨cells,e,_⟩
   ·exact single _ e hv
   ·exact single _ e hv
  | _=>exact h1.elim
def rA {P:Program}{ts:List TypeId}(hts:Cg P ts=true){w:World}{H:Type}{enc:TypeId×Value->H}{base':Nat}{r:Reach} : ∀ {qs:List TypeId} {vs:List Value} {ds:List (DataW H)} {p:List MemPlace},(∀ t∈qs,t∈ts) ->
  DataW.TrodAll enc P w 0 (fun _=>true) true qs vs ds p->(∀ m∈DataW.weightsEach P qs ds,m<=reachBytes)->(∀(j:Nat) (t:TypeId) (v:Value),qs[j]? = some t->vs[j]? = some v->Value.okWide P w r base' t v) ->
  ∃ as,jD P qs as/\as.length=vs.length /\ ∀(i:Nat) (u:V) (cv:Value),as[i]? = some u->vs[i]? = some cv->Is (fun _=>none) (fun _=>False) w u cv
 | [],vs,ds,p,_,h,_,_=>by
  obtain⟨rfl,rfl,rfl⟩:=trodAll_nil h
  exact⟨[],rfl,rfl,fun i u cv h=>by simp at h⟩
 | t::qs,vs,ds,p,hq,h,hw,hok=>by
  obtain⟨v,vs',d,ds',p1,q1,rfl,rfl,rfl,h1,h2⟩:=trodAll_cons h
  simp only[DataW.weightsEach,List.mem_append]at hw
  obtain⟨n,us,g1,g2⟩:=zo hts (hq t (by simp)) h1 (fun m hm=>hw m (.inl hm)) (hok 0 t v rfl rfl)
  obtain⟨as,g3,g4,g5⟩:=rA hts (fun t ht=>hq t (by simp[ht])) h2 (fun m hm=>hw m (.inr hm)) (fun j t v hj hv=>hok (j+1) t v (by simpa using hj) (by simpa using hv))
  refine⟨CC P t us::as,⟨n,us,as,rfl,g1,g3⟩,by simp[g4],fun i u cv hi hc=>?_⟩
  cases i with
  | zero=>simp at hi hc;subst hi;subst hc;exact g2
  | succ i=>exact g5 i u cv (by simpa using hi) (by simpa using hc)
def mb {P:Program}{w:World}{H:Type}{enc:TypeId×Value->H}{base:Nat}{spare:Nat->Bool}{held:Bool} : ∀ {qs:List TypeId} {vs:List Value} {ds:List (DataW H)} {p:List MemPlace},DataW.TrodAll enc P w base spare held qs vs ds p->qs.length=ds.length/\qs.length=vs.length
 | [],vs,ds,p,h=>by obtain⟨rfl,rfl,rfl⟩:=trodAll_nil h;exact⟨rfl,rfl⟩
 | t::qs,vs,ds,p,h=>by
  obtain⟨v,vs',d,ds',p1,q1,rfl,rfl,rfl,h1,h2⟩:=trodAll_cons h
  have:=mb h2
  simp[this.1,<- this.2]
def m8 {P:Program}{W W':World}{H:Type}{enc:TypeId×Value->H}(hl:laidOutB P=true)(hb:Below W.heap.size W W'):∀ {qs:List TypeId} {vs:List Value} {ds:List (DataW H)} {p:List MemPlace},
  (qs.all fun t=>P.readableRec t&&decide (t<P.types.size))=true->DataW.TrodAll enc P W 0 (fun _=>true) true qs vs ds p->DataW.TrodAll enc P W' 0 (fun b=>decide (b<W.heap.size)) true qs vs ds p
 | [],vs,ds,p,_,h=>by obtain⟨rfl,rfl,rfl⟩:=trodAll_nil h;exact trodAll_mk0
 | t::qs,vs,ds,p,hr,h=>by
  obtain⟨v,vs',d,ds',p1,q1,rfl,rfl,rfl,h1,h2⟩:=trodAll_cons h
  simp only[List.all_cons,Bool.and_eq_true,decide_eq_true_eq]at hr
  have h1':=h1
  obtain⟨m,hm⟩:=h1'
  exact trodAll_cons_mk (Below.trod hl hr.1.1 hr.1.2 h1 hb (DataW.trod_lt m _ _ _ hm)) (m8 hl hb (by simp only[Bool.and_eq_true,List.all_eq_true,decide_eq_true_eq]at hr ⊢;exact hr.2) h2)
inductive K where
 | bool
 | int (k:IntKind)
 | str
 | slice (e c b:Nat)
 | struct (l:List Nat)
 | ptr (e:Nat)
def eI (P:Program)(t:TypeId):Option K:=match P.underlying t with
 | some .bool=>some .bool
 | some (.int k)=>some (.int k)
 | some .string=>some .str
 | some (.slice e)=>some (.slice e (P.cellsOf e) (P.bytesOf e))
 | some (.struct fs)=>some (.struct (fs.toList.map (·.type)))
 | some (.pointer e)=>some (.ptr e)
 | _=>none
def vC (S:TypeId->List V->Prop):List TypeId->List V->Prop
 | [],vs=>vs=[]
 | t::r,vs=>∃ a b,vs=a++b/\S t a/\vC S r b
def tf {S:TypeId->List V->Prop} : ∀ {fs:List Field} {vs:List V},vB S fs vs->vC S (fs.map (·.type)) vs
 | [],_,h=>h
 | _::_,_,⟨a,b,h1,h2,h3⟩=>⟨a,b,h1,h2,tf h3⟩
section
variable {P:Program} {n:Nat} {t:TypeId} {vs:List V}
def th (k:eI P t=some .bool)(h:Shape P n t vs):∃ b,vs=[.bool b]:=by
 unfold eI at k
 cases n with
 | zero=>exact h.elim
 | succ n =>
  unfold Shape at h
  split at k<;>first|(cases k;done)|skip
  rename_i hu;rw[hu]at h;exact h
def Ib {k:IntKind}{m:Int}(h:(Lit.int k m).wf=true):k.min<=m/\m<=k.max:=by
 simpa [Lit.wf] using h
def eX {k':IntKind}(k:eI P t=some (.int k'))(h:Shape P n t vs):∃ m,vs=[.int k' m]/\k'.min<=m/\m<=k'.max:=by
 unfold eI at k
 cases n with
 | zero=>exact h.elim
 | succ n =>
  unfold Shape at h
  split at k<;>first|(cases k;done)|skip
  rename_i hu;cases k;rw[hu]at h
  obtain⟨m,h1,h2⟩:=h
  exact⟨m,h1,Ib h2⟩
def dx (k:eI P t=some .str)(h:Shape P n t vs):∃ s:List UInt8,vs=[.str s]/\s.length<=140737488351232:=by
 unfold eI at k
 cases n with
 | zero=>exact h.elim
 | succ n =>
  unfold Shape at h
  split at k<;>first|(cases k;done)|skip
  rename_i hu;rw[hu]at h;exact h
def l5 {e c b:Nat}(k:eI P t=some (.slice e c b))(h:Shape P n t vs):∃ n' rows,vs=[.sl false c rows]/\rows.length<=maxLen/\rows.length*b<=140737488351232 /\ ∀ r∈rows,Shape P n' e r:=by
 unfold eI at k
 cases n with
 | zero=>exact h.elim
 | succ n =>
  unfold Shape at h
  split at k<;>first|(cases k;done)|skip
  rename_i hu;cases k;rw[hu]at h;exact⟨n,h⟩
def kL {l:List Nat}(k:eI P t=some (.struct l))(h:Shape P n t vs):∃ n',vC (Shape P n') l vs:=by
 unfold eI at k
 cases n with
 | zero=>exact h.elim
 | succ n =>
  unfold Shape at h
  split at k<;>first|(cases k;done)|skip
  rename_i hu;cases k;rw[hu]at h;exact⟨n,tf h⟩
def nL {S:TypeId->List V->Prop}(h:vC S [] vs):vs=[]:=h
def oV {α:Type}(f:α->List V)(p:α->Prop):∀ {rows:List (List V)},(∀ r∈rows,∃ a,r=f a/\p a) -> ∃ l:List α,rows=l.map f /\ ∀ a∈l,p a
 | [],_=>⟨[],rfl,fun a h=>by cases h⟩
 | r::rows,h=>by
  obtain⟨a,h1,h2⟩:=h r (by simp)
  obtain⟨l,h3,h4⟩:=oV (rows:=rows) f p (fun r hr=>h r (by simp[hr]))
  refine⟨a::l,by simp[h1,h3],fun b hb=>?_⟩
  rcases List.mem_cons.1 hb with rfl|hb
  ·exact h2
  ·exact h4 b hb
end
section
variable {P:Program} {t:TypeId}
def Fe {as:List V}(h:jD P [] as):as=[]:=h
def qd {l:List Nat}(k:eI P t=some (.struct l))(vs:List V):CC P t vs = .agg vs:=by
 unfold eI at k
 unfold CC
 split at k<;>first|(cases k;done)|skip
 rename_i hu;rw[hu]
end
def pO (P:Program):Nat->List TypeId->List TypeId->List TypeId
 | 0,_,acc=>acc
 | _,[],acc=>acc
 | n+1,t::r,acc=>if acc.contains t then pO P n r acc else match eI P t with
  | some (.slice e _ _)=>pO P n (e::r) (t::acc)
  | some (.ptr e)=>pO P n (e::r) (t::acc)
  | some (.struct l)=>pO P n (l++r) (t::acc)
  | _=>pO P n r (t::acc)
open Go Go.RowKit Go.ChangeShapes Go.WideShapes Go.ChangeAt
def Bb {G:Nat->V}{w:World}(hG:∀ g,Is (fun _=>none) (fun _=>False) w (G g) (.pointer (some ⟨g,0,none⟩))):Rel G (fun _=>False) w (cG (fun _=>none) ao.nil) (fun _=>none) ao.nil w where
 size:=Nat.le_refl _
 os:=rfl
 tape:=rfl
 output:=rfl
 old:=fun _ _ _=>rfl
 live:=fun nm k h=>by cases h
 inj:=fun nm nm' l l' h=>by cases h
 hX:=fun b h=>h.elim
 glob:=fun g=>(hG g).step (fun _ _ h=>h) (Nat.le_refl _) (fun _ _ _=>rfl) (fun b _ h=>by
  rcases h with h|⟨nm,l,h,_⟩
  ·exact h
  ·cases h)
def oE {C:Checked}{cx:Cx}(hP:cx.P=C.prog){laid:List (String×DataW Unit)}(hG:∀ W,laidMetH C.prog laid W -> ∀ g,Is (fun _=>none) (fun _=>False) W (cx.G g) (.pointer (some ⟨g,0,none⟩))){H:Type}{enc:TypeId×Value->H}{s:ChangeSpec}{f:FuncId}{fn:Func}{conds:List PathCond}{os:Os}(own:ownKnob C.prog.godebug=none)(started:os.Started)(noInit:C.prog.inits.idxOf? f=none)
  (hfn:C.prog.funcs[f]? = some fn) (hcall:∀ cargs w,(callFunc f cargs).run C.prog w = .ok (.enter f cargs) w) (hv:s.vars=[]) (hl:laidOutB C.prog=true) (ts:List TypeId) (hts:Cg C.prog ts=true) (hpt:(fn.params.toList.all fun t=>ts.contains t)=true) (hpr:(fn.params.toList.all fun t=>C.prog.readableRec t&&decide (t<C.prog.types.size))=true)
  {tb:TypeId} (hres:fn.resultTypes = #[tb]) (hb:C.prog.underlying tb=some .bool) (hs:∀(H:Type) (ds:List (DataW H)),ds.length=fn.params.toList.length->(s.fn H ds).results=[.lit (.bool true)]/\(s.fn H ds).args=ds/\(s.fn H ds).vars=[])
  (F:Stop.Interp)
  (witness:∃(w:World) (tape:Tape) (i:Input),w.os=os/\(w.forCall tape i).Shaped C.prog/\i.vars=[]/\Input.okWide C.prog (w.forCall tape i) .any w.heap.size f i /\
   (OpenSpec.ofChange s).preRow enc C.prog fn conds false laid (w.forCall tape i).memory i.args/\({} : Assume).holds C.prog (lone (Frame.enter C.prog f i.args .normal) [] (w.forCall tape i)))
  (hev:∀ as,jD C.prog fn.params.toList as->Ev cx f 0 as ao.nil (.bool true) []) :
  ReturnsInHanded {} C os f .any ((OpenSpec.ofChange s).preRow enc C.prog fn conds false laid) (((OpenSpec.ofChange s).at F).post enc C.prog fn false true false false):=by
 refine returnsInHanded_of_row own started noInit hfn witness ?_
 intro W base args ds gs before hval hW _ _ hsz hL _ _
 have hW':=hW
 obtain⟨p,q,hA,hV,rfl,hfz,hnd⟩:=hW
 rw[show(OpenSpec.ofChange s).vars=s.vars from rfl,hv]at hV
 obtain⟨rfl,rfl⟩:=trodVars_none hV
 obtain⟨e1,e2⟩:=mb hA
 obtain⟨as,g1,g2,g3⟩:=rA hts (fun t ht=>by simpa using List.all_eq_true.1 hpt t ht) hA (fun m hm=>by simpa using List.all_eq_true.1 hsz m (o7 e1 hm)) (fun j t v hj hv=>hval j t v (by simpa using hj) (by simpa using hv))
 have hc:Calls C.prog f args W fun e W'=>∃ cv,e = .returned cv/\ek cx.G (fun _=>False) W (cG (fun _=>none) ao.nil) (fun _=>none) ao.nil W 0 (.bool true) (ao.nil.app []) cv W':=by
  rw[<- hP]
  refine((hev as g1).2 (fun _=>False) W (fun _=>none) args 0 (Bb (hG W hL)) (fun _ _=>rfl) (fun _ _=>⟨rfl,rfl⟩) (by simpa using g2) (fun i u cv hi hc=>?_)).calls (by rw[hP];exact hcall _ _)
  refine(g3 i u cv hi (by simpa using hc)).step (fun _ _ h=>h) (Nat.le_refl _) (fun _ _ _=>rfl) ?_
  rintro b _ (h|⟨nm,l,h,_⟩)
  ·exact h
  ·cases h
 refine hc.mono ?_
 ·rintro e W' ⟨cv,rfl,ρ',h1,h2,h3,_⟩
  cases h3
  have bel:Below W.heap.size W W':=⟨h2.os,h2.tape,h2.output,h2.size,fun k hk=>h2.kept k hk (fun nm l h=>by cases h)⟩
  obtain⟨s1,s2,s3⟩:=hs H (ds++[]) (by simpa using e1.symm)
  refine⟨_,rfl,ds,[],p++[],[],p,[],hW',?_,?_,?_,bel.frame _,fun h=>by cases h⟩
  ·rw[show(((OpenSpec.ofChange s).at F).fn H (ds++[]))=s.fn H (ds++[]) from rfl,s1,hres];exact trodAll_mk1 (shut_bool hb _)
  ·rw[show(((OpenSpec.ofChange s).at F).fn H (ds++[]))=s.fn H (ds++[]) from rfl,s2,List.append_nil];exact m8 hl bel hpr hA
  ·rw[show(((OpenSpec.ofChange s).at F).fn H (ds++[]))=s.fn H (ds++[]) from rfl,s3,show((OpenSpec.ofChange s).at F).vars=s.vars from rfl,hv];rfl
def y8 (n k:Nat):List Nat->List (Nat×Nat)
 | []=>[]
 | _::r=>(n,k)::y8 (n+1) (k+1) r
def HI (n k:Nat):y8 n k []=[]:=rfl
def EC (n k s:Nat)(r:List Nat):y8 n k (s::r)=(n,k)::y8 (n+1) (k+1) r:=rfl
def Fin.zero {cx:Cx}{N:Nat}{rs:List ResultVar}{nm:Nat}{v:V}{eff:List (Nat×Option Blk)}{b0 n:Nat}{e:Env}{M:ao}(gs:List Nat)(h1:kX cx.P N rs e (M.ghosts n gs))(h2:(li cx.P rs e (M.ghosts n gs)).finOk (oY nm (y8 n 0 gs)) (M.ghosts n gs))(h3:((li cx.P rs e (M.ghosts n gs)).fin (oY nm (y8 n 0 gs)) (M.ghosts n gs)).le v)(h4:HH nm (M.ghosts n gs) (y8 n 0 gs)=eff)(h5:mX b0 (M.ghosts n gs) (y8 n 0 gs)):tK cx N rs nm ao.nil v eff b0 n e M :=
 Fin.own gs _ h1 h2 h3 h4 h5
def cO (a b:List (List V)):plainLL (a++b)=(plainLL a&&plainLL b):=by
 rw[c9,c9,c9,List.all_append]
mutual
def V.owns:V->List Nat
 | .own x _ _=>[x]
 | .agg cs=>ownsL cs
 | .tup cs=>ownsL cs
 | _=>[]
def ownsL:List V->List Nat
 | []=>[]
 | v::r=>v.owns++ownsL r
end
def xb (k:Nat):List Nat->List (Nat×Nat)
 | []=>[]
 | x::r=>(x,k)::xb (k+1) r
def Ix (k:Nat):xb k []=[]:=rfl
def E8 (k x:Nat)(r:List Nat):xb k (x::r)=(x,k)::xb (k+1) r:=rfl
def Fin.auto {cx:Cx}{N:Nat}{rs:List ResultVar}{nm:Nat}{v:V}{eff:List (Nat×Option Blk)}{b0 n:Nat}{e:Env}{M:ao}{r:V}(h0:li cx.P rs e M=r){l:List Nat}(hl:r.owns=l)(h1:kX cx.P N rs e M)(h2:r.finOk (oY nm (xb 0 l)) M)(h3:(r.fin (oY nm (xb 0 l)) M).le v)(h4:HH nm M (xb 0 l)=eff)(h5:mX b0 M (xb 0 l)):tK cx N rs nm ao.nil v eff b0 n e M:=by
 subst h0
 exact Fin.own [] (xb 0 l) h1 h2 h3 h4 h5
mutual
def V.shift (y lo:Nat):V->V
 | .own nm l n=>if nm=y then .own nm (l-lo) n else .own nm l n
 | .agg cs=>.agg (shiftL y lo cs)
 | .tup cs=>.tup (shiftL y lo cs)
 | .gd b v=>.gd b (v.shift y lo)
 | v=>v
def shiftL (y lo:Nat):List V->List V
 | []=>[]
 | v::r=>v.shift y lo::shiftL y lo r
end
def Loc.shift (l:Loc)(lo:Nat):Loc:=@Loc.mk l.b (l.o+lo*l.sz) l.sz (l.tot-lo) (fzTo l lo (l.tot-lo))
def AX (a b:V):iw false a b=b.strip true:=by
 unfold iw
 split
 ·rename_i x y h1 h2
  simpa using h2.symm
 ·simp
def Eb (a b:V):iw true a b=a.strip true:=by
 unfold iw
 split
 ·rename_i x y h1 h2
  simpa using h1.symm
 ·simp
section
variable {cx:Cx} {f:FuncId} {nm:Nat} {args:List V} {v:V} {s1 s2:Nat} {r1 r2:List (List V)}
end
mutual
def V.flatO (l:List Nat):V->Prop
 | .own x _ _=>x∈l
 | .agg cs=>flatOL l cs
 | .tup cs=>flatOL l cs
 | .gd _ v=>v.flatO l
 | v=>v.flat=true
def flatOL (l:List Nat):List V->Prop
 | []=>True
 | v::r=>v.flatO l/\flatOL l r
end
def v6 (rows:List (List V)):Bool:=rows.all flatL
def ko {q l:List V}{ns:List Nat}(h:flatOL ns l){i:Nat}{u:V}(hi:l[i]? = some u):u.flatO ns:=by
 induction l generalizing i with
 | nil=>simp at hi
 | cons v r ih =>
  simp only[flatOL]at h
  cases i with
  | zero=>simp at hi;subst hi;exact h.1
  | succ i=>exact ih h.2 (by simpa using hi)
def Is.flatO {l:List Nat}{ρ ρ':Names}{D D':Nat->Prop}{w:World}(hρ:∀ x∈l,ρ' x=ρ x){v:V}{cv:Value}(h:Is ρ D w v cv)(hp:v.flatO l):Is ρ' D' w v cv:=by
 induction h with
 | any cv=>exact .any _
 | bool b=>exact .bool _
 | bit b ht hf=>exact .bit b ht hf
 | int k n=>exact .int _ _
 | str s=>exact .str _
 | nilp=>exact .nilp
 | upt p=>exact .upt p
 | ys0=>simp[V.flatO,V.flat]at hp
 | ys=>simp[V.flatO,V.flat]at hp
 | ptr h=>simp[V.flatO,V.flat]at hp
 | rp cv hd hb hc _ ih=>simp[V.flatO,V.flat]at hp
 | nils=>exact .nils
 | sl0 ht=>simp[V.flatO,V.flat]at hp
 | sl cv hc ht hd hb hr hx _ ih=>simp[V.flatO,V.flat]at hp
 | own0=>exact .own0
 | own h hl hc=>simp only[V.flatO]at hp;exact .own ((hρ _ hp).trans h) hl hc
 | ownc0=>simp[V.flatO,V.flat]at hp
 | ownc h hl hc=>simp[V.flatO,V.flat]at hp
 | chan h=>simp[V.flatO,V.flat]at hp
 | mp h=>simp[V.flatO,V.flat]at hp
 | fn hn _ ih=>simp[V.flatO,V.flat]at hp
 | fnb hn _ ih=>simp[V.flatO,V.flat]at hp
 | iface hv ih=>simp only[V.flatO]at hp;exact Is.flat (.iface hv) hp
 | agg hn _ ih=>simp only[V.flatO]at hp;exact .agg hn (fun i u cv hi hc=>ih i u cv hi hc (ko (q:=[]) hp hi))
 | tup hn _ ih=>simp only[V.flatO]at hp;exact .tup hn (fun i u cv hi hc=>ih i u cv hi hc (ko (q:=[]) hp hi))
 | gd _ h0 ih=>simp only[V.flatO]at hp;exact .gd (fun hb=>ih hb hp) h0
 | val v=>exact .val _
def vE:∀ {eff:List (Nat×Option Blk)} {M:ao} {x:Nat} {k:Blk},x∈ak eff->(M.app eff) x=some k -> ∃ p∈eff,p.2=some k
  | [],_,_,_,hx,_=>by simp[ak]at hx
  |(y,q)::r,M,x,k,hx,h=>by
    rw[xo]at h
    by_cases hr:x∈ak r
    · obtain⟨p,h1,h2⟩:=vE hr h
      exact⟨p,List.mem_cons_of_mem _ h1,h2⟩
    · rw[ao.app_of_notin hr]at h
      have e:x=y:=by simp only[ak,List.map_cons,List.mem_cons]at hx;exact hx.resolve_right hr
      subst e
      rw[ao.put_same]at h
      exact⟨_,List.mem_cons_self,h⟩
def Ev.viewE {cx:Cx}{f:FuncId}{nm:Nat}{args:List V}{M:ao}{v:V}{eff:List (Nat×Option Blk)}(h:Ev cx f nm (finL [] M args) ao.nil v eff)(hok:finLOk [] M args)(hv:v.flatO (ak eff))(hfl:∀ p∈eff,∀ k,p.2=some k->(k.ob.isCells=true/\v6 k.rows=true))(hfe:∀ x∈ak eff,cm nm x):Ev cx f nm args M v eff:=by
  refine⟨h.1,fun X w ρ cargs B hr hfresh hB hn hargs=>?_⟩
  have hdom:∀ b,bP X ρ ao.nil b->bP X ρ M b:=by
    rintro b (hx|⟨nm,l,h1,_⟩)
    · exact .inl hx
    · simp[ao.nil]at h1
  have hr0:Rel cx.G X w (cG ρ ao.nil) ρ ao.nil w :=
    { size:=Nat.le_refl _,os:=rfl,tape:=rfl,output:=rfl,old:=fun _ _ _=>rfl
      live:=fun nm k hk=>by simp[ao.nil]at hk
      inj:=fun nm nm' l l' h1=>by simp[ao.nil]at h1
      hX:=fun b hb=>⟨(hr.hX b hb).1,by rintro ⟨nm,q,h1,_⟩;simp[ao.nil]at h1⟩
      glob:=fun g=>(hr.glob g).step (fun _ _ h=>h) (Nat.le_refl _) (fun _ _ _=>rfl) (fun b _ hb=>hdom b hb) }
  refine(h.2 X w ρ cargs B hr0 hfresh (fun x hx=>⟨rfl,(hB x hx).2⟩) (by rw[cY];exact hn) ?_).mono ?_
  · intro i u cv hi hc
    rw[fg]at hi
    obtain⟨u',h1,rfl⟩:=Option.map_eq_some_iff.1 hi
    refine ni (cx:=cx) hr (fun nm y hy=>by simp[aS]at hy) hdom (fun nm l _ hM hl=>?_) (hargs i u' cv h1 hc) (dE hok h1)
    rintro (hx|⟨nm',q,h2,_⟩)
    · exact(hr.block_lt hM hl).2.1 hx
    · simp[ao.nil]at h2
  · rintro e' w' ⟨cv,rfl,ρ',r,m,hvv,hn'⟩
    have hkept:∀ b,b<w.heap.size->w'.heap[b]? = w.heap[b]?:=fun b hb=>m.kept b hb (fun nm l h1=>by simp[ao.nil]at h1)
    obtain⟨ρ2,g1,g2⟩:∃ ρ2:Names,(∀ x∈ak eff,ρ2 x=ρ' x) /\ ∀ x,x ∉ ak eff->ρ2 x=ρ x:=by
      classical
      exact⟨fun x=>if x∈ak eff then ρ' x else ρ x,fun x hx=>if_pos hx,fun x hx=>if_neg hx⟩
    have hin:∀ x∈ak eff,(M.app eff) x=(ao.nil.app eff) x:=fun x hx=>ao.app_congr (fun h=>absurd hx h)
    have hfar:∀ x∈ak eff,∀ l,((M.app eff) x).isSome=true->ρ2 x=some l->w.heap.size<=l.b:=fun x hx l h1 h2=>by
      rw[hin x hx]at h1
      rw[g1 x hx]at h2
      rcases(r.block_lt h1 h2).2.2 with ⟨nm',q,c1,_⟩|c
      · simp[ao.nil]at c1
      · exact c
    have mv:Moves ρ M w ρ2 (M.app eff) w':=by
      refine⟨fun x l hx=>?_,m.size,m.os,m.tape,m.output,fun b hb _=>hkept b hb,fun x l h1 h2 h3=>?_⟩
      · by_cases e:x∈ak eff
        · rw[g1 x e];exact m.names x l hx
        · rw[g2 x e];exact hx
      · by_cases e:x∈ak eff
        · have:=hfar x e l h1 h2;omega
        · rw[ao.app_of_notin e]at h1;rw[g2 x e]at h2;exact⟨x,l,h1,h2,rfl⟩
    refine⟨cv,rfl,ρ2,?_,mv,hvv.flatO (fun x hx=>g1 x hx) hv,fun x hx=>?_⟩
    · refine hr.move mv (fun a b l l' a1 a2 a3 a4 a5=>?_) (fun x k hx=>?_)
      · by_cases ea:a∈ak eff
        · by_cases eb:b∈ak eff
          · rw[hin a ea]at a1;rw[hin b eb]at a2;rw[g1 a ea]at a3;rw[g1 b eb]at a4
            exact r.inj a b l l' a1 a2 a3 a4 a5
          · have h1:=hfar a ea l a1 a3
            rw[ao.app_of_notin eb]at a2;rw[g2 b eb]at a4
            have h2:=(hr.block_lt a2 a4).1
            omega
        · by_cases eb:b∈ak eff
          · have h1:=hfar b eb l' a2 a4
            rw[ao.app_of_notin ea]at a1;rw[g2 a ea]at a3
            have h2:=(hr.block_lt a1 a3).1
            omega
          · rw[ao.app_of_notin ea]at a1;rw[ao.app_of_notin eb]at a2;rw[g2 a ea]at a3;rw[g2 b eb]at a4
            exact hr.inj a b l l' a1 a2 a3 a4 a5
      · by_cases e:x∈ak eff
        · rw [hin x e]at hx
          rcases r.live x k hx with ⟨a1,a2⟩|⟨l,a1,a2,a3,a4⟩
          · exact .inr (.inl ⟨a1,by rw[g1 x e];exact a2⟩)
          · refine .inr (.inr ⟨l,by rw[g1 x e];exact a1,?_,a3,a4.mono rfl (fun u c hk c2=>?_)⟩)
            · exact .inr (hfar x e l (by rw[hin x e,hx];rfl) (by rw[g1 x e];exact a1))
            · obtain⟨p,p1,p2⟩:=vE e hx
              obtain⟨q1,q2⟩:=hfl p p1 k p2
              rcases hk with ⟨i,j,row,hi,hj⟩|⟨_,_,_,hch,_⟩
              · exact c2.flat (mn (List.all_eq_true.1 q2 row (List.mem_of_getElem? hi)) hj)
              · rw[hch]at q1;cases q1
        · rw[ao.app_of_notin e]at hx
          exact .inl ⟨hx,fun h=>by rw[g2 x e];exact h,fun l hl=>hkept l.b (hr.block_lt (by rw[hx];rfl) hl).1⟩
    · by_cases e:x∈ak eff
      · exact absurd (hfe x e) hx
      · exact g2 x e
section
variable {cx:Cx} {Q:Post} {st:List Frm} {nm:Nat} {e:Env} {M:ao}
def bg {d:Bool}{fs:List (List Nat)}{ops:List Oper}{dst:Option Tmp}{g:FuncId}{args:Array Operand}{ats:Array TypeId}{t:TypeId}{pos:String}{af:Array Edge}{r:List Oper}{i:Nat}{xs as':List V}
  (l:List Nat) (has:args.toList.map (ax cx.G true e)=xs) (has':finL [] (M.only l) xs=as') (hok:finLOk [] (M.only l) xs) {v:V} (hv:v.flat=true) (hev:Ev cx g (nm+16*i) as' ao.nil v []) (h:aG cx Q st nm (e.putD dst v) M d (fs++[l]) ops r (i+1)):ig cx Q st nm e M d fs ops ⟨dst,.call ⟨.value (.func g),args,ats⟩,t,pos,af,none⟩ r i:=CP l has has' hok hv hev h
def cX {d:Bool}{fs:List (List Nat)}{ops:List Oper}{c:Bool}{dst:Option Tmp}{g:FuncId}{args:Array Operand}{ats:Array TypeId}{t:TypeId}{pos:String}{af:Array Edge}{gd:Option (Nat×Bool)}{r:List Oper}{i:Nat}{xs as':List V}
  (l:List Nat) (has:args.toList.map (ax cx.G c e)=xs) (has':c=true->finL [] (M.only l) xs=as') (hok:c=true->finLOk [] (M.only l) xs) {v:V} (hv:v.flat=true) (hev:c=true->Ev cx g (nm+16*i) as' ao.nil v []) (h:aG cx Q st nm (e.putD dst (.gd c v)) M d (fs++[l]) ops r (i+1)):eA cx Q st nm e M d fs c ops ⟨dst,.call ⟨.value (.func g),args,ats⟩,t,pos,af,gd⟩ r i:=zN l has has' hok hv hev h
end
def ye (cx:Cx)(Q:Post)(st:List Frm)(nm:Nat)(e:Env)(M:ao)(d:Bool)(fs:List (List Nat))(c x want:Bool)(ops:List Oper)(o:Oper)(r:List Oper)(i:Nat):bL cx Q st nm e M d fs ((V.gd c (.bool x)).strip true) want ops o r i=bL cx Q st nm e M d fs (.bool (c&&(x==want))) true ops o r i:=by
 cases c with
 | true =>
  rw[mY]
  have h:∀ y:Bool,(y==true)=y:=fun y=>by cases y<;>rfl
  simp only[bL,iR,h,Bool.true_and]
 | false=>exact su cx Q st nm e M d fs false x want ops o r i
section
variable {cx:Cx} {f:FuncId} {nm:Nat} {args:List V} {v u:V} {eff:List (Nat×Option Blk)}
def Ev.freeze (h:Ev cx f nm args ao.nil v eff)(hok:v.finOk [] (ao.nil.app eff))(he:v.fin [] (ao.nil.app eff)=u):Ev cx f nm args ao.nil u []:=by
 subst he
 refine⟨h.1,fun X w ρ cargs B hr hfr hB hn hargs=>(h.2 X w ρ cargs B hr hfr hB hn hargs).mono ?_⟩
 rintro e w' ⟨cv,rfl,ρ',r,m,hv,_⟩
 have hkept:∀ b,b<w.heap.size->w'.heap[b]? = w.heap[b]?:=fun b hb=>m.kept b hb (fun nm l h1=>by simp[ao.nil]at h1)
 have mv:Moves ρ ao.nil w ρ ao.nil w':=⟨fun _ _ h=>h,m.size,m.os,m.tape,m.output,fun b hb _=>hkept b hb,fun nm l h1=>by simp[ao.nil]at h1⟩
 refine⟨cv,rfl,ρ,hr.move mv hr.inj (fun nm k hk=>by simp[ao.app,ao.nil]at hk),mv,?_,fun _ _=>rfl⟩
 refine ni (cx:=cx) r (fun nm y hy=>by simp[aS]at hy) ?_ (fun nm l _ hM hl=>?_) hv hok
 ·rintro b (hx|⟨nm,l,h1,_⟩)
  ·exact .inl hx
  ·simp[ao.app,ao.nil]at h1
 ·rintro (hx|⟨nm',q,h2,_⟩)
  ·exact(r.block_lt hM hl).2.1 hx
  ·simp[ao.app,ao.nil]at h2
def Ev.res_le {M:ao}(h:Ev cx f nm args M v eff)(hle:v.le u):Ev cx f nm args M u eff:=by
 refine⟨h.1,fun X w ρ cargs B hr hfr hB hn hargs=>(h.2 X w ρ cargs B hr hfr hB hn hargs).mono ?_⟩
 rintro e w' ⟨cv,rfl,ρ',r,m,hv,hn'⟩
 exact⟨cv,rfl,ρ',r,m,hv.le u hle,hn'⟩
end
section
variable {cx:Cx} {f:FuncId} {nm:Nat} {args:List V} {v u:V} {eff:List (Nat×Option Blk)}
def O1 (cx:Cx)(f:FuncId)(nm:Nat)(args:List V)(u:V):Prop :=
 ∃ v eff,Ev cx f nm args ao.nil v eff/\v.flatO (ak eff)/\(∀ p∈eff,∀ k,p.2=some k->k.ob.isCells=true/\v6 k.rows=true)/\(∀ x∈ak eff,cm nm x)/\v.finOk [] (ao.nil.app eff)/\(v.fin [] (ao.nil.app eff)).le u
mutual
def nn (l:List Nat):∀(v:V),v.flat=true->v.flatO l
 | .agg cs,h=>by simp only[V.flatO];exact flatL_flatOL l cs (by simpa [V.flat] using h)
 | .tup cs,h=>by simp only[V.flatO];exact flatL_flatOL l cs (by simpa [V.flat] using h)
 | .gd _ v,h=>by simp only[V.flatO];exact nn l v (by simpa [V.flat] using h)
 | .own _ _ _,h=>by simp[V.flat]at h
 | .ownc _ _ _ _,h=>by simp[V.flat]at h
 | .chan _,h=>by simp[V.flat]at h
 | .mp _,h=>by simp[V.flat]at h
 | .fnb _ _,h=>by simp[V.flat]at h
 | .iface _ _,h=>by simpa only[V.flatO] using h
 | .any,h | .bool _,h | .bit _ _,h | .int _ _,h | .str _,h | .nilp,h | .upt,h | .ys _ _ _,h | .ptr _ _ _,h | .rp _,h | .nils,h | .sl _ _ _,h | .fn _ _,h | .val _,h=>by simpa only[V.flatO] using h
def flatL_flatOL (l:List Nat):∀(cs:List V),flatL cs=true->flatOL l cs
 | [],_=>trivial
 | v::r,h=>by
  simp only[flatL,Bool.and_eq_true]at h
  exact⟨nn l v h.1,flatL_flatOL l r h.2⟩
end
mutual
def gW (M:ao):∀(v:V),v.flat=true->v.finOk [] M/\v.fin [] M=v
 | .agg cs,h=>by
  obtain⟨h1,h2⟩:=flatL_fin M cs (by simpa [V.flat] using h)
  exact⟨by simpa only[V.finOk] using h1,by simp only[V.fin,h2]⟩
 | .tup cs,h=>by
  obtain⟨h1,h2⟩:=flatL_fin M cs (by simpa [V.flat] using h)
  exact⟨by simpa only[V.finOk] using h1,by simp only[V.fin,h2]⟩
 | .gd _ v,h=>by
  obtain⟨h1,h2⟩:=gW M v (by simpa [V.flat] using h)
  exact⟨by simpa only[V.finOk] using h1,by simp only[V.fin,h2]⟩
 | .own _ _ _,h | .ownc _ _ _ _,h | .chan _,h | .mp _,h | .fnb _ _,h | .ys _ _ _,h | .ptr _ _ _,h | .rp _,h | .sl _ _ _,h | .fn _ _,h=>by simp[V.flat]at h
 | .iface _ v,h=>by
  obtain⟨h1,h2⟩:=gW M v (by simpa [V.flat] using h)
  exact⟨by simpa only[V.finOk] using h1,by simp only[V.fin,h2]⟩
 | .any,_ | .bool _,_ | .bit _ _,_ | .int _ _,_ | .str _,_ | .nilp,_ | .upt,_ | .nils,_ | .val _,_=>by simp[V.finOk,V.fin]
def flatL_fin (M:ao):∀(l:List V),flatL l=true->finLOk [] M l/\finL [] M l=l
 | [],_=>⟨trivial,rfl⟩
 | v::r,h=>by
  simp only[flatL,Bool.and_eq_true]at h
  obtain⟨h1,h2⟩:=gW M v h.1
  obtain⟨h3,h4⟩:=flatL_fin M r h.2
  exact⟨⟨h1,h3⟩,by simp only[finL,h2,h4]⟩
end
mutual
def V.le_refl:∀(v:V),v.le v
 | .nils=>by simp only[V.le]
 | .agg cs=>by simp only[V.le];exact leL_refl cs
 | .tup cs=>by simp only[V.le];exact leL_refl cs
 | .any | .bool _ | .bit _ _ | .int _ _ | .str _ | .nilp | .upt | .ptr _ _ _ | .rp _ | .sl _ _ _ | .own _ _ _ | .chan _ | .mp _ | .fnb _ _ | .iface _ _ | .fn _ _ | .gd _ _ | .val _=>by rw[V.le_solo rfl]
 | .ownc _ _ _ _ | .ys _ _ _=>by simp only[V.le]
def leL_refl:∀(l:List V),leL l l
 | []=>by simp only[leL]
 | v::r=>by simp only[leL];exact⟨V.le_refl v,leL_refl r⟩
end
def Jq {X:Nat->Prop}{w0:World}{I:Nat->Prop}{ρ ρ2:Names}{M:ao}{w:World}{D D':Nat->Prop}{l:List Nat}(h:Rel cx.G X w0 I ρ M w)(hfl:∀ nm∈l,∀ k,M nm=some k->v6 k.rows=true)(hout:∀ nm∈l,∀ q,(M nm).isSome=true->ρ nm=some q -> ¬ D' q.b)
    {v:V} {cv:Value} (hv:Is ρ D w v cv):v.flatO l->v.finOk [] M->Is ρ2 D' w (v.fin [] M) cv:=by
  have hcv:=hv
  induction hv with
  | agg hn hu ih =>
    intro hf hok
    simp only[V.flatO]at hf
    simp only[V.finOk]at hok
    simp only[V.fin]
    refine .agg (by rw[cY];exact hn) (fun i u cv hi hc=>?_)
    rw[fg]at hi
    obtain⟨u',h1,rfl⟩:=Option.map_eq_some_iff.1 hi
    exact ih i u' cv h1 hc (hu i u' cv h1 hc) (ko (q:=[]) hf h1) (dE hok h1)
  | tup hn hu ih =>
    intro hf hok
    simp only[V.flatO]at hf
    simp only[V.finOk]at hok
    simp only[V.fin]
    refine .tup (by rw[cY];exact hn) (fun i u cv hi hc=>?_)
    rw[fg]at hi
    obtain⟨u',h1,rfl⟩:=Option.map_eq_some_iff.1 hi
    exact ih i u' cv h1 hc (hu i u' cv h1 hc) (ko (q:=[]) hf h1) (dE hok h1)
  | gd hg h0 ih =>
    intro hf hok
    simp only[V.flatO]at hf
    simp only[V.finOk]at hok
    simp only[V.fin]
    exact .gd (fun hb=>ih hb (hg hb) hf hok) h0
  | own0 =>
    intro hf hok
    simp only[V.fin,dT,List.take_zero]
    exact .sl0 (fun h=>by cases h)
  | own hl hlc hnc =>
    rename_i nm lo n c q
    intro hf hok
    simp only[V.flatO]at hf
    simp only[V.finOk]at hok
    simp only[V.fin,dT]
    obtain⟨h0,hp⟩:=hok rfl
    rcases Nat.eq_zero_or_pos n with rfl|hpos
    · simp only[List.take_zero]
      exact .sl0 (fun h=>by cases h)
    · rcases h0 with rfl|⟨hM,hle⟩
      · omega
      · obtain⟨k,hk⟩:=Option.isSome_iff_exists.1 hM
        have hro:bE M nm=k.rows:=by rw[bE,hk]
        have hsz:dQ M nm=k.sz:=by rw[dQ,hk]
        have hbl:=h.block_lt hM hl
        have hfr:=hfl nm hf k hk
        rw[hro]at hle hp ⊢
        rw[hsz]
        rcases h.live nm k hk with ⟨_,a2⟩|⟨l2,a1,_,_,⟨cs,e,_,a4,a5,a6,a7,a8,a9⟩|⟨_,_,_,_,_,_,_,_,_,a4,_⟩⟩
        rotate_right
        · rw[a4]at hle;simp at hle;omega
        · rw[hl]at a2;cases a2
        · rw [hl]at a1;cases a1
          have hg:∀(i:Nat) (row:List V),((k.rows.drop lo).take n)[i]? = some row->k.rows[lo+i]? = some row:=fun i row hi=>by
            rw[List.getElem?_take]at hi
            split at hi
            · rwa[List.getElem?_drop]at hi
            · cases hi
          have hlen:((k.rows.drop lo).take n).length=n:=by simp;omega
          have hcell:∀(i j:Nat) (row:List V) (u:V),((k.rows.drop lo).take n)[i]? = some row->row[j]? = some u -> ∃ c,w.cell? ⟨q.b,q.o+lo*q.sz+i*q.sz+j,none⟩=some c/\Is ρ2 D' w u c:=fun i j row u hi hj=>by
            obtain⟨c',c1,c2⟩:=a9 _ j row u (hg i row hi) hj
            refine⟨c',?_,c2.flat (mn (List.all_eq_true.1 hfr row (List.mem_of_getElem? (hg i row hi))) hj)⟩
            rw[cell_of_row w q.b _ cs e _ a4,<- c1]
            congr 1
            rw[Nat.add_mul];omega
          have:=Is.sl (ρ:=ρ2) (D:=D') (w:=w) (t:=false) (sz:=k.sz) (rows:=(k.rows.drop lo).take n) (b:=q.b) (o:=q.o+lo*q.sz) (c:=c) (fun i j=>(w.cell? ⟨q.b,q.o+lo*q.sz+i*q.sz+j,none⟩).getD undef) (by rw[hlen];exact hnc) (fun h=>by cases h) (hout nm hf q hM hl) hbl.1
            (fun i row hi=>by rw[a5];exact a8 _ row (hg i row hi)) (fun i j row u hi hj=>by
              obtain⟨c',c1,_⟩:=hcell i j row u hi hj
              rw[a5,c1];rfl) (fun i j row u hi hj=>by
              obtain⟨c',c1,c2⟩:=hcell i j row u hi hj
              rw[c1]
              exact c2)
          rwa[hlen]at this
  | any cv=>intro _ _;simp only[V.fin];exact .any _
  | bool b=>intro _ _;simp only[V.fin];exact .bool _
  | bit b ht hf=>intro _ _;simp only[V.fin];exact .bit b ht hf
  | int k n=>intro _ _;simp only[V.fin];exact .int _ _
  | str s=>intro _ _;simp only[V.fin];exact .str _
  | nilp=>intro _ _;simp only[V.fin];exact .nilp
  | upt p=>intro _ _;simp only[V.fin];exact .upt p
  | ys0=>intro hf;simp[V.flatO,V.flat]at hf
  | ys=>intro hf;simp[V.flatO,V.flat]at hf
  | nils=>intro _ _;simp only[V.fin];exact .nils
  | val v=>intro _ _;simp only[V.fin];exact .val _
  | ptr hl=>intro hf;simp[V.flatO,V.flat]at hf
  | ownc0=>intro hf;simp[V.flatO,V.flat]at hf
  | ownc h hl hc=>intro hf;simp[V.flatO,V.flat]at hf
  | chan h=>intro hf;simp[V.flatO,V.flat]at hf
  | mp h=>intro hf;simp[V.flatO,V.flat]at hf
  | fnb hn hu ih=>intro hf;simp[V.flatO,V.flat]at hf
  | iface hv ih =>
    intro hf hok
    simp only[V.flatO]at hf
    rw[(gW M (.iface _ _) hf).2]
    exact Is.flat (.iface hv) hf
  | rp cv hd hb hc hu ih=>intro hf;simp[V.flatO,V.flat]at hf
  | sl0 ht=>intro hf;simp[V.flatO,V.flat]at hf
  | sl cv hc ht hd hb hr hx hu ih=>intro hf;simp[V.flatO,V.flat]at hf
  | fn hn hu ih=>intro hf;simp[V.flatO,V.flat]at hf
mutual
def pA {M M':ao}{l:List Nat}(hM:∀ x∈l,M' x=M x):∀(v:V),v.flatO l->(v.finOk [] M->v.finOk [] M')/\v.fin [] M'=v.fin [] M
 | .own nm lo n,hf=>by
  simp only[V.flatO]at hf
  simp only[V.finOk,V.fin,dT,bE,dQ,hM nm hf]
  exact⟨id,trivial⟩
 | .agg cs,hf=>by
  simp only[V.flatO]at hf
  obtain⟨h1,h2⟩:=finL_congr hM cs hf
  simp only[V.finOk,V.fin];exact⟨h1,by rw[h2]⟩
 | .tup cs,hf=>by
  simp only[V.flatO]at hf
  obtain⟨h1,h2⟩:=finL_congr hM cs hf
  simp only[V.finOk,V.fin];exact⟨h1,by rw[h2]⟩
 | .gd b v,hf=>by
  simp only[V.flatO]at hf
  obtain⟨h1,h2⟩:=pA hM v hf
  simp only[V.finOk,V.fin];exact⟨h1,by rw[h2]⟩
 | .ys _ _ _,hf | .ptr _ _ _,hf | .ownc _ _ _ _,hf | .chan _,hf | .mp _,hf | .fnb _ _,hf | .rp _,hf | .sl _ _ _,hf | .fn _ _,hf=>by simp[V.flatO,V.flat]at hf
 | .iface t v,hf=>by
  simp only[V.flatO]at hf
  obtain⟨h1,h2⟩:=gW M (.iface t v) hf
  obtain⟨h3,h4⟩:=gW M' (.iface t v) hf
  exact⟨fun _=>h3,by rw[h2,h4]⟩
 | .any,_ | .bool _,_ | .bit _ _,_ | .int _ _,_ | .str _,_ | .nilp,_ | .upt,_ | .nils,_ | .val _,_=>by simp[V.finOk,V.fin]
def finL_congr {M M':ao}{l:List Nat}(hM:∀ x∈l,M' x=M x):∀(cs:List V),flatOL l cs->(finLOk [] M cs->finLOk [] M' cs)/\finL [] M' cs=finL [] M cs
 | [],_=>⟨id,rfl⟩
 | v::r,hf=>by
  simp only[flatOL]at hf
  obtain⟨h1,h2⟩:=pA hM v hf.1
  obtain⟨h3,h4⟩:=finL_congr hM r hf.2
  exact⟨fun hh=>⟨h1 hh.1,h3 hh.2⟩,by simp only[finL,h2,h4]⟩
end
def Ev.freezeM {M:ao}(h:Ev cx f nm args M v eff)(hM:∀ x∈ak eff,M x=none)(hfl:∀ p∈eff,∀ k,p.2=some k->v6 k.rows=true)(hv:v.flatO (ak eff))(hok:v.finOk [] (ao.nil.app eff))(hle:(v.fin [] (ao.nil.app eff)).le u):Ev cx f nm args M u []:=by
 refine⟨h.1,fun X w ρ cargs B hr hfr hB hn hargs=>(h.2 X w ρ cargs B hr hfr hB hn hargs).mono ?_⟩
 rintro e w' ⟨cv,rfl,ρ',r,m,hvv,hn'⟩
 have hin:∀ x∈ak eff,(M.app eff) x=(ao.nil.app eff) x:=fun x hx=>ao.app_congr (fun h=>absurd hx h)
 obtain⟨r1,m1⟩:=r.drop (M':=M) (fun x k hk=>by
  by_cases e:x∈ak eff
  ·rw[hM x e]at hk;cases hk
  ·rw[ao.app_of_notin e];exact hk)
 obtain⟨c1,c2⟩:=pA (M:=ao.nil.app eff) (M':=M.app eff) hin v hv
 refine⟨cv,rfl,ρ',r1,m.trans m1,?_,hn'⟩
 refine Is.le ?_ u hle
 rw[<- c2]
 refine Jq (cx:=cx) r (l:=ak eff) (fun x hx k hk=>?_) (fun x hx q h1 h2=>?_) hvv hv (c1 hok)
 ·obtain⟨p,p1,p2⟩:=vE hx hk
  exact hfl p p1 k p2
 ·rintro (hX|⟨y,q',g1,g2,g3⟩)
  ·exact(r.block_lt h1 h2).2.1 hX
  ·have hy:y ∉ ak eff:=fun hy=>by
    have:(M.app []) y=M y:=rfl
    rw[this,hM y hy]at g1;cases g1
   have:=r.inj x y q q' h1 (by rw[ao.app_of_notin hy];exact g1) h2 g2 g3.symm
   subst this
   exact hy hx
end
section
variable {cx:Cx} {f:FuncId} {nm:Nat} {args:List V} {u:V}
def O1.view {M:ao}(h:O1 cx f nm (finL [] M args) u)(hM:∀ x,cm nm x->M x=none)(hok:finLOk [] M args):Ev cx f nm args M u []:=by
 obtain⟨v,eff,h1,h2,h3,h4,h5,h6⟩:=h
 exact(Ev.viewE h1 hok h2 h3 h4).freezeM (fun x hx=>hM x (h4 x hx)) (fun p hp k hk=>(h3 p hp k hk).2) h2 h5 h6
variable {Q:Post} {st:List Frm} {e:Env} {M:ao}
end
section
variable {cx:Cx} {Q:Post} {st:List Frm} {nm:Nat} {e:Env} {M:ao}
def bh {d:Bool}{fs:List (List Nat)}{ops:List Oper}{dst:Option Tmp}{x:Tmp}{g:FuncId}{args:Array Operand}{ats:Array TypeId}{t:TypeId}{pos:String}{af:Array Edge}{r:List Oper}{i:Nat}
  (hf:ax cx.G true e (.tmp x) = .fn g []) (h:ig cx Q st nm e M d fs ops ⟨dst,.call ⟨.value (.func g),args,ats⟩,t,pos,af,none⟩ r i):ig cx Q st nm e M d fs ops ⟨dst,.call ⟨.value (.tmp x),args,ats⟩,t,pos,af,none⟩ r i:=by
 have e1:∀ K,fF cx true e M (nm+16*i) ⟨dst,.call ⟨.value (.tmp x),args,ats⟩,t,pos,af,none⟩ K=fF cx true e M (nm+16*i) ⟨dst,.call ⟨.value (.func g),args,ats⟩,t,pos,af,none⟩ K:=fun K=>by
  simp only[fF,hf];simp only[ax]
 have e2:∀ K,tD cx e M (nm+16*i) ⟨dst,.call ⟨.value (.tmp x),args,ats⟩,t,pos,af,none⟩ K=tD cx e M (nm+16*i) ⟨dst,.call ⟨.value (.func g),args,ats⟩,t,pos,af,none⟩ K:=fun K=>by
  simp only[tD,hf];simp only[ax]
 have e3:∀ K,vz cx e M (nm+16*i) ⟨dst,.call ⟨.value (.tmp x),args,ats⟩,t,pos,af,none⟩ K=vz cx e M (nm+16*i) ⟨dst,.call ⟨.value (.func g),args,ats⟩,t,pos,af,none⟩ K:=fun K=>by
  simp only[vz,hf];simp only[ax]
 show cE _ _ _ _ _ _ _ _ _ _ _
 have h':cE _ _ _ _ _ _ _ _ _ _ _:=h
 simp only[cE,gc,if_true,e1,e2,e3]at h' ⊢
 exact h'
def aZ {d:Bool}{fs:List (List Nat)}{ops:List Oper}{c:Bool}{dst:Option Tmp}{x:Tmp}{g:FuncId}{args:Array Operand}{ats:Array TypeId}{t:TypeId}{pos:String}{af:Array Edge}{gd:Option (Nat×Bool)}{r:List Oper}{i:Nat}
  (hf:ax cx.G c e (.tmp x) = .fn g []) (h:eA cx Q st nm e M d fs c ops ⟨dst,.call ⟨.value (.func g),args,ats⟩,t,pos,af,gd⟩ r i):eA cx Q st nm e M d fs c ops ⟨dst,.call ⟨.value (.tmp x),args,ats⟩,t,pos,af,gd⟩ r i:=by
 have e1:∀ K,iE cx c e M (nm+16*i) ⟨dst,.call ⟨.value (.tmp x),args,ats⟩,t,pos,af,gd⟩ K=iE cx c e M (nm+16*i) ⟨dst,.call ⟨.value (.func g),args,ats⟩,t,pos,af,gd⟩ K:=fun K=>by
  simp only[iE,hf];simp only[ax]
 unfold eA at h ⊢
 rcases h with h|⟨hc,h⟩
 ·exact .inl (by rw[e1];exact h)
 ·subst hc
  refine .inr ⟨rfl,?_⟩
  have e2:∀ K,fF cx true e M (nm+16*i) ⟨dst,.call ⟨.value (.tmp x),args,ats⟩,t,pos,af,gd⟩ K=fF cx true e M (nm+16*i) ⟨dst,.call ⟨.value (.func g),args,ats⟩,t,pos,af,gd⟩ K:=fun K=>by
   simp only[fF,hf];simp only[ax]
  rw[e2];exact h
def aa {d:Bool}{fs:List (List Nat)}{ops:List Oper}{dst:Option Tmp}{g:FuncId}{args:Array Operand}{ats:Array TypeId}{t:TypeId}{pos:String}{af:Array Edge}{gd:Option (Nat×Bool)}{r:List Oper}{i:Nat}{v:V}
  (h:aG cx Q st nm (e.putD dst (.gd false v)) M d (fs++[[]]) ops r (i+1)):eA cx Q st nm e M d fs false ops ⟨dst,.call ⟨.value (.func g),args,ats⟩,t,pos,af,gd⟩ r i :=
 ac rfl (fun h=>by cases h) h
end
end Go.Proofs.YtjonibipieofcaaGreatDoor.Vm
