/-
 Texts joined: XPa,XPb,XNp.
-/
import Derived.Test.YtlnlopnpcmahgaaGreatDoorQl
set_option linter.all false
namespace Go.Proofs.YtlnlopnpcmahgaaGreatDoor
set_option maxRecDepth 100000
set_option maxHeartbeats 32000000
open Go Go.RowKit Go.Lib
def wQ {c:UInt8}{f:Bool}(h:gX f c=true):dp c=true:=by
 unfold dp
 cases f with
 | true =>
  have:gX false c=true:=by
   unfold gX at h ⊢
   simp only[Bool.not_true,Bool.false_and,Bool.or_false]at h
   rw[h];rfl
  rw[this];rfl
 | false=>rw[h];rfl
def oV {s:List UInt8}(h:ec s=true):s.all dp=true:=by
 cases s with
 | nil=>cases h
 | cons c r =>
  simp only[ec,Bool.and_eq_true,List.all_eq_true]at h
  simp only[List.all_cons,Bool.and_eq_true,List.all_eq_true]
  exact⟨wQ h.1,fun x hx=>wQ (h.2 x hx)⟩
def qN {s:List UInt8}(h:bU s=true):s.all dp=true:=by
 unfold bU at h
 cases hc:eg 58 s with
 | none=>rw[hc]at h;exact oV h
 | some p =>
  obtain⟨a,b⟩:=p
  rw[hc]at h
  simp only[Bool.and_eq_true]at h
  rw[(eH hc).1,List.all_append,List.all_cons,oV h.1,oV h.2]
  rfl
def Ia {n r:List UInt8}(h:n.all dp=true)(hr:∀ c,r.head? = some c->dp c=false):g9 (n++r)=n/\ov (n++r)=r:=by
 induction n with
 | nil =>
  cases r with
  | nil=>exact⟨rfl,rfl⟩
  | cons c r =>
   have:=hr c rfl
   unfold g9 ov
   simp[List.takeWhile_cons,List.dropWhile_cons,this]
 | cons x n ih =>
  simp only[List.all_cons,Bool.and_eq_true]at h
  obtain⟨h1,h2⟩:=ih h.2
  unfold g9 ov at *
  simp only[List.cons_append,List.takeWhile_cons,List.dropWhile_cons,h.1,if_true,h1,h2,and_self]
def rm {n r:List UInt8}(h:bU n=true)(hr:∀ c,r.head? = some c->dp c=false):e9 (n++r)=some (n,r):=by
 obtain⟨h1,h2⟩:=Ia (qN h) hr
 unfold e9
 rw[h1,h2,if_pos h]
def qt:∀ c:UInt8,dp c=true->c.toNat<128/\gq (c.toNat:Int)=true/\c≠47/\c≠60/\c≠62/\fS c=false:=by
 have key:∀ n:Fin 256,dp (UInt8.ofNat n.val)=true->n.val<128/\gq (n.val:Int)=true/\UInt8.ofNat n.val≠47/\UInt8.ofNat n.val≠60/\UInt8.ofNat n.val≠62/\fS (UInt8.ofNat n.val)=false:=by decide +kernel
 intro c hc
 have:=key ⟨c.toNat,c.toNat_lt⟩ (by simpa using hc)
 simpa using this
def IR {c:UInt8}(h1:c.toNat<128)(h2:gq (c.toNat:Int)=true):dB [c]=some [(c.toNat:Int)]:=by
 have e:encodeRune (c.toNat:Int)=[c]:=by
  rw[pC (by omega) (by omega)];simp
 have:=eU [(c.toNat:Int)] (by simp[h2])
 simpa only[enc,List.flatMap_cons,List.flatMap_nil,List.append_nil,e] using this
def ez {a b:List UInt8}(ha:(dB a).isSome=true)(hb:(dB b).isSome=true):(dB (a++b)).isSome=true:=by
 obtain⟨x,hx⟩:=Option.isSome_iff_exists.1 ha
 obtain⟨y,hy⟩:=Option.isSome_iff_exists.1 hb
 rw[pA hx hy];rfl
def Em:∀ {s:List UInt8},(∀ c∈s,c.toNat<128/\gq (c.toNat:Int)=true)->(dB s).isSome=true
 | [],_=>rfl
 | c::s,h=>by
  have h1:=h c (by simp)
  have h2:=Em (s:=s) (fun x hx=>h x (by simp[hx]))
  exact ez (a:=[c]) (by rw[IR h1.1 h1.2];rfl) h2
def tH {s:List UInt8}(h:bU s=true):(dB s).isSome=true :=
 Em fun c hc=>by
  have:=qt c (List.all_eq_true.1 (qN h) c hc)
  exact⟨this.1,this.2.1⟩
def qM {n:List UInt8}(h:bU n=true):∃ c t,n=c::t/\dp c=true:=by
 cases n with
 | nil=>exact absurd rfl (EE h)
 | cons c t =>
  have:=qN h
  simp only[List.all_cons,Bool.and_eq_true]at this
  exact⟨c,t,rfl,this.1⟩
def jC {r:List UInt8}(h:∀ c,r.head? = some c->fS c=false):aW r=r:=by
 cases r with
 | nil=>rfl
 | cons c r =>
  unfold aW
  rw[List.dropWhile_cons,if_neg (by simp[h c rfl])]
def Bi:∀ {g r:List UInt8},g.all fS=true->aW (g++r)=aW r
 | [],_,_=>rfl
 | c::g,r,h=>by
  simp only[List.all_cons,Bool.and_eq_true]at h
  have:=Bi (r:=r) h.2
  unfold aW at *
  rw[List.cons_append,List.dropWhile_cons,if_pos h.1,this]
def HJ {n r:List UInt8}(h:bU n=true):aW (n++r)=n++r:=by
 obtain⟨c,t,rfl,hc⟩:=qM h
 refine jC fun x hx=>?_
 simp at hx;subst hx
 exact(qt _ hc).2.2.2.2.2
def qL:∀ {s:List UInt8},(∀ c∈s,c≠9/\c≠10/\c≠13)->s.map cP=s
 | [],_=>rfl
 | c::s,h=>by
  have h1:=h c (by simp)
  rw[List.map_cons,qL fun x hx=>h x (by simp[hx])]
  congr 1
  unfold cP fS
  by_cases h32:c=32
  ·subst h32;rfl
  ·simp[h32,h1.1,h1.2.1,h1.2.2]
def Du {q:UInt8}{a r:List UInt8}(hq:q=39\/q=34)(ha:q ∉ a):ru (q::(a++q::r))=some (a,r):=by
 rw[o7,if_pos hq,kg ha]
def I9 (v:List UInt8):u6 (bq true v)=some v:=by
 unfold u6
 rw[qL,o9]
 intro c hc
 have:=tR true hc
 simp only[Bool.not_true,Bool.false_or,Bool.and_eq_true,bne_iff_ne,ne_eq]at this
 exact⟨this.2.1.2,this.2.2,this.1.2⟩
def D7 (v r:List UInt8):gU (34::(bq true v++34::r))=some (v,r):=by
 have hn:(34:UInt8) ∉ bq true v:=fun h=>by
  have:=tR true h
  simp at this
 unfold gU
 rw[Du (.inr rfl) hn]
 simp only[Option.bind_some,I9,Option.map_some]
def FF {a:Pr}(h:bU a.name=true)(r:List UInt8):gy (a.name++61::34::(bq true a.value++34::r))=some (a,r):=by
 unfold gy
 rw[rm h (by intro c hc;simp at hc;subst hc;decide)]
 have h1:aW (61::34::(bq true a.value++34::r))=61::34::(bq true a.value++34::r):=jC (by intro c hc;simp at hc;subst hc;decide)
 have h2:aW (34::(bq true a.value++34::r))=34::(bq true a.value++34::r):=jC (by intro c hc;simp at hc;subst hc;decide)
 simp only[Option.bind_some,h1,dK,if_true,h2,D7,Option.map_some]
def I5 {c:UInt8}{t:List UInt8}(h:dp c=true):j7 (c::t)=none:=by
 have:=qt c h
 unfold j7
 split
 ·rename_i e;cases e;exact absurd rfl this.2.2.2.2.1
 ·rename_i e;cases e;exact absurd rfl this.2.2.1
 ·rfl
def jH (k:Nat):List UInt8:=if k=3 then [47,62] else [62]
def I4 {k:Nat}(hk:k=1\/k=3)(r:List UInt8):j7 (aW (jH k++r))=some (k,r):=by
 rcases hk with rfl|rfl
 ·have:aW (jH 1++r)=62::r:=jC (by intro c hc;simp[jH]at hc;subst hc;decide)
  rw[this];rfl
 ·have:aW (jH 3++r)=47::62::r:=jC (by intro c hc;simp[jH]at hc;subst hc;decide)
  rw[this];rfl
def E0 {l:List Pr}{a:Pr}(h:Ih l a=true):(l.any fun b=>a.name==b.name)=false/\bU a.name=true/\aN a.value=0:=by
 unfold Ih at h
 simp only[Bool.and_eq_true,Bool.not_eq_true',decide_eq_true_eq]at h
 exact⟨h.1.1,h.1.2,h.2⟩
def Bs {k:Nat}(hk:k=1\/k=3)(n:List UInt8)(r:List UInt8):∀(az l:List Pr),(∀(i:Nat) (a:Pr),az[i]? = some a->Ih (l++az.take i) a=true)->jt n l (bD az++(jH k++r))=some (⟨k,n,l++az,[]⟩,r)
 | [],l,_=>by
  rw[List.append_nil]
  exact kE (by rw[show bD []=[] from rfl,List.nil_append];exact I4 hk r)
 | a::az,l,h=>by
  have h0:=h 0 a rfl
  rw[List.take_zero,List.append_nil]at h0
  obtain⟨g1,g2,g3⟩:=E0 h0
  have e:bD (a::az)++(jH k++r)=[32]++(a.name++61::34::(bq true a.value++34::(bD az++(jH k++r)))):=by
   have:bD (a::az)=jd a++bD az:=by simp[bD]
   rw[this]
   simp[jd]
  have hs:aW (bD (a::az)++(jH k++r))=a.name++61::34::(bq true a.value++34::(bD az++(jH k++r))):=by
   rw[e,Bi (by decide),HJ g2]
  obtain⟨c,t,hc,hw⟩:=qM g2
  rw[lj (a:=a) (r:=bD az++(jH k++r)) (by rw[hs,hc];exact I5 hw) (by rw[hs,e];simp) (by rw[hs];exact FF g2 _) g1]
  rw[Bs hk n r az (l++[a]) ?_,List.append_assoc]
  ·rfl
  ·intro i b hb
   have:=h (i+1) b (by simpa using hb)
   rw[List.take_succ_cons]at this
   simpa using this
def A3 {t:Tk}(ht:cR t=true)(r:List UInt8)(hr:t.kind=4 -> ∀ c,r.head? = some c->c=60):gS (dV t++r)=some (t,r):=by
 obtain⟨k,n,l,x⟩:=t
 unfold cR at ht
 dsimp only at ht hr
 split at ht
 ·rename_i hk
  simp only[Bool.and_eq_true,List.isEmpty_iff]at ht
  obtain⟨⟨h1,h2⟩,rfl⟩:=ht
  have h2:=(eD.1 h2).2
  obtain⟨c,t,hc,hw⟩:=qM h1
  have e:dV ⟨k,n,l,[]⟩++r=60::(n++(bD l++(jH k++r))):=by
   unfold dV jH
   rw[if_neg (show ¬ k=4 by omega),if_neg (show ¬ k=2 by omega)]
   simp
  have ht:=Bs hk n r l [] (fun i a ha=>by
   rw[List.nil_append]
   exact h2 i a (List.getElem?_eq_some_iff.1 ha).1 ha)
  rw[List.nil_append]at ht
  have hcl:∀ d,(bD l++(jH k++r)).head? = some d->dp d=false:=by
   intro d hd
   cases l with
   | nil =>
    rcases hk with rfl|rfl
    ·simp[bD,jH]at hd;subst hd;decide
    ·simp[bD,jH]at hd;subst hd;decide
   | cons a l =>
    simp[bD,jd]at hd
    subst hd;decide
  have hn:=rm h1 hcl
  have ha:bO 47 (n++(bD l++(jH k++r)))=none:=by
   rw[hc,List.cons_append,dK,if_neg (qt c hw).2.2.1]
  rw[e]
  unfold gS
  rw[dK,if_pos rfl]
  unfold rG
  simp only[ha,hn,Option.bind_some,ht]
 ·split at ht
  ·rename_i hk
   subst hk
   simp only[Bool.and_eq_true,List.isEmpty_iff]at ht
   obtain⟨⟨h1,rfl⟩,rfl⟩:=ht
   have e:dV ⟨2,n,[],[]⟩++r=60::47::(n++62::r):=by
    unfold dV
    rw[if_neg (show ¬(2:Nat)=4 by decide),if_pos rfl]
    simp
   have hn:=rm (r:=62::r) h1 (by intro c hc;simp at hc;subst hc;decide)
   have hs:aW (62::r)=62::r:=jC (by intro c hc;simp at hc;subst hc;decide)
   rw[e]
   unfold gS
   rw[dK,if_pos rfl]
   unfold rG
   simp only[dK,if_true,hn,Option.bind_some,hs,Option.map_some]
  ·split at ht
   ·rename_i hk
    subst hk
    simp only[Bool.and_eq_true,List.isEmpty_iff,Bool.not_eq_true',List.isEmpty_eq_false_iff]at ht
    obtain⟨⟨⟨rfl,rfl⟩,hx⟩,_⟩:=ht
    have e:dV ⟨4,[],[],x⟩=bq false x:=by unfold dV;rw[if_pos rfl]
    have hn:∀ c∈bq false x,ji c=true:=fun c hc=>by
     have:=tR false hc
     simp only[Bool.and_eq_true]at this
     exact this.1.1.1
    have hr':=hr rfl
    have hw:cK (bq false x++r)=bq false x/\fR (bq false x++r)=r:=by
     unfold cK fR
     rw[List.takeWhile_append_of_pos hn,List.dropWhile_append_of_pos hn]
     cases r with
     | nil=>simp
     | cons c r =>
      have:=hr' c rfl
      subst this
      simp[List.takeWhile_cons,List.dropWhile_cons,ji]
    have hl:=cj false x
    have hxl:=List.length_pos_iff.2 hx
    have ha:bO 60 (bq false x++r)=none:=by
     cases hc:bq false x with
     | nil=>rw[hc,List.length_nil]at hl;omega
     | cons c u =>
      have:=hn c (by rw[hc];simp)
      rw[List.cons_append,dK,if_neg (by intro e;subst e;cases this)]
    rw[e]
    unfold gS
    simp only[ha,hw.1,hw.2,o9,Option.map_some]
   ·cases ht
def OI {t:Tk}(ht:cR t=true):dV t≠[]:=by
 intro h
 have:=A3 ht [] (by simp)
 rw[h]at this
 simp only[List.append_nil]at this
 have h0:gS []=some (⟨4,[],[],[]⟩,[]):=by
  unfold gS
  simp[bO,cK,fR,im]
 rw[h0]at this
 cases this
 simp[cR]at ht
def HY {t:Tk}(ht:cR t=true)(hk:t.kind≠4):∃ r,dV t=60::r:=by
 unfold dV
 rw[if_neg hk]
 split
 ·exact⟨_,rfl⟩
 ·exact⟨_,rfl⟩
def wC (n:Nat)(r:List UInt8):∀(l acc:List Tk),(∀ t∈l,cR t=true)->jF l=false->acc.length+l.length<=512->(∀ t,l.getLast? = some t->t.kind=4 -> ∀ c,r.head? = some c->c=60)->gQ n acc (bu l++r)=gQ n (acc++l) r
 | [],acc,_,_,_,_=>by simp[bu]
 | t::l,acc,h,ha,hl,hr=>by
  have ht:=h t (by simp)
  have e:bu (t::l)++r=dV t++(bu l++r):=by simp[bu]
  have hone:=A3 ht (bu l++r) (by
   intro hk c hc
   cases l with
   | nil=>exact hr t rfl hk c (by simpa [bu] using hc)
   | cons u l =>
    have hu:u.kind≠4:=by
     intro hu
     simp[jF,hk,hu]at ha
    obtain⟨w,hw⟩:=HY (h u (by simp)) hu
    have:bu (u::l)=dV u++bu l:=by simp[bu]
    rw[this,hw]at hc
    simpa using hc.symm)
  have hne:dV t++(bu l++r)≠[]:=by
   intro h0
   exact OI ht (List.append_eq_nil_iff.1 h0).1
  have hat:t.attrs.length<=16:=by
   unfold cR at ht
   split at ht
   ·simp only[Bool.and_eq_true]at ht
    exact(eD.1 ht.1.2).1
   ·split at ht
    ·simp only[Bool.and_eq_true,List.isEmpty_iff]at ht
     rw[ht.1.2];simp
    ·split at ht
     ·simp only[Bool.and_eq_true,List.isEmpty_iff]at ht
      rw[ht.1.1.2];simp
     ·cases ht
  rw[e,pX hne (by simp at hl;omega) hone hat,wC n r l (acc++[t]) (fun u hu=>h u (by simp[hu])) ?_ (by simp at hl ⊢;omega) ?_]
  ·simp
  ·cases l with
   | nil=>rfl
   | cons u l=>simp only[jF,Bool.or_eq_false_iff]at ha;exact ha.2
  ·intro u hu
   cases l with
   | nil=>cases hu
   | cons v l=>exact hr u (by rw[List.getLast?_cons_cons];exact hu)
def M5 {t:Tk}(ht:cR t=true):(dB (dV t)).isSome=true:=by
 obtain⟨k,n,l,x⟩:=t
 unfold cR at ht
 dsimp only at ht
 have hat:∀ l:List Pr,(∀ a∈l,bU a.name=true/\aN a.value=0)->(dB (bD l)).isSome=true:=by
  intro l
  induction l with
  | nil=>intro _;rfl
  | cons a l ih =>
   intro h
   have h0:=h a (by simp)
   have:bD (a::l)=jd a++bD l:=by simp[bD]
   rw[this]
   refine ez ?_ (ih fun b hb=>h b (by simp[hb]))
   unfold jd
   exact ez (ez (ez (ez rfl (tH h0.1)) rfl) (zK true (cC.1 h0.2).2)) rfl
 unfold dV
 dsimp only
 split at ht
 ·rename_i hk
  simp only[Bool.and_eq_true,List.isEmpty_iff]at ht
  obtain⟨⟨h1,h2⟩,rfl⟩:=ht
  have h2:=(eD.1 h2).2
  rw[if_neg (show ¬ k=4 by omega),if_neg (show ¬ k=2 by omega)]
  refine ez (ez (ez rfl (tH h1)) (hat l fun a ha=>?_)) (by split<;>rfl)
  obtain⟨i,hi,rfl⟩:=List.mem_iff_getElem.1 ha
  exact(E0 (h2 i _ hi (List.getElem?_eq_getElem hi))).2
 ·split at ht
  ·rename_i hk
   subst hk
   simp only[Bool.and_eq_true,List.isEmpty_iff]at ht
   rw[if_neg (by decide),if_pos rfl]
   exact ez (ez rfl (tH ht.1.1)) rfl
  ·split at ht
   ·rename_i hk
    subst hk
    simp only[Bool.and_eq_true,decide_eq_true_eq]at ht
    rw[if_pos rfl]
    exact zK false (cC.1 ht.2).2
   ·cases ht
def zN:∀ {l:List Tk},(∀ t∈l,cR t=true)->(dB (bu l)).isSome=true
 | [],_=>rfl
 | t::l,h=>by
  have:bu (t::l)=dV t++bu l:=by simp[bu]
  rw[this]
  exact ez (M5 (h t (by simp))) (zN fun u hu=>h u (by simp[hu]))
def EO {l:List Tk}(h:fu l=0):(∀ t∈l,cR t=true)/\jF l=false/\l.length<=512/\(bu l).length<=16384/\jf l=bu l:=by
 have h':=h
 unfold fu at h
 split at h
 ·cases h
 ·rename_i h1
  split at h
  ·cases h
  ·rename_i h2
   simp only[not_or,Bool.not_eq_true,List.any_eq_false,Bool.not_eq_true',Bool.not_eq_false']at h1
   refine⟨fun t ht=>by simpa using h1.1 t ht,h1.2,by omega,by omega,?_⟩
   unfold jf;rw[if_pos h']
def JZ {l:List Tk}(h:fu l=0):dJ (jf l)=(l,0,0):=by
 obtain⟨h1,h2,h3,h4,h5⟩:=EO h
 rw[h5]
 have hp:aN (bu l)=0:=cC.2 ⟨h4,zN h1⟩
 unfold dJ
 rw[if_neg (by simp[hp])]
 have:=wC (bu l).length [] l [] h1 h2 (by simpa using h3) (by simp)
 rw[List.append_nil,List.nil_append]at this
 rw[this,kX]
def uY {n:List UInt8}{P:List Pr->List UInt8->Tk->List UInt8->Prop}
  (h1:∀ l s k t,j7 (aW s)=some (k,t)->P l s ⟨k,n,l,[]⟩ t)
  (h2:∀ l s a r u v,j7 (aW s)=none->(aW s).length<s.length->gy (aW s)=some (a,r)->(l.any fun b=>a.name==b.name)=false->jt n (l++[a]) r=some (u,v)->P (l++[a]) r u v->P l s u v) :
  ∀(m:Nat) (l:List Pr) (s:List UInt8) (u:Tk) (v:List UInt8),s.length<=m->jt n l s=some (u,v)->P l s u v:=by
 intro m
 induction m with
 | zero =>
  intro l s u v hm h
  obtain rfl:=List.length_eq_zero_iff.1 (Nat.le_zero.1 hm)
  rw[lV (by rfl) (by simp[aW])]at h;cases h
 | succ m ih =>
  intro l s u v hm h
  cases he:j7 (aW s) with
  | some p =>
   obtain⟨k,t⟩:=p
   rw[kE he]at h
   cases h
   exact h1 _ _ _ _ he
  | none =>
   cases ha:gy (aW s) with
   | none=>rw[sR he ha]at h;cases h
   | some p =>
    obtain⟨a,r⟩:=p
    cases hd:l.any fun b=>a.name==b.name with
    | true=>rw[nQ he ha hd]at h;cases h
    | false =>
     by_cases hg:(aW s).length<s.length
     ·rw[lj he hg ha hd]at h
      have hl:=lp ha
      have:=dD s
      exact h2 l s a r u v he hg ha hd h (ih _ _ _ _ (by omega) h)
     ·rw[lV he hg]at h;cases h
def KQ {s r:List UInt8}{t:Tk}(h:gS s=some (t,r))(h4:t.kind=4):bO 60 s=none/\bJ (cK s)=some t.text/\r=fR s/\t=⟨4,[],[],t.text⟩:=by
 unfold gS at h
 split at h
 ·rename_i u hu
  exfalso
  unfold rG at h
  split at h
  ·obtain⟨⟨n,r1⟩,h1,h2⟩:=Option.bind_eq_some_iff.1 h
   obtain⟨r2,h3,e⟩:=Option.map_eq_some_iff.1 h2
   cases e
   cases h4
  ·obtain⟨⟨n,r1⟩,h1,h2⟩:=Option.bind_eq_some_iff.1 h
   have:t.kind=1\/t.kind=3:=by
    refine uY (n:=n) (P:=fun l s u v=>u.kind=1\/u.kind=3) ?_ (fun _ _ _ _ _ _ _ _ _ _ _ ih=>ih) _ [] r1 t r (Nat.le_refl _) h2
    intro l s k t he
    unfold j7 at he
    split at he
    ·cases he;exact .inl rfl
    ·cases he;exact .inr rfl
    ·cases he
   omega
 ·rename_i hu
  obtain⟨x,h1,h2⟩:=Option.map_eq_some_iff.1 h
  cases h2
  exact⟨hu,h1,rfl,rfl⟩
def om {p:UInt8->Bool} : ∀ {s:List UInt8} {c:UInt8},c∈s.takeWhile p->p c=true
 | [],c,h=>by simp at h
 | d::s,c,h=>by
  rw[List.takeWhile_cons]at h
  by_cases hd:p d=true
  ·rw[if_pos hd]at h
   rcases List.mem_cons.1 h with rfl|h
   ·exact hd
   ·exact om h
  ·rw[if_neg hd]at h;simp at h
def u0 (s:List UInt8):∀ c,(fR s).head? = some c->c=60:=by
 intro c hc
 have:=List.head?_dropWhile_not ji s
 unfold fR at hc
 rw[hc]at this
 simpa [ji] using this
def wS {a:List UInt8}{x:List UInt8}(h:ce a=some x):x.length<=a.length+2/\(dB x).isSome=true:=by
 have hp:∀(o:Option Nat) (k:Nat),2<=k->fm o=some x->x.length<=k+2/\(dB x).isSome=true:=by
  intro o k hk ho
  unfold fm at ho
  obtain⟨n,_,hn⟩:=Option.bind_eq_some_iff.1 ho
  split at hn
  ·rename_i hm
   cases hn
   have:=(bk (n:Int)).2
   have hd:=eU [(n:Int)] (by simp[hm])
   simp only[enc,List.flatMap_cons,List.flatMap_nil,List.append_nil]at hd
   exact⟨by omega,by rw[hd];rfl⟩
  ·cases hn
 unfold ce at h
 repeat' split at h
 ·rename_i e;cases h;subst e;exact⟨by decide,by decide⟩
 ·rename_i e;cases h;subst e;exact⟨by decide,by decide⟩
 ·rename_i e;cases h;subst e;exact⟨by decide,by decide⟩
 ·rename_i e;cases h;subst e;exact⟨by decide,by decide⟩
 ·rename_i e;cases h;subst e;exact⟨by decide,by decide⟩
 ·rename_i e1 e2
  refine hp _ _ ?_ h
  cases a with
  | nil=>cases e1
  | cons c a =>
   cases a with
   | nil=>cases e2
   | cons d a=>simp
 ·rename_i e1 e2
  refine hp _ _ ?_ h
  cases a with
  | nil=>cases e1
  | cons c a =>
   cases a with
   | nil=>simp[fm,oE]at h
   | cons d a=>simp
 ·cases h
def lQ:∀(n:Nat) (s x:List UInt8),s.length<=n->bJ s=some x->x.length<=s.length
 | n,[],x,_,h=>by rw[im]at h;cases h;simp
 | 0,c::r,x,hn,_=>by simp at hn
 | n+1,c::r,x,hn,h=>by
  have hl:r.length<=n:=by simpa using hn
  by_cases h1:c=60
  ·subst h1;rw[nd]at h;cases h
  by_cases h2:c=38
  ·subst h2
   cases hc:eg 59 r with
   | none=>rw[jX hc]at h;cases h
   | some p =>
    obtain⟨u,v⟩:=p
    have hlen:=congrArg List.length (eH hc).1
    cases hm:ce u with
    | none=>rw[lc hc hm]at h;cases h
    | some y =>
     rw[jB hc hm]at h
     obtain⟨w,hw,rfl⟩:=Option.map_eq_some_iff.1 h
     simp only[List.length_append,List.length_cons]at hlen
     have h3:=lQ n v w (by omega) hw
     have h4:=(wS hm).1
     simp only[List.length_append,List.length_cons];omega
  ·rw[eR h1 h2]at h
   obtain⟨w,hw,rfl⟩:=Option.map_eq_some_iff.1 h
   have:=lQ n r w hl hw
   simp only[List.length_cons];omega
def uI:∀ {p:List UInt8} (r:List UInt8),(∀ c∈p,128<=c.toNat)->bJ (p++r)=(bJ r).map (p ++ ·)
 | [],r,_=>by
  rw[List.nil_append]
  cases bJ r<;>simp
 | c::p,r,h=>by
  have h0:=h c (by simp)
  rw[List.cons_append,eR (by rintro rfl;simp at h0) (by rintro rfl;simp at h0),uI r fun x hx=>h x (by simp[hx])]
  cases bJ r<;>simp
def wW:∀(n:Nat) (s x:List UInt8),s.length<=n->(dB s).isSome=true->bJ s=some x->(dB x).isSome=true:=by
  intro n
  induction n with
  | zero =>
    intro s x hn _ h
    obtain rfl:=List.length_eq_zero_iff.1 (Nat.le_zero.1 hn)
    rw[im]at h;cases h;rfl
  | succ n ih =>
    intro s x hn hd h
    obtain⟨zs,hz⟩:=Option.isSome_iff_exists.1 hd
    obtain⟨hm,rfl⟩:=(ki s zs).1 hz
    cases zs with
    | nil=>rw[show enc []=[] from rfl,im]at h;cases h;rfl
    | cons z zs =>
      simp only[List.all_cons,Bool.and_eq_true]at hm
      have e:enc (z::zs)=encodeRune z++enc zs:=by simp[enc]
      have hl:=(bk z).1
      rw[e]at h hn hd
      rw[List.length_append]at hn
      have hdz:(dB (enc zs)).isSome=true:=by rw[eU zs hm.2];rfl
      have hd1:(dB (encodeRune z)).isSome=true:=by
        have:=eU [z] (by simp[hm.1])
        simp only[enc,List.flatMap_cons,List.flatMap_nil,List.append_nil]at this
        rw[this];rfl
      have hr:=(fj hm.1).1
      by_cases hz128:z<128
      · rw [pC hr hz128]at h hd1 hd hn
        rw[List.singleton_append]at h hd
        generalize z.toNat.toUInt8=c at h hd1 hd hn
        simp only[List.length_cons,List.length_nil]at hn
        by_cases h1:c=60
        · subst h1;rw[nd]at h;cases h
        by_cases h2:c=38
        · subst h2
          cases hc:eg 59 (enc zs) with
          | none=>rw[jX hc]at h;cases h
          | some p =>
            obtain⟨u,v⟩:=p
            have hce:=(eH hc).1
            have hlen:=congrArg List.length hce
            simp only[List.length_append,List.length_cons]at hlen
            cases hmm:ce u with
            | none=>rw[lc hc hmm]at h;cases h
            | some y =>
              rw[jB hc hmm]at h
              obtain⟨w,hw,rfl⟩:=Option.map_eq_some_iff.1 h
              have hv:=(b6 (d:=59) (by decide) hdz hce).2
              exact ez (wS hmm).2 (ih v w (by omega) hv hw)
        · rw[eR h1 h2]at h
          obtain⟨w,hw,rfl⟩:=Option.map_eq_some_iff.1 h
          exact ez (a:=[c]) hd1 (ih _ w (by omega) hdz hw)
      · rw[uI _ (mH (by omega))]at h
        obtain⟨w,hw,rfl⟩:=Option.map_eq_some_iff.1 h
        exact ez hd1 (ih _ w (by omega) hdz hw)
def Gg {s:List UInt8}(h:(dB s).isSome=true):(dB (s.map cP)).isSome=true:=by
 obtain⟨zs,hz⟩:=Option.isSome_iff_exists.1 h
 obtain⟨hm,rfl⟩:=(ki s zs).1 hz
 clear hz h
 induction zs with
 | nil=>rfl
 | cons z zs ih =>
  simp only[List.all_cons,Bool.and_eq_true]at hm
  have e:enc (z::zs)=encodeRune z++enc zs:=by simp[enc]
  rw[e,List.map_append]
  refine ez ?_ (ih hm.2)
  have hr:=(fj hm.1).1
  by_cases hz:z<128
  ·rw[pC hr hz,List.map_cons,List.map_nil]
   unfold cP
   split
   ·decide
   ·have:=eU [z] (by simp[hm.1])
    simp only[enc,List.flatMap_cons,List.flatMap_nil,List.append_nil,pC hr hz]at this
    rw[this];rfl
  ·have:(encodeRune z).map cP=encodeRune z:=qL fun c hc=>by
    have:=mH (z:=z) (by omega) c hc
    refine⟨?_,?_,?_⟩<;>(rintro rfl;simp at this)
   rw[this]
   have:=eU [z] (by simp[hm.1])
   simp only[enc,List.flatMap_cons,List.flatMap_nil,List.append_nil]at this
   rw[this];rfl
def H8 {s v r:List UInt8}(h:(dB s).isSome=true)(hl:s.length<=16384)(hv:gU s=some (v,r)):aN v=0/\(bq true v).length+6*r.length+12<=6*s.length:=by
 obtain⟨a,h1,h2⟩:=lY hv
 obtain⟨q,hq,rfl,_⟩:=lO h1
 have hq128:q.toNat<128:=by rcases hq with rfl|rfl<;>decide
 have d1:=(b6 hq128 (a:=[]) h rfl).2
 have d2:=(b6 hq128 d1 rfl).1
 unfold u6 at h2
 have d3:=wW _ _ _ (Nat.le_refl _) (Gg d2) h2
 have l3:=lQ _ _ _ (Nat.le_refl _) h2
 have:=(cj true v).2
 simp only[List.length_map,List.length_cons,List.length_append]at l3 hl ⊢
 exact⟨cC.2 ⟨by omega,d3⟩,by omega⟩
def IB {s r:List UInt8}{a:Pr}(h:(dB s).isSome=true)(hl:s.length<=16384)(ha:gy s=some (a,r)):bU a.name=true/\aN a.value=0/\(jd a).length+6*r.length<=6*s.length:=by
 obtain⟨r1,t,h1,h2,h3⟩:=nw ha
 obtain⟨e,_,hf,_⟩:=gh h1
 have d1:=dR (iV h h1)
 rw[h2]at d1
 have d2:=dR (b6 (d:=61) (by decide) (a:=[]) d1 rfl).2
 have l1:=congrArg List.length e
 have l2:=dD r1
 have l3:=dD t
 rw[h2]at l2
 simp only[List.length_append,List.length_cons]at l1 l2
 obtain⟨g1,g2⟩:=H8 d2 (by omega) h3
 refine⟨hf,g1,?_⟩
 simp only[jd,List.length_append,List.length_cons,List.length_nil]
 omega
def LN {n:List UInt8}(hn:bU n=true){l:List Pr}{s v:List UInt8}{u:Tk}(h:jt n l s=some (u,v))(hd:(dB s).isSome=true)(hl:s.length<=16384)(hok:jk l l.length):u.name=n/\u.text=[]/\(u.kind=1\/u.kind=3)/\jk u.attrs u.attrs.length/\(dB v).isSome=true/\(bD u.attrs).length+(jH u.kind).length+6*v.length<=(bD l).length+6*s.length:=by
 refine uY (n:=n) (P:=fun l s u v=>(dB s).isSome=true->s.length<=16384->jk l l.length->u.name=n/\u.text=[]/\(u.kind=1\/u.kind=3)/\jk u.attrs u.attrs.length/\(dB v).isSome=true/\(bD u.attrs).length+(jH u.kind).length+6*v.length<=(bD l).length+6*s.length) ?_ ?_ _ l s u v (Nat.le_refl _) h hd hl hok
 ·intro l s k t he hd hl hok
  have hs:=dR hd
  have hsl:=dD s
  unfold j7 at he
  split at he
  ·rename_i e
   cases he
   rw[e]at hs hsl
   refine⟨rfl,rfl,.inl rfl,hok,(b6 (d:=62) (by decide) (a:=[]) hs rfl).2,?_⟩
   simp only[List.length_cons]at hsl
   simp[jH];omega
  ·rename_i e
   cases he
   rw[e]at hs hsl
   have h1:=(b6 (d:=47) (by decide) (a:=[]) hs rfl).2
   refine⟨rfl,rfl,.inr rfl,hok,(b6 (d:=62) (by decide) (a:=[]) h1 rfl).2,?_⟩
   simp only[List.length_cons]at hsl
   simp[jH];omega
  ·cases he
 ·intro l s a r u v he hg ha hd2 _ ih hd hl hok
  have hs:=dR hd
  obtain⟨g1,g2,g3⟩:=IB hs (by omega) ha
  have hlt:=lp ha
  have hr:=tl hs ha
  obtain⟨k1,k2,k3,k4,k5,k6⟩:=ih hr (by omega) (by
   intro i b hi hb
   by_cases hil:i<l.length
   ·rw[List.getElem?_append_left hil]at hb
    rw[List.take_append_of_le_length (by omega)]
    exact hok i b hil hb
   ·have:i=l.length:=by simp at hi;omega
    subst this
    rw[List.getElem?_append_right (by omega)]at hb
    simp at hb;subst hb
    rw[List.take_append_of_le_length (by omega),List.take_length]
    unfold Ih
    simp[hd2,g1,g2])
  refine⟨k1,k2,k3,k4,k5,?_⟩
  have:(bD (l++[a])).length=(bD l).length+(jd a).length:=by simp[bD]
  omega
def yy {s r:List UInt8}{t:Tk}(hne:s≠[])(h:gS s=some (t,r))(hd:(dB s).isSome=true)(hl:s.length<=16384)(h16:t.attrs.length<=16):cR t=true/\(dB r).isSome=true/\(t.kind=4 -> ∀ c,r.head? = some c->c=60)/\(t.kind=4->bO 60 s=none)/\(dV t).length+6*r.length<=6*s.length:=by
  by_cases h4:t.kind=4
  · obtain ⟨g1,g2,rfl,g4⟩:=KQ h h4
    have e:s=cK s++fR s:=(List.takeWhile_append_dropWhile).symm
    have le:=congrArg List.length e
    rw[List.length_append]at le
    obtain⟨d1,d2⟩:=u1 hd
    have l1:=lQ _ _ _ (Nat.le_refl _) g2
    have l2:=(cj false t.text).2
    have d3:=wW _ _ _ (Nat.le_refl _) d1 g2
    have hx:t.text≠[]:=by
      intro hx
      have hT:cK s≠[]:=by
        cases s with
        | nil=>exact absurd rfl hne
        | cons c s =>
          have hc:ji c=true:=by
            rw[dK]at g1
            split at g1
            · cases g1
            · rename_i e;simp[ji,e]
          unfold cK
          rw[List.takeWhile_cons,if_pos hc];simp
      rw[hx]at g2
      cases hT':cK s with
      | nil=>exact hT hT'
      | cons c w =>
        rw[hT']at g2
        by_cases c60:c=60
        · subst c60;rw[nd]at g2;cases g2
        by_cases c38:c=38
        · subst c38
          cases hc:eg 59 w with
          | none=>rw[jX hc]at g2;cases g2
          | some p =>
            obtain⟨u,v⟩:=p
            cases hm:ce u with
            | none=>rw[lc hc hm]at g2;cases g2
            | some y =>
              rw[jB hc hm]at g2
              obtain⟨z,_,hz⟩:=Option.map_eq_some_iff.1 g2
              have:=(List.append_eq_nil_iff.1 hz).1
              subst this
              unfold ce at hm
              repeat' split at hm
              all_goals (first|cases hm;done|skip)
              all_goals (
                unfold fm at hm
                obtain⟨n,_,hn⟩:=Option.bind_eq_some_iff.1 hm
                split at hn
                · have:=(bk (n:Int)).1
                  simp only[Option.some.injEq]at hn
                  rw[hn]at this
                  simp at this
                · cases hn)
        · rw[eR c60 c38]at g2
          obtain⟨z,_,hz⟩:=Option.map_eq_some_iff.1 g2
          cases hz
    refine⟨?_,d2,fun _=>u0 s,fun _=>g1,?_⟩
    · rw[g4]
      unfold cR
      rw[if_neg (show ¬((4:Nat)=1\/(4:Nat)=3) by decide),if_neg (show ¬(4:Nat)=2 by decide),if_pos rfl]
      have:aN t.text=0:=cC.2 ⟨by omega,d3⟩
      have hxe:t.text.isEmpty=false:=by rw[List.isEmpty_eq_false_iff];exact hx
      simp[this,hxe]
    · have:dV t=bq false t.text:=by unfold dV;rw[if_pos h4]
      rw[this]
      omega
  · have hh:∃ u,bO 60 s=some u:=by
      cases ha:bO 60 s with
      | some u=>exact⟨u,rfl⟩
      | none =>
        exfalso
        unfold gS at h
        rw[ha]at h
        obtain⟨x,_,hx⟩:=Option.map_eq_some_iff.1 h
        cases hx
        exact h4 rfl
    obtain⟨u,hu⟩:=hh
    have hs:=b8 hu
    subst hs
    have du:=(b6 (d:=60) (by decide) (a:=[]) hd rfl).2
    simp only[List.length_cons]at hl
    unfold gS at h
    rw[hu]at h
    simp only at h
    unfold rG at h
    split at h
    · rename_i w hw
      obtain rfl:=b8 hw
      have dw:=(b6 (d:=47) (by decide) (a:=[]) du rfl).2
      obtain⟨⟨n,r1⟩,h1,h2⟩:=Option.bind_eq_some_iff.1 h
      obtain⟨r2,h3,e⟩:=Option.map_eq_some_iff.1 h2
      cases e
      obtain⟨e1,_,hf,_⟩:=gh h1
      have l1:=congrArg List.length e1
      have l2:=dD r1
      have d1:=dR (iV dw h1)
      rw[b8 h3]at l2 d1
      simp only[List.length_append,List.length_cons]at l1 l2
      refine⟨?_,(b6 (d:=62) (by decide) (a:=[]) d1 rfl).2,fun h=>absurd h h4,fun h=>absurd h h4,?_⟩
      · unfold cR
        rw[if_neg (show ¬((2:Nat)=1\/(2:Nat)=3) by decide),if_pos rfl]
        simp[hf]
      · have:dV ⟨2,n,[],[]⟩=[60,47]++n++[62]:=by unfold dV;rw[if_neg (show ¬(2:Nat)=4 by decide),if_pos rfl]
        rw[this]
        simp only[List.length_append,List.length_cons,List.length_nil]
        omega
    · rename_i hw
      obtain⟨⟨n,r1⟩,h1,h2⟩:=Option.bind_eq_some_iff.1 h
      obtain⟨e1,_,hf,_⟩:=gh h1
      have l1:=congrArg List.length e1
      simp only[List.length_append]at l1
      have d1:=iV du h1
      obtain⟨k1,k2,k3,k4,k5,k6⟩:=LN hf h2 d1 (by show r1.length<=16384;omega) (by intro i a hi;simp at hi)
      refine⟨?_,k5,fun h=>absurd h h4,fun h=>absurd h h4,?_⟩
      · unfold cR
        rw[if_pos k3,k1,k2,hf,eD.2 ⟨h16,k4⟩]
        rfl
      · have:dV t=[60]++t.name++bD t.attrs++jH t.kind:=by
          unfold dV jH
          rw[if_neg h4,if_neg (by rcases k3 with h|h<;>rw[h]<;>decide)]
        rw[this,k1]
        have:bD []=[]:=rfl
        rw[this]at k6
        simp only[List.length_append,List.length_cons,List.length_nil]at k6 ⊢
        omega
def y9:∀ {l:List Tk} {t:Tk},jF l=false->(∀ u,l.getLast? = some u -> ¬(u.kind=4/\t.kind=4))->jF (l++[t])=false
 | [],t,_,_=>rfl
 | [a],t,_,h=>by
  have:=h a rfl
  simp only[List.singleton_append,jF,Bool.or_false]
  simp only[Bool.and_eq_false_iff,beq_eq_false_iff_ne]
  by_cases e:a.kind=4
  ·right;exact fun e2=>this ⟨e,e2⟩
  ·left;exact e
 | a::b::l,t,h,h2=>by
  simp only[List.cons_append,jF,Bool.or_eq_false_iff]at h ⊢
  exact⟨h.1,y9 (l:=b::l) h.2 (fun u hu=>h2 u (by rw[List.getLast?_cons_cons];exact hu))⟩
def JY (n:Nat):∀(m:Nat) (acc:List Tk) (s:List UInt8),s.length<=m->s.length<=n->(dB s).isSome=true->s.length<=16384->(∀ t∈acc,cR t=true)->jF acc=false->acc.length<=512->(∀ t,acc.getLast? = some t->t.kind=4 -> ∀ c,s.head? = some c->c=60) ->
  ((gQ n acc s).2.2=0->(∀ t∈(gQ n acc s).1,cR t=true)/\jF (gQ n acc s).1=false/\(gQ n acc s).1.length<=512/\(gQ n acc s).1.length<=acc.length+s.length/\(gQ n acc s).2.1=0/\(bu (gQ n acc s).1).length<=(bu acc).length+6*s.length) /\
  ((gQ n acc s).2.2≠0->(gQ n acc s).1=[]/\(gQ n acc s).2.1<n):=by
 intro m
 induction m with
 | zero =>
  intro acc s hm _ _ _ h1 h2 h3 _
  obtain rfl:=List.length_eq_zero_iff.1 (Nat.le_zero.1 hm)
  rw[kX]
  exact⟨fun _=>⟨h1,h2,h3,by simp,rfl,by simp⟩,fun h=>absurd rfl h⟩
 | succ m ih =>
  intro acc s hm hn hd hl h1 h2 h3 h4
  by_cases hs:s=[]
  ·subst hs
   rw[kX]
   exact⟨fun _=>⟨h1,h2,h3,by simp,rfl,by simp⟩,fun h=>absurd rfl h⟩
  ·have hpos:=List.length_pos_iff.2 hs
   by_cases hmany:512<=acc.length
   ·rw[ri hs hmany]
    exact⟨fun h=>absurd (show(4:Int)=0 from h) (by decide),fun _=>⟨rfl,by show n-s.length<n;omega⟩⟩
   ·cases ho:gS s with
    | none =>
     rw[uu hs (by omega) ho]
     exact⟨fun h=>absurd (show(80:Int)=0 from h) (by decide),fun _=>⟨rfl,by show n-s.length<n;omega⟩⟩
    | some p =>
     obtain⟨t,r⟩:=p
     by_cases ha:16<t.attrs.length
     ·rw[oT hs (by omega) ho ha]
      exact⟨fun h=>absurd (show(4:Int)=0 from h) (by decide),fun _=>⟨rfl,by show n-s.length<n;omega⟩⟩
     ·have hlt:=yx hs ho
      obtain⟨k1,k2,k3,k4,k5⟩:=yy hs ho hd hl (by omega)
      rw[pX hs (by omega) ho (by omega)]
      obtain⟨g1,g2⟩:=ih (acc++[t]) r (by omega) (by omega) k2 (by omega) (by
       intro u hu
       rcases List.mem_append.1 hu with hu|hu
       ·exact h1 u hu
       ·simp at hu;subst hu;exact k1) (y9 h2 (by
       rintro u hu ⟨e1,e2⟩
       have h60:=h4 u hu e1
       have hn:=k4 e2
       cases s with
       | nil=>exact hs rfl
       | cons c s =>
        have:=h60 c rfl
        subst this
        rw[dK,if_pos rfl]at hn
        cases hn)) (by simp;omega) (by
       intro u hu hk
       simp at hu;subst hu
       exact k3 hk)
      refine⟨fun h=>?_,g2⟩
      obtain⟨e1,e2,e3,e4,e5,e6⟩:=g1 h
      have:(bu (acc++[t])).length=(bu acc).length+(dV t).length:=by simp[bu]
      simp only[List.length_append,List.length_cons,List.length_nil]at e4
      exact⟨e1,e2,e3,by omega,e5,by omega⟩
def ER (s:List UInt8):((dJ s).2.2=0->(∀ t∈(dJ s).1,cR t=true)/\jF (dJ s).1=false/\(dJ s).1.length<=512/\(dJ s).1.length<=s.length/\(dJ s).2.1=0/\(bu (dJ s).1).length<=6*s.length)/\((dJ s).2.2≠0->(dJ s).1=[]/\(dJ s).2.1<=s.length/\((dJ s).2.2=80->(dJ s).2.1<s.length)):=by
 unfold dJ
 by_cases hp:aN s=0
 ·rw[if_neg (by simp[hp])]
  obtain⟨hl,hd⟩:=cC.1 hp
  obtain⟨h1,h2⟩:=JY s.length s.length [] s (Nat.le_refl _) (Nat.le_refl _) hd hl (by simp) rfl (by simp) (by simp)
  refine⟨fun h=>?_,fun h=>?_⟩
  ·obtain⟨e1,e2,e3,e4,e5,e6⟩:=h1 h
   exact⟨e1,e2,e3,by simpa using e4,e5,by simpa [bu] using e6⟩
  ·obtain⟨e1,e2⟩:=h2 h
   exact⟨e1,by omega,fun _=>e2⟩
 ·rw[if_pos (by simpa using hp)]
  refine⟨fun h=>absurd h (by simpa using hp),fun _=>⟨rfl,by simp,fun h=>?_⟩⟩
  exfalso
  have h:aN s=80:=h
  unfold aN at h
  split at h
  ·cases h
  ·split at h<;>cases h
end Go.Proofs.YtlnlopnpcmahgaaGreatDoor
namespace Go.Proofs.YtlnlopnpcmahgaaGreatDoor
set_option maxRecDepth 100000
set_option maxHeartbeats 32000000
open Go Go.RowKit Vm Go.Lib Tryz
open Vm renaming ba->Ca,bh->Cb
open And renaming intro->Ai
open List renaming length_map->Lm,not_mem_nil->Ln,map_nil->Lo,map_cons->Lc,mem_cons->Lk
open Bool renaming not_false->Bf,not_true->Bt
def La (s n r0:List UInt8)(hs:s.length<=16384)(hd:(dB s).isSome=true)(h1:bO 47 s=none)(h2:e9 s=some (n,r0))(h3:jt n [] r0=none)(q:Nat)(M:ap)(nm:Nat)(hq:M q=some (bY s))(ho:∀ z,(M z).isSome=true->z∈[q])(hqn:q<nm) :
    y5 cx 146 nm [.ptr q 0 0] M Dg:=by
  have p1:=de s [47] false (by omega) (by decide) (by rw[fe,h1];rfl)
  simp only[Bool.false_eq_true,if_false]at p1
  have hn:=lg s n r0 (by omega) h2
  obtain⟨_,_,_,l2⟩:=gh h2
  have hd0:=iV hd h2
  unfold bY at hq hn
  refine jI rfl bR rfl call146 func146 rfl mixed (by kernel_rfl) rfl ?_;intro b0 hb0;have zF:=Ai results146 ntmps146
  have lq:=aC hb0 hq
  have z0:=aE lq
  repeat' first|simp only[zF,al,hq,z0,ai,seval,ah]|exact rfl|((first|(refine ac ?_ [q] (p1 q _ _ ?_ ag (by omega)) ?_ ?_)|(refine ac ?_ [q] (hn q _ _ ?_ ag (by omega)) ?_ ?_));iterate 3 (focus (simp only[aj,zF,al,hq,z0,ai,seval,ah]<;>exact rfl)))|((first|apply Ca|apply Cb)<;>intro hb)|refine Ai (by omega) ?_|(apply Ai<;>intro hb)
  (refine aR bR (fun x:TSt=>x.rest.length) (fun x=>jt n x.l x.rest=none/\(dB x.rest).isSome=true/\x.rest.length+x.l.length<=16384) (b0+16) (fun x=>[(0,.ptr q 0 0),(2,.ptr b0 0 0)]) (fun x=>[(q,⟨1,[[.str x.rest]]⟩),(b0,⟨4,[[.int .u8 0,.str n,.own (b0+1) 0 x.l.length,.str []]]⟩),(b0+1,⟨2,x.l.map c9⟩)]) (⟨[],r0⟩) [some q,some b0,none] ?_ ?_ ?_ ?_;rotate_left 1;(focus (show b0<=_;omega));(focus (refine⟨?_,?_⟩<;>(try simp only[aX,E7,hq,z0,aL,Lo,List.length_nil,ai,seval,ah,ao])<;>(try omega)));rotate_left 1)
  · exact⟨h3,hd0,by show r0.length+0<=16384;omega⟩
  · rintro ⟨xl,xr⟩ ⟨g1,g2,g3⟩
    dsimp only at g1 g2 g3 ⊢
    have gl:=dD xr
    have hsk:=kC xr (by unfold be;omega)
    unfold bY at hsk
    have hnl:(xl.map c9).length=xl.length:=Lm _
    by_cases e62:preB (aW xr) [62]=true
    · obtain⟨t,ht,hen⟩:=Ey e62
      rw[kE hen]at g1
      cases g1
    · have e62':preB (aW xr) [62]=false:=by simpa using e62
      have p62:=de (aW xr) [62] false (by omega) (by decide) e62'
      simp only[Bool.false_eq_true,if_false]at p62
      by_cases e47:preB (aW xr) [47,62]=true
      · obtain⟨t,ht,hen⟩:=wl e47
        rw[kE hen]at g1
        cases g1
      · have e47':preB (aW xr) [47,62]=false:=by simpa using e47
        have hen:=zS e62' e47'
        have p63:=de (aW xr) [47,62] false (by omega) (by decide) e47'
        simp only[Bool.false_eq_true,if_false]at p63
        by_cases hgap:(aW xr).length<xr.length
        · have hgd:decide ((aW xr).length<xr.length)=true:=decide_eq_true hgap
          rw[hgd]at hsk
          cases k1:e9 (aW xr) with
          | none =>
            have hn1:=rB (aW xr) (by omega) k1
            unfold bY at hn1
            repeat' first|simp only[zF,al,ay,hq,z0,aG,aH,ax,aB,av,bg,Bt,Bf,Lm,ai,seval,ah]|exact rfl|((first|(refine ac ?_ [q] (hsk q _ _ ?_ ag (by omega)) ?_ ?_)|(refine ac ?_ [q] (p62 q _ _ ?_ ag (by omega)) ?_ ?_));iterate 3 (focus (simp only[aj,zF,al,ay,hq,z0,aG,aH,ax,aB,av,bg,Bt,Bf,Lm,ai,seval,ah]<;>exact rfl)))|((refine ac ?_ [q] (p63 q _ _ ?_ ag (by omega)) ?_ ?_);iterate 3 (focus (simp only[aj,zF,al,ay,hq,z0,aG,aH,ax,aB,av,bg,Bt,Bf,Lm,ai,seval,ah]<;>exact rfl)))|((first|apply Ca|apply Cb)<;>intro hb)|refine Ai (by omega) ?_|(apply Ai<;>intro hb)
            refine cX rfl [q] (hn1 q _ _ ?_ ag (by omega)) ?_
            · simp only[aj,al,hq,z0,ai,seval,ah]<;>exact rfl
            · simp only[aG,aH,ax,aB,av,bg,Dg]
          | some p =>
            obtain⟨m,r1⟩:=p
            have d0:=iV (dR g2) k1
            obtain⟨_,_,_,m1⟩:=gh k1
            have m2:=dD r1
            have hn1:=lg (aW xr) m r1 (by omega) k1
            have hsk1:=kC r1 (by unfold be;omega)
            unfold bY at hn1 hsk1
            cases k2:bO 61 (aW r1) with
            | none =>
              have p61:=de (aW r1) [61] false (by omega) (by decide) (by rw[fe,k2];rfl)
              simp only[Bool.false_eq_true,if_false]at p61
              repeat' first|simp only[zF,al,ay,hq,z0,aG,aH,ax,aB,av,bg,c9,Bt,Bf,Lm,ai,seval,ah]|exact rfl|((first|(refine ac ?_ [q] (hsk q _ _ ?_ ag (by omega)) ?_ ?_)|(refine ac ?_ [q] (p62 q _ _ ?_ ag (by omega)) ?_ ?_)|(refine ac ?_ [q] (hn1 q _ _ ?_ ag (by omega)) ?_ ?_));iterate 3 (focus (simp only[aj,zF,al,ay,hq,z0,aG,aH,ax,aB,av,bg,c9,Bt,Bf,Lm,ai,seval,ah]<;>exact rfl)))|((first|(refine ac ?_ [q] (p63 q _ _ ?_ ag (by omega)) ?_ ?_)|(refine ac ?_ [q] (hsk1 q _ _ ?_ ag (by omega)) ?_ ?_));iterate 3 (focus (simp only[aj,zF,al,ay,hq,z0,aG,aH,ax,aB,av,bg,c9,Bt,Bf,Lm,ai,seval,ah]<;>exact rfl)))|((refine ac ?_ [q] (p61 q _ _ ?_ ag (by omega)) ?_ ?_);iterate 3 (focus (simp only[aj,zF,al,ay,hq,z0,aG,aH,ax,aB,av,bg,c9,Bt,Bf,Lm,ai,seval,ah]<;>exact rfl)))|(refine cX rfl [q] (ii q _ _) ?_)|(refine aa (v:=.any) ?_)|((first|apply Ca|apply Cb)<;>intro hb)|refine Ai (by omega) ?_|(apply Ai<;>intro hb)
            | some t =>
              have k2':=b8 k2
              have d1:=dR d0
              rw[k2']at d1
              have d2:=dR (b6 (d:=61) (by decide) (a:=[]) d1 rfl).2
              have m3:=dD t
              rw[k2']at m2
              simp only[List.length_cons]at m2
              have hsk2:=kC t (by unfold be;omega)
              rw[k2']at hsk1
              have p61:=de (61::t) [61] true (by simp;omega) (by decide) (by rw[dU];rfl)
              simp only[if_true,List.drop_succ_cons,List.drop_zero,List.length_cons,List.length_nil]at p61
              have htw:=Bx xl ⟨m,[]⟩ (by unfold be;omega)
              unfold bY at hsk2
              cases hany:(xl.any fun b=>m==b.name) with
              | true =>
                simp only[hany,c9]at htw
                repeat' first|simp only[zF,al,ay,hq,z0,aG,aH,ax,aB,av,bg,c9,Bt,Bf,Lm,ai,seval,ah]|exact rfl|((refine ke (xs:=?_) [b0+1,b0+384] ?_ (fun _=>?_) (fun _=>?_) rfl ((fun _=>htw _)) ?_);rotate_left 1;iterate 3 (focus (simp only[ak,aj,zF,al,ay,hq,z0,aG,aH,ax,aB,av,bg,c9,Bt,Bf,Lm,ai,seval,ah]<;>(first|exact rfl|omega))))|((first|(refine ac ?_ [q] (hsk q _ _ ?_ ag (by omega)) ?_ ?_)|(refine ac ?_ [q] (p62 q _ _ ?_ ag (by omega)) ?_ ?_)|(refine ac ?_ [q] (hn1 q _ _ ?_ ag (by omega)) ?_ ?_));iterate 3 (focus (simp only[aj,zF,al,ay,hq,z0,aG,aH,ax,aB,av,bg,c9,Bt,Bf,Lm,ai,seval,ah]<;>exact rfl)))|((first|(refine ac ?_ [q] (p63 q _ _ ?_ ag (by omega)) ?_ ?_)|(refine ac ?_ [q] (hsk1 q _ _ ?_ ag (by omega)) ?_ ?_));iterate 3 (focus (simp only[aj,zF,al,ay,hq,z0,aG,aH,ax,aB,av,bg,c9,Bt,Bf,Lm,ai,seval,ah]<;>exact rfl)))|((refine ac ?_ [q] (p61 q _ _ ?_ ag (by omega)) ?_ ?_);iterate 3 (focus (simp only[aj,zF,al,ay,hq,z0,aG,aH,ax,aB,av,bg,c9,Bt,Bf,Lm,ai,seval,ah]<;>exact rfl)))|(refine cX rfl [q] (ii q _ _) ?_)|((first|apply Ca|apply Cb)<;>intro hb)|refine Ai (by omega) ?_|(apply Ai<;>intro hb)
              | false =>
                simp only[hany,c9]at htw
                cases k3:gU (aW t) with
                | none =>
                  have hva:=Dz (aW t) (by omega) d2 k3
                  unfold bY at hva
                  repeat' first|simp only[zF,al,ay,hq,z0,aG,aH,ax,aB,av,bg,c9,Bt,Bf,Lm,ai,seval,ah]|exact rfl|((refine ke (xs:=?_) [b0+1,b0+384] ?_ (fun _=>?_) (fun _=>?_) rfl ((fun _=>htw _)) ?_);rotate_left 1;iterate 3 (focus (simp only[ak,aj,zF,al,ay,hq,z0,aG,aH,ax,aB,av,bg,c9,Bt,Bf,Lm,ai,seval,ah]<;>(first|exact rfl|omega))))|((first|(refine ac ?_ [q] (hsk q _ _ ?_ ag (by omega)) ?_ ?_)|(refine ac ?_ [q] (p62 q _ _ ?_ ag (by omega)) ?_ ?_)|(refine ac ?_ [q] (hn1 q _ _ ?_ ag (by omega)) ?_ ?_));iterate 3 (focus (simp only[aj,zF,al,ay,hq,z0,aG,aH,ax,aB,av,bg,c9,Bt,Bf,Lm,ai,seval,ah]<;>exact rfl)))|((first|(refine ac ?_ [q] (p63 q _ _ ?_ ag (by omega)) ?_ ?_)|(refine ac ?_ [q] (hsk1 q _ _ ?_ ag (by omega)) ?_ ?_));iterate 3 (focus (simp only[aj,zF,al,ay,hq,z0,aG,aH,ax,aB,av,bg,c9,Bt,Bf,Lm,ai,seval,ah]<;>exact rfl)))|((first|(refine ac ?_ [q] (p61 q _ _ ?_ ag (by omega)) ?_ ?_)|(refine ac ?_ [q] (hsk2 q _ _ ?_ ag (by omega)) ?_ ?_));iterate 3 (focus (simp only[aj,zF,al,ay,hq,z0,aG,aH,ax,aB,av,bg,c9,Bt,Bf,Lm,ai,seval,ah]<;>exact rfl)))|((first|apply Ca|apply Cb)<;>intro hb)|refine Ai (by omega) ?_|(apply Ai<;>intro hb)
                  refine cX rfl [q] (hva q _ _ ?_ ag (by omega)) ?_
                  · simp only[aj,al,hq,z0,ai,seval,ah]<;>exact rfl
                  · simp only[aG,aH,ax,aB,av,bg,Dg]
                | some p3 =>
                  obtain⟨v,r'⟩:=p3
                  have hat:gy (aW xr)=some (⟨m,v⟩,r'):=by
                    unfold gy
                    rw[k1]
                    simp only[Option.bind_some,k2,k3,Option.map_some]
                  rw[lj hen hgap hat hany]at g1
                  have hlt:=lp hat
                  have g2':=tl (dR g2) hat
                  have hva:=wV (aW t) v r' (by omega) d2 k3
                  unfold bY at hva
                  repeat' first|simp only[zF,al,ay,hq,z0,c9,Bt,Bf,Lm,ai,seval,ah]|exact rfl|((refine ke (xs:=?_) [b0+1,b0+384] ?_ (fun _=>?_) (fun _=>?_) rfl ((fun _=>htw _)) ?_);rotate_left 1;iterate 3 (focus (simp only[ak,aj,zF,al,ay,hq,z0,c9,Bt,Bf,Lm,ai,seval,ah]<;>(first|exact rfl|omega))))|((first|(refine ac ?_ [q] (hsk q _ _ ?_ ag (by omega)) ?_ ?_)|(refine ac ?_ [q] (p62 q _ _ ?_ ag (by omega)) ?_ ?_)|(refine ac ?_ [q] (hn1 q _ _ ?_ ag (by omega)) ?_ ?_)|(refine ac ?_ [q] (hva q _ _ ?_ ag (by omega)) ?_ ?_));iterate 3 (focus (simp only[aj,zF,al,ay,hq,z0,c9,Bt,Bf,Lm,ai,seval,ah]<;>exact rfl)))|((first|(refine ac ?_ [q] (p63 q _ _ ?_ ag (by omega)) ?_ ?_)|(refine ac ?_ [q] (hsk1 q _ _ ?_ ag (by omega)) ?_ ?_));iterate 3 (focus (simp only[aj,zF,al,ay,hq,z0,c9,Bt,Bf,Lm,ai,seval,ah]<;>exact rfl)))|((first|(refine ac ?_ [q] (p61 q _ _ ?_ ag (by omega)) ?_ ?_)|(refine ac ?_ [q] (hsk2 q _ _ ?_ ag (by omega)) ?_ ?_));iterate 3 (focus (simp only[aj,zF,al,ay,hq,z0,c9,Bt,Bf,Lm,ai,seval,ah]<;>exact rfl)))|((first|apply Ca|apply Cb)<;>intro hb)|refine Ai (by omega) ?_|(apply Ai<;>intro hb)
                  have hnx:xl.map c9++[[.str m,.str v]]=(xl++[(⟨m,v⟩:Pr)]).map c9:=by simp[c9]
                  have hnn:(xl++[(⟨m,v⟩:Pr)]).length=xl.length+1:=by simp
                  rw[hnx]
                  all_goals ((refine aD bR (⟨xl++[(⟨m,v⟩:Pr)],r'⟩) [some q,some b0,some (b0+848)] ?_ ?_ ?_ ?_;rotate_left 2;(focus (show b0<=_;omega));(focus (refine⟨?_,?_⟩<;>(try simp only[aX,E7,ay,hq,z0,hnn,Lm,ai,seval,ah,ao])<;>(try omega)))))
                  all_goals (first|exact⟨g1,g2',by show r'.length+(xl++[(⟨m,v⟩:Pr)]).length<=16384;omega⟩|(show r'.length<xr.length;omega)|skip)
        · have hgd:decide ((aW xr).length<xr.length)=false:=decide_eq_false hgap
          rw[hgd]at hsk
          repeat' first|simp only[zF,al,ay,hq,z0,aG,aH,ax,aB,av,bg,Bt,Bf,Lm,ai,seval,ah]|exact rfl|((first|(refine ac ?_ [q] (hsk q _ _ ?_ ag (by omega)) ?_ ?_)|(refine ac ?_ [q] (p62 q _ _ ?_ ag (by omega)) ?_ ?_));iterate 3 (focus (simp only[aj,zF,al,ay,hq,z0,aG,aH,ax,aB,av,bg,Bt,Bf,Lm,ai,seval,ah]<;>exact rfl)))|((refine ac ?_ [q] (p63 q _ _ ?_ ag (by omega)) ?_ ?_);iterate 3 (focus (simp only[aj,zF,al,ay,hq,z0,aG,aH,ax,aB,av,bg,Bt,Bf,Lm,ai,seval,ah]<;>exact rfl)))|(refine cX rfl [q] (ii q _ _) ?_)|((first|apply Ca|apply Cb)<;>intro hb)|refine Ai (by omega) ?_|(apply Ai<;>intro hb)
end Go.Proofs.YtlnlopnpcmahgaaGreatDoor
