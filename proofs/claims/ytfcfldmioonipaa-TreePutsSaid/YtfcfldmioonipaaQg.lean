/-
 Texts joined: XSa,XEa,XEc,XEd,XEh,XEi,XEk,XEl,XEu.
-/
import Derived.Test.YtfcfldmioonipaaQf
import Derived.Test.YtfcfldmioonipaaQe
namespace Go.Proofs.Ytfcfldmioonipaa
set_option maxRecDepth 100000
set_option maxHeartbeats 32000000
set_option linter.unusedSimpArgs false
set_option linter.unusedVariables false
open Go Go.RowKit Vm Go.Lib Try
open Vm renaming cond_bool→Ca,cond_bit→Cb
open And renaming intro→Ai
open List renaming length_map→Lm,not_mem_nil→Ln,map_nil→Lo,map_cons→Lc,mem_cons→Lk
open Bool renaming not_false→Bf,not_true→Bt
def okA (l:List At)(a:At):Bool:=!(l.any fun b=>a.space==b.space&&a.name==b.name)&&fullL a.name&&decide (ptsErr a.value=0)&&decide (ptsErr a.space=0)
def atsTo (l:List At)(k:Nat):Prop:=∀(i:Nat) (a:At),i<k→l[i]? = some a→okA (l.take i) a=true
def atsL (l:List At):Bool:=decide (l.length≤16)&&l.zipIdx.all fun p=>okA (l.take p.2) p.1
theorem ats_iff {l:List At} : atsL l=true↔l.length≤16∧atsTo l l.length:=by
 unfold atsL atsTo
 simp only[Bool.and_eq_true,decide_eq_true_eq,List.all_eq_true]
 refine and_congr_right fun _=>⟨fun h i a hi ha=>?_,fun h p hp=>?_⟩
 ·refine h (a,i) ?_
  rw[List.mem_zipIdx_iff_getElem?];exact ha
 ·have:=(List.mem_zipIdx_iff_getElem?).1 hp
  exact h p.2 p.1 (List.getElem?_eq_some_iff.1 this).1 this
theorem atsTo_succ {l:List At}{k:Nat}{a:At}(h:atsTo l k)(ha:l[k]? = some a)(ho:okA (l.take k) a=true):atsTo l (k+1):=by
 intro i b hi hb
 by_cases e:i=k
 ·subst e;rw[ha]at hb;cases hb;exact ho
 ·exact h i b (by omega) hb
theorem ats_false {l:List At}{k:Nat}{a:At}(ha:l[k]? = some a)(ho:okA (l.take k) a=false):atsL l=false:=by
 cases h:atsL l with
 | false=>rfl
 | true =>
  have:=(ats_iff.1 h).2 k a (List.getElem?_eq_some_iff.1 ha).1 ha
  rw[ho]at this;cases this
def mayN (n:Nd):Bool :=
 if n.kind=2 then n.name.isEmpty&&n.space.isEmpty&&n.attrs.isEmpty&&decide (n.many=0) && !n.text.isEmpty&&decide (ptsErr n.text=0)
 else decide (n.kind=1)&&n.text.isEmpty&&fullL n.name&&decide (ptsErr n.space=0)&&atsL n.attrs
theorem mayN_kind {n:Nd}(h:mayN n=true):n.kind=1∨n.kind=2:=by
 unfold mayN at h
 split at h
 ·right;assumption
 ·simp only[Bool.and_eq_true,decide_eq_true_eq]at h;left;exact h.1.1.1.1
theorem mayN_text {n:Nd}(h:mayN n=true)(hk:n.kind=2):n.name=[]∧n.space=[]∧n.attrs=[]∧n.many=0∧n.text≠[]∧ptsErr n.text=0:=by
 unfold mayN at h
 rw[if_pos hk]at h
 simp only[Bool.and_eq_true,decide_eq_true_eq,List.isEmpty_iff,Bool.not_eq_true',List.isEmpty_eq_false_iff]at h
 obtain⟨⟨⟨⟨⟨h1,h2⟩,h3⟩,h4⟩,h5⟩,h6⟩:=h
 exact⟨h1,h2,h3,h4,h5,h6⟩
theorem mayN_elem {n:Nd}(h:mayN n=true)(hk:n.kind=1):n.text=[]∧fullL n.name=true∧ptsErr n.space=0∧atsL n.attrs=true:=by
 unfold mayN at h
 rw[if_neg (by omega)]at h
 simp only[Bool.and_eq_true,decide_eq_true_eq,List.isEmpty_iff]at h
 obtain⟨⟨⟨⟨h1,h2⟩,h3⟩,h4⟩,h5⟩:=h
 exact⟨h2,h3,h4,h5⟩
def loopW (walk:Nat→List Nat→Option Nat×List Nat)(v:List Nd):Nat→Option Nat→Nat→List Nat→Option Nat×List Nat
 | 0,next,_,en=>(next,en)
 | _+1,none,_,en=>(none,en)
 | n+1,some next,last,en=>match v[next]? with
  | none=>(none,en)
  | some y=>if (last==2&&y.kind==2)=true then (none,en) else loopW walk v n (walk next en).1 y.kind (walk next en).2
def endWk (p:Nat)(r:Option Nat×List Nat):Option Nat×List Nat:=match r.1 with
 | some e=>(some e,r.2.set p e)
 | none=>(none,r.2)
def okW (x:Nd)(dz:Bool):Bool:=mayN x&&decide (0≤x.many) && !(x.kind==1&&dz)
def nodeW (walk:Nat→List Nat→Option Nat×List Nat)(v:List Nd)(dz:Bool)(p:Nat)(en:List Nat):Option Nat×List Nat:=match v[p]? with
 | none=>(none,en)
 | some x=>if okW x dz=true then endWk p (loopW walk v x.many.toNat (some (p+1)) 1 en) else (none,en)
def walkW (v:List Nd):Nat→Nat→List Nat→Option Nat×List Nat
 | 0=>nodeW (fun _ en=>(none,en)) v true
 | d+1=>nodeW (walkW v d) v false
def finO (n:Nat):Option Nat×List Nat→Option (List Nat)
 |(some e,en)=>if e=n then some en else none
 |(none,_)=>none
def behindO (v:List Nd):Option (List Nat):=if (v.isEmpty||decide (512<v.length) || !((v[0]?).map Nd.kind==some 1))=true then none else finO v.length (walkW v 12 0 (List.replicate v.length 0))
inductive Fo where
 | nil
 | cons (n:Nd) (k r:Fo)
def Fo.flat:Fo→List Nd
 | .nil=>[]
 | .cons n k r=>n::(k.flat++r.flat)
def Fo.count:Fo→Nat
 | .nil=>0
 | .cons _ _ r=>r.count+1
def Fo.size:Fo→Nat
 | .nil=>0
 | .cons _ k r=>k.size+r.size+1
theorem Fo.flat_length:∀(F:Fo),F.flat.length=F.size
 | .nil=>rfl
 | .cons n k r=>by simp[Fo.flat,Fo.size,k.flat_length,r.flat_length]
def Fo.good:Fo→Nat→Nat→Bool
 | .nil,_,_=>true
 | .cons n k r,d,last=>mayN n&&decide (n.many=(k.count:Int)) && !(last==2&&n.kind==2) && !(n.kind==1&&d==0)&&k.good (d-1) 1&&r.good d n.kind
def Fo.ends:Fo→Nat→List Nat
 | .nil,_=>[]
 | .cons _ k r,b=>(b+1+k.size)::(k.ends (b+1)++r.ends (b+1+k.size))
theorem Fo.ends_length:∀(F:Fo) (b:Nat),(F.ends b).length=F.size
 | .nil,_=>rfl
 | .cons n k r,b=>by simp[Fo.ends,Fo.size,k.ends_length,r.ends_length]
def Fo.app:Fo→Fo→Fo
 | .nil,g=>g
 | .cons n k r,g=>.cons n k (r.app g)
theorem Fo.good_cons {n:Nd}{k r:Fo}{d last:Nat} :(Fo.cons n k r).good d last=true↔mayN n=true∧n.many=(k.count:Int) ∧ ¬(last=2∧n.kind=2) ∧ ¬(n.kind=1∧d=0)∧k.good (d-1) 1=true∧r.good d n.kind=true:=by
 simp only[Fo.good,Bool.and_eq_true,decide_eq_true_eq,Bool.not_eq_true',Bool.and_eq_false_iff,beq_eq_false_iff_ne,ne_eq]
 constructor
 ·rintro ⟨⟨⟨⟨⟨h1,h2⟩,h3⟩,h4⟩,h5⟩,h6⟩
  exact⟨h1,h2,by rcases h3 with h|h<;>simp_all,by rcases h4 with h|h<;>simp_all,h5,h6⟩
 ·rintro ⟨h1,h2,h3,h4,h5,h6⟩
  exact⟨⟨⟨⟨⟨h1,h2⟩,by by_cases h:last=2<;>simp_all⟩,by by_cases h:n.kind=1<;>simp_all⟩,h5⟩,h6⟩
theorem Fo.good_mono:∀ {F:Fo} {d d' last:Nat},d≤d'→F.good d last=true→F.good d' last=true
 | .nil,_,_,_,_,_=>rfl
 | .cons n k r,d,d',last,hd,h=>by
  obtain⟨h1,h2,h3,h4,h5,h6⟩:=Fo.good_cons.1 h
  exact Fo.good_cons.2 ⟨h1,h2,h3,by omega,Fo.good_mono (by omega) h5,Fo.good_mono hd h6⟩
theorem Fo.text_leaf {n:Nd}{k r:Fo}{d last:Nat}(h:(Fo.cons n k r).good d last=true)(hk:n.kind=2):k = .nil:=by
 obtain⟨h1,h2,_⟩:=Fo.good_cons.1 h
 have:=(mayN_text h1 hk).2.2.2.1
 cases k with
 | nil=>rfl
 | cons _ _ _=>simp[Fo.count]at h2;omega
theorem spl_two {en l1 l2:List Nat}{p:Nat}(h:p+l1.length+l2.length≤en.length):spliceL (spliceL en p l1) (p+l1.length) l2=spliceL en p (l1++l2):=by
 have e1:(spliceL en p l1).length=en.length:=spliceL_length (by omega)
 refine List.ext_getElem? fun i=>?_
 rw[spliceL_get (by omega),spliceL_get (by omega),spliceL_get (by simp;omega),List.getElem?_append,List.length_append]
 by_cases a:i<p
 ·rw[if_pos (by omega),if_pos a,if_pos a]
 ·by_cases b:i<p+l1.length
  ·rw[if_pos b,if_neg a,if_pos b,if_neg a,if_pos (by omega),if_pos (by omega)]
  ·by_cases c:i<p+l1.length+l2.length
   ·rw[if_neg b,if_pos c,if_neg a,if_pos (by omega),if_neg (by omega)];congr 1;omega
   ·rw[if_neg b,if_neg c,if_neg a,if_neg b,if_neg a,if_neg (by omega)]
theorem spl_set {en l:List Nat}{p e:Nat}(h:p+1+l.length≤en.length):(spliceL en (p+1) l).set p e=spliceL en p (e::l):=by
  refine List.ext_getElem? fun i=>?_
  rw[List.getElem?_set,spliceL_length (by omega),spliceL_get (by omega),spliceL_get (by simp;omega)]
  by_cases a:p=i
  · subst a;rw[if_pos rfl,if_pos (by omega),if_neg (by omega),if_pos (by simp)];simp
  · rw [if_neg a]
    by_cases b:i<p
    · rw[if_pos (by omega),if_pos b]
    · by_cases c:i<p+1+l.length
      · rw[if_neg (by omega),if_pos c,if_neg b,if_pos (by simp;omega)]
        obtain⟨j,rfl⟩:∃ j,i=p+1+j:=⟨i-(p+1),by omega⟩
        rw[show p+1+j-(p+1)=j by omega,show p+1+j-p=j+1 by omega];simp
      · rw[if_neg (by omega),if_neg c,if_neg b,if_neg (by simp;omega)]
theorem spl_nil (en:List Nat)(p:Nat):spliceL en p []=en:=by simp[spliceL]
def WalkOk (v:List Nd)(d:Nat)(walk:Nat→List Nat→Option Nat×List Nat):Prop:=∀ p en,en.length=v.length →
 ((walk p en).2.length=v.length ∧ ∀ e,(walk p en).1=some e → ∃ n k,(Fo.cons n k .nil).good d 0=true∧v.drop p=n::(k.flat++v.drop e)∧e=p+1+k.size∧e≤v.length∧(walk p en).2=spliceL en p ((Fo.cons n k .nil).ends p)) ∧
 ∀ n k r,(Fo.cons n k .nil).good d 0=true→v.drop p=n::(k.flat++r)→walk p en=(some (p+1+k.size),spliceL en p ((Fo.cons n k .nil).ends p))
theorem drop_at {v:List Nd}{p:Nat}{n:Nd}{r:List Nd}(h:v.drop p=n::r):v[p]? = some n∧v.drop (p+1)=r∧p<v.length:=by
 have h1:v[p]? = some n:=by have:=congrArg (·[0]?) h;simpa using this
 refine⟨h1,?_,(List.getElem?_eq_some_iff.1 h1).1⟩
 have:=congrArg (List.drop 1) h
 rw[List.drop_drop]at this;simpa using this
theorem drop_from {v:List Nd}{p:Nat}{n:Nd}(h:v[p]? = some n):v.drop p=n::v.drop (p+1):=by
 obtain⟨hp,rfl⟩:=List.getElem?_eq_some_iff.1 h
 exact List.drop_eq_getElem_cons hp
theorem drop_more {v a r:List Nd}{p:Nat}(h:v.drop p=a++r):v.drop (p+a.length)=r:=by
 rw[← List.drop_drop,h,List.drop_left]
theorem drop_len {v a r:List Nd}{p:Nat}(h:v.drop p=a++r)(hp:p≤v.length):p+a.length≤v.length:=by
 have:=congrArg List.length h
 simp at this;omega
theorem loop_ok {v:List Nd}{d:Nat}{walk:Nat→List Nat→Option Nat×List Nat}(hw:WalkOk v d walk):∀(c:Nat) (next:Option Nat) (last:Nat) (en:List Nat),en.length=v.length →
  (loopW walk v c next last en).2.length=v.length ∧ ∀ p,next=some p→p≤v.length →
  (∀ e,(loopW walk v c next last en).1=some e → ∃ F:Fo,F.count=c∧F.good d last=true∧v.drop p=F.flat++v.drop e∧e=p+F.size∧e≤v.length∧(loopW walk v c next last en).2=spliceL en p (F.ends p)) ∧
  ∀(F:Fo) (r:List Nd),F.count=c→F.good d last=true→v.drop p=F.flat++r→loopW walk v c next last en=(some (p+F.size),spliceL en p (F.ends p))
 | 0,next,last,en,hl=>by
  refine⟨hl,fun p hp hle=>⟨fun e he=>⟨.nil,rfl,rfl,?_,?_,?_,?_⟩,fun F r hc _ _=>?_⟩⟩
  ·subst hp;simp only[loopW,Option.some.injEq]at he;subst he;rfl
  ·subst hp;simp only[loopW,Option.some.injEq]at he;subst he;rfl
  ·subst hp;simp only[loopW,Option.some.injEq]at he;subst he;exact hle
  ·simp[loopW,Fo.ends,spl_nil]
  ·cases F with
   | nil=>subst hp;simp[loopW,Fo.ends,Fo.size,spl_nil]
   | cons _ _ _=>simp[Fo.count]at hc
 | c+1,none,last,en,hl=>⟨hl,fun p hp=>by cases hp⟩
 | c+1,some q,last,en,hl=>by
  cases hv:v[q]? with
  | none =>
   refine⟨by simpa [loopW,hv] using hl,fun p hp hle=>?_⟩
   cases hp
   refine⟨fun e he=>by simp[loopW,hv]at he,fun F r hc hg hd=>?_⟩
   cases F with
   | nil=>simp[Fo.count]at hc
   | cons n k r' =>
    simp only[Fo.flat,List.cons_append]at hd
    rw[(drop_at hd).1]at hv;cases hv
  | some y =>
   by_cases hb:(last==2&&y.kind==2)=true
   ·refine⟨by simpa [loopW,hv,hb] using hl,fun p hp hle=>?_⟩
    cases hp
    refine⟨fun e he=>by simp[loopW,hv,hb]at he,fun F r hc hg hd=>?_⟩
    cases F with
    | nil=>simp[Fo.count]at hc
    | cons n k r' =>
     simp only[Fo.flat,List.cons_append]at hd
     rw[(drop_at hd).1]at hv;cases hv
     simp only[Bool.and_eq_true,beq_iff_eq]at hb
     exact absurd hb (Fo.good_cons.1 hg).2.2.1
   ·have hb':(last==2&&y.kind==2)=false:=by simpa using hb
    have hu:loopW walk v (c+1) (some q) last en=loopW walk v c (walk q en).1 y.kind (walk q en).2:=by simp[loopW,hv,hb']
    rw[hu]
    obtain⟨⟨w1,w2⟩,w3⟩:=hw q en hl
    obtain⟨i1,i2⟩:=loop_ok hw c (walk q en).1 y.kind (walk q en).2 w1
    refine⟨i1,fun p hp hle=>?_⟩
    cases hp
    refine⟨fun e he=>?_,fun F r hc hg hd=>?_⟩
    ·cases hwq:(walk q en).1 with
     | none =>
      rw[hwq]at he
      cases c<;>simp[loopW]at he
     | some e1 =>
      obtain⟨n,k,g1,g2,g3,g4,g5⟩:=w2 e1 hwq
      obtain⟨i3,_⟩:=i2 e1 hwq g4
      obtain⟨F,f1,f2,f3,f4,f5,f6⟩:=i3 e he
      have hy:n=y:=by rw[(drop_at g2).1]at hv;exact Option.some.inj hv
      subst hy
      obtain⟨k1,k2,k3,k4,k5,k6⟩:=Fo.good_cons.1 g1
      refine⟨.cons n k F,by simp[Fo.count,f1],Fo.good_cons.2 ⟨k1,k2,?_,k4,k5,f2⟩,?_,?_,f5,?_⟩
      ·simpa using hb'
      ·rw[g2,f3];simp[Fo.flat]
      ·simp only[Fo.size];omega
      ·rw[hwq]at f6;rw[f6,g5]
       have hlen:=Fo.ends_length (.cons n k .nil) q
       have hlF:=Fo.ends_length F e1
       have hs:e1=q+((Fo.cons n k .nil).ends q).length:=by rw[hlen];simp[Fo.size];omega
       have:=spl_two (en:=en) (l1:=(Fo.cons n k .nil).ends q) (l2:=F.ends e1) (p:=q) (by omega)
       rw[← hs]at this
       rw[this]
       simp[Fo.ends,g3]
    ·cases F with
     | nil=>simp[Fo.count]at hc
     | cons n k r' =>
      obtain⟨k1,k2,k3,k4,k5,k6⟩:=Fo.good_cons.1 hg
      simp only[Fo.flat,List.cons_append,List.append_assoc]at hd
      have hy:n=y:=by rw[(drop_at hd).1]at hv;exact Option.some.inj hv
      subst hy
      have hwk:=w3 n k (r'.flat++r) (Fo.good_cons.2 ⟨k1,k2,by omega,k4,k5,rfl⟩) hd
      have hd1:v.drop q=(n::k.flat)++(r'.flat++r):=by simpa using hd
      have hle1:=drop_len hd1 hle
      have hd2:=drop_more hd1
      simp only[List.length_cons,Fo.flat_length]at hle1 hd2
      have hq1:q+(k.size+1)=q+1+k.size:=by omega
      rw[hq1]at hd2
      obtain⟨_,i4⟩:=i2 (q+1+k.size) (by rw[hwk]) (by omega)
      have hF:=i4 r' r (by simpa [Fo.count] using hc) k6 hd2
      rw[hF,hwk]
      have hlen:=Fo.ends_length (.cons n k .nil) q
      have hs:q+1+k.size=q+((Fo.cons n k .nil).ends q).length:=by rw[hlen];simp[Fo.size];omega
      have hle2:=drop_len hd2 (by omega)
      rw[Fo.flat_length]at hle2
      have:=spl_two (en:=en) (l1:=(Fo.cons n k .nil).ends q) (l2:=r'.ends (q+1+k.size)) (p:=q) (by rw[Fo.ends_length,Fo.ends_length];simp only[Fo.size];omega)
      rw[← hs]at this
      simp only
      rw[this]
      simp[Fo.ends,Fo.size];omega
theorem endWk_len {p n:Nat}{r:Option Nat×List Nat}(h:r.2.length=n):(endWk p r).2.length=n:=by
 unfold endWk;split<;>simpa using h
theorem node_ok {v:List Nd}{d:Nat}{dz:Bool}{walk:Nat→List Nat→Option Nat×List Nat}(hz:dz=decide (d=0))(hw:d≠0→WalkOk v (d-1) walk)(hw0:∀ p en,(walk p en).2.length=en.length):WalkOk v d (nodeW walk v dz):=by
 have hlen0:∀(c:Nat) (next:Option Nat) (last:Nat) (en:List Nat),(loopW walk v c next last en).2.length=en.length:=by
  intro c
  induction c with
  | zero=>intro next last en;rfl
  | succ c ih =>
   intro next last en
   cases next with
   | none=>rfl
   | some q =>
    cases hv:v[q]? with
    | none=>simp[loopW,hv]
    | some y =>
     by_cases hb:(last==2&&y.kind==2)=true
     ·simp[loopW,hv,hb]
     ·have hb':(last==2&&y.kind==2)=false:=by simpa using hb
      rw[show loopW walk v (c+1) (some q) last en=loopW walk v c (walk q en).1 y.kind (walk q en).2 by simp[loopW,hv,hb'],ih,hw0]
 intro p en hl
 cases hv:v[p]? with
 | none =>
  refine⟨⟨by simpa [nodeW,hv] using hl,fun e he=>by simp[nodeW,hv]at he⟩,fun n k r _ hd=>?_⟩
  rw[(drop_at hd).1]at hv;cases hv
 | some x =>
  have hpl:=(List.getElem?_eq_some_iff.1 hv).1
  by_cases hx:okW x dz=true
  ·have hu:nodeW walk v dz p en=endWk p (loopW walk v x.many.toNat (some (p+1)) 1 en):=by simp[nodeW,hv,hx]
   rw[hu]
   simp only[okW,Bool.and_eq_true,decide_eq_true_eq,Bool.not_eq_true',Bool.and_eq_false_iff,beq_eq_false_iff_ne]at hx
   obtain⟨⟨hm,h0⟩,hkd⟩:=hx
   have hkd':¬(x.kind=1∧d=0):=by
    rintro ⟨e1,e2⟩;rcases hkd with h|h
    ·exact h e1
    ·subst hz;simp[e2]at h
   by_cases hd0:d=0
   ·have hk2:x.kind=2:=by rcases mayN_kind hm with h|h;exact absurd ⟨h,hd0⟩ hkd';exact h
    obtain⟨_,_,_,hm0,_,_⟩:=mayN_text hm hk2
    have hl0:loopW walk v x.many.toNat (some (p+1)) 1 en=(some (p+1),en):=by rw[hm0];rfl
    rw[hl0]
    have hs:en.set p (p+1)=spliceL en p ((Fo.cons x .nil .nil).ends p):=by
     have:=spl_set (en:=en) (l:=[]) (p:=p) (e:=p+1) (by simp;omega)
     rw[spl_nil]at this
     rw[this];simp[Fo.ends,Fo.size]
    refine⟨⟨by simp[endWk];omega,fun e he=>⟨x,.nil,?_,?_,?_,?_,?_⟩⟩,fun n k r hg hd=>?_⟩
    ·exact Fo.good_cons.2 ⟨hm,by simp[Fo.count,hm0],by omega,hkd',rfl,rfl⟩
    ·simp only[endWk,Option.some.injEq]at he;subst he;simp[Fo.flat];exact drop_from hv
    ·simp only[endWk,Option.some.injEq]at he;subst he;simp[Fo.size]
    ·simp only[endWk,Option.some.injEq]at he;subst he;omega
    ·simp only[endWk];exact hs
    ·have hy:n=x:=by rw[(drop_at hd).1]at hv;exact Option.some.inj hv
     subst hy
     have hkn:=Fo.text_leaf hg hk2
     subst hkn
     simp only[endWk,Fo.size,Nat.add_zero];rw[hs]
   ·obtain⟨i1,i2⟩:=loop_ok (hw hd0) x.many.toNat (some (p+1)) 1 en hl
    obtain⟨i3,i4⟩:=i2 (p+1) rfl (by omega)
    refine⟨⟨endWk_len i1,fun e he=>?_⟩,fun n k r hg hd=>?_⟩
    ·cases hq:(loopW walk v x.many.toNat (some (p+1)) 1 en).1 with
     | none=>simp[endWk,hq]at he
     | some e1 =>
      have hee:e1=e:=by simpa [endWk,hq] using he
      subst hee
      obtain⟨F,f1,f2,f3,f4,f5,f6⟩:=i3 e1 hq
      refine⟨x,F,Fo.good_cons.2 ⟨hm,by rw[f1];omega,by omega,hkd',f2,rfl⟩,?_,?_,f5,?_⟩
      ·rw[← f3];exact drop_from hv
      ·omega
      ·simp only[endWk,hq,f6]
       rw[spl_set (by rw[Fo.ends_length];omega)]
       simp[Fo.ends,f4]
    ·have hy:n=x:=by rw[(drop_at hd).1]at hv;exact Option.some.inj hv
     subst hy
     obtain⟨k1,k2,k3,k4,k5,k6⟩:=Fo.good_cons.1 hg
     obtain⟨_,hd1,_⟩:=drop_at hd
     have:=i4 k r (by rw[k2];simp) k5 hd1
     rw[this]
     have hle:=drop_len hd1 (by omega)
     rw[Fo.flat_length]at hle
     simp only[endWk]
     rw[spl_set (by rw[Fo.ends_length];omega)]
     simp[Fo.ends]
  ·have hu:nodeW walk v dz p en=(none,en):=by simp[nodeW,hv,hx]
   rw[hu]
   refine⟨⟨hl,fun e he=>by cases he⟩,fun n k r hg hd=>?_⟩
   have hy:n=x:=by rw[(drop_at hd).1]at hv;exact Option.some.inj hv
   subst hy
   obtain⟨k1,k2,k3,k4,k5,k6⟩:=Fo.good_cons.1 hg
   exfalso;apply hx
   simp only[okW,Bool.and_eq_true,decide_eq_true_eq,Bool.not_eq_true',Bool.and_eq_false_iff,beq_eq_false_iff_ne]
   refine⟨⟨k1,by omega⟩,?_⟩
   subst hz
   by_cases e:n.kind=1
   ·right;simp;omega
   ·left;exact e
theorem loopW_len {walk:Nat→List Nat→Option Nat×List Nat}(hw0:∀ p en,(walk p en).2.length=en.length)(v:List Nd):∀(c:Nat) (next:Option Nat) (last:Nat) (en:List Nat),(loopW walk v c next last en).2.length=en.length
 | 0,_,_,_=>rfl
 | _+1,none,_,_=>rfl
 | c+1,some q,last,en=>by
  cases hv:v[q]? with
  | none=>simp[loopW,hv]
  | some y =>
   by_cases hb:(last==2&&y.kind==2)=true
   ·simp[loopW,hv,hb]
   ·have hb':(last==2&&y.kind==2)=false:=by simpa using hb
    rw[show loopW walk v (c+1) (some q) last en=loopW walk v c (walk q en).1 y.kind (walk q en).2 by simp[loopW,hv,hb'],loopW_len hw0,hw0]
theorem nodeW_len {walk:Nat→List Nat→Option Nat×List Nat}(hw0:∀ p en,(walk p en).2.length=en.length)(v:List Nd)(dz:Bool)(p:Nat)(en:List Nat):(nodeW walk v dz p en).2.length=en.length:=by
 unfold nodeW
 split
 ·rfl
 ·split
  ·exact endWk_len (loopW_len hw0 v _ _ _ _)
  ·rfl
theorem walkW_len (v:List Nd):∀(d p:Nat) (en:List Nat),(walkW v d p en).2.length=en.length
 | 0,p,en=>nodeW_len (fun _ _=>rfl) v true p en
 | d+1,p,en=>nodeW_len (walkW_len v d) v false p en
theorem walk_ok (v:List Nd):∀(d:Nat),WalkOk v d (walkW v d)
 | 0=>node_ok (d:=0) rfl (fun h=>absurd rfl h) (fun _ _=>rfl)
 | d+1=>node_ok (d:=d+1) (by simp) (fun _=>walk_ok v d) (walkW_len v d)
theorem behind_iff {v:List Nd}{en:List Nat} : behindO v=some en ↔ ∃ n k,n.kind=1∧v=n::k.flat∧(Fo.cons n k .nil).good 12 0=true∧v.length≤512∧en=(1+k.size)::k.ends 1:=by
 have hw:=walk_ok v 12 0 (List.replicate v.length 0) (by simp)
 constructor
 ·intro h
  unfold behindO at h
  split at h
  ·cases h
  ·rename_i hc
   simp only[Bool.or_eq_true,decide_eq_true_eq,Bool.not_eq_true',not_or,Bool.not_eq_true,List.isEmpty_eq_false_iff,Nat.not_lt,Bool.not_eq_false,beq_iff_eq,Option.map_eq_some_iff]at hc
   obtain⟨⟨c1,c2⟩,x,c3,c4⟩:=hc
   cases hr:walkW v 12 0 (List.replicate v.length 0) with
   | mk a b =>
    rw[hr]at h hw
    cases a with
    | none=>cases h
    | some e =>
     simp only[finO]at h
     split at h
     ·rename_i he
      cases h
      obtain⟨n,k,h1,h2,h3,h4,h5⟩:=hw.1.2 e rfl
      subst he
      simp only[List.drop_zero,List.drop_length,List.append_nil]at h2
      have hx:x=n:=by rw[h2]at c3;simpa using c3.symm
      subst hx
      refine⟨x,k,c4,h2,h1,c2,?_⟩
      simp only at h5
      have hle:=Fo.ends_length (.cons x k .nil) 0
      have hvl:v.length=k.size+1:=by rw[h2];simp[Fo.flat_length]
      rw[h5]
      unfold spliceL
      rw[hle,List.take_zero,List.drop_of_length_le (by simp[Fo.size];omega)]
      simp[Fo.ends]
     ·cases h
 ·rintro ⟨n,k,h1,h2,h3,h4,rfl⟩
  have hwk:=hw.2 n k [] h3 (by simpa using h2)
  have hvl:v.length=k.size+1:=by rw[h2];simp[Fo.flat_length]
  unfold behindO
  rw[if_neg (by rw[h2];simp[h1];rw[h2]at h4;simpa using h4),hwk]
  simp only[finO]
  rw[if_pos (by omega)]
  have hle:=Fo.ends_length (.cons n k .nil) 0
  unfold spliceL
  rw[hle,List.take_zero,List.drop_of_length_le (by simp[Fo.size];omega)]
  simp[Fo.ends]
def validB (r:Int):Bool:=(decide (0≤r)&&decide (r<55296))||(decide (57343<r)&&decide (r≤1114111))
theorem valid_ev (r:Int)(nm:Nat):Ev cx 82 nm [.int .i32 r] Mem.nil (.bool (validB r)) []:=by
 unfold validB
 refine ev_go rfl (fun cargs w=>call82 cargs w) func82 rfl mixed (by kernel_rfl) rfl ?_;intro b0 hb0
 (repeat' first|simp only[fins,mems,results82,ntmps82,wks,vcs,seval,tys]|exact rfl|refine call_off (v:=.any) ?_|((first|apply Ca|apply Cb)<;>intro hb)|refine Ai (by omega) ?_|(apply Ai<;>intro hb)|refine Fin.pure ?_ ?_ ?_|simp only[injs])
 all_goals simp_all
theorem tMay_ev (n:Int)(nm:Nat):Ev cx 76 nm [.int .i64 n] Mem.nil (.bool (may n)) []:=by
 refine ev_go rfl (fun cargs w=>call76 cargs w) func76 rfl mixed (by kernel_rfl) rfl ?_;intro b0 hb0
 (repeat' first|simp only[fins,mems,results76,ntmps76,wks,vcs,seval,tys]|exact rfl|refine call_off (v:=.any) ?_|((first|apply Ca|apply Cb)<;>intro hb)|refine Ai (by omega) ?_|(apply Ai<;>intro hb)|refine Fin.pure ?_ ?_ ?_|simp only[injs])
 all_goals simp only[decide_eq_true_eq,decide_eq_false_iff_not,beq_iff_eq,beq_eq_false_iff_ne,ne_eq]at *
 all_goals (first|(exfalso;omega)|(exact may_t (by omega))|(exact may_f (by omega))|skip)
 have hw:IntKind.i32.wrap n=n:=IntWalk.i32_in _ (by omega)
 rw[hw]
 have hv:validB n=may n:=by
  cases h:may n with
  | true =>
   have:=(may_iff n).1 h
   unfold validB
   simp only[Bool.or_eq_true,Bool.and_eq_true,decide_eq_true_eq];omega
  | false =>
   have h':¬ _:=fun q=>by rw[(may_iff n).2 q]at h;cases h
   unfold validB
   simp only[Bool.or_eq_false_iff,Bool.and_eq_false_iff,decide_eq_false_iff_not];omega
 (repeat' first|simp only[fins,mems,results76,ntmps76,wks,hv,vcs,seval,tys]|exact rfl|refine call_off (v:=.any) ?_|(first|(refine call_fn ?_ (valid_ev n _) ?_)|(refine call_fn_g ?_ (fun _=>valid_ev n _) ?_))|((first|apply Ca|apply Cb)<;>intro hb)|refine Ai (by omega) ?_|(apply Ai<;>intro hb)|refine Fin.pure ?_ ?_ ?_|simp only[injs])
def preB (s p:List UInt8):Bool:=decide (p.length≤s.length)&&(s.take p.length==p)
theorem hasPre_ev (s p:List UInt8)(hs:s.length≤lim)(hp:p.length≤lim)(nm:Nat):Ev cx 81 nm [.str s,.str p] Mem.nil (.bool (preB s p)) []:=by
 unfold lim at hs hp
 unfold preB
 refine ev_go rfl (fun cargs w=>call81 cargs w) func81 rfl mixed (by kernel_rfl) rfl ?_;intro b0 hb0
 (repeat' first|simp only[fins,mems,results81,ntmps81,wks,decide_eq_true_eq,imp_self,vcs,seval,tys]|exact rfl|refine call_off (v:=.any) ?_|((first|apply Ca|apply Cb)<;>intro hb)|refine Ai (by omega) ?_|(apply Ai<;>intro hb)|refine Fin.pure ?_ ?_ ?_|simp only[injs])
theorem pre_ev (s p:List UInt8)(hs:s.length≤lim)(hp:p.length≤lim)(nm:Nat):Ev cx 75 nm [.str s,.str p] Mem.nil (.bool (preB s p)) []:=by
 refine ev_go rfl (fun cargs w=>call75 cargs w) func75 rfl mixed (by kernel_rfl) rfl ?_;intro b0 hb0
 (repeat' first|simp only[fins,mems,results75,ntmps75,wks,vcs,seval,tys]|exact rfl|refine call_off (v:=.any) ?_|(first|(refine call_fn ?_ (hasPre_ev s p hs hp _) ?_)|(refine call_fn_g ?_ (fun _=>hasPre_ev s p hs hp _) ?_))|((first|apply Ca|apply Cb)<;>intro hb)|refine Ai (by omega) ?_|(apply Ai<;>intro hb)|refine Fin.pure ?_ ?_ ?_|simp only[injs])
def pts (l:List UInt8):List Int:=if 16384<l.length then [] else (dec l).getD []
def intRow (z:Int):List V:=[.int .i64 z]
theorem preB_eq (s p:List UInt8):preB s p=Lib.hasPrefix s p:=by
 unfold preB Lib.hasPrefix
 rw[Bool.eq_iff_iff]
 simp only[Bool.and_eq_true,decide_eq_true_eq,beq_iff_eq,List.isPrefixOf_iff_prefix,List.prefix_iff_eq_take]
 constructor
 ·rintro ⟨_,h⟩;exact h.symm
 ·intro h
  refine⟨?_,h.symm⟩
  have:=congrArg List.length h
  simp at this;omega
theorem one_at {s:List UInt8}{p:Nat}(hp:p<s.length):one (s.drop p)=if ((runeAt s p).1=65533∧preB (s.drop p) [239,191,189]=false)∨may ((runeAt s p).1:Int)=false then none else some (((runeAt s p).1:Int),(runeAt s p).2):=by
 have hne:s.drop p≠[]:=by
  intro h
  have:=congrArg List.length h
  simp at this;omega
 have hd:runeAt s p=Lib.decodeL (s.drop p):=decode_drop ⟨s.toArray⟩ p
 rw[hd,preB_eq]
 exact one_of_decode hne
theorem rune_le (s:List UInt8)(p:Nat):(runeAt s p).1≤2147483647:=decode_le _ _
theorem take_i (l:List Int):(l.map intRow).take l.length=l.map intRow:=List.take_of_length_le (by simp)
theorem isRow_inst:Ob.isRow instCells=true:=rfl
theorem plain_i (l:List Int):plainLL (l.map intRow)=true:=plainLL_map _ (fun _=>rfl) l
theorem ren_ints (σ:List (Nat×Nat))(l:List Int):Blk.ren σ ⟨1,l.map intRow⟩=⟨1,l.map intRow⟩:=Blk.ren_plain (plain_i l) rfl
theorem points_ev (s:List UInt8)(hs:s.length≤lim)(nm:Nat):Ev cx 67 nm [.str s] Mem.nil (.tup [.sl false 1 ((pts s).map intRow),.int .i64 (ptsErr s)]) []:=by
 unfold lim at hs
 by_cases hbig:16384<s.length
 ·have he:ptsErr s=4:=by unfold ptsErr;rw[if_pos hbig]
  have hq:pts s=[]:=by unfold pts;rw[if_pos hbig]
  have hd:decide ((16384:Int)<s.length)=true:=decide_eq_true (by omega)
  refine ev_go rfl (fun cargs w=>call67 cargs w) func67 rfl mixed (by kernel_rfl) rfl ?_;intro b0 hb0
  (repeat' first|simp only[fins,mems,results67,ntmps67,wks,he,hq,hd,Lo,vcs,seval,tys]|exact rfl|refine call_off (v:=.any) ?_|((first|apply Ca|apply Cb)<;>intro hb)|refine Ai (by omega) ?_|(apply Ai<;>intro hb)|refine Fin.pure ?_ ?_ ?_|simp only[injs])
 ·have hd:decide ((16384:Int)<s.length)=false:=decide_eq_false (by omega)
  refine ev_go rfl (fun cargs w=>call67 cargs w) func67 rfl mixed (by kernel_rfl) rfl ?_;intro b0 hb0
  repeat' first|simp only[fins,mems,results67,ntmps67,wks,hd,vcs,seval,tys]|exact rfl|refine call_off (v:=.any) ?_|(refine ext_range (s:=?_) ?_ ?_ ?_;rotate_left 1;(iterate 2 (focus (simp only[results67,ntmps67,wks,hd,vcs,seval,tys]<;>exact rfl))))|(refine extG_true ?_)|(refine extG_false ?_)|((first|apply Ca|apply Cb)<;>intro hb)|refine Ai (by omega) ?_|(apply Ai<;>intro hb)
  (refine loop_can2 cxG (fun x:Nat×List Int=>s.length-x.1) (fun x=>x.1≤s.length∧x.2.length≤x.1∧dec s=(dec (s.drop x.1)).map (x.2 ++ ·)) (b0+16) (fun x=>[(0,.str s),(2,.own (b0+1) 0 x.2.length),(10,.ptr b0 0 0)]) (fun x=>[(b0,iterK s x.1),(b0+1,⟨1,x.2.map intRow⟩)]) ((0,[])) [some (b0+96),none] ?_ ?_ ?_ ?_;rotate_left 1;(focus (show b0≤_;omega));(focus (refine⟨?_,?_⟩<;>(try simp only[cans,isRow_inst,ren_iter,renOk_iter,plain_i,vcs,seval,tys,injs])<;>(try omega)));rotate_left 1)
  ·refine⟨Nat.zero_le _,Nat.le_refl _,?_⟩
   rw[List.drop_zero];cases dec s<;>rfl
  ·rintro ⟨p,zs⟩ ⟨h1,h2,h3⟩
   by_cases hp:p<s.length
   ·have ho:=one_at hp
    have hne:s.drop p≠[]:=by
     intro h
     have:=congrArg List.length h
     simp at this;omega
    have hrl:=rune_le s p
    have hw:IntKind.i64.wrap ((runeAt s p).1:Int)=((runeAt s p).1:Int):=wrap_in (by omega) (by omega)
    have hle:(s.drop p).length≤lim:=by unfold lim;simp;omega
    by_cases hbad:((runeAt s p).1=65533∧preB (s.drop p) [239,191,189]=false)∨may ((runeAt s p).1:Int)=false
    ·rw[if_pos hbad]at ho
     have hd0:dec s=none:=by
      have:=h3
      simp only at this
      rw[this,dec_bad hne ho];rfl
     have he:ptsErr s=50:=by unfold ptsErr;rw[if_neg hbig,hd0]
     have hq:pts s=[]:=by unfold pts;rw[if_neg hbig,hd0];rfl
     cases hc:(((runeAt s p).1:Int)==65533)<;>cases hpr:preB (s.drop p) [239,191,189]<;>cases hm:may ((runeAt s p).1:Int)
     all_goals (try (exfalso;simp_all;done))
     all_goals ((repeat' first|simp only[fins,mems,results67,ntmps67,wks,he,hq,hp,hw,hc,hpr,hm,plain_i,Lo,List.length_drop,vcs,seval,tys]|exact rfl|refine call_off (v:=.any) ?_|(first|(refine call_fn ?_ (pre_ev (s.drop p) [239,191,189] hle (by decide) _) ?_)|(refine call_fn_g ?_ (fun _=>pre_ev (s.drop p) [239,191,189] hle (by decide) _) ?_)|(refine call_fn ?_ (tMay_ev ((runeAt s p).1:Int) _) ?_)|(refine call_fn_g ?_ (fun _=>tMay_ev ((runeAt s p).1:Int) _) ?_))|(refine ext_next (s:=?_) (y:=?_) (p:=?_) ?_ ?_ ?_ ?_;rotate_left 3;(iterate 2 (focus (simp only[results67,ntmps67,wks,he,hq,hp,hw,hc,hpr,hm,plain_i,Lo,List.length_drop,vcs,seval,tys]<;>exact rfl)));(focus (simp only[results67,ntmps67,wks,he,hq,hp,hw,hc,hpr,hm,plain_i,Lo,List.length_drop,vcs,seval,tys]<;>omega)))|(refine extG_true ?_)|(refine extG_false ?_)|((first|apply Ca|apply Cb)<;>intro hb)|refine Ai (by omega) ?_|(apply Ai<;>intro hb)|refine Fin.pure ?_ ?_ ?_|simp only[injs]))
    ·rw[if_neg hbad]at ho
     obtain⟨_,hm,_,hk1,hk2⟩:=one_some ho
     have hds:dec s=(dec (s.drop (p+(runeAt s p).2))).map ((zs++[((runeAt s p).1:Int)]) ++ ·):=by
      have:=h3
      simp only at this
      rw[this,dec_step ho,List.drop_drop]
      cases dec (s.drop (p+(runeAt s p).2))<;>simp
     have hlen:(s.drop p).length=s.length-p:=by simp
     have h2':zs.length≤p:=h2
     have hsn:zs.map intRow++[[V.int .i64 ((runeAt s p).1:Int)]]=(zs++[((runeAt s p).1:Int)]).map intRow:=by simp[intRow]
     have hnx:p+(runeAt s p).2≤s.length:=by omega
     cases hc:(((runeAt s p).1:Int)==65533)<;>cases hpr:preB (s.drop p) [239,191,189]
     all_goals (try (exfalso;exact hbad (.inl ⟨by have:=beq_iff_eq.1 hc;omega,hpr⟩)))
     all_goals (repeat' first|simp only[fins,mems,results67,ntmps67,wks,hp,hw,hc,hpr,hm,plain_i,hsn,Lo,List.length_drop,Lm,Nat.le_refl,Option.bind_some,Option.bind_none,vcs,seval,tys]|exact rfl|refine call_off (v:=.any) ?_|(first|(refine call_fn ?_ (pre_ev (s.drop p) [239,191,189] hle (by decide) _) ?_)|(refine call_fn_g ?_ (fun _=>pre_ev (s.drop p) [239,191,189] hle (by decide) _) ?_)|(refine call_fn ?_ (tMay_ev ((runeAt s p).1:Int) _) ?_)|(refine call_fn_g ?_ (fun _=>tMay_ev ((runeAt s p).1:Int) _) ?_))|(refine ext_next (s:=?_) (y:=?_) (p:=?_) ?_ ?_ ?_ ?_;rotate_left 3;(iterate 2 (focus (simp only[results67,ntmps67,wks,hp,hw,hc,hpr,hm,plain_i,hsn,Lo,List.length_drop,Lm,Nat.le_refl,Option.bind_some,Option.bind_none,vcs,seval,tys]<;>exact rfl)));(focus (simp only[results67,ntmps67,wks,hp,hw,hc,hpr,hm,plain_i,hsn,Lo,List.length_drop,Lm,Nat.le_refl,Option.bind_some,Option.bind_none,vcs,seval,tys]<;>omega)))|(refine extG_true ?_)|(refine extG_false ?_)|((first|apply Ca|apply Cb)<;>intro hb)|refine Ai (by omega) ?_|(apply Ai<;>intro hb))
     all_goals ((refine again_can2 cxG ((p+(runeAt s p).2,zs++[((runeAt s p).1:Int)])) [some b0,some (b0+416)] ?_ ?_ ?_ ?_;rotate_left 2;(focus (show b0≤_;omega));(focus (refine⟨?_,?_⟩<;>(try simp only[cans,isRow_inst,ren_iter,renOk_iter,plain_i,hsn,Lm,List.length_append,List.length_cons,List.length_nil,Option.bind_some,Option.bind_none,vcs,seval,tys,injs])<;>(try omega)))))
     all_goals (first|(show s.length-(p+(runeAt s p).2)<s.length-p;omega)|exact⟨hnx,by simp;omega,hds⟩|skip)
   ·have hpe:p=s.length:=by omega
    subst hpe
    have he:ptsErr s=0:=by
     rw[List.drop_length,dec_nil]at h3
     unfold ptsErr;rw[if_neg hbig,h3];rfl
    have hq:pts s=zs:=by
     rw[List.drop_length,dec_nil]at h3
     unfold pts;rw[if_neg hbig,h3];simp
    (repeat' first|simp only[fins,mems,results67,ntmps67,wks,he,hq,plain_i,take_i,memL_cons,memL_nil,Lm,Nat.le_refl,vcs,seval,tys]|exact rfl|refine call_off (v:=.any) ?_|(refine ext_over (s:=?_) (y:=?_) (p:=?_) ?_ ?_ ?_ ?_;rotate_left 3;(iterate 2 (focus (simp only[results67,ntmps67,wks,he,hq,plain_i,take_i,memL_cons,memL_nil,Lm,Nat.le_refl,vcs,seval,tys]<;>exact rfl)));(focus (simp only[results67,ntmps67,wks,he,hq,plain_i,take_i,memL_cons,memL_nil,Lm,Nat.le_refl,vcs,seval,tys]<;>omega)))|(refine extG_true ?_)|(refine extG_false ?_)|((first|apply Ca|apply Cb)<;>intro hb)|refine Ai (by omega) ?_|(apply Ai<;>intro hb)|refine Fin.pure ?_ ?_ ?_|simp only[injs])
theorem tCheck_ev (s:List UInt8)(hs:s.length≤lim)(nm:Nat):Ev cx 54 nm [.str s] Mem.nil (.int .i64 (ptsErr s)) []:=by
 refine ev_go rfl (fun cargs w=>call54 cargs w) func54 rfl mixed (by kernel_rfl) rfl ?_;intro b0 hb0
 (repeat' first|simp only[fins,mems,results54,ntmps54,wks,vcs,seval,tys]|exact rfl|refine call_off (v:=.any) ?_|(first|(refine call_fn ?_ (points_ev s hs _) ?_)|(refine call_fn_g ?_ (fun _=>points_ev s hs _) ?_))|((first|apply Ca|apply Cb)<;>intro hb)|refine Ai (by omega) ?_|(apply Ai<;>intro hb)|refine Fin.pure ?_ ?_ ?_|simp only[injs])
theorem head_ev (c:Int)(h0:0≤c)(h1:c<256)(nm:Nat):Ev cx 89 nm [.int .i64 c] Mem.nil (.tup [.int .i64 (headS c),.int .i64 (headN c)]) []:=by
 have w1:IntKind.i64.wrap (c-192)=c-192:=wrap_in (by omega) (by omega)
 have w2:IntKind.i64.wrap (c-224)=c-224:=wrap_in (by omega) (by omega)
 have w3:IntKind.i64.wrap (c-240)=c-240:=wrap_in (by omega) (by omega)
 refine ev_go rfl (fun cargs w=>call89 cargs w) func89 rfl mixed (by kernel_rfl) rfl ?_;intro b0 hb0
 (repeat' first|simp only[fins,mems,results89,ntmps89,wks,w1,w2,w3,vcs,seval,tys]|exact rfl|refine call_off (v:=.any) ?_|((first|apply Ca|apply Cb)<;>intro hb)|refine Ai (by omega) ?_|(apply Ai<;>intro hb)|refine Fin.pure ?_ ?_ ?_|simp only[injs])
 all_goals simp only[Bool.and_eq_true,Bool.and_eq_false_iff,decide_eq_true_eq,decide_eq_false_iff_not]at *
 all_goals (unfold headS headN;constructor<;>(repeat' split)<;>omega)
def rMayB (n:Int):Bool:=if n<32 then (n==9||n==10||n==13) else (((decide (n≤1114111)&&(decide (n<55296)||decide (57343<n)))&&(n != 65534))&&(n != 65535))
theorem rMayB_eq (n:Int):rMayB n=may n:=by
 unfold rMayB
 rw[Bool.eq_iff_iff,may_iff]
 split<;>simp<;>omega
theorem rMay_ev (n:Int)(nm:Nat):Ev cx 90 nm [.int .i64 n] Mem.nil (.bool (may n)) []:=by
 rw[← rMayB_eq]
 by_cases h:n<32
 ·have hd:decide (n<32)=true:=decide_eq_true h
  have hr:rMayB n=(n==9||n==10||n==13):=by unfold rMayB;rw[if_pos h]
  refine ev_go rfl (fun cargs w=>call90 cargs w) func90 rfl mixed (by kernel_rfl) rfl ?_;intro b0 hb0
  (repeat' first|simp only[fins,mems,results90,ntmps90,wks,hd,hr,vcs,seval,tys]|exact rfl|refine call_off (v:=.any) ?_|((first|apply Ca|apply Cb)<;>intro hb)|refine Ai (by omega) ?_|(apply Ai<;>intro hb)|refine Fin.pure ?_ ?_ ?_|simp only[injs])
 ·have hd:decide (n<32)=false:=decide_eq_false h
  have hr:rMayB n=(((decide (n≤1114111)&&(decide (n<55296)||decide (57343<n)))&&(n != 65534))&&(n != 65535)):=by unfold rMayB;rw[if_neg h]
  cases h1:decide (n≤1114111)<;>cases h2:decide (n<55296)<;>cases h3:decide (57343<n)<;>rw[h1,h2,h3]at hr<;>(
  refine ev_go rfl (fun cargs w=>call90 cargs w) func90 rfl mixed (by kernel_rfl) rfl ?_;intro b0 hb0
  (repeat' first|simp only[fins,mems,results90,ntmps90,wks,hd,hr,h1,h2,h3,vcs,seval,tys]|exact rfl|refine call_off (v:=.any) ?_|((first|apply Ca|apply Cb)<;>intro hb)|refine Ai (by omega) ?_|(apply Ai<;>intro hb)|refine Fin.pure ?_ ?_ ?_|simp only[injs]))
theorem contN_cons (n:Int)(b:UInt8)(l:List UInt8):contN n (b::l)=contN (64*n+(b.toNat:Int) % 64) l:=rfl
theorem contN_le:∀(l:List UInt8) (n:Int),0≤n→0≤contN n l∧contN n l<(n+1)*64 ^ l.length
 | [],n,h=>by simp only[contN,List.foldl_nil,List.length_nil];omega
 | b::l,n,h=>by
  rw[contN_cons]
  obtain⟨h1,h2⟩:=contN_le l (64*n+(b.toNat:Int) % 64) (by omega)
  refine⟨h1,Int.lt_of_lt_of_le h2 ?_⟩
  rw[List.length_cons,Int.pow_succ,Int.mul_comm (64 ^ l.length) 64,← Int.mul_assoc]
  exact Int.mul_le_mul_of_nonneg_right (by omega) (Int.pow_nonneg (by omega))
theorem enc_rows {z:Int}(h0:0≤z)(h1:z<256):byteRow (z.toNat.toUInt8)=[V.int .u8 z]:=by
 have:=mod64 h0 h1
 unfold byteRow
 rw[this]
 congr 2;omega
theorem six_ev (n:Int)(up:Nat)(h0:0≤n)(h1:n≤1114111)(hu:up≤2)(nm:Nat):Ev cx 94 nm [.int .i64 n,.int .i64 up] Mem.nil (.int .u8 (128+n / 64 ^ up % 64)) []:=by
 refine ev_go rfl (fun cargs w=>call94 cargs w) func94 rfl mixed (by kernel_rfl) rfl ?_;intro b0 hb0
 repeat' first|simp only[fins,mems,results94,ntmps94,wks,vcs,seval,tys]|exact rfl|refine call_off (v:=.any) ?_|((first|apply Ca|apply Cb)<;>intro hb)|refine Ai (by omega) ?_|(apply Ai<;>intro hb)
 (refine loop_can2 cxG (fun x:Nat=>up-x) (fun x=>x≤up) (b0+16) (fun x=>[(0,.int .i64 (n / 64 ^ x)),(1,.int .i64 up),(5,.int .i64 x)]) (fun x=>[]) (0) [] ?_ ?_ ?_ ?_;rotate_left 1;(focus (show b0≤_;omega));(focus (refine⟨?_,?_⟩<;>(try simp only[cans,Int.pow_zero,Int.ediv_one,vcs,seval,tys,injs])<;>(try omega)));rotate_left 1)
 ·exact Nat.zero_le _
 ·intro k hk
  have hp:(0:Int)≤n / 64 ^ k:=Int.ediv_nonneg h0 (Int.pow_nonneg (by omega))
  have hp2:n / 64 ^ k≤n:=Int.ediv_le_self _ h0
  by_cases hlt:k<up
  ·have hd:decide (k<up)=true:=decide_eq_true hlt
   have ht:(n / 64 ^ k).tdiv 64=n / 64 ^ (k+1):=by
    rw[Int.tdiv_eq_ediv_of_nonneg hp,Int.pow_succ,Int.ediv_ediv_of_nonneg (Int.pow_nonneg (by omega))]
   have hw:IntKind.i64.wrap (n / 64 ^ (k+1))=n / 64 ^ (k+1):=by
    rw[← ht,Int.tdiv_eq_ediv_of_nonneg hp]
    exact wrap_in (by omega) (by omega)
   have hwk:IntKind.i64.wrap ((k:Int)+1)=((k+1:Nat):Int):=wrap_in (by omega) (by omega)
   repeat' first|simp only[fins,mems,results94,ntmps94,wks,hd,ht,hw,hwk,vcs,seval,tys]|exact rfl|refine call_off (v:=.any) ?_|((first|apply Ca|apply Cb)<;>intro hb)|refine Ai (by omega) ?_|(apply Ai<;>intro hb)
   ((refine again_can2 cxG (k+1) [] ?_ ?_ ?_ ?_;rotate_left 2;(focus (show b0≤_;omega));(focus (refine⟨?_,?_⟩<;>(try simp only[cans,hd,ht,hw,hwk,vcs,seval,tys,injs])<;>(try omega)))))
   all_goals (first|(show up-(k+1)<up-k;omega)|(show k+1≤up;omega)|skip)
  ·have hke:k=up:=by omega
   subst hke
   have hd:decide (k<k)=false:=decide_eq_false (by omega)
   have ht:(n / 64 ^ k).tmod 64=n / 64 ^ k % 64:=Int.tmod_eq_emod_of_nonneg hp
   have hw1:IntKind.i64.wrap (n / 64 ^ k % 64)=n / 64 ^ k % 64:=wrap_in (by omega) (by omega)
   have hw2:IntKind.i64.wrap (128+n / 64 ^ k % 64)=128+n / 64 ^ k % 64:=wrap_in (by omega) (by omega)
   have hw3:IntKind.u8.wrap (128+n / 64 ^ k % 64)=128+n / 64 ^ k % 64:=IntWalk.u8_in _ (by omega)
   (repeat' first|simp only[fins,mems,results94,ntmps94,wks,hd,ht,hw1,hw2,hw3,vcs,seval,tys]|exact rfl|refine call_off (v:=.any) ?_|((first|apply Ca|apply Cb)<;>intro hb)|refine Ai (by omega) ?_|(apply Ai<;>intro hb)|refine Fin.pure ?_ ?_ ?_|simp only[injs])
theorem enc1 {z:Int}(h0:0≤z)(h1:z≤127):(encodeRune z).map byteRow=[[V.int .u8 z]]:=by
 simp only[encodeRune,encodeRuneZ_one h0 h1,Lc,Lo]
 rw[enc_rows (by omega) (by omega)]
theorem enc2 {z:Int}(h0:128≤z)(h1:z≤2047):(encodeRune z).map byteRow=[[V.int .u8 (192+z / 64)],[V.int .u8 (128+z % 64)]]:=by
 simp only[encodeRune,encodeRuneZ_two h0 h1,Lc,Lo]
 rw[enc_rows (by omega) (by omega),enc_rows (by omega) (by omega)]
theorem enc3 {z:Int}(h0:(2048≤z∧z<55296)∨(57343<z∧z≤65535)):(encodeRune z).map byteRow=[[V.int .u8 (224+z / 4096)],[V.int .u8 (128+z / 64 % 64)],[V.int .u8 (128+z % 64)]]:=by
 simp only[encodeRune,encodeRuneZ_three h0,Lc,Lo]
 rw[enc_rows (by omega) (by omega),enc_rows (by omega) (by omega),enc_rows (by omega) (by omega)]
theorem enc4 {z:Int}(h0:65536≤z)(h1:z≤1114111):(encodeRune z).map byteRow=[[V.int .u8 (240+z / 262144)],[V.int .u8 (128+z / 4096 % 64)],[V.int .u8 (128+z / 64 % 64)],[V.int .u8 (128+z % 64)]]:=by
 simp only[encodeRune,encodeRuneZ_four h0 h1,Lc,Lo]
 rw[enc_rows (by omega) (by omega),enc_rows (by omega) (by omega),enc_rows (by omega) (by omega),enc_rows (by omega) (by omega)]
theorem rBytes_ev (n:Int)(hm:may n=true)(nm:Nat):Ev cx 91 nm [.int .i64 n] Mem.nil (.sl false 1 ((encodeRune n).map byteRow)) []:=by
 have hmz:=(may_iff n).1 hm
 have h0:0≤n:=by omega
 have hm1:n≤1114111:=by omega
 have q1:n.tdiv 64=n / 64:=Int.tdiv_eq_ediv_of_nonneg h0
 have q2:n.tdiv 4096=n / 4096:=Int.tdiv_eq_ediv_of_nonneg h0
 have q3:n.tdiv 262144=n / 262144:=Int.tdiv_eq_ediv_of_nonneg h0
 have w1:IntKind.i64.wrap (n / 64)=n / 64:=wrap_in (by omega) (by omega)
 have w2:IntKind.i64.wrap (n / 4096)=n / 4096:=wrap_in (by omega) (by omega)
 have w3:IntKind.i64.wrap (n / 262144)=n / 262144:=wrap_in (by omega) (by omega)
 have u1:IntKind.i64.wrap (192+n / 64)=192+n / 64:=wrap_in (by omega) (by omega)
 have u2:IntKind.i64.wrap (224+n / 4096)=224+n / 4096:=wrap_in (by omega) (by omega)
 have u3:IntKind.i64.wrap (240+n / 262144)=240+n / 262144:=wrap_in (by omega) (by omega)
 have s0:=six_ev n 0 h0 hm1 (by omega)
 have s1:=six_ev n 1 h0 hm1 (by omega)
 have s2:=six_ev n 2 h0 hm1 (by omega)
 simp only[Int.pow_zero,Int.ediv_one,Int.pow_one,Int.ofNat_zero,Int.ofNat_one,show(64:Int) ^ 1=64 from rfl,show(64:Int) ^ 2=4096 from rfl,show((0:Nat):Int)=0 from rfl,show((1:Nat):Int)=1 from rfl,show((2:Nat):Int)=2 from rfl]at s0 s1 s2
 by_cases c1:n<128
 ·have d1:decide (n<128)=true:=decide_eq_true c1
  have v1:IntKind.u8.wrap n=n:=IntWalk.u8_in _ (by omega)
  rw[enc1 h0 (by omega)]
  refine ev_go rfl (fun cargs w=>call91 cargs w) func91 rfl mixed (by kernel_rfl) rfl ?_;intro b0 hb0
  (repeat' first|simp only[fins,mems,results91,ntmps91,wks,d1,v1,vcs,seval,tys]|exact rfl|refine call_off (v:=.any) ?_|((first|apply Ca|apply Cb)<;>intro hb)|refine Ai (by omega) ?_|(apply Ai<;>intro hb)|refine Fin.pure ?_ ?_ ?_|simp only[injs])
 by_cases c2:n<2048
 ·have d1:decide (n<128)=false:=decide_eq_false c1
  have d2:decide (n<2048)=true:=decide_eq_true c2
  have v1:IntKind.u8.wrap (192+n / 64)=192+n / 64:=IntWalk.u8_in _ (by omega)
  rw[enc2 (by omega) (by omega)]
  refine ev_go rfl (fun cargs w=>call91 cargs w) func91 rfl mixed (by kernel_rfl) rfl ?_;intro b0 hb0
  (repeat' first|simp only[fins,mems,results91,ntmps91,wks,d1,d2,q1,w1,u1,v1,vcs,seval,tys]|exact rfl|refine call_off (v:=.any) ?_|(first|(refine call_fn ?_ (s0 _) ?_)|(refine call_fn_g ?_ (fun _=>s0 _) ?_))|((first|apply Ca|apply Cb)<;>intro hb)|refine Ai (by omega) ?_|(apply Ai<;>intro hb)|refine Fin.pure ?_ ?_ ?_|simp only[injs])
 by_cases c3:n<65536
 ·have d1:decide (n<128)=false:=decide_eq_false c1
  have d2:decide (n<2048)=false:=decide_eq_false c2
  have d3:decide (n<65536)=true:=decide_eq_true c3
  have v1:IntKind.u8.wrap (224+n / 4096)=224+n / 4096:=IntWalk.u8_in _ (by omega)
  rw[enc3 (by omega)]
  refine ev_go rfl (fun cargs w=>call91 cargs w) func91 rfl mixed (by kernel_rfl) rfl ?_;intro b0 hb0
  (repeat' first|simp only[fins,mems,results91,ntmps91,wks,d1,d2,d3,q2,w2,u2,v1,vcs,seval,tys]|exact rfl|refine call_off (v:=.any) ?_|((first|(refine call_fn ?_ (s0 _) ?_)|(refine call_fn_g ?_ (fun _=>s0 _) ?_));(focus (simp only[results91,ntmps91,wks,d1,d2,d3,q2,w2,u2,v1,vcs,seval,tys]<;>exact rfl)))|((first|(refine call_fn ?_ (s1 _) ?_)|(refine call_fn_g ?_ (fun _=>s1 _) ?_));(focus (simp only[results91,ntmps91,wks,d1,d2,d3,q2,w2,u2,v1,vcs,seval,tys]<;>exact rfl)))|((first|apply Ca|apply Cb)<;>intro hb)|refine Ai (by omega) ?_|(apply Ai<;>intro hb)|refine Fin.pure ?_ ?_ ?_|simp only[injs])
 ·have d1:decide (n<128)=false:=decide_eq_false c1
  have d2:decide (n<2048)=false:=decide_eq_false c2
  have d3:decide (n<65536)=false:=decide_eq_false c3
  have v1:IntKind.u8.wrap (240+n / 262144)=240+n / 262144:=IntWalk.u8_in _ (by omega)
  rw[enc4 (by omega) (by omega)]
  refine ev_go rfl (fun cargs w=>call91 cargs w) func91 rfl mixed (by kernel_rfl) rfl ?_;intro b0 hb0
  (repeat' first|simp only[fins,mems,results91,ntmps91,wks,d1,d2,d3,q3,w3,u3,v1,vcs,seval,tys]|exact rfl|refine call_off (v:=.any) ?_|((first|(refine call_fn ?_ (s0 _) ?_)|(refine call_fn_g ?_ (fun _=>s0 _) ?_));(focus (simp only[results91,ntmps91,wks,d1,d2,d3,q3,w3,u3,v1,vcs,seval,tys]<;>exact rfl)))|((first|(refine call_fn ?_ (s1 _) ?_)|(refine call_fn_g ?_ (fun _=>s1 _) ?_));(focus (simp only[results91,ntmps91,wks,d1,d2,d3,q3,w3,u3,v1,vcs,seval,tys]<;>exact rfl)))|((first|(refine call_fn ?_ (s2 _) ?_)|(refine call_fn_g ?_ (fun _=>s2 _) ?_));(focus (simp only[results91,ntmps91,wks,d1,d2,d3,q3,w3,u3,v1,vcs,seval,tys]<;>exact rfl)))|((first|apply Ca|apply Cb)<;>intro hb)|refine Ai (by omega) ?_|(apply Ai<;>intro hb)|refine Fin.pure ?_ ?_ ?_|simp only[injs])
theorem contN_take {n:Int}{l:List UInt8}{k:Nat}{b:UInt8}(h:l[k]? = some b):contN n (l.take (k+1))=64*contN n (l.take k)+(b.toNat:Int) % 64:=by
 obtain⟨hk,rfl⟩:=List.getElem?_eq_some_iff.1 h
 rw[List.take_succ_eq_append_getElem hk,contN_snoc]
theorem contN_nil (n:Int):contN n []=n:=rfl
theorem one_nil:one []=none:=rfl
theorem oneZ_none {s:List UInt8}(h:one s=none):oneZ s=0:=by unfold oneZ;rw[h]
theorem oneK_none {s:List UInt8}(h:one s=none):oneK s=0:=by unfold oneK;rw[h]
theorem oneZ_some {s:List UInt8}{z:Int}{k:Nat}(h:one s=some (z,k)):oneZ s=z:=by unfold oneZ;rw[h]
theorem oneK_some {s:List UInt8}{z:Int}{k:Nat}(h:one s=some (z,k)):oneK s=k:=by unfold oneK;rw[h]
theorem rOne_ev (s:List UInt8)(hs:s.length≤lim)(nm:Nat):Ev cx 84 nm [.str s] Mem.nil (.tup [.int .i64 (oneZ s),.int .i64 (oneK s)]) []:=by
 unfold lim at hs
 by_cases hne:s=[]
 ·subst hne
  have e1:=oneZ_none one_nil
  have e2:=oneK_none one_nil
  have hd:(([]:List UInt8)==[])=true:=rfl
  refine ev_go rfl (fun cargs w=>call84 cargs w) func84 rfl mixed (by kernel_rfl) rfl ?_;intro b0 hb0
  (repeat' first|simp only[fins,mems,results84,ntmps84,wks,e1,e2,hd,vcs,seval,tys]|exact rfl|refine call_off (v:=.any) ?_|refine draw_end' (ps:=[(5,9)]) (by decide +kernel) (by simp only[List.forall_mem_cons,List.getD_cons_zero,List.getD_cons_succ,results84,ntmps84,wks,e1,e2,hd,vcs,seval,tys]<;>(try simp)<;>(try omega)) ?_|refine draw_end (by decide +kernel) ?_|((first|apply Ca|apply Cb)<;>intro hb)|refine Ai (by omega) ?_|(apply Ai<;>intro hb)|refine Fin.pure ?_ ?_ ?_|simp only[injs])
 obtain⟨b,l,rfl⟩:=List.exists_cons_of_ne_nil hne
 have hd:((b::l)==[])=false:=rfl
 have hb:(b.toNat:Int)<256:=by have:=b.toNat_lt;omega
 have hb0:(0:Int)≤(b.toNat:Int):=by omega
 have hwb:IntKind.i64.wrap (b.toNat:Int)=(b.toNat:Int):=wrap_in (by omega) (by omega)
 obtain⟨hr1,hr2⟩:=headS_range (b.toNat:Int)
 obtain⟨hn1,hn2,hn3⟩:=headN_range (c:=(b.toNat:Int)) ⟨hb0,hb⟩
 have hhd:=head_ev (b.toNat:Int) hb0 hb
 obtain⟨k,hk⟩:∃ k:Nat,headS (b.toNat:Int)=k:=⟨(headS (b.toNat:Int)).toNat,by omega⟩
 have hk4:k≤4:=by omega
 rw[hk]at hhd
 generalize hN:headN (b.toNat:Int)=n0 at hhd hn1 hn2 hn3
 by_cases hbad:k=0∨(b::l).length<k
 ·have ho:one (b::l)=none:=one_no hk (by rcases hbad with h|h;exact .inl h;exact .inr (.inl h))
  have e1:=oneZ_none ho
  have e2:=oneK_none ho
  by_cases h0:k=0
  ·subst h0
   refine ev_go rfl (fun cargs w=>call84 cargs w) func84 rfl mixed (by kernel_rfl) rfl ?_;intro b0 hb0
   (repeat' first|simp only[fins,mems,results84,ntmps84,wks,e1,e2,hd,hwb,vcs,seval,tys]|exact rfl|refine call_off (v:=.any) ?_|(first|(refine call_fn ?_ (hhd _) ?_)|(refine call_fn_g ?_ (fun _=>hhd _) ?_))|refine draw_end' (ps:=[(5,9)]) (by decide +kernel) (by simp only[List.forall_mem_cons,List.getD_cons_zero,List.getD_cons_succ,results84,ntmps84,wks,e1,e2,hd,hwb,vcs,seval,tys]<;>(try simp)<;>(try omega)) ?_|refine draw_end (by decide +kernel) ?_|((first|apply Ca|apply Cb)<;>intro hb)|refine Ai (by omega) ?_|(apply Ai<;>intro hb)|refine Fin.pure ?_ ?_ ?_|simp only[injs])
  ·have hg:decide (l.length+1<k)=true:=decide_eq_true (by simpa using hbad.resolve_left h0)
   have hg0:((k:Int)==0)=false:=beq_false_of_ne (by omega)
   refine ev_go rfl (fun cargs w=>call84 cargs w) func84 rfl mixed (by kernel_rfl) rfl ?_;intro b0 hb0
   (repeat' first|simp only[fins,mems,results84,ntmps84,wks,e1,e2,hd,hwb,hg,hg0,List.length_cons,vcs,seval,tys]|exact rfl|refine call_off (v:=.any) ?_|(first|(refine call_fn ?_ (hhd _) ?_)|(refine call_fn_g ?_ (fun _=>hhd _) ?_))|refine draw_end' (ps:=[(5,9)]) (by decide +kernel) (by simp only[List.forall_mem_cons,List.getD_cons_zero,List.getD_cons_succ,results84,ntmps84,wks,e1,e2,hd,hwb,hg,hg0,List.length_cons,vcs,seval,tys]<;>(try simp)<;>(try omega)) ?_|refine draw_end (by decide +kernel) ?_|((first|apply Ca|apply Cb)<;>intro hb)|refine Ai (by omega) ?_|(apply Ai<;>intro hb)|refine Fin.pure ?_ ?_ ?_|simp only[injs])
 ·have hg:decide (l.length+1<k)=false:=decide_eq_false (by simp at hbad;omega)
  have hg0:((k:Int)==0)=false:=beq_false_of_ne (by omega)
  have hkl:k≤l.length+1:=by simp at hbad;omega
  have hk1:1≤k:=by omega
  simp only[List.length_cons]at hs
  refine ev_go rfl (fun cargs w=>call84 cargs w) func84 rfl mixed (by kernel_rfl) rfl ?_;intro b0 hb0
  repeat' first|simp only[fins,mems,results84,ntmps84,wks,hd,hwb,hg,hg0,List.length_cons,vcs,seval,tys]|exact rfl|refine call_off (v:=.any) ?_|(first|(refine call_fn ?_ (hhd _) ?_)|(refine call_fn_g ?_ (fun _=>hhd _) ?_))|refine draw_end' (ps:=[(5,9)]) (by decide +kernel) (by simp only[List.forall_mem_cons,List.getD_cons_zero,List.getD_cons_succ,results84,ntmps84,wks,hd,hwb,hg,hg0,List.length_cons,vcs,seval,tys]<;>(try simp)<;>(try omega)) ?_|refine draw_end (by decide +kernel) ?_|refine Ai (by omega) ?_
  (refine loop_can2 cxG (fun x:Nat=>k-x) (fun x=>1≤x∧x≤k) (b0+16) (fun x=>[(0,.str (b::l)),(4,.int .i64 k),(5,.int .i64 (contN n0 (l.take (x-1)))),(6,.int .i64 x)]) (fun x=>[]) (1) [] ?_ ?_ ?_ ?_;rotate_left 1;(focus (show b0≤_;omega));(focus (refine⟨?_,?_⟩<;>(try simp only[cans,List.take_zero,contN_nil,vcs,seval,tys,injs])<;>(try omega)));rotate_left 1)
  ·exact⟨Nat.le_refl _,hk1⟩
  ·rintro i ⟨hi1,hi2⟩
   by_cases hlt:i<k
   ·have hdi:decide (i<k)=true:=decide_eq_true hlt
    obtain⟨j,rfl⟩:∃ j,i=j+1:=⟨i-1,by omega⟩
    simp only[Nat.add_sub_cancel]at *
    obtain⟨c,hc⟩:∃ c,l[j]? = some c:=⟨_,List.getElem?_eq_getElem (by omega)⟩
    have hcs:contN n0 (l.take (j+1))=64*contN n0 (l.take j)+(c.toNat:Int) % 64:=contN_take hc
    have hcl:=contN_le (l.take j) n0 hn1
    have hj2:(l.take j).length=j:=by rw[List.length_take];omega
    rw[hj2]at hcl
    have hj3:j≤2:=by omega
    have hn31:n0≤31:=by
     refine hn3 ?_
     omega
    have hpw:(n0+1)*64 ^ j≤131072:=by
     rcases(show j=0∨j=1∨j=2 by omega) with rfl|rfl|rfl<;>simp only[Int.pow_zero,Int.pow_one,show(64:Int) ^ 1=64 from rfl,show(64:Int) ^ 2=4096 from rfl]<;>omega
    have hcw:(c.toNat:Int)<256:=by have:=c.toNat_lt;omega
    have hcm:(c.toNat:Int).tmod 64=(c.toNat:Int) % 64:=Int.tmod_eq_emod_of_nonneg (by omega)
    have w1:IntKind.i64.wrap (64*contN n0 (l.take j))=64*contN n0 (l.take j):=wrap_in (by omega) (by omega)
    have w2:IntKind.i64.wrap (c.toNat:Int)=(c.toNat:Int):=wrap_in (by omega) (by omega)
    have w3:IntKind.i64.wrap ((c.toNat:Int) % 64)=(c.toNat:Int) % 64:=wrap_in (by omega) (by omega)
    have w4:IntKind.i64.wrap (64*contN n0 (l.take j)+(c.toNat:Int) % 64)=contN n0 (l.take (j+1)):=by
     rw[hcs];exact wrap_in (by omega) (by omega)
    have w5:IntKind.i64.wrap (((j+1:Nat):Int)+1)=((j+1+1:Nat):Int):=wrap_in (by omega) (by omega)
    repeat' first|simp only[fins,mems,results84,ntmps84,wks,hdi,hc,hcm,w1,w2,w3,w4,w5,List.getElem?_cons_succ,List.length_cons,vcs,seval,tys]|exact rfl|refine call_off (v:=.any) ?_|refine draw_end' (ps:=[(5,9)]) (by decide +kernel) (by simp only[List.forall_mem_cons,List.getD_cons_zero,List.getD_cons_succ,results84,ntmps84,wks,hdi,hc,hcm,w1,w2,w3,w4,w5,List.getElem?_cons_succ,List.length_cons,vcs,seval,tys]<;>(try simp)<;>(try omega)) ?_|refine draw_end (by decide +kernel) ?_|((first|apply Ca|apply Cb)<;>intro hb)|refine Ai (by omega) ?_|(apply Ai<;>intro hb)
    ((refine again_can2 cxG (j+1+1) [] ?_ ?_ ?_ ?_;rotate_left 2;(focus (show b0≤_;omega));(focus (refine⟨?_,?_⟩<;>(try simp only[cans,hdi,hcm,w1,w2,w3,w4,w5,Nat.add_sub_cancel,show j+2-1=j+1 from rfl,vcs,seval,tys,injs])<;>(try omega)))))
    all_goals (first|(show k-(j+1+1)<k-(j+1);omega)|(show 1≤j+1+1∧j+1+1≤k;omega)|skip)
   ·have hke:i=k:=by omega
    subst hke
    have hdi:decide (i<i)=false:=decide_eq_false (by omega)
    cases hm:may (contN n0 (l.take (i-1))) with
    | false =>
     have ho:one (b::l)=none:=one_no hk (.inr (.inr ⟨by simp only[List.length_cons];exact hkl,fun n hn hmn=>by rw[hn,hN,hm]at hmn;cases hmn⟩))
     have e1:=oneZ_none ho
     have e2:=oneK_none ho
     (repeat' first|simp only[fins,mems,results84,ntmps84,wks,hdi,e1,e2,vcs,seval,tys]|exact rfl|refine call_off (v:=.any) ?_|(first|(refine call_fn ?_ ((by have:=rMay_ev (contN n0 (l.take (i-1)));rw[hm]at this;exact this _)) ?_)|(refine call_fn_g ?_ (fun _=>(by have:=rMay_ev (contN n0 (l.take (i-1)));rw[hm]at this;exact this _)) ?_))|(refine call_off (v:=.any) ?_)|(refine ext_toStr (v:=?_) (bs:=?_) ?_ ?_ ?_ ?_ ?_ ?_ ?_;rotate_left 2;(iterate 2 (focus (simp only[results84,ntmps84,wks,hdi,e1,e2,vcs,seval,tys];done)));(focus (simp only[results84,ntmps84,wks,hdi,e1,e2,vcs,seval,tys]<;>exact rfl));(focus (exact rfl));(focus (simp only[mems,results84,ntmps84,wks,hdi,e1,e2,vcs,seval,tys];done));(focus (simp only[results84,ntmps84,wks,hdi,e1,e2,vcs,seval,tys]<;>exact rfl)))|(refine extG_true ?_)|(refine extG_false ?_)|refine draw_end' (ps:=[(5,9)]) (by decide +kernel) (by simp only[List.forall_mem_cons,List.getD_cons_zero,List.getD_cons_succ,results84,ntmps84,wks,hdi,e1,e2,vcs,seval,tys]<;>(try simp)<;>(try omega)) ?_|refine draw_end (by decide +kernel) ?_|((first|apply Ca|apply Cb)<;>intro hb)|refine Ai (by omega) ?_|(apply Ai<;>intro hb)|refine Fin.pure ?_ ?_ ?_|simp only[injs])
    | true =>
     have hc0:((l.length:Int)+1)=((l.length+1:Nat):Int):=by omega
     have hsl:(i:Int)≤((l.length+1:Nat):Int):=by omega
     have hnn:i≤(b::l).length:=by simp only[List.length_cons];exact hkl
     by_cases heq:encodeRune (contN n0 (l.take (i-1)))=(b::l).take i
     ·have ho:one (b::l)=some (contN n0 (l.take (i-1)),i):=one_yes hm heq hnn
      have e1:=oneZ_some ho
      have e2:=oneK_some ho
      have hq:(encodeRune (contN n0 (l.take (i-1)))==(b::l).take i)=true:=by rw[heq];simp
      (repeat' first|simp only[fins,mems,results84,ntmps84,wks,hdi,e1,e2,hq,hnn,hsl,hkl,vcs,seval,tys]|exact rfl|refine call_off (v:=.any) ?_|(first|(refine call_fn ?_ ((by have:=rMay_ev (contN n0 (l.take (i-1)));rw[hm]at this;exact this _)) ?_)|(refine call_fn_g ?_ (fun _=>(by have:=rMay_ev (contN n0 (l.take (i-1)));rw[hm]at this;exact this _)) ?_)|(refine call_fn ?_ (rBytes_ev (contN n0 (l.take (i-1))) hm _) ?_)|(refine call_fn_g ?_ (fun _=>rBytes_ev (contN n0 (l.take (i-1))) hm _) ?_))|(refine ext_toStr (v:=?_) (bs:=?_) ?_ ?_ ?_ ?_ ?_ ?_ ?_;rotate_left 2;(iterate 2 (focus (simp only[results84,ntmps84,wks,hdi,e1,e2,hq,hnn,hsl,hkl,vcs,seval,tys];done)));(focus (simp only[results84,ntmps84,wks,hdi,e1,e2,hq,hnn,hsl,hkl,vcs,seval,tys]<;>exact rfl));(focus (exact rfl));(focus (simp only[mems,results84,ntmps84,wks,hdi,e1,e2,hq,hnn,hsl,hkl,vcs,seval,tys];done));(focus (simp only[results84,ntmps84,wks,hdi,e1,e2,hq,hnn,hsl,hkl,vcs,seval,tys]<;>exact rfl)))|(refine extG_true ?_)|(refine extG_false ?_)|refine draw_end' (ps:=[(5,9)]) (by decide +kernel) (by simp only[List.forall_mem_cons,List.getD_cons_zero,List.getD_cons_succ,results84,ntmps84,wks,hdi,e1,e2,hq,hnn,hsl,hkl,vcs,seval,tys]<;>(try simp)<;>(try omega)) ?_|refine draw_end (by decide +kernel) ?_|((first|apply Ca|apply Cb)<;>intro hb)|refine Ai (by omega) ?_|(apply Ai<;>intro hb)|refine Fin.pure ?_ ?_ ?_|simp only[injs])
     ·have ho:one (b::l)=none:=one_no hk (.inr (.inr ⟨hnn,fun n hn _=>by rw[hn,hN];exact heq⟩))
      have e1:=oneZ_none ho
      have e2:=oneK_none ho
      have hq:(encodeRune (contN n0 (l.take (i-1)))==(b::l).take i)=false:=beq_false_of_ne heq
      (repeat' first|simp only[fins,mems,results84,ntmps84,wks,hdi,e1,e2,hq,hnn,hsl,hkl,vcs,seval,tys]|exact rfl|refine call_off (v:=.any) ?_|(first|(refine call_fn ?_ ((by have:=rMay_ev (contN n0 (l.take (i-1)));rw[hm]at this;exact this _)) ?_)|(refine call_fn_g ?_ (fun _=>(by have:=rMay_ev (contN n0 (l.take (i-1)));rw[hm]at this;exact this _)) ?_)|(refine call_fn ?_ (rBytes_ev (contN n0 (l.take (i-1))) hm _) ?_)|(refine call_fn_g ?_ (fun _=>rBytes_ev (contN n0 (l.take (i-1))) hm _) ?_))|(refine ext_toStr (v:=?_) (bs:=?_) ?_ ?_ ?_ ?_ ?_ ?_ ?_;rotate_left 2;(iterate 2 (focus (simp only[results84,ntmps84,wks,hdi,e1,e2,hq,hnn,hsl,hkl,vcs,seval,tys];done)));(focus (simp only[results84,ntmps84,wks,hdi,e1,e2,hq,hnn,hsl,hkl,vcs,seval,tys]<;>exact rfl));(focus (exact rfl));(focus (simp only[mems,results84,ntmps84,wks,hdi,e1,e2,hq,hnn,hsl,hkl,vcs,seval,tys];done));(focus (simp only[results84,ntmps84,wks,hdi,e1,e2,hq,hnn,hsl,hkl,vcs,seval,tys]<;>exact rfl)))|(refine extG_true ?_)|(refine extG_false ?_)|refine draw_end' (ps:=[(5,9)]) (by decide +kernel) (by simp only[List.forall_mem_cons,List.getD_cons_zero,List.getD_cons_succ,results84,ntmps84,wks,hdi,e1,e2,hq,hnn,hsl,hkl,vcs,seval,tys]<;>(try simp)<;>(try omega)) ?_|refine draw_end (by decide +kernel) ?_|((first|apply Ca|apply Cb)<;>intro hb)|refine Ai (by omega) ?_|(apply Ai<;>intro hb)|refine Fin.pure ?_ ?_ ?_|simp only[injs])
theorem rAll_ev (s:List UInt8)(hs:s.length≤16384)(nm:Nat):Ev cx 80 nm [.str s] Mem.nil (.tup [.sl false 1 (((dec s).getD []).map intRow),.bool (dec s).isSome]) []:=by
 refine ev_go rfl (fun cargs w=>call80 cargs w) func80 rfl mixed (by kernel_rfl) rfl ?_;intro b0 hb0
 repeat' first|simp only[fins,mems,results80,ntmps80,wks,vcs,seval,tys]|exact rfl|refine call_off (v:=.any) ?_|((first|apply Ca|apply Cb)<;>intro hb)|refine Ai (by omega) ?_|(apply Ai<;>intro hb)
 (refine loop_can2 cxG (fun x:List UInt8×List Int=>x.1.length) (fun x=>x.1.length+x.2.length≤s.length∧dec s=(dec x.1).map (x.2 ++ ·)) (b0+16) (fun x=>[(0,.str x.1),(4,.own b0 0 x.2.length)]) (fun x=>[(b0,⟨1,x.2.map intRow⟩)]) ((s,[])) [none] ?_ ?_ ?_ ?_;rotate_left 1;(focus (show b0≤_;omega));(focus (refine⟨?_,?_⟩<;>(try simp only[cans,isRow_inst,plain_i,Lo,vcs,seval,tys,injs])<;>(try omega)));rotate_left 1)
 ·refine⟨by simp,?_⟩
  cases dec s<;>rfl
 ·rintro ⟨r,zs⟩ ⟨h1,h2⟩
  simp only at h1 h2
  have hr:r.length≤lim:=by unfold lim;omega
  by_cases hne:r=[]
  ·subst hne
   have hd:(([]:List UInt8)==[])=true:=rfl
   have e0:dec s=some zs:=by rw[h2,dec_nil];simp
   have e1:(dec s).isSome=true:=by rw[e0];rfl
   have e2:(dec s).getD []=zs:=by rw[e0];rfl
   (repeat' first|simp only[fins,mems,results80,ntmps80,wks,hd,e1,e2,plain_i,take_i,memL_cons,memL_nil,Lm,Nat.le_refl,vcs,seval,tys]|exact rfl|refine call_off (v:=.any) ?_|((first|apply Ca|apply Cb)<;>intro hb)|refine Ai (by omega) ?_|(apply Ai<;>intro hb)|refine Fin.pure ?_ ?_ ?_|simp only[injs])
  ·have hd:(r==[])=false:=beq_false_of_ne hne
   cases ho:one r with
   | none =>
    have k1:=oneZ_none ho
    have k2:=oneK_none ho
    have e0:dec s=none:=by rw[h2,dec_bad hne ho];rfl
    have e1:(dec s).isSome=false:=by rw[e0];rfl
    have e2:(dec s).getD []=[]:=by rw[e0];rfl
    (repeat' first|simp only[fins,mems,results80,ntmps80,wks,hd,e1,e2,k1,k2,plain_i,Lo,vcs,seval,tys]|exact rfl|refine call_off (v:=.any) ?_|(first|(refine call_fn ?_ (rOne_ev r hr _) ?_)|(refine call_fn_g ?_ (fun _=>rOne_ev r hr _) ?_))|((first|apply Ca|apply Cb)<;>intro hb)|refine Ai (by omega) ?_|(apply Ai<;>intro hb)|refine Fin.pure ?_ ?_ ?_|simp only[injs])
   | some p =>
    obtain⟨z,k⟩:=p
    obtain⟨_,hm,_,hk1,hk2⟩:=one_some ho
    have k1:=oneZ_some ho
    have k2:=oneK_some ho
    have hk0:((k:Int)==0)=false:=beq_false_of_ne (by omega)
    have hds:dec s=(dec (r.drop k)).map ((zs++[z]) ++ ·):=by
     rw[h2,dec_step ho]
     cases dec (r.drop k)<;>simp
    have hlen:(r.drop k).length=r.length-k:=by simp
    have hsn:zs.map intRow++[[V.int .i64 z]]=(zs++[z]).map intRow:=by simp[intRow]
    repeat' first|simp only[fins,mems,results80,ntmps80,wks,hd,hk0,k1,k2,hk2,plain_i,hsn,Lo,Lm,Nat.le_refl,Option.bind_some,Option.bind_none,vcs,seval,tys]|exact rfl|refine call_off (v:=.any) ?_|(first|(refine call_fn ?_ (rOne_ev r hr _) ?_)|(refine call_fn_g ?_ (fun _=>rOne_ev r hr _) ?_))|((first|apply Ca|apply Cb)<;>intro hb)|refine Ai (by omega) ?_|(apply Ai<;>intro hb)
    ((refine again_can2 cxG ((r.drop k,zs++[z])) [some (b0+240)] ?_ ?_ ?_ ?_;rotate_left 2;(focus (show b0≤_;omega));(focus (refine⟨?_,?_⟩<;>(try simp only[cans,isRow_inst,plain_i,ren_ints,List.length_append,List.length_cons,List.length_nil,vcs,seval,tys,injs])<;>(try omega)))))
    all_goals (first|(show(r.drop k).length<r.length;omega)|exact⟨by simp only[List.length_append,List.length_cons,List.length_nil];omega,hds⟩|skip)
theorem rIs_ev (s:List UInt8)(hs:s.length≤16384)(nm:Nat):Ev cx 73 nm [.str s] Mem.nil (.bool (dec s).isSome) []:=by
 refine ev_go rfl (fun cargs w=>call73 cargs w) func73 rfl mixed (by kernel_rfl) rfl ?_;intro b0 hb0
 (repeat' first|simp only[fins,mems,results73,ntmps73,wks,vcs,seval,tys]|exact rfl|refine call_off (v:=.any) ?_|(first|(refine call_fn ?_ (rAll_ev s hs _) ?_)|(refine call_fn_g ?_ (fun _=>rAll_ev s hs _) ?_))|((first|apply Ca|apply Cb)<;>intro hb)|refine Ai (by omega) ?_|(apply Ai<;>intro hb)|refine Fin.pure ?_ ?_ ?_|simp only[injs])
theorem rCheck_ev (s:List UInt8)(hs:s.length≤lim)(nm:Nat):Ev cx 60 nm [.str s] Mem.nil (.int .i64 (ptsErr s)) []:=by
 unfold lim at hs
 by_cases hb:16384<s.length
 ·have hd:decide ((16384:Int)<s.length)=true:=decide_eq_true (by omega)
  have he:ptsErr s=4:=by unfold ptsErr;rw[if_pos hb]
  refine ev_go rfl (fun cargs w=>call60 cargs w) func60 rfl mixed (by kernel_rfl) rfl ?_;intro b0 hb0
  (repeat' first|simp only[fins,mems,results60,ntmps60,wks,hd,he,vcs,seval,tys]|exact rfl|refine call_off (v:=.any) ?_|((first|apply Ca|apply Cb)<;>intro hb)|refine Ai (by omega) ?_|(apply Ai<;>intro hb)|refine Fin.pure ?_ ?_ ?_|simp only[injs])
 ·have hd:decide ((16384:Int)<s.length)=false:=decide_eq_false (by omega)
  cases hq:dec s with
  | none =>
   have he:ptsErr s=50:=by unfold ptsErr;rw[if_neg hb,hq]
   have hi:(dec s).isSome=false:=by rw[hq];rfl
   have hev:=rIs_ev s (by omega)
   rw[hi]at hev
   refine ev_go rfl (fun cargs w=>call60 cargs w) func60 rfl mixed (by kernel_rfl) rfl ?_;intro b0 hb0
   (repeat' first|simp only[fins,mems,results60,ntmps60,wks,hd,he,vcs,seval,tys]|exact rfl|refine call_off (v:=.any) ?_|(first|(refine call_fn ?_ (hev _) ?_)|(refine call_fn_g ?_ (fun _=>hev _) ?_))|((first|apply Ca|apply Cb)<;>intro hb)|refine Ai (by omega) ?_|(apply Ai<;>intro hb)|refine Fin.pure ?_ ?_ ?_|simp only[injs])
  | some zs =>
   have he:ptsErr s=0:=by unfold ptsErr;rw[if_neg hb,hq]
   have hi:(dec s).isSome=true:=by rw[hq];rfl
   have hev:=rIs_ev s (by omega)
   rw[hi]at hev
   refine ev_go rfl (fun cargs w=>call60 cargs w) func60 rfl mixed (by kernel_rfl) rfl ?_;intro b0 hb0
   (repeat' first|simp only[fins,mems,results60,ntmps60,wks,hd,he,vcs,seval,tys]|exact rfl|refine call_off (v:=.any) ?_|(first|(refine call_fn ?_ (hev _) ?_)|(refine call_fn_g ?_ (fun _=>hev _) ?_))|((first|apply Ca|apply Cb)<;>intro hb)|refine Ai (by omega) ?_|(apply Ai<;>intro hb)|refine Fin.pure ?_ ?_ ?_|simp only[injs])
theorem letter_leaves:∀ p1 p2 p3 p4 p5:Bool,(p1=true∧p2=true)∨(p1=true∧p2=false∧p3=true∧p4=true)∨(p1=true∧p2=false∧p3=true∧p4=false∧p5=true)∨(p1=true∧p2=false∧p3=true∧p4=false∧p5=false)∨(p1=true∧p2=false∧p3=false∧p5=true)∨(p1=true∧p2=false∧p3=false∧p5=false) ∨
  (p1=false∧p3=true∧p4=true)∨(p1=false∧p3=true∧p4=false∧p5=true)∨(p1=false∧p3=true∧p4=false∧p5=false)∨(p1=false∧p3=false∧p5=true)∨(p1=false∧p3=false∧p5=false):=by
 intro p1 p2 p3 p4 p5;cases p1<;>cases p2<;>cases p3<;>cases p4<;>cases p5<;>simp
theorem letB_eq {c:UInt8}{p1 p2 p3 p4 p5:Bool}(h1:decide ((97:Int)≤c.toNat)=p1)(h2:decide ((c.toNat:Int)≤122)=p2)(h3:decide ((65:Int)≤c.toNat)=p3)(h4:decide ((c.toNat:Int)≤90)=p4)(h5:decide (c=95)=p5):letB c=((p1&&p2)||(p3&&p4)||p5):=by
 unfold letB
 rw[← h1,← h2,← h3,← h4,← h5]
 have e1:((97:Int)≤c.toNat)=(97≤c.toNat):=propext (by omega)
 have e2:((c.toNat:Int)≤122)=(c.toNat≤122):=propext (by omega)
 have e3:((65:Int)≤c.toNat)=(65≤c.toNat):=propext (by omega)
 have e4:((c.toNat:Int)≤90)=(c.toNat≤90):=propext (by omega)
 simp only[e1,e2,e3,e4]
theorem rLetter_ev (c:UInt8)(nm:Nat):Ev cx 79 nm [.int .u8 c.toNat] Mem.nil (.bool (letB c)) []:=by
 have hq:((c.toNat:Int)==95)=decide (c=95):=beq_byte c 95
 generalize h1:decide ((97:Int)≤c.toNat)=p1
 generalize h2:decide ((c.toNat:Int)≤122)=p2
 generalize h3:decide ((65:Int)≤c.toNat)=p3
 generalize h4:decide ((c.toNat:Int)≤90)=p4
 generalize h5:decide (c=95)=p5
 have he:=letB_eq h1 h2 h3 h4 h5
 rcases letter_leaves p1 p2 p3 p4 p5 with ⟨rfl,rfl⟩|⟨rfl,rfl,rfl,rfl⟩|⟨rfl,rfl,rfl,rfl,rfl⟩|⟨rfl,rfl,rfl,rfl,rfl⟩|⟨rfl,rfl,rfl,rfl⟩|⟨rfl,rfl,rfl,rfl⟩|⟨rfl,rfl,rfl⟩|⟨rfl,rfl,rfl,rfl⟩|⟨rfl,rfl,rfl,rfl⟩|⟨rfl,rfl,rfl⟩|⟨rfl,rfl,rfl⟩
 all_goals simp only[Bool.true_and,Bool.false_and,Bool.and_false,Bool.true_or,Bool.or_true,Bool.false_or,Bool.or_false,Bool.and_true]at he
 all_goals (
  refine ev_go rfl (fun cargs w=>call79 cargs w) func79 rfl mixed (by kernel_rfl) rfl ?_;intro b0 hb0
  (repeat' first|simp only[fins,mems,results79,ntmps79,wks,hq,h1,h2,h3,h4,h5,he,vcs,seval,tys]|exact rfl|refine call_off (v:=.any) ?_|((first|apply Ca|apply Cb)<;>intro hb)|refine Ai (by omega) ?_|(apply Ai<;>intro hb)|refine Fin.pure ?_ ?_ ?_|simp only[injs]))
theorem orO:∀ n:Nat,n<256→(decide (97≤IntKind.u8.wrap ((BitVec.ofInt IntKind.u8.bits (n:Int) ||| BitVec.ofInt IntKind.u8.bits 32).toNat:Int))&&decide (IntKind.u8.wrap ((BitVec.ofInt IntKind.u8.bits (n:Int) ||| BitVec.ofInt IntKind.u8.bits 32).toNat:Int)≤122))=((decide (97≤n)&&decide (n≤122))||(decide (65≤n)&&decide (n≤90))):=by decide +kernel
theorem part_leaves:∀ p1 p2 p5 f p6 p7 p8 p9:Bool,(p1=true∧p2=true)∨(p1=true∧p2=false∧p5=true)∨(p1=false∧p5=true)∨(p1=true∧p2=false∧p5=false∧f=true)∨(p1=false∧p5=false∧f=true) ∨
  (p1=true∧p2=false∧p5=false∧f=false∧p6=true∧p7=true)∨(p1=true∧p2=false∧p5=false∧f=false∧p6=true∧p7=false∧p8=true)∨(p1=true∧p2=false∧p5=false∧f=false∧p6=true∧p7=false∧p8=false) ∨
  (p1=true∧p2=false∧p5=false∧f=false∧p6=false∧p8=true)∨(p1=true∧p2=false∧p5=false∧f=false∧p6=false∧p8=false) ∨
  (p1=false∧p5=false∧f=false∧p6=true∧p7=true)∨(p1=false∧p5=false∧f=false∧p6=true∧p7=false∧p8=true)∨(p1=false∧p5=false∧f=false∧p6=true∧p7=false∧p8=false) ∨
  (p1=false∧p5=false∧f=false∧p6=false∧p8=true)∨(p1=false∧p5=false∧f=false∧p6=false∧p8=false):=by
 intro p1 p2 p5 f p6 p7 p8 p9;cases p1<;>cases p2<;>cases p5<;>cases f<;>cases p6<;>cases p7<;>cases p8<;>simp
theorem partB_eq {c:UInt8}{f p1 p2 p5 p6 p7 p8 p9:Bool}(h1:decide (97≤IntKind.u8.wrap ((BitVec.ofInt IntKind.u8.bits (c.toNat:Int) ||| BitVec.ofInt IntKind.u8.bits 32).toNat:Int))=p1)(h2:decide (IntKind.u8.wrap ((BitVec.ofInt IntKind.u8.bits (c.toNat:Int) ||| BitVec.ofInt IntKind.u8.bits 32).toNat:Int)≤122)=p2)
  (h5:decide (c=95)=p5) (h6:decide ((48:Int)≤c.toNat)=p6) (h7:decide ((c.toNat:Int)≤57)=p7) (h8:decide (c=46)=p8) (h9:decide (c=45)=p9):partB f c=((p1&&p2)||p5||(!f&&((p6&&p7)||p8||p9))):=by
 have e:=orO c.toNat c.toNat_lt
 rw[h1,h2]at e
 unfold partB letB
 rw[← e,← h5,← h6,← h7,← h8,← h9]
 have e1:((48:Int)≤c.toNat)=(48≤c.toNat):=propext (by omega)
 have e2:((c.toNat:Int)≤57)=(c.toNat≤57):=propext (by omega)
 simp only[e1,e2]
theorem part_ev (c:UInt8)(f:Bool)(nm:Nat):Ev cx 78 nm [.int .u8 c.toNat,.bool f] Mem.nil (.bool (partB f c)) []:=by
 have q5:((c.toNat:Int)==95)=decide (c=95):=beq_byte c 95
 have q8:((c.toNat:Int)==46)=decide (c=46):=beq_byte c 46
 have q9:((c.toNat:Int)==45)=decide (c=45):=beq_byte c 45
 generalize h1:decide (97≤IntKind.u8.wrap ((BitVec.ofInt IntKind.u8.bits (c.toNat:Int) ||| BitVec.ofInt IntKind.u8.bits 32).toNat:Int))=p1
 generalize h2:decide (IntKind.u8.wrap ((BitVec.ofInt IntKind.u8.bits (c.toNat:Int) ||| BitVec.ofInt IntKind.u8.bits 32).toNat:Int)≤122)=p2
 generalize h5:decide (c=95)=p5
 generalize h6:decide ((48:Int)≤c.toNat)=p6
 generalize h7:decide ((c.toNat:Int)≤57)=p7
 generalize h8:decide (c=46)=p8
 generalize h9:decide (c=45)=p9
 have he:=partB_eq (f:=f) h1 h2 h5 h6 h7 h8 h9
 rcases part_leaves p1 p2 p5 f p6 p7 p8 p9 with ⟨rfl,rfl⟩|⟨rfl,rfl,rfl⟩|⟨rfl,rfl⟩|⟨rfl,rfl,rfl,rfl⟩|⟨rfl,rfl,rfl⟩|⟨rfl,rfl,rfl,rfl,rfl,rfl⟩|⟨rfl,rfl,rfl,rfl,rfl,rfl,rfl⟩|⟨rfl,rfl,rfl,rfl,rfl,rfl,rfl⟩|⟨rfl,rfl,rfl,rfl,rfl,rfl⟩|⟨rfl,rfl,rfl,rfl,rfl,rfl⟩|⟨rfl,rfl,rfl,rfl,rfl⟩|⟨rfl,rfl,rfl,rfl,rfl,rfl⟩|⟨rfl,rfl,rfl,rfl,rfl,rfl⟩|⟨rfl,rfl,rfl,rfl,rfl⟩|⟨rfl,rfl,rfl,rfl,rfl⟩
 all_goals simp only[Bool.true_and,Bool.false_and,Bool.and_false,Bool.true_or,Bool.or_true,Bool.false_or,Bool.or_false,Bool.and_true,Bt,Bf]at he
 all_goals (
  refine ev_go rfl (fun cargs w=>call78 cargs w) func78 rfl mixed (by kernel_rfl) rfl ?_;intro b0 hb0
  (repeat' first|simp only[fins,mems,results78,ntmps78,wks,q5,q8,q9,h1,h2,h5,h6,h7,h8,h9,he,vcs,seval,tys]|exact rfl|refine call_off (v:=.any) ?_|((first|apply Ca|apply Cb)<;>intro hb)|refine Ai (by omega) ?_|(apply Ai<;>intro hb)|refine Fin.pure ?_ ?_ ?_|simp only[injs]))
theorem rname_leaves:∀ l z a b p8 p9:Bool,(l=true)∨(l=false∧z=true)∨(l=false∧z=false∧a=true∧p8=true)∨(l=false∧z=false∧a=true∧p8=false∧p9=true)∨(l=false∧z=false∧a=true∧p8=false∧p9=false) ∨
  (l=false∧z=false∧a=false∧b=true∧p8=true)∨(l=false∧z=false∧a=false∧b=true∧p8=false∧p9=true)∨(l=false∧z=false∧a=false∧b=true∧p8=false∧p9=false)∨(l=false∧z=false∧a=false∧b=false):=by
 intro l z a b p8 p9;cases l<;>cases z<;>cases a<;>cases b<;>cases p8<;>cases p9<;>simp
theorem partB_eq2 {c:UInt8}{f l a b p8 p9:Bool}(h1:letB c=l)(h2:decide ((c.toNat:Int)<48)=a)(h3:decide ((57:Int)<c.toNat)=b)(h8:decide (c=46)=p8)(h9:decide (c=45)=p9):partB f c=(l||(!f&&((!a && !b)||p8||p9))):=by
 unfold partB
 rw[h1,← h2,← h3,← h8,← h9]
 have e1:decide (48≤c.toNat) = !decide ((c.toNat:Int)<48):=by rw[Bool.eq_iff_iff];simp;omega
 have e2:decide (c.toNat≤57) = !decide ((57:Int)<c.toNat):=by rw[Bool.eq_iff_iff];simp;omega
 rw[e1,e2]
theorem namedTo_succ {s:List UInt8}{k:Nat}{c:UInt8}(h:namedTo s k)(hc:s[k]? = some c)(hp:partB (k==0) c=true):namedTo s (k+1):=by
 intro i x hi hx
 by_cases e:i=k
 ·subst e;rw[hc]at hx;cases hx;exact hp
 ·exact h i x (by omega) hx
theorem zero_int (k:Nat):((k:Int)==0)=(k==0):=by
 rw[Bool.eq_iff_iff,beq_iff_eq,beq_iff_eq];omega
theorem rName_ev (s:List UInt8)(hs:s.length≤lim)(nm:Nat):Ev cx 72 nm [.str s] Mem.nil (.bool (nameL s)) []:=by
 unfold lim at hs
 refine ev_go rfl (fun cargs w=>call72 cargs w) func72 rfl mixed (by kernel_rfl) rfl ?_;intro b0 hb0
 repeat' first|simp only[fins,mems,results72,ntmps72,wks,vcs,seval,tys]|exact rfl|refine call_off (v:=.any) ?_|((first|apply Ca|apply Cb)<;>intro hb)|refine Ai (by omega) ?_|(apply Ai<;>intro hb)
 (refine loop_can2 cxG (fun x:Nat=>s.length-x) (fun x=>x≤s.length∧namedTo s x) (b0+16) (fun x=>[(0,.str s),(3,.int .i64 x)]) (fun x=>[]) (0) [] ?_ ?_ ?_ ?_;rotate_left 1;(focus (show b0≤_;omega));(focus (refine⟨?_,?_⟩<;>(try simp only[cans,vcs,seval,tys,injs])<;>(try omega)));rotate_left 1)
 ·exact⟨Nat.zero_le _,fun i c hi=>by omega⟩
 ·rintro k ⟨hk,hn⟩
  by_cases hlt:k<s.length
  ·obtain⟨c,hc⟩:∃ c,s[k]? = some c:=⟨_,List.getElem?_eq_getElem hlt⟩
   have hd:decide (k<s.length)=true:=decide_eq_true hlt
   have hwk:IntKind.i64.wrap ((k:Int)+1)=((k+1:Nat):Int):=wrap_in (by omega) (by omega)
   have hle:=rLetter_ev c
   have q8:((c.toNat:Int) != 46) = !decide (c=46):=congrArg not (beq_byte c 46)
   have q9:((c.toNat:Int) != 45) = !decide (c=45):=congrArg not (beq_byte c 45)
   have qz:=zero_int k
   generalize h1:letB c=l at hle
   generalize h2:decide ((c.toNat:Int)<48)=a
   generalize h3:decide ((57:Int)<c.toNat)=b
   generalize h8:decide (c=46)=p8
   generalize h9:decide (c=45)=p9
   have he:=partB_eq2 (f:=k==0) h1 h2 h3 h8 h9
   cases hp:partB (k==0) c with
   | false =>
    have hnf:=nameL_false hc hp
    rw[hp]at he
    generalize hz:(k==0)=z at he qz
    rcases rname_leaves l z a b p8 p9 with rfl|⟨rfl,rfl⟩|⟨rfl,rfl,rfl,rfl⟩|⟨rfl,rfl,rfl,rfl,rfl⟩|⟨rfl,rfl,rfl,rfl,rfl⟩|⟨rfl,rfl,rfl,rfl,rfl⟩|⟨rfl,rfl,rfl,rfl,rfl,rfl⟩|⟨rfl,rfl,rfl,rfl,rfl,rfl⟩|⟨rfl,rfl,rfl,rfl⟩
    all_goals (try (exfalso;simp at he;done))
    all_goals ((repeat' first|simp only[fins,mems,results72,ntmps72,wks,hc,hd,hlt,hnf,q8,q9,qz,h2,h3,h8,h9,Bt,Bf,vcs,seval,tys]|exact rfl|refine call_off (v:=.any) ?_|(first|(refine call_fn ?_ (hle _) ?_)|(refine call_fn_g ?_ (fun _=>hle _) ?_))|((first|apply Ca|apply Cb)<;>intro hb)|refine Ai (by omega) ?_|(apply Ai<;>intro hb)|refine Fin.pure ?_ ?_ ?_|simp only[injs]))
   | true =>
    have hn':=namedTo_succ hn hc hp
    rw[hp]at he
    generalize hz:(k==0)=z at he qz
    rcases rname_leaves l z a b p8 p9 with rfl|⟨rfl,rfl⟩|⟨rfl,rfl,rfl,rfl⟩|⟨rfl,rfl,rfl,rfl,rfl⟩|⟨rfl,rfl,rfl,rfl,rfl⟩|⟨rfl,rfl,rfl,rfl,rfl⟩|⟨rfl,rfl,rfl,rfl,rfl,rfl⟩|⟨rfl,rfl,rfl,rfl,rfl,rfl⟩|⟨rfl,rfl,rfl,rfl⟩
    all_goals (try (exfalso;simp at he;done))
    all_goals (repeat' first|simp only[fins,mems,results72,ntmps72,wks,hc,hd,hlt,hwk,q8,q9,qz,h2,h3,h8,h9,Bt,Bf,vcs,seval,tys]|exact rfl|refine call_off (v:=.any) ?_|(first|(refine call_fn ?_ (hle _) ?_)|(refine call_fn_g ?_ (fun _=>hle _) ?_))|((first|apply Ca|apply Cb)<;>intro hb)|refine Ai (by omega) ?_|(apply Ai<;>intro hb))
    all_goals ((refine again_can2 cxG (k+1) [] ?_ ?_ ?_ ?_;rotate_left 2;(focus (show b0≤_;omega));(focus (refine⟨?_,?_⟩<;>(try simp only[cans,hwk,vcs,seval,tys,injs])<;>(try omega)))))
    all_goals (first|(show s.length-(k+1)<s.length-k;omega)|exact⟨hlt,hn'⟩|skip)
  ·have hke:k=s.length:=by omega
   subst hke
   have hd:decide (s.length<s.length)=false:=decide_eq_false (by omega)
   by_cases hne:s=[]
   ·subst hne
    have hb:(([]:List UInt8)==[])=true:=rfl
    have e:nameL []=false:=rfl
    (repeat' first|simp only[fins,mems,results72,ntmps72,wks,hd,hb,e,vcs,seval,tys]|exact rfl|refine call_off (v:=.any) ?_|((first|apply Ca|apply Cb)<;>intro hb)|refine Ai (by omega) ?_|(apply Ai<;>intro hb)|refine Fin.pure ?_ ?_ ?_|simp only[injs])
   ·have hb:(s==[])=false:=beq_false_of_ne hne
    have e:=nameL_true hne hn
    (repeat' first|simp only[fins,mems,results72,ntmps72,wks,hd,hb,e,vcs,seval,tys]|exact rfl|refine call_off (v:=.any) ?_|((first|apply Ca|apply Cb)<;>intro hb)|refine Ai (by omega) ?_|(apply Ai<;>intro hb)|refine Fin.pure ?_ ?_ ?_|simp only[injs])
theorem empty_f {s:List UInt8}(h:s≠[]):s.isEmpty=false:=by cases s with|nil=>exact absurd rfl h|cons=>rfl
theorem name_ev (s:List UInt8)(hs:s.length≤lim)(nm:Nat):Ev cx 69 nm [.str s] Mem.nil (.bool (nameL s)) []:=by
 unfold lim at hs
 have hb:(s==[])=s.isEmpty:=by cases s<;>rfl
 refine ev_go rfl (fun cargs w=>call69 cargs w) func69 rfl mixed (by kernel_rfl) rfl ?_;intro b0 hb0
 repeat' first|simp only[fins,mems,results69,ntmps69,wks,hb,vcs,seval,tys]|exact rfl|refine call_off (v:=.any) ?_|((first|apply Ca|apply Cb)<;>intro hb)|refine Ai (by omega) ?_|(apply Ai<;>intro hb)
 (refine loop_can2 cxG (fun x:Nat=>s.length-x) (fun x=>x≤s.length∧namedTo s x) (b0+16) (fun x=>[(0,.str s),(3,.bool (!s.isEmpty)),(8,.int .i64 s.length),(9,.int .i64 x)]) (fun x=>[]) (0) [] ?_ ?_ ?_ ?_;rotate_left 1;(focus (show b0≤_;omega));(focus (refine⟨?_,?_⟩<;>(try simp only[cans,vcs,seval,tys,injs])<;>(try omega)));rotate_left 1)
 ·exact⟨Nat.zero_le _,fun i c hi=>by omega⟩
 ·rintro k ⟨hk,hn⟩
  by_cases hlt:k<s.length
  ·obtain⟨c,hc⟩:∃ c,s[k]? = some c:=⟨_,List.getElem?_eq_getElem hlt⟩
   have hne:s≠[]:=by rintro rfl;simp at hlt
   have hie:=empty_f hne
   have hd:decide (k<s.length)=true:=decide_eq_true hlt
   have hwk:IntKind.i64.wrap ((k:Int)+1)=((k+1:Nat):Int):=wrap_in (by omega) (by omega)
   have hle:=part_ev c (k==0)
   have qz:=zero_int k
   cases hp:partB (k==0) c with
   | false =>
    have hnf:=nameL_false hc hp
    rw[hp]at hle
    (repeat' first|simp only[fins,mems,results69,ntmps69,wks,hc,hd,hlt,hie,hnf,qz,vcs,seval,tys]|exact rfl|refine call_off (v:=.any) ?_|(first|(refine call_fn ?_ (hle _) ?_)|(refine call_fn_g ?_ (fun _=>hle _) ?_))|((first|apply Ca|apply Cb)<;>intro hb)|refine Ai (by omega) ?_|(apply Ai<;>intro hb)|refine Fin.pure ?_ ?_ ?_|simp only[injs])
   | true =>
    have hn':=namedTo_succ hn hc hp
    rw[hp]at hle
    repeat' first|simp only[fins,mems,results69,ntmps69,wks,hc,hd,hlt,hwk,hie,qz,vcs,seval,tys]|exact rfl|refine call_off (v:=.any) ?_|(first|(refine call_fn ?_ (hle _) ?_)|(refine call_fn_g ?_ (fun _=>hle _) ?_))|((first|apply Ca|apply Cb)<;>intro hb)|refine Ai (by omega) ?_|(apply Ai<;>intro hb)
    all_goals ((refine again_can2 cxG (k+1) [] ?_ ?_ ?_ ?_;rotate_left 2;(focus (show b0≤_;omega));(focus (refine⟨?_,?_⟩<;>(try simp only[cans,hwk,hie,vcs,seval,tys,injs])<;>(try omega)))))
    all_goals (first|(show s.length-(k+1)<s.length-k;omega)|exact⟨hlt,hn'⟩|skip)
  ·have hke:k=s.length:=by omega
   subst hke
   have hd:decide (s.length<s.length)=false:=decide_eq_false (by omega)
   by_cases hne:s=[]
   ·subst hne
    have e:nameL []=false:=rfl
    (repeat' first|simp only[fins,mems,results69,ntmps69,wks,hd,List.isEmpty_nil,e,vcs,seval,tys]|exact rfl|refine call_off (v:=.any) ?_|((first|apply Ca|apply Cb)<;>intro hb)|refine Ai (by omega) ?_|(apply Ai<;>intro hb)|refine Fin.pure ?_ ?_ ?_|simp only[injs])
   ·have hie:=empty_f hne
    have e:=nameL_true hne hn
    (repeat' first|simp only[fins,mems,results69,ntmps69,wks,hd,hie,e,vcs,seval,tys]|exact rfl|refine call_off (v:=.any) ?_|((first|apply Ca|apply Cb)<;>intro hb)|refine Ai (by omega) ?_|(apply Ai<;>intro hb)|refine Fin.pure ?_ ?_ ?_|simp only[injs])
theorem idxStr_ev (s:List UInt8)(c:UInt8)(M:Mem)(nm:Nat):Ev cx 92 nm [.str s,.int .u8 c.toNat] M (.int .i64 (indexByte s c)) [] :=
 Ev.indexByte func92 (by kernel_rfl) (by kernel_rfl) (by kernel_rfl) (by kernel_rfl) s c M nm
theorem idxB_ev (s:List UInt8)(c:UInt8)(nm:Nat):Ev cx 85 nm [.str s,.int .u8 c.toNat] Mem.nil (.int .i64 (indexByte s c)) []:=by
 refine ev_go rfl (fun cargs w=>call85 cargs w) func85 rfl mixed (by kernel_rfl) rfl ?_;intro b0 hb0
 (repeat' first|simp only[fins,mems,results85,ntmps85,wks,vcs,seval,tys]|exact rfl|refine call_off (v:=.any) ?_|(first|(refine call_fn ?_ (idxStr_ev s c _ _) ?_)|(refine call_fn_g ?_ (fun _=>idxStr_ev s c _ _) ?_))|((first|apply Ca|apply Cb)<;>intro hb)|refine Ai (by omega) ?_|(apply Ai<;>intro hb)|refine Fin.pure ?_ ?_ ?_|simp only[injs])
theorem index1_ev (s:List UInt8)(d:UInt8)(nm:Nat):Ev cx 83 nm [.str s,.str [d]] Mem.nil (.int .i64 (indexByte s d)) []:=by
 by_cases h:[d]=s
 ·subst h
  have e:indexByte [d] d=0:=by simp[indexByte]
  have e1:([d]==[d])=true:=by simp
  refine ev_go rfl (fun cargs w=>call83 cargs w) func83 rfl mixed (by kernel_rfl) rfl ?_;intro b0 hb0
  (repeat' first|simp only[fins,mems,results83,ntmps83,wks,e,e1,vcs,seval,tys]|exact rfl|refine call_off (v:=.any) ?_|(first|(refine call_fn ?_ (idxB_ev [d] d _) ?_)|(refine call_fn_g ?_ (fun _=>idxB_ev [d] d _) ?_))|((first|apply Ca|apply Cb)<;>intro hb)|refine Ai (by omega) ?_|(apply Ai<;>intro hb)|refine Fin.pure ?_ ?_ ?_|simp only[injs])
 ·have e1:([d]==s)=false:=beq_false_of_ne h
  refine ev_go rfl (fun cargs w=>call83 cargs w) func83 rfl mixed (by kernel_rfl) rfl ?_;intro b0 hb0
  (repeat' first|simp only[fins,mems,results83,ntmps83,wks,e1,vcs,seval,tys]|exact rfl|refine call_off (v:=.any) ?_|(first|(refine call_fn ?_ (idxB_ev s d _) ?_)|(refine call_fn_g ?_ (fun _=>idxB_ev s d _) ?_))|((first|apply Ca|apply Cb)<;>intro hb)|refine Ai (by omega) ?_|(apply Ai<;>intro hb)|refine Fin.pure ?_ ?_ ?_|simp only[injs])
def cutV (d:UInt8)(s:List UInt8):V:=match cut1 d s with
 | none=>.tup [.str s,.str [],.bool false]
 | some (a,b)=>.tup [.str a,.str b,.bool true]
theorem cutS_ev (s:List UInt8)(d:UInt8)(hs:s.length≤lim)(nm:Nat):Ev cx 77 nm [.str s,.str [d]] Mem.nil (cutV d s) []:=by
 unfold lim at hs
 cases hc:cut1 d s with
 | none =>
  have e:indexByte s d = -1:=index1_none.2 hc
  have ev:cutV d s = .tup [.str s,.str [],.bool false]:=by unfold cutV;rw[hc]
  rw[ev]
  refine ev_go rfl (fun cargs w=>call77 cargs w) func77 rfl mixed (by kernel_rfl) rfl ?_;intro b0 hb0
  (repeat' first|simp only[fins,mems,results77,ntmps77,wks,vcs,seval,tys]|exact rfl|refine call_off (v:=.any) ?_|(first|(refine call_fn ?_ ((by have:=index1_ev s d;rw[e]at this;exact this _)) ?_)|(refine call_fn_g ?_ (fun _=>(by have:=index1_ev s d;rw[e]at this;exact this _)) ?_))|refine draw_end (by decide +kernel) ?_|((first|apply Ca|apply Cb)<;>intro hb)|refine Ai (by omega) ?_|(apply Ai<;>intro hb)|refine Fin.pure ?_ ?_ ?_|simp only[injs])
 | some p =>
  obtain⟨a,b⟩:=p
  obtain⟨e,e1,e2,e3⟩:=index1_some hc
  have ev:cutV d s = .tup [.str a,.str b,.bool true]:=by unfold cutV;rw[hc]
  have h1:(a.length:Int)≤s.length:=by omega
  have h2:IntKind.i64.wrap ((a.length:Int)+1)=((a.length+1:Nat):Int):=wrap_in (by omega) (by omega)
  have h3:((a.length+1:Nat):Int)≤s.length:=by omega
  have h4:a.length≤s.length:=by omega
  have h5:a.length+1≤s.length:=by omega
  rw[ev]
  refine ev_go rfl (fun cargs w=>call77 cargs w) func77 rfl mixed (by kernel_rfl) rfl ?_;intro b0 hb0
  (repeat' first|simp only[fins,mems,results77,ntmps77,wks,h1,h2,h3,h4,h5,e1,e2,vcs,seval,tys]|exact rfl|refine call_off (v:=.any) ?_|(first|(refine call_fn ?_ ((by have:=index1_ev s d;rw[e]at this;exact this _)) ?_)|(refine call_fn_g ?_ (fun _=>(by have:=index1_ev s d;rw[e]at this;exact this _)) ?_))|refine draw_end (by decide +kernel) ?_|((first|apply Ca|apply Cb)<;>intro hb)|refine Ai (by omega) ?_|(apply Ai<;>intro hb)|refine Fin.pure ?_ ?_ ?_|simp only[injs])
theorem cut_ev (s:List UInt8)(d:UInt8)(hs:s.length≤lim)(nm:Nat):Ev cx 68 nm [.str s,.str [d]] Mem.nil (cutV d s) []:=by
 have hev:=cutS_ev s d hs
 cases hc:cut1 d s with
 | none =>
  have ev:cutV d s = .tup [.str s,.str [],.bool false]:=by unfold cutV;rw[hc]
  rw[ev]at hev ⊢
  refine ev_go rfl (fun cargs w=>call68 cargs w) func68 rfl mixed (by kernel_rfl) rfl ?_;intro b0 hb0
  (repeat' first|simp only[fins,mems,results68,ntmps68,wks,vcs,seval,tys]|exact rfl|refine call_off (v:=.any) ?_|(first|(refine call_fn ?_ (hev _) ?_)|(refine call_fn_g ?_ (fun _=>hev _) ?_))|((first|apply Ca|apply Cb)<;>intro hb)|refine Ai (by omega) ?_|(apply Ai<;>intro hb)|refine Fin.pure ?_ ?_ ?_|simp only[injs])
 | some p =>
  have ev:cutV d s = .tup [.str p.1,.str p.2,.bool true]:=by unfold cutV;rw[hc]
  rw[ev]at hev ⊢
  refine ev_go rfl (fun cargs w=>call68 cargs w) func68 rfl mixed (by kernel_rfl) rfl ?_;intro b0 hb0
  (repeat' first|simp only[fins,mems,results68,ntmps68,wks,vcs,seval,tys]|exact rfl|refine call_off (v:=.any) ?_|(first|(refine call_fn ?_ (hev _) ?_)|(refine call_fn_g ?_ (fun _=>hev _) ?_))|((first|apply Ca|apply Cb)<;>intro hb)|refine Ai (by omega) ?_|(apply Ai<;>intro hb)|refine Fin.pure ?_ ?_ ?_|simp only[injs])
end Go.Proofs.Ytfcfldmioonipaa
