/-
 Texts joined: XSa,XSb,XSc,XSd,XSe.
-/
import Derived.Test.YtjdjclecdfhciaaGreatDoorQf
import Derived.Test.YtjdjclecdfhciaaGreatDoorQl
import Derived.Test.YtjdjclecdfhciaaGreatDoorQp
namespace Go.Proofs.YtjdjclecdfhciaaGreatDoor
set_option maxRecDepth 100000
set_option maxHeartbeats 32000000
set_option linter.unusedSimpArgs false
set_option linter.unusedVariables false
open Go Go.RowKit Vm Go.Lib Tryz
open Vm renaming cond_bool→Ca,cond_bit→Cb
open And renaming intro→Ai
open List renaming length_map→Lm,not_mem_nil→Ln,map_nil→Lo,map_cons→Lc,mem_cons→Lk
open Bool renaming not_false→Bf,not_true→Bt
def okA (l:List At)(a:At):Bool:=!(l.any fun b=>a.space==b.space&&a.name==b.name)&&fullL a.name&&decide (ptsErr a.value=0)&&decide (ptsErr a.space=0)
def atsTo (l:List At)(k:Nat):Prop:=∀(i:Nat) (a:At),i<k→l[i]? = some a→okA (l.take i) a=true
def atsL (l:List At):Bool:=decide (l.length≤16)&&l.zipIdx.all fun p=>okA (l.take p.2) p.1
theorem ats_iff {l:List At} : atsL l=true↔l.length≤16∧atsTo l l.length:=by
 unfold atsL atsTo
 simp only[Bool.and_eq_true,decide_eq_true_eq,List.all_eq_true]
 refine and_congr_right fun _=>⟨fun h i a hi ha=>?_,fun h p hp=>?_⟩
 ·refine h (a,i) ?_
  rw[List.mem_zipIdx_iff_getElem?];exact ha
 ·have:=(List.mem_zipIdx_iff_getElem?).1 hp
  exact h p.2 p.1 (List.getElem?_eq_some_iff.1 this).1 this
theorem atsTo_succ {l:List At}{k:Nat}{a:At}(h:atsTo l k)(ha:l[k]? = some a)(ho:okA (l.take k) a=true):atsTo l (k+1):=by
 intro i b hi hb
 by_cases e:i=k
 ·subst e;rw[ha]at hb;cases hb;exact ho
 ·exact h i b (by omega) hb
theorem ats_false {l:List At}{k:Nat}{a:At}(ha:l[k]? = some a)(ho:okA (l.take k) a=false):atsL l=false:=by
 cases h:atsL l with
 | false=>rfl
 | true =>
  have:=(ats_iff.1 h).2 k a (List.getElem?_eq_some_iff.1 ha).1 ha
  rw[ho]at this;cases this
def mayN (n:Nd):Bool :=
 if n.kind=2 then n.name.isEmpty&&n.space.isEmpty&&n.attrs.isEmpty&&decide (n.many=0) && !n.text.isEmpty&&decide (ptsErr n.text=0)
 else decide (n.kind=1)&&n.text.isEmpty&&fullL n.name&&decide (ptsErr n.space=0)&&atsL n.attrs
theorem mayN_kind {n:Nd}(h:mayN n=true):n.kind=1∨n.kind=2:=by
 unfold mayN at h
 split at h
 ·right;assumption
 ·simp only[Bool.and_eq_true,decide_eq_true_eq]at h;left;exact h.1.1.1.1
theorem mayN_text {n:Nd}(h:mayN n=true)(hk:n.kind=2):n.name=[]∧n.space=[]∧n.attrs=[]∧n.many=0∧n.text≠[]∧ptsErr n.text=0:=by
 unfold mayN at h
 rw[if_pos hk]at h
 simp only[Bool.and_eq_true,decide_eq_true_eq,List.isEmpty_iff,Bool.not_eq_true',List.isEmpty_eq_false_iff]at h
 obtain⟨⟨⟨⟨⟨h1,h2⟩,h3⟩,h4⟩,h5⟩,h6⟩:=h
 exact⟨h1,h2,h3,h4,h5,h6⟩
theorem mayN_elem {n:Nd}(h:mayN n=true)(hk:n.kind=1):n.text=[]∧fullL n.name=true∧ptsErr n.space=0∧atsL n.attrs=true:=by
 unfold mayN at h
 rw[if_neg (by omega)]at h
 simp only[Bool.and_eq_true,decide_eq_true_eq,List.isEmpty_iff]at h
 obtain⟨⟨⟨⟨h1,h2⟩,h3⟩,h4⟩,h5⟩:=h
 exact⟨h2,h3,h4,h5⟩
def loopW (walk:Nat→List Nat→Option Nat×List Nat)(v:List Nd):Nat→Option Nat→Nat→List Nat→Option Nat×List Nat
 | 0,next,_,en=>(next,en)
 | _+1,none,_,en=>(none,en)
 | n+1,some next,last,en=>match v[next]? with
  | none=>(none,en)
  | some y=>if (last==2&&y.kind==2)=true then (none,en) else loopW walk v n (walk next en).1 y.kind (walk next en).2
def endWk (p:Nat)(r:Option Nat×List Nat):Option Nat×List Nat:=match r.1 with
 | some e=>(some e,r.2.set p e)
 | none=>(none,r.2)
def okW (x:Nd)(dz:Bool):Bool:=mayN x&&decide (0≤x.many) && !(x.kind==1&&dz)
def nodeW (walk:Nat→List Nat→Option Nat×List Nat)(v:List Nd)(dz:Bool)(p:Nat)(en:List Nat):Option Nat×List Nat:=match v[p]? with
 | none=>(none,en)
 | some x=>if okW x dz=true then endWk p (loopW walk v x.many.toNat (some (p+1)) 1 en) else (none,en)
def walkW (v:List Nd):Nat→Nat→List Nat→Option Nat×List Nat
 | 0=>nodeW (fun _ en=>(none,en)) v true
 | d+1=>nodeW (walkW v d) v false
def finO (n:Nat):Option Nat×List Nat→Option (List Nat)
 |(some e,en)=>if e=n then some en else none
 |(none,_)=>none
def behindO (v:List Nd):Option (List Nat):=if (v.isEmpty||decide (512<v.length) || !((v[0]?).map Nd.kind==some 1))=true then none else finO v.length (walkW v 12 0 (List.replicate v.length 0))
inductive Fo where
 | nil
 | cons (n:Nd) (k r:Fo)
def Fo.flat:Fo→List Nd
 | .nil=>[]
 | .cons n k r=>n::(k.flat++r.flat)
def Fo.count:Fo→Nat
 | .nil=>0
 | .cons _ _ r=>r.count+1
def Fo.size:Fo→Nat
 | .nil=>0
 | .cons _ k r=>k.size+r.size+1
theorem Fo.flat_length:∀(F:Fo),F.flat.length=F.size
 | .nil=>rfl
 | .cons n k r=>by simp[Fo.flat,Fo.size,k.flat_length,r.flat_length]
def Fo.good:Fo→Nat→Nat→Bool
 | .nil,_,_=>true
 | .cons n k r,d,last=>mayN n&&decide (n.many=(k.count:Int)) && !(last==2&&n.kind==2) && !(n.kind==1&&d==0)&&k.good (d-1) 1&&r.good d n.kind
def Fo.ends:Fo→Nat→List Nat
 | .nil,_=>[]
 | .cons _ k r,b=>(b+1+k.size)::(k.ends (b+1)++r.ends (b+1+k.size))
theorem Fo.ends_length:∀(F:Fo) (b:Nat),(F.ends b).length=F.size
 | .nil,_=>rfl
 | .cons n k r,b=>by simp[Fo.ends,Fo.size,k.ends_length,r.ends_length]
def Fo.app:Fo→Fo→Fo
 | .nil,g=>g
 | .cons n k r,g=>.cons n k (r.app g)
theorem Fo.app_nil:∀(F:Fo),F.app .nil=F
 | .nil=>rfl
 | .cons n k r=>by simp[Fo.app,r.app_nil]
theorem Fo.app_flat:∀(F G:Fo),(F.app G).flat=F.flat++G.flat
 | .nil,_=>rfl
 | .cons n k r,g=>by simp[Fo.app,Fo.flat,r.app_flat]
theorem Fo.app_count:∀(F G:Fo),(F.app G).count=F.count+G.count
 | .nil,_=>by simp[Fo.app,Fo.count]
 | .cons n k r,g=>by simp[Fo.app,Fo.count,r.app_count];omega
theorem Fo.app_size:∀(F G:Fo),(F.app G).size=F.size+G.size
 | .nil,_=>by simp[Fo.app,Fo.size]
 | .cons n k r,g=>by simp[Fo.app,Fo.size,r.app_size];omega
def Fo.lastK:Fo→Nat→Nat
 | .nil,last=>last
 | .cons n _ r,_=>r.lastK n.kind
theorem Fo.app_good:∀(F G:Fo) (d last:Nat),(F.app G).good d last=(F.good d last&&G.good d (F.lastK last))
 | .nil,_,_,_=>by simp[Fo.app,Fo.good,Fo.lastK]
 | .cons n k r,g,d,last=>by simp[Fo.app,Fo.good,Fo.lastK,r.app_good,Bool.and_assoc]
theorem Fo.app_last:∀(F G:Fo) (last:Nat),(F.app G).lastK last=G.lastK (F.lastK last)
 | .nil,_,_=>rfl
 | .cons n k r,g,last=>by simp[Fo.app,Fo.lastK,r.app_last]
theorem Fo.good_cons {n:Nd}{k r:Fo}{d last:Nat} :(Fo.cons n k r).good d last=true↔mayN n=true∧n.many=(k.count:Int) ∧ ¬(last=2∧n.kind=2) ∧ ¬(n.kind=1∧d=0)∧k.good (d-1) 1=true∧r.good d n.kind=true:=by
 simp only[Fo.good,Bool.and_eq_true,decide_eq_true_eq,Bool.not_eq_true',Bool.and_eq_false_iff,beq_eq_false_iff_ne,ne_eq]
 constructor
 ·rintro ⟨⟨⟨⟨⟨h1,h2⟩,h3⟩,h4⟩,h5⟩,h6⟩
  exact⟨h1,h2,by rcases h3 with h|h<;>simp_all,by rcases h4 with h|h<;>simp_all,h5,h6⟩
 ·rintro ⟨h1,h2,h3,h4,h5,h6⟩
  exact⟨⟨⟨⟨⟨h1,h2⟩,by by_cases h:last=2<;>simp_all⟩,by by_cases h:n.kind=1<;>simp_all⟩,h5⟩,h6⟩
theorem Fo.good_mono:∀ {F:Fo} {d d' last:Nat},d≤d'→F.good d last=true→F.good d' last=true
 | .nil,_,_,_,_,_=>rfl
 | .cons n k r,d,d',last,hd,h=>by
  obtain⟨h1,h2,h3,h4,h5,h6⟩:=Fo.good_cons.1 h
  exact Fo.good_cons.2 ⟨h1,h2,h3,by omega,Fo.good_mono (by omega) h5,Fo.good_mono hd h6⟩
theorem Fo.text_leaf {n:Nd}{k r:Fo}{d last:Nat}(h:(Fo.cons n k r).good d last=true)(hk:n.kind=2):k = .nil:=by
 obtain⟨h1,h2,_⟩:=Fo.good_cons.1 h
 have:=(mayN_text h1 hk).2.2.2.1
 cases k with
 | nil=>rfl
 | cons _ _ _=>simp[Fo.count]at h2;omega
theorem spl_two {en l1 l2:List Nat}{p:Nat}(h:p+l1.length+l2.length≤en.length):spliceL (spliceL en p l1) (p+l1.length) l2=spliceL en p (l1++l2):=by
 have e1:(spliceL en p l1).length=en.length:=spliceL_length (by omega)
 refine List.ext_getElem? fun i=>?_
 rw[spliceL_get (by omega),spliceL_get (by omega),spliceL_get (by simp;omega),List.getElem?_append,List.length_append]
 by_cases a:i<p
 ·rw[if_pos (by omega),if_pos a,if_pos a]
 ·by_cases b:i<p+l1.length
  ·rw[if_pos b,if_neg a,if_pos b,if_neg a,if_pos (by omega),if_pos (by omega)]
  ·by_cases c:i<p+l1.length+l2.length
   ·rw[if_neg b,if_pos c,if_neg a,if_pos (by omega),if_neg (by omega)];congr 1;omega
   ·rw[if_neg b,if_neg c,if_neg a,if_neg b,if_neg a,if_neg (by omega)]
theorem spl_set {en l:List Nat}{p e:Nat}(h:p+1+l.length≤en.length):(spliceL en (p+1) l).set p e=spliceL en p (e::l):=by
  refine List.ext_getElem? fun i=>?_
  rw[List.getElem?_set,spliceL_length (by omega),spliceL_get (by omega),spliceL_get (by simp;omega)]
  by_cases a:p=i
  · subst a;rw[if_pos rfl,if_pos (by omega),if_neg (by omega),if_pos (by simp)];simp
  · rw [if_neg a]
    by_cases b:i<p
    · rw[if_pos (by omega),if_pos b]
    · by_cases c:i<p+1+l.length
      · rw[if_neg (by omega),if_pos c,if_neg b,if_pos (by simp;omega)]
        obtain⟨j,rfl⟩:∃ j,i=p+1+j:=⟨i-(p+1),by omega⟩
        rw[show p+1+j-(p+1)=j by omega,show p+1+j-p=j+1 by omega];simp
      · rw[if_neg (by omega),if_neg c,if_neg b,if_neg (by simp;omega)]
theorem spl_nil (en:List Nat)(p:Nat):spliceL en p []=en:=by simp[spliceL]
def WalkOk (v:List Nd)(d:Nat)(walk:Nat→List Nat→Option Nat×List Nat):Prop:=∀ p en,en.length=v.length →
 ((walk p en).2.length=v.length ∧ ∀ e,(walk p en).1=some e → ∃ n k,(Fo.cons n k .nil).good d 0=true∧v.drop p=n::(k.flat++v.drop e)∧e=p+1+k.size∧e≤v.length∧(walk p en).2=spliceL en p ((Fo.cons n k .nil).ends p)) ∧
 ∀ n k r,(Fo.cons n k .nil).good d 0=true→v.drop p=n::(k.flat++r)→walk p en=(some (p+1+k.size),spliceL en p ((Fo.cons n k .nil).ends p))
theorem drop_at {v:List Nd}{p:Nat}{n:Nd}{r:List Nd}(h:v.drop p=n::r):v[p]? = some n∧v.drop (p+1)=r∧p<v.length:=by
 have h1:v[p]? = some n:=by have:=congrArg (·[0]?) h;simpa using this
 refine⟨h1,?_,(List.getElem?_eq_some_iff.1 h1).1⟩
 have:=congrArg (List.drop 1) h
 rw[List.drop_drop]at this;simpa using this
theorem drop_from {v:List Nd}{p:Nat}{n:Nd}(h:v[p]? = some n):v.drop p=n::v.drop (p+1):=by
 obtain⟨hp,rfl⟩:=List.getElem?_eq_some_iff.1 h
 exact List.drop_eq_getElem_cons hp
theorem drop_more {v a r:List Nd}{p:Nat}(h:v.drop p=a++r):v.drop (p+a.length)=r:=by
 rw[← List.drop_drop,h,List.drop_left]
theorem drop_len {v a r:List Nd}{p:Nat}(h:v.drop p=a++r)(hp:p≤v.length):p+a.length≤v.length:=by
 have:=congrArg List.length h
 simp at this;omega
theorem loop_ok {v:List Nd}{d:Nat}{walk:Nat→List Nat→Option Nat×List Nat}(hw:WalkOk v d walk):∀(c:Nat) (next:Option Nat) (last:Nat) (en:List Nat),en.length=v.length →
  (loopW walk v c next last en).2.length=v.length ∧ ∀ p,next=some p→p≤v.length →
  (∀ e,(loopW walk v c next last en).1=some e → ∃ F:Fo,F.count=c∧F.good d last=true∧v.drop p=F.flat++v.drop e∧e=p+F.size∧e≤v.length∧(loopW walk v c next last en).2=spliceL en p (F.ends p)) ∧
  ∀(F:Fo) (r:List Nd),F.count=c→F.good d last=true→v.drop p=F.flat++r→loopW walk v c next last en=(some (p+F.size),spliceL en p (F.ends p))
 | 0,next,last,en,hl=>by
  refine⟨hl,fun p hp hle=>⟨fun e he=>⟨.nil,rfl,rfl,?_,?_,?_,?_⟩,fun F r hc _ _=>?_⟩⟩
  ·subst hp;simp only[loopW,Option.some.injEq]at he;subst he;rfl
  ·subst hp;simp only[loopW,Option.some.injEq]at he;subst he;rfl
  ·subst hp;simp only[loopW,Option.some.injEq]at he;subst he;exact hle
  ·simp[loopW,Fo.ends,spl_nil]
  ·cases F with
   | nil=>subst hp;simp[loopW,Fo.ends,Fo.size,spl_nil]
   | cons _ _ _=>simp[Fo.count]at hc
 | c+1,none,last,en,hl=>⟨hl,fun p hp=>by cases hp⟩
 | c+1,some q,last,en,hl=>by
  cases hv:v[q]? with
  | none =>
   refine⟨by simpa [loopW,hv] using hl,fun p hp hle=>?_⟩
   cases hp
   refine⟨fun e he=>by simp[loopW,hv]at he,fun F r hc hg hd=>?_⟩
   cases F with
   | nil=>simp[Fo.count]at hc
   | cons n k r' =>
    simp only[Fo.flat,List.cons_append]at hd
    rw[(drop_at hd).1]at hv;cases hv
  | some y =>
   by_cases hb:(last==2&&y.kind==2)=true
   ·refine⟨by simpa [loopW,hv,hb] using hl,fun p hp hle=>?_⟩
    cases hp
    refine⟨fun e he=>by simp[loopW,hv,hb]at he,fun F r hc hg hd=>?_⟩
    cases F with
    | nil=>simp[Fo.count]at hc
    | cons n k r' =>
     simp only[Fo.flat,List.cons_append]at hd
     rw[(drop_at hd).1]at hv;cases hv
     simp only[Bool.and_eq_true,beq_iff_eq]at hb
     exact absurd hb (Fo.good_cons.1 hg).2.2.1
   ·have hb':(last==2&&y.kind==2)=false:=by simpa using hb
    have hu:loopW walk v (c+1) (some q) last en=loopW walk v c (walk q en).1 y.kind (walk q en).2:=by simp[loopW,hv,hb']
    rw[hu]
    obtain⟨⟨w1,w2⟩,w3⟩:=hw q en hl
    obtain⟨i1,i2⟩:=loop_ok hw c (walk q en).1 y.kind (walk q en).2 w1
    refine⟨i1,fun p hp hle=>?_⟩
    cases hp
    refine⟨fun e he=>?_,fun F r hc hg hd=>?_⟩
    ·cases hwq:(walk q en).1 with
     | none =>
      rw[hwq]at he
      cases c<;>simp[loopW]at he
     | some e1 =>
      obtain⟨n,k,g1,g2,g3,g4,g5⟩:=w2 e1 hwq
      obtain⟨i3,_⟩:=i2 e1 hwq g4
      obtain⟨F,f1,f2,f3,f4,f5,f6⟩:=i3 e he
      have hy:n=y:=by rw[(drop_at g2).1]at hv;exact Option.some.inj hv
      subst hy
      obtain⟨k1,k2,k3,k4,k5,k6⟩:=Fo.good_cons.1 g1
      refine⟨.cons n k F,by simp[Fo.count,f1],Fo.good_cons.2 ⟨k1,k2,?_,k4,k5,f2⟩,?_,?_,f5,?_⟩
      ·simpa using hb'
      ·rw[g2,f3];simp[Fo.flat]
      ·simp only[Fo.size];omega
      ·rw[hwq]at f6;rw[f6,g5]
       have hlen:=Fo.ends_length (.cons n k .nil) q
       have hlF:=Fo.ends_length F e1
       have hs:e1=q+((Fo.cons n k .nil).ends q).length:=by rw[hlen];simp[Fo.size];omega
       have:=spl_two (en:=en) (l1:=(Fo.cons n k .nil).ends q) (l2:=F.ends e1) (p:=q) (by omega)
       rw[← hs]at this
       rw[this]
       simp[Fo.ends,g3]
    ·cases F with
     | nil=>simp[Fo.count]at hc
     | cons n k r' =>
      obtain⟨k1,k2,k3,k4,k5,k6⟩:=Fo.good_cons.1 hg
      simp only[Fo.flat,List.cons_append,List.append_assoc]at hd
      have hy:n=y:=by rw[(drop_at hd).1]at hv;exact Option.some.inj hv
      subst hy
      have hwk:=w3 n k (r'.flat++r) (Fo.good_cons.2 ⟨k1,k2,by omega,k4,k5,rfl⟩) hd
      have hd1:v.drop q=(n::k.flat)++(r'.flat++r):=by simpa using hd
      have hle1:=drop_len hd1 hle
      have hd2:=drop_more hd1
      simp only[List.length_cons,Fo.flat_length]at hle1 hd2
      have hq1:q+(k.size+1)=q+1+k.size:=by omega
      rw[hq1]at hd2
      obtain⟨_,i4⟩:=i2 (q+1+k.size) (by rw[hwk]) (by omega)
      have hF:=i4 r' r (by simpa [Fo.count] using hc) k6 hd2
      rw[hF,hwk]
      have hlen:=Fo.ends_length (.cons n k .nil) q
      have hs:q+1+k.size=q+((Fo.cons n k .nil).ends q).length:=by rw[hlen];simp[Fo.size];omega
      have hle2:=drop_len hd2 (by omega)
      rw[Fo.flat_length]at hle2
      have:=spl_two (en:=en) (l1:=(Fo.cons n k .nil).ends q) (l2:=r'.ends (q+1+k.size)) (p:=q) (by rw[Fo.ends_length,Fo.ends_length];simp only[Fo.size];omega)
      rw[← hs]at this
      simp only
      rw[this]
      simp[Fo.ends,Fo.size];omega
theorem endWk_len {p n:Nat}{r:Option Nat×List Nat}(h:r.2.length=n):(endWk p r).2.length=n:=by
 unfold endWk;split<;>simpa using h
theorem node_ok {v:List Nd}{d:Nat}{dz:Bool}{walk:Nat→List Nat→Option Nat×List Nat}(hz:dz=decide (d=0))(hw:d≠0→WalkOk v (d-1) walk)(hw0:∀ p en,(walk p en).2.length=en.length):WalkOk v d (nodeW walk v dz):=by
 have hlen0:∀(c:Nat) (next:Option Nat) (last:Nat) (en:List Nat),(loopW walk v c next last en).2.length=en.length:=by
  intro c
  induction c with
  | zero=>intro next last en;rfl
  | succ c ih =>
   intro next last en
   cases next with
   | none=>rfl
   | some q =>
    cases hv:v[q]? with
    | none=>simp[loopW,hv]
    | some y =>
     by_cases hb:(last==2&&y.kind==2)=true
     ·simp[loopW,hv,hb]
     ·have hb':(last==2&&y.kind==2)=false:=by simpa using hb
      rw[show loopW walk v (c+1) (some q) last en=loopW walk v c (walk q en).1 y.kind (walk q en).2 by simp[loopW,hv,hb'],ih,hw0]
 intro p en hl
 cases hv:v[p]? with
 | none =>
  refine⟨⟨by simpa [nodeW,hv] using hl,fun e he=>by simp[nodeW,hv]at he⟩,fun n k r _ hd=>?_⟩
  rw[(drop_at hd).1]at hv;cases hv
 | some x =>
  have hpl:=(List.getElem?_eq_some_iff.1 hv).1
  by_cases hx:okW x dz=true
  ·have hu:nodeW walk v dz p en=endWk p (loopW walk v x.many.toNat (some (p+1)) 1 en):=by simp[nodeW,hv,hx]
   rw[hu]
   simp only[okW,Bool.and_eq_true,decide_eq_true_eq,Bool.not_eq_true',Bool.and_eq_false_iff,beq_eq_false_iff_ne]at hx
   obtain⟨⟨hm,h0⟩,hkd⟩:=hx
   have hkd':¬(x.kind=1∧d=0):=by
    rintro ⟨e1,e2⟩;rcases hkd with h|h
    ·exact h e1
    ·subst hz;simp[e2]at h
   by_cases hd0:d=0
   ·have hk2:x.kind=2:=by rcases mayN_kind hm with h|h;exact absurd ⟨h,hd0⟩ hkd';exact h
    obtain⟨_,_,_,hm0,_,_⟩:=mayN_text hm hk2
    have hl0:loopW walk v x.many.toNat (some (p+1)) 1 en=(some (p+1),en):=by rw[hm0];rfl
    rw[hl0]
    have hs:en.set p (p+1)=spliceL en p ((Fo.cons x .nil .nil).ends p):=by
     have:=spl_set (en:=en) (l:=[]) (p:=p) (e:=p+1) (by simp;omega)
     rw[spl_nil]at this
     rw[this];simp[Fo.ends,Fo.size]
    refine⟨⟨by simp[endWk];omega,fun e he=>⟨x,.nil,?_,?_,?_,?_,?_⟩⟩,fun n k r hg hd=>?_⟩
    ·exact Fo.good_cons.2 ⟨hm,by simp[Fo.count,hm0],by omega,hkd',rfl,rfl⟩
    ·simp only[endWk,Option.some.injEq]at he;subst he;simp[Fo.flat];exact drop_from hv
    ·simp only[endWk,Option.some.injEq]at he;subst he;simp[Fo.size]
    ·simp only[endWk,Option.some.injEq]at he;subst he;omega
    ·simp only[endWk];exact hs
    ·have hy:n=x:=by rw[(drop_at hd).1]at hv;exact Option.some.inj hv
     subst hy
     have hkn:=Fo.text_leaf hg hk2
     subst hkn
     simp only[endWk,Fo.size,Nat.add_zero];rw[hs]
   ·obtain⟨i1,i2⟩:=loop_ok (hw hd0) x.many.toNat (some (p+1)) 1 en hl
    obtain⟨i3,i4⟩:=i2 (p+1) rfl (by omega)
    refine⟨⟨endWk_len i1,fun e he=>?_⟩,fun n k r hg hd=>?_⟩
    ·cases hq:(loopW walk v x.many.toNat (some (p+1)) 1 en).1 with
     | none=>simp[endWk,hq]at he
     | some e1 =>
      have hee:e1=e:=by simpa [endWk,hq] using he
      subst hee
      obtain⟨F,f1,f2,f3,f4,f5,f6⟩:=i3 e1 hq
      refine⟨x,F,Fo.good_cons.2 ⟨hm,by rw[f1];omega,by omega,hkd',f2,rfl⟩,?_,?_,f5,?_⟩
      ·rw[← f3];exact drop_from hv
      ·omega
      ·simp only[endWk,hq,f6]
       rw[spl_set (by rw[Fo.ends_length];omega)]
       simp[Fo.ends,f4]
    ·have hy:n=x:=by rw[(drop_at hd).1]at hv;exact Option.some.inj hv
     subst hy
     obtain⟨k1,k2,k3,k4,k5,k6⟩:=Fo.good_cons.1 hg
     obtain⟨_,hd1,_⟩:=drop_at hd
     have:=i4 k r (by rw[k2];simp) k5 hd1
     rw[this]
     have hle:=drop_len hd1 (by omega)
     rw[Fo.flat_length]at hle
     simp only[endWk]
     rw[spl_set (by rw[Fo.ends_length];omega)]
     simp[Fo.ends]
  ·have hu:nodeW walk v dz p en=(none,en):=by simp[nodeW,hv,hx]
   rw[hu]
   refine⟨⟨hl,fun e he=>by cases he⟩,fun n k r hg hd=>?_⟩
   have hy:n=x:=by rw[(drop_at hd).1]at hv;exact Option.some.inj hv
   subst hy
   obtain⟨k1,k2,k3,k4,k5,k6⟩:=Fo.good_cons.1 hg
   exfalso;apply hx
   simp only[okW,Bool.and_eq_true,decide_eq_true_eq,Bool.not_eq_true',Bool.and_eq_false_iff,beq_eq_false_iff_ne]
   refine⟨⟨k1,by omega⟩,?_⟩
   subst hz
   by_cases e:n.kind=1
   ·right;simp;omega
   ·left;exact e
theorem loopW_len {walk:Nat→List Nat→Option Nat×List Nat}(hw0:∀ p en,(walk p en).2.length=en.length)(v:List Nd):∀(c:Nat) (next:Option Nat) (last:Nat) (en:List Nat),(loopW walk v c next last en).2.length=en.length
 | 0,_,_,_=>rfl
 | _+1,none,_,_=>rfl
 | c+1,some q,last,en=>by
  cases hv:v[q]? with
  | none=>simp[loopW,hv]
  | some y =>
   by_cases hb:(last==2&&y.kind==2)=true
   ·simp[loopW,hv,hb]
   ·have hb':(last==2&&y.kind==2)=false:=by simpa using hb
    rw[show loopW walk v (c+1) (some q) last en=loopW walk v c (walk q en).1 y.kind (walk q en).2 by simp[loopW,hv,hb'],loopW_len hw0,hw0]
theorem nodeW_len {walk:Nat→List Nat→Option Nat×List Nat}(hw0:∀ p en,(walk p en).2.length=en.length)(v:List Nd)(dz:Bool)(p:Nat)(en:List Nat):(nodeW walk v dz p en).2.length=en.length:=by
 unfold nodeW
 split
 ·rfl
 ·split
  ·exact endWk_len (loopW_len hw0 v _ _ _ _)
  ·rfl
theorem walkW_len (v:List Nd):∀(d p:Nat) (en:List Nat),(walkW v d p en).2.length=en.length
 | 0,p,en=>nodeW_len (fun _ _=>rfl) v true p en
 | d+1,p,en=>nodeW_len (walkW_len v d) v false p en
theorem walk_ok (v:List Nd):∀(d:Nat),WalkOk v d (walkW v d)
 | 0=>node_ok (d:=0) rfl (fun h=>absurd rfl h) (fun _ _=>rfl)
 | d+1=>node_ok (d:=d+1) (by simp) (fun _=>walk_ok v d) (walkW_len v d)
theorem behind_iff {v:List Nd}{en:List Nat} : behindO v=some en ↔ ∃ n k,n.kind=1∧v=n::k.flat∧(Fo.cons n k .nil).good 12 0=true∧v.length≤512∧en=(1+k.size)::k.ends 1:=by
 have hw:=walk_ok v 12 0 (List.replicate v.length 0) (by simp)
 constructor
 ·intro h
  unfold behindO at h
  split at h
  ·cases h
  ·rename_i hc
   simp only[Bool.or_eq_true,decide_eq_true_eq,Bool.not_eq_true',not_or,Bool.not_eq_true,List.isEmpty_eq_false_iff,Nat.not_lt,Bool.not_eq_false,beq_iff_eq,Option.map_eq_some_iff]at hc
   obtain⟨⟨c1,c2⟩,x,c3,c4⟩:=hc
   cases hr:walkW v 12 0 (List.replicate v.length 0) with
   | mk a b =>
    rw[hr]at h hw
    cases a with
    | none=>cases h
    | some e =>
     simp only[finO]at h
     split at h
     ·rename_i he
      cases h
      obtain⟨n,k,h1,h2,h3,h4,h5⟩:=hw.1.2 e rfl
      subst he
      simp only[List.drop_zero,List.drop_length,List.append_nil]at h2
      have hx:x=n:=by rw[h2]at c3;simpa using c3.symm
      subst hx
      refine⟨x,k,c4,h2,h1,c2,?_⟩
      simp only at h5
      have hle:=Fo.ends_length (.cons x k .nil) 0
      have hvl:v.length=k.size+1:=by rw[h2];simp[Fo.flat_length]
      rw[h5]
      unfold spliceL
      rw[hle,List.take_zero,List.drop_of_length_le (by simp[Fo.size];omega)]
      simp[Fo.ends]
     ·cases h
 ·rintro ⟨n,k,h1,h2,h3,h4,rfl⟩
  have hwk:=hw.2 n k [] h3 (by simpa using h2)
  have hvl:v.length=k.size+1:=by rw[h2];simp[Fo.flat_length]
  unfold behindO
  rw[if_neg (by rw[h2];simp[h1];rw[h2]at h4;simpa using h4),hwk]
  simp only[finO]
  rw[if_pos (by omega)]
  have hle:=Fo.ends_length (.cons n k .nil) 0
  unfold spliceL
  rw[hle,List.take_zero,List.drop_of_length_le (by simp[Fo.size];omega)]
  simp[Fo.ends]
def Fo.tops:Fo→Nat→List Nat
 | .nil,_=>[]
 | .cons _ k r,p=>p::r.tops (p+1+k.size)
theorem Fo.tops_length:∀(F:Fo) (p:Nat),(F.tops p).length=F.count
 | .nil,_=>rfl
 | .cons n k r,p=>by simp[Fo.tops,Fo.count,r.tops_length]
def hops (en:List Nat)(stop:Nat):Nat→Nat→List Nat
 | 0,_=>[]
 | f+1,p=>if p<stop then p::hops en stop f (en.getD p 0) else []
theorem ends_up:∀(F:Fo) (b i e:Nat),(F.ends b)[i]? = some e→b+i<e∧e≤b+F.size
 | .nil,b,i,e,h=>by simp[Fo.ends]at h
 | .cons n k r,b,0,e,h=>by simp[Fo.ends]at h;simp only[Fo.size];omega
 | .cons n k r,b,i+1,e,h=>by
  simp only[Fo.ends,List.getElem?_cons_succ,List.getElem?_append,Fo.ends_length]at h
  simp only[Fo.size]
  split at h
  ·have:=ends_up k _ _ _ h;omega
  ·have:=ends_up r _ _ _ h;omega
theorem hops_fuel {en:List Nat}{stop:Nat}(h:∀ i e,i<stop→en[i]? = some e→i<e)(hl:stop≤en.length):∀(f g p:Nat),stop≤p+f→stop≤p+g→hops en stop f p=hops en stop g p
 | 0,0,_,_,_=>rfl
 | 0,g+1,p,h1,_=>by simp only[hops];rw[if_neg (by omega)]
 | f+1,0,p,_,h2=>by simp only[hops];rw[if_neg (by omega)]
 | f+1,g+1,p,h1,h2=>by
  simp only[hops]
  split
  ·rename_i hp
   have he:en[p]? = some (en.getD p 0):=by rw[List.getD_eq_getElem?_getD,List.getElem?_eq_getElem (by omega)];rfl
   have:=h p _ hp he
   rw[hops_fuel h hl f g _ (by omega) (by omega)]
  ·rfl
def hopL (en:List Nat)(stop p:Nat):List Nat:=hops en stop (stop-p) p
theorem hopL_step {en:List Nat}{stop p e:Nat}(h:∀ i e,i<stop→en[i]? = some e→i<e)(hl:stop≤en.length)(hp:p<stop)(he:en[p]? = some e):hopL en stop p=p::hopL en stop e:=by
 unfold hopL
 obtain⟨f,hf⟩:∃ f,stop-p=f+1:=⟨stop-p-1,by omega⟩
 have hpe:=h p e hp he
 rw[hf]
 simp only[hops]
 rw[if_pos hp,List.getD_eq_getElem?_getD,he,Option.getD_some,hops_fuel h hl f (stop-e) e (by omega) (by omega)]
theorem hopL_end {en:List Nat}{stop p:Nat}(hp:¬ p<stop):hopL en stop p=[]:=by
 unfold hopL
 rw[show stop-p=0 by omega];rfl
theorem hops_tops:∀(F:Fo) (en rest:List Nat) (p f:Nat),en.drop p=F.ends p++rest→F.size≤f→hops en (p+F.size) f p=F.tops p
 | .nil,en,rest,p,f,_,_=>by
  cases f with
  | zero=>rfl
  | succ f=>simp[hops,Fo.size,Fo.tops]
 | .cons n k r,en,rest,p,f,h,hf=>by
  cases f with
  | zero=>simp[Fo.size]at hf
  | succ f =>
   have h0:en[p]? = some (p+1+k.size):=by have:=congrArg (·[0]?) h;simpa [Fo.ends] using this
   have h1:en.drop (p+1+k.size)=r.ends (p+1+k.size)++rest:=by
    have:=congrArg (List.drop (1+k.size)) h
    rw[List.drop_drop]at this
    rw[show p+1+k.size=p+(1+k.size) by omega,this]
    simp only[Fo.ends,List.cons_append]
    rw[show 1+k.size=(k.ends (p+1)).length+1 by rw[Fo.ends_length];omega,List.drop_succ_cons,List.append_assoc,List.drop_left]
    rw[show p+((k.ends (p+1)).length+1)=p+1+k.size by rw[Fo.ends_length];omega]
   simp only[Fo.size]at hf
   simp only[hops,Fo.tops]
   rw[if_pos (by simp only[Fo.size];omega),List.getD_eq_getElem?_getD,h0,Option.getD_some]
   have:=hops_tops r en rest (p+1+k.size) f h1 (by omega)
   rw[show p+(Fo.cons n k r).size=p+1+k.size+r.size by simp only[Fo.size];omega,this]
theorem hopL_tops {F:Fo}{en rest:List Nat}{p:Nat}(h:en.drop p=F.ends p++rest):hopL en (p+F.size) p=F.tops p:=by
 unfold hopL
 exact hops_tops F en rest p _ h (by omega)
def Fo.sub:Fo→Nat→Option (Nd×Fo)
 | .nil,_=>none
 | .cons n k _,0=>some (n,k)
 | .cons _ k r,i+1=>if i<k.size then k.sub i else r.sub (i-k.size)
theorem Fo.good_all:∀ {F:Fo} {d last:Nat},F.good d last=true → ∀ x∈F.flat,mayN x=true∧0≤x.many∧x.many≤F.size
 | .nil,_,_,_,x,hx=>by simp[Fo.flat]at hx
 | .cons n k r,d,last,h,x,hx=>by
  obtain⟨h1,h2,h3,h4,h5,h6⟩:=Fo.good_cons.1 h
  simp only[Fo.size]
  have hc:∀(F:Fo),F.count≤F.size:=by
   intro F
   induction F with
   | nil=>exact Nat.le_refl _
   | cons n k r _ ih=>simp only[Fo.count,Fo.size];omega
  simp only[Fo.flat,Lk,List.mem_append]at hx
  rcases hx with rfl|hx|hx
  ·have:=hc k;exact⟨h1,by omega,by omega⟩
  ·obtain⟨a,b,c⟩:=Fo.good_all h5 x hx;exact⟨a,b,by omega⟩
  ·obtain⟨a,b,c⟩:=Fo.good_all h6 x hx;exact⟨a,b,by omega⟩
def pairsL (l:List At):List Pr:=l.map fun a=>⟨a.name,a.value⟩
def Fo.toks:Fo→List Tk
 | .nil=>[]
 | .cons n k r=>(if n.kind=2 then [⟨4,[],[],n.text⟩] else if n.many=0 then [⟨3,n.name,pairsL n.attrs,[]⟩] else ⟨1,n.name,pairsL n.attrs,[]⟩::(k.toks++[⟨2,n.name,[],[]⟩]))++r.toks
def spacedN (n:Nd):Bool:=!n.space.isEmpty||n.attrs.any fun a=>!a.space.isEmpty
def spacedL (v:List Nd):Bool:=v.any spacedN
theorem given_pairs {l:List At}(h:(l.any fun a=>!a.space.isEmpty)=false):givenL (pairsL l)=l:=by
 unfold givenL pairsL
 rw[List.map_map]
 refine(List.map_congr_left (fun a ha=>?_)).trans (List.map_id l)
 have:a.space=[]:=by
  have:=List.any_eq_false.1 h a ha
  simpa using this
 cases a;simp at this;simp[this]
theorem given_unspaced (l:List Pr):((givenL l).any fun a=>!a.space.isEmpty)=false:=by
 rw[List.any_eq_false];intro a ha;unfold givenL at ha;simp at ha;obtain⟨b,_,rfl⟩:=ha;simp
theorem ptsErr_nil:ptsErr []=0:=by decide
theorem ats_given (l:List Pr):atsL (givenL l)=attrsL l:=by
 unfold atsL attrsL
 have h1:(givenL l).length=l.length:=by simp[givenL]
 rw[h1]
 congr 1
 unfold givenL
 rw[List.zipIdx_map,List.all_map]
 refine congrArg (List.all _) (funext fun p=>?_)
 simp only[Function.comp,okA,okP,Prod.map,id_eq,← List.map_take,List.any_map,ptsErr_nil,decide_true,Bool.and_true,beq_self_eq_true,Bool.true_and]
 rfl
theorem ats_pairs {l:List At}(h:(l.any fun a=>!a.space.isEmpty)=false):attrsL (pairsL l)=atsL l:=by
 rw[← ats_given,given_pairs h]
theorem Fo.toks_length:∀ {F:Fo} {d last:Nat},F.good d last=true→F.toks.length=F.size+(F.flat.filter fun n=>decide (0<n.many)).length
 | .nil,_,_,_=>rfl
 | .cons n k r,d,last,h=>by
  obtain⟨h1,h2,h3,h4,h5,h6⟩:=Fo.good_cons.1 h
  have ik:=Fo.toks_length h5
  have ir:=Fo.toks_length h6
  simp only[Fo.toks,Fo.size,Fo.flat,List.filter_cons,List.filter_append,List.length_append]
  by_cases hk:n.kind=2
  ·have hm:=(mayN_text h1 hk).2.2.2.1
   have hkn:=Fo.text_leaf h hk
   subst hkn
   rw[if_pos hk,if_neg (by rw[hm];decide)]
   simp[Fo.size,Fo.flat,ir];omega
  ·by_cases hm:n.many=0
   ·have hkn:k = .nil:=by
     cases k with
     | nil=>rfl
     | cons _ _ _=>simp[Fo.count]at h2;omega
    subst hkn
    rw[if_neg hk,if_pos hm,if_neg (by rw[hm];decide)]
    simp[Fo.size,Fo.flat,ir];omega
   ·rw[if_neg hk,if_neg hm,if_pos (by rw[decide_eq_true_eq];omega)]
    simp[ir,ik];omega
theorem Fo.size_toks:∀ {F:Fo} {d last:Nat},F.good d last=true→F.size≤F.toks.length:=fun h=>by rw[Fo.toks_length h];omega
theorem Fo.toks_app:∀(F G:Fo),(F.app G).toks=F.toks++G.toks
 | .nil,_=>rfl
 | .cons n k r,g=>by simp[Fo.app,Fo.toks,r.toks_app]
theorem Fo.toks_ok:∀ {F:Fo} {d last:Nat},F.good d last=true→spacedL F.flat=false → ∀ t∈F.toks,tokL t=true
 | .nil,_,_,_,_,t,ht=>by simp[Fo.toks]at ht
 | .cons n k r,d,last,h,hs,t,ht=>by
  obtain⟨h1,h2,h3,h4,h5,h6⟩:=Fo.good_cons.1 h
  simp only[spacedL,Fo.flat,List.any_cons,List.any_append,Bool.or_eq_false_iff]at hs
  obtain⟨s1,s2,s3⟩:=hs
  simp only[spacedN,Bool.or_eq_false_iff]at s1
  simp only[Fo.toks,List.mem_append]at ht
  rcases ht with ht|ht
  ·split at ht
   ·rename_i hk
    obtain⟨_,_,_,_,e5,e6⟩:=mayN_text h1 hk
    simp only[List.mem_singleton]at ht;subst ht
    unfold tokL
    rw[if_neg (by simp),if_neg (by simp),if_pos rfl]
    simp[e5,e6]
   ·rename_i hk
    have hk1:n.kind=1:=by rcases mayN_kind h1 with h|h;exact h;exact absurd h hk
    obtain⟨e1,e2,e3,e4⟩:=mayN_elem h1 hk1
    have ea:=ats_pairs s1.2
    split at ht
    ·simp only[List.mem_singleton]at ht;subst ht
     unfold tokL
     rw[if_pos (by simp)]
     simp[e2,ea,e4]
    ·simp only[Lk,List.mem_append,Ln,or_false]at ht
     rcases ht with rfl|ht|rfl
     ·unfold tokL
      rw[if_pos (by simp)]
      simp[e2,ea,e4]
     ·exact Fo.toks_ok h5 s2 t ht
     ·unfold tokL
      rw[if_neg (by simp),if_pos rfl]
      simp[e2]
  ·exact Fo.toks_ok h6 s3 t ht
def Nd.addM (n:Nd)(c:Nat):Nd:={ n with many:=n.many+c }
theorem addM_zero (n:Nd):n.addM 0=n:=by simp[Nd.addM]
theorem addM_inc (n:Nd)(c:Nat):n.inc.addM c=n.addM (c+1):=by simp[Nd.addM,Nd.inc];omega
theorem incG_mid (a b:List Nd)(x:Nd)(o:List Nat):incG (a++x::b) (o++[a.length])=a++x.inc::b:=by
 rw[incG_last (k:=a.length) (by simp),set_modify (x:=x) (by simp)]
 simp
theorem lastName_mid (a b:List Nd)(x:Nd)(o:List Nat):lastName ⟨a++x::b,o++[a.length]⟩=some x.name:=by
 simp[lastName]
theorem goG_toks:∀(F:Fo) (d last:Nat) (a b:List Nd) (x:Nd) (o:List Nat) (r:List Tk),F.good d last=true→spacedL F.flat=false→o.length+1+d≤12 →
  goG ⟨a++x::b,o++[a.length]⟩ (last==2) (F.toks++r)=goG ⟨a++x.addM F.count::(b++F.flat),o++[a.length]⟩ (F.lastK last==2) r
 | .nil,d,last,a,b,x,o,r,_,_,_=>by simp[Fo.toks,Fo.count,addM_zero,Fo.flat,Fo.lastK]
 | .cons n k R,d,last,a,b,x,o,r,h,hs,hd=>by
  obtain⟨h1,h2,h3,h4,h5,h6⟩:=Fo.good_cons.1 h
  simp only[spacedL,Fo.flat,List.any_cons,List.any_append,Bool.or_eq_false_iff]at hs
  obtain⟨s1,s2,s3⟩:=hs
  simp only[spacedN,Bool.or_eq_false_iff,Bool.not_eq_eq_eq_not,Bf,List.isEmpty_iff]at s1
  have key:∀(b':List Nd) (x':Nd),goG ⟨a++x'::b',o++[a.length]⟩ (n.kind==2) (R.toks++r)=goG ⟨a++x'.addM R.count::(b'++R.flat),o++[a.length]⟩ (R.lastK n.kind==2) r:=fun b' x'=>goG_toks R d n.kind a b' x' o r h6 s3 hd
  have hone:(o++[a.length]).isEmpty=false:=by simp
  by_cases hk:n.kind=2
  ·obtain⟨e1,e2,e3,e4,e5,e6⟩:=mayN_text h1 hk
   have hkn:=Fo.text_leaf h hk
   subst hkn
   have hlast:(last==2)=false:=by simp;omega
   have hn:n=textN n.text:=by cases n;simp only[textN]at *;subst_vars;rfl
   have hst:stepG ⟨a++x::b,o++[a.length]⟩ ⟨4,[],[],n.text⟩ (last==2)=(⟨a++x.inc::(b++[n]),o++[a.length]⟩,0):=by
    unfold stepG
    rw[if_pos rfl,if_neg (by simp[hlast]),if_neg (by simp)]
    simp only[addG]
    rw[incG_mid,← hn];simp
   simp only[Fo.toks,if_pos hk,List.cons_append,List.nil_append]
   rw[goG_take rfl (by rw[hst]),hst]
   have hk4:((⟨4,[],[],n.text⟩:Tk).kind==4)=(n.kind==2):=by simp[hk]
   rw[hk4]
   simp only
   rw[key,addM_inc]
   simp[Fo.count,Fo.flat,Fo.lastK]
  ·have hk1:n.kind=1:=by rcases mayN_kind h1 with h|h;exact h;exact absurd h hk
   obtain⟨e1,e2,e3,e4⟩:=mayN_elem h1 hk1
   have hd0:d≠0:=fun e=>h4 ⟨hk1,e⟩
   have hg:=given_pairs s1.2
   have hol:(o++[a.length]).length=o.length+1:=by simp
   have hel:∀(c:Nat),elemN ⟨c,n.name,pairsL n.attrs,[]⟩ = { n with many:=0 }:=by
    intro c;unfold elemN;rw[hg];cases n;simp at *;simp[*]
   by_cases hm:n.many=0
   ·have hkn:k = .nil:=by
     cases k with
     | nil=>rfl
     | cons _ _ _=>simp[Fo.count]at h2;omega
    subst hkn
    have hn0:{ n with many:=0 } = n:=by cases n;simp at hm;simp[hm]
    have hst:stepG ⟨a++x::b,o++[a.length]⟩ ⟨3,n.name,pairsL n.attrs,[]⟩ (last==2)=(⟨a++x.inc::(b++[n]),o++[a.length]⟩,0):=by
     unfold stepG
     rw[if_neg (by simp),if_neg (by simp),if_neg (by simp),if_neg (by simp;omega)]
     simp only[addG]
     rw[incG_mid,hel,hn0];simp
    simp only[Fo.toks,if_neg hk,if_pos hm,List.cons_append,List.nil_append]
    rw[goG_take rfl (by rw[hst]),hst]
    have hk4:((⟨3,n.name,pairsL n.attrs,[]⟩:Tk).kind==4)=(n.kind==2):=by simp[hk1]
    rw[hk4]
    simp only
    rw[key,addM_inc]
    simp[Fo.count,Fo.flat,Fo.lastK]
   ·have hst:stepG ⟨a++x::b,o++[a.length]⟩ ⟨1,n.name,pairsL n.attrs,[]⟩ (last==2)=(⟨(a++x.inc::b) ++ { n with many:=0 } :: [],(o++[a.length])++[(a++x.inc::b).length]⟩,0):=by
     unfold stepG
     rw[if_neg (by simp),if_neg (by simp),if_neg (by simp),if_neg (by simp;omega)]
     simp only[addG]
     rw[incG_mid,hel];simp
    simp only[Fo.toks,if_neg hk,if_neg hm,List.cons_append,List.append_assoc,List.nil_append]
    rw[goG_take rfl (by rw[hst]),hst]
    simp only
    rw[show((1:Nat)==4)=((1:Nat)==2) by decide]
    have hin:=goG_toks k (d-1) 1 (a++x.inc::b) [] { n with many:=0 } (o++[a.length]) (⟨2,n.name,[],[]⟩::(R.toks++r)) h5 s2 (by simp;omega)
    rw[hin]
    have hnm:({ n with many:=0 } : Nd).addM k.count=n:=by cases n;simp at h2;simp[Nd.addM,h2]
    rw[hnm,List.nil_append]
    have hst2:∀ tx,stepG ⟨(a++x.inc::b)++n::k.flat,(o++[a.length])++[(a++x.inc::b).length]⟩ ⟨2,n.name,[],[]⟩ tx=(⟨a++x.inc::(b++n::k.flat),o++[a.length]⟩,0):=by
     intro tx
     unfold stepG
     rw[if_neg (by simp),if_pos rfl,if_pos (lastName_mid _ _ _ _)]
     rw[List.dropLast_concat]
     simp only[List.append_assoc,List.cons_append]
    rw[goG_take rfl (by rw[hst2]),hst2]
    simp only
    rw[show((2:Nat)==4)=(n.kind==2) by rw[hk1];rfl,key,addM_inc]
    simp[Fo.count,Fo.flat,Fo.lastK]
theorem parse_toks {n:Nd}{k:Fo}(hk1:n.kind=1)(h:(Fo.cons n k .nil).good 12 0=true)(hs:spacedL (n::k.flat)=false)(hl:(Fo.cons n k .nil).toks.length≤512):parseE (Fo.cons n k .nil).toks=0∧parseT (Fo.cons n k .nil).toks=n::k.flat:=by
 obtain⟨h1,h2,h3,h4,h5,h6⟩:=Fo.good_cons.1 h
 have hok:=Fo.toks_ok h (by simpa [Fo.flat] using hs)
 simp only[spacedL,List.any_cons,Bool.or_eq_false_iff]at hs
 obtain⟨s1,s2⟩:=hs
 simp only[spacedN,Bool.or_eq_false_iff,Bool.not_eq_eq_eq_not,Bf,List.isEmpty_iff]at s1
 obtain⟨e1,e2,e3,e4⟩:=mayN_elem h1 hk1
 have hg:=given_pairs s1.2
 have hel:∀(c:Nat),elemN ⟨c,n.name,pairsL n.attrs,[]⟩ = { n with many:=0 }:=by
  intro c;unfold elemN;rw[hg];cases n;simp at *;simp[*]
 have hgo:goG ⟨[],[]⟩ false (Fo.cons n k .nil).toks=(⟨n::k.flat,[]⟩,0):=by
  by_cases hm:n.many=0
  ·have hkn:k = .nil:=by
    cases k with
    | nil=>rfl
    | cons _ _ _=>simp[Fo.count]at h2;omega
   subst hkn
   have hn0:{ n with many:=0 } = n:=by cases n;simp at hm;simp[hm]
   have hst:stepG ⟨[],[]⟩ ⟨3,n.name,pairsL n.attrs,[]⟩ false=(⟨[n],[]⟩,0):=by
    unfold stepG
    rw[if_neg (by simp),if_neg (by simp),if_neg (by simp),if_neg (by simp)]
    simp only[addG]
    rw[incG_nil,hel,hn0];rfl
   simp only[Fo.toks,if_neg (show ¬ n.kind=2 by omega),if_pos hm,List.append_nil]
   rw[goG_take rfl (by rw[hst]),hst,goG_nil];simp[Fo.flat]
  ·have hst:stepG ⟨[],[]⟩ ⟨1,n.name,pairsL n.attrs,[]⟩ false=(⟨[] ++ { n with many:=0 } :: [],[]++[([]:List Nd).length]⟩,0):=by
    unfold stepG
    rw[if_neg (by simp),if_neg (by simp),if_neg (by simp),if_neg (by simp)]
    simp only[addG]
    rw[incG_nil,hel];rfl
   simp only[Fo.toks,if_neg (show ¬ n.kind=2 by omega),if_neg hm,List.append_nil]
   rw[goG_take rfl (by rw[hst]),hst]
   simp only
   rw[show((1:Nat)==4)=((1:Nat)==2) by decide]
   have hin:=goG_toks k 11 1 [] [] { n with many:=0 } [] [⟨2,n.name,[],[]⟩] h5 (by simpa [spacedL] using s2) (by simp)
   rw[hin]
   have hnm:({ n with many:=0 } : Nd).addM k.count=n:=by cases n;simp at h2;simp[Nd.addM,h2]
   rw[hnm,List.nil_append,List.nil_append]
   have hst2:∀ tx,stepG ⟨n::k.flat,[]++[([]:List Nd).length]⟩ ⟨2,n.name,[],[]⟩ tx=(⟨n::k.flat,[]⟩,0):=by
    intro tx
    unfold stepG
    rw[if_neg (by simp),if_pos rfl,if_pos (show lastName ⟨n::k.flat,[]++[([]:List Nd).length]⟩=some n.name from lastName_mid [] k.flat n [])]
    simp
   rw[goG_take rfl (by rw[hst2]),hst2,goG_nil]
 have ha:((Fo.cons n k .nil).toks.any fun t=>!tokL t)=false:=by
  rw[List.any_eq_false];intro t ht;simp[hok t ht]
 have hE:parseE (Fo.cons n k .nil).toks=0:=by
  unfold parseE
  rw[if_neg (by omega),if_neg (by rw[ha];decide),hgo,if_neg (by simp),if_neg (by simp)]
 refine⟨hE,?_⟩
 unfold parseT
 rw[if_pos hE,hgo]
def outV:List (Nd×Fo)→List Nd
 | []=>[]
 |(n,F)::S=>outV S++n.addM (F.count+1)::F.flat
def inV:List (Nd×Fo)→List Nd
 | []=>[]
 |(n,F)::S=>outV S++n.addM F.count::F.flat
def opnS:List (Nd×Fo)→List Nat
 | []=>[]
 |(_,_)::S=>opnS S++[(outV S).length]
def goodS:List (Nd×Fo)→Prop
 | []=>True
 |(n,F)::S=>mayN n=true∧n.kind=1∧n.many=0∧spacedN n=false∧spacedL F.flat=false∧S.length<12∧F.good (12-(S.length+1)) 1=true∧goodS S
def toksS:List (Nd×Fo)→Nat
 | []=>0
 |(_,F)::S=>F.toks.length+1+toksS S
theorem opnS_length:∀ S,(opnS S).length=S.length
 | []=>rfl
 |(_,_)::S=>by simp[opnS,opnS_length S]
theorem mayN_add {n:Nd}(h:n.kind=1)(c:Nat):mayN (n.addM c)=mayN n:=by
 unfold mayN Nd.addM;rw[if_neg (by simp;omega),if_neg (by omega)]
theorem spacedN_add (n:Nd)(c:Nat):spacedN (n.addM c)=spacedN n:=rfl
theorem spaced_app (a b:List Nd):spacedL (a++b)=(spacedL a||spacedL b):=by simp[spacedL]
def Way (g:Gr)(txt:Bool)(c:Nat):Prop :=
 (g.v=[]∧g.opn=[]) ∨
 (∃ n k,g.opn=[]∧n.kind=1∧g.v=n::k.flat∧(Fo.cons n k .nil).good 12 0=true∧spacedL (n::k.flat)=false∧(Fo.cons n k .nil).toks.length≤c) ∨
 ∃ m F S,g.v=inV ((m,F)::S)∧g.opn=opnS ((m,F)::S)∧goodS ((m,F)::S)∧txt=(F.lastK 1==2)∧toksS ((m,F)::S)≤c
theorem elem_may {t:Tk}(ht:tokL t=true)(hk:t.kind=1∨t.kind=3):mayN (elemN t)=true∧spacedN (elemN t)=false:=by
 unfold tokL at ht
 rw[if_pos hk]at ht
 simp only[Bool.and_eq_true]at ht
 obtain⟨⟨h1,h2⟩,h3⟩:=ht
 constructor
 ·unfold mayN elemN
  rw[if_neg (by simp)]
  simp[h1,ptsErr_nil,ats_given,h2]
 ·unfold spacedN elemN
  simp only[given_unspaced];rfl
theorem text_may {t:Tk}(ht:tokL t=true)(hk:t.kind=4):mayN (textN t.text)=true:=by
 unfold tokL at ht
 rw[if_neg (by omega),if_neg (by omega),if_pos hk]at ht
 simp only[Bool.and_eq_true,decide_eq_true_eq,Bool.not_eq_true']at ht
 unfold mayN textN
 simp[ht.1.2,ht.2]
theorem way_step {g g':Gr}{txt:Bool}{c:Nat}{t:Tk}(h:Way g txt c)(ht:tokL t=true)(hs:stepG g t txt=(g',0)):Way g' (t.kind==4) (c+1):=by
 obtain⟨v,o⟩:=g
 rcases h with ⟨h1,h2⟩|⟨n,k,h1,h2,h3,h4,h5,h6⟩|⟨m,F,S,h1,h2,h3,h4,h5⟩
 ·simp only at h1 h2;subst h1;subst h2
  by_cases k4:t.kind=4
  ·unfold stepG at hs
   rw[if_pos k4]at hs
   split at hs
   ·cases hs
   ·rw[if_pos (by rfl)]at hs
    cases hs
    exact .inl ⟨rfl,rfl⟩
  ·by_cases k2:t.kind=2
   ·unfold stepG at hs
    rw[if_neg k4,if_pos k2,if_neg (by simp[lastName])]at hs
    cases hs
   ·have hk:t.kind=1∨t.kind=3:=by
     unfold tokL at ht
     split at ht
     ·assumption
     ·simp[k2,k4]at ht
    obtain⟨m1,m2⟩:=elem_may ht hk
    unfold stepG at hs
    rw[if_neg k4,if_neg k2,if_neg (by simp),if_neg (by simp)]at hs
    have hb:(t.kind==4)=false:=by simpa using k4
    simp only[Prod.mk.injEq,and_true]at hs
    subst hs
    simp only[addG,incG_nil,List.nil_append]
    rcases hk with hk|hk
    ·right;right
     refine⟨elemN t,.nil,[],?_,?_,⟨m1,rfl,rfl,m2,rfl,by simp,rfl,trivial⟩,by rw[hb];rfl,by simp[toksS,Fo.toks]⟩
     ·simp[inV,outV,Fo.flat,Fo.count,addM_zero]
     ·simp[opnS,outV,hk]
    ·right;left
     refine⟨elemN t,.nil,by simp[hk],rfl,rfl,Fo.good_cons.2 ⟨m1,rfl,by omega,by omega,rfl,rfl⟩,by simpa [spacedL,Fo.flat] using m2,?_⟩
     simp[Fo.toks,elemN]
 ·simp only at h1;subst h1
  have hv0:v.isEmpty=false:=by simp only at h3;rw[h3];rfl
  by_cases k4:t.kind=4
  ·unfold stepG at hs
   rw[if_pos k4]at hs
   split at hs
   ·cases hs
   ·rw[if_pos (by rfl)]at hs
    cases hs
    exact .inr (.inl ⟨n,k,rfl,h2,h3,h4,h5,by omega⟩)
  ·by_cases k2:t.kind=2
   ·unfold stepG at hs
    rw[if_neg k4,if_pos k2,if_neg (by simp[lastName])]at hs
    cases hs
   ·unfold stepG at hs
    rw[if_neg k4,if_neg k2,if_pos (by simp[hv0])]at hs
    cases hs
 ·simp only at h1 h2;subst h1;subst h2
  obtain⟨g1,g2,g3,g4,g5,g6,g7,g8⟩:=h3
  have hne:(opnS ((m,F)::S)).isEmpty=false:=by simp[opnS]
  have hol:(opnS ((m,F)::S)).length=S.length+1:=by rw[opnS_length];rfl
  have hinc:incG (inV ((m,F)::S)) (opnS ((m,F)::S))=outV S++m.addM (F.count+1)::F.flat:=by
   simp only[inV,opnS]
   rw[incG_mid];simp[Nd.addM,Nd.inc];omega
  have happ:∀(x:Nd) (k:Fo),mayN x=true→x.many=(k.count:Int) → ¬(F.lastK 1=2∧x.kind=2) → ¬(x.kind=1∧12-(S.length+1)=0)→k.good (12-(S.length+1)-1) 1=true→(F.app (.cons x k .nil)).good (12-(S.length+1)) 1=true:=by
   intro x k a1 a2 a3 a4 a5
   rw[Fo.app_good,g7,Bool.true_and]
   exact Fo.good_cons.2 ⟨a1,a2,a3,a4,a5,rfl⟩
  by_cases k4:t.kind=4
  ·unfold stepG at hs
   rw[if_pos k4]at hs
   split at hs
   ·cases hs
   ·rename_i hc
    rw[hne]at hs
    rw[if_neg (by simp)]at hs
    cases hs
    simp only[hne,Bool.false_and,Bool.or_false,Bool.not_eq_true]at hc
    have hl2:¬ F.lastK 1=2:=by rw[h4]at hc;simpa using hc
    right;right
    refine⟨m,F.app (.cons (textN t.text) .nil .nil),S,?_,by simp[opnS],⟨g1,g2,g3,g4,?_,g6,?_,g8⟩,?_,?_⟩
    ·simp only[addG,hinc]
     simp[inV,Fo.app_count,Fo.app_flat,Fo.count,Fo.flat]
    ·rw[Fo.app_flat,spaced_app,g5];rfl
    ·exact happ _ _ (text_may ht k4) rfl (fun e=>hl2 e.1) (by simp[textN]) rfl
    ·rw[Fo.app_last,k4];rfl
    ·simp only[toksS,Fo.toks_app]at h5 ⊢
     simp[Fo.toks,textN];omega
  ·have hb:(t.kind==4)=false:=by simpa using k4
   by_cases k2:t.kind=2
   ·unfold stepG at hs
    rw[if_neg k4,if_pos k2]at hs
    split at hs
    ·rename_i hln
     simp only[Prod.mk.injEq,and_true]at hs
     subst hs
     rw[hb]
     have hn1:(m.addM F.count).kind=1:=g2
     have hm1:mayN (m.addM F.count)=true:=by rw[mayN_add g2];exact g1
     have hmany:(m.addM F.count).many=(F.count:Int):=by simp[Nd.addM,g3]
     have htk:(Fo.cons (m.addM F.count) F .nil).toks.length≤F.toks.length+2:=by
      simp only[Fo.toks]
      rw[if_neg (by rw[hn1];decide)]
      split<;>simp
     cases S with
     | nil =>
      right;left
      refine⟨m.addM F.count,F,by simp[opnS],g2,by simp[inV,outV],Fo.good_cons.2 ⟨hm1,hmany,by omega,by simp,g7,rfl⟩,?_,?_⟩
      ·simp only[spacedL,List.any_cons,Bool.or_eq_false_iff]at g5 ⊢
       exact⟨g4,g5⟩
      ·simp only[toksS]at h5;omega
     | cons f2 S2 =>
      obtain⟨m2,F2⟩:=f2
      obtain⟨q1,q2,q3,q4,q5,q6,q7,q8⟩:=g8
      simp only[List.length_cons]at g6 g7 q6 q7
      right;right
      refine⟨m2,F2.app (.cons (m.addM F.count) F .nil),S2,?_,by simp[opnS],⟨q1,q2,q3,q4,?_,q6,?_,q8⟩,?_,?_⟩
      ·simp[inV,outV,Fo.app_count,Fo.app_flat,Fo.count,Fo.flat]
      ·rw[Fo.app_flat,spaced_app,q5]
       simp only[Fo.flat,List.append_nil,spacedL,List.any_cons]at g5 ⊢
       simp only[spacedN_add,g4,g5,Bool.or_false]
      ·rw[Fo.app_good,q7,Bool.true_and]
       refine Fo.good_cons.2 ⟨hm1,hmany,by omega,by omega,?_,rfl⟩
       rw[show 12-(S2.length+1)-1=12-(S2.length+1+1) by omega];exact g7
      ·rw[Fo.app_last];simp[Fo.lastK,hn1]
      ·simp only[toksS,Fo.toks_app,List.length_append]at h5 ⊢
       omega
    ·cases hs
   ·have hk:t.kind=1∨t.kind=3:=by
     unfold tokL at ht
     split at ht
     ·assumption
     ·simp[k2,k4]at ht
    obtain⟨m1,m2⟩:=elem_may ht hk
    unfold stepG at hs
    rw[if_neg k4,if_neg k2,if_neg (by simp[hne])]at hs
    split at hs
    ·cases hs
    ·rename_i h12
     simp only[Prod.mk.injEq,and_true]at hs
     subst hs
     rw[hb]
     right;right
     rcases hk with hk|hk
     ·refine⟨elemN t,.nil,(m,F)::S,?_,?_,⟨m1,rfl,rfl,m2,rfl,by rw[hol]at h12;simp;omega,rfl,g1,g2,g3,g4,g5,g6,g7,g8⟩,rfl,?_⟩
      ·simp only[addG,hinc]
       simp[inV,outV,Fo.flat,Fo.count,addM_zero]
      ·rw[if_pos hk]
       simp[opnS,inV,outV]
      ·simp only[toksS]at h5 ⊢;simp[Fo.toks];omega
     ·refine⟨m,F.app (.cons (elemN t) .nil .nil),S,?_,?_,⟨g1,g2,g3,g4,?_,g6,?_,g8⟩,?_,?_⟩
      ·simp only[addG,hinc]
       simp[inV,Fo.app_count,Fo.app_flat,Fo.count,Fo.flat]
      ·rw[if_neg (by omega)];simp[opnS]
      ·rw[Fo.app_flat,spaced_app,g5]
       simpa [Fo.flat,spacedL] using m2
      ·exact happ _ _ m1 rfl (fun e=>by have:=e.2;simp[elemN]at this) (fun e=>by rw[hol]at h12;omega) rfl
      ·rw[Fo.app_last];simp[Fo.lastK,elemN]
      ·simp only[toksS,Fo.toks_app]at h5 ⊢
       simp[Fo.toks,elemN];omega
theorem way_go:∀(l:List Tk) (g g':Gr) (txt:Bool) (c:Nat),Way g txt c→(∀ t∈l,tokL t=true)→goG g txt l=(g',0) → ∃ tx,Way g' tx (c+l.length)
 | [],g,g',txt,c,h,_,hg=>by
  rw[goG_nil]at hg;cases hg
  exact⟨txt,h⟩
 | t::r,g,g',txt,c,h,hl,hg=>by
  by_cases h0:(stepG g t txt).2=0
  ·rw[goG_take rfl h0]at hg
   have hst:stepG g t txt=((stepG g t txt).1,0):=by rw[← h0]
   obtain⟨tx,hw⟩:=way_go r _ g' _ _ (way_step h (hl t (.head _)) hst) (fun x hx=>hl x (.tail _ hx)) hg
   exact⟨tx,by rw[show c+(t::r).length=c+1+r.length by simp;omega];exact hw⟩
  ·rw[goG_err h0]at hg
   rw[hg]at h0;exact absurd rfl h0
theorem parse_good {l:List Tk}(h:parseE l=0):∃ n k,n.kind=1∧parseT l=n::k.flat∧(Fo.cons n k .nil).good 12 0=true∧spacedL (n::k.flat)=false∧(Fo.cons n k .nil).toks.length≤l.length∧l.length≤512:=by
 have hT:parseT l=(goG ⟨[],[]⟩ false l).1.v:=by unfold parseT;rw[if_pos h]
 unfold parseE at h
 split at h
 ·cases h
 ·rename_i h1
  split at h
  ·cases h
  ·rename_i h2
   split at h
   ·rename_i h3;exact absurd h h3
   ·rename_i h3
    split at h
    ·cases h
    ·rename_i h4
     have hok:∀ t∈l,tokL t=true:=by
      intro t ht
      have:=List.any_eq_false.1 (Bool.eq_false_iff.2 h2) t ht
      simpa using this
     have h3':(goG ⟨[],[]⟩ false l).2=0:=by simpa using h3
     obtain⟨tx,hw⟩:=way_go l ⟨[],[]⟩ (goG ⟨[],[]⟩ false l).1 false 0 (.inl ⟨rfl,rfl⟩) hok (by rw[← h3'])
     rw[hT]
     simp only[not_or,Bool.not_eq_true,Bool.not_eq_false,List.isEmpty_iff,List.isEmpty_eq_false_iff]at h4
     obtain⟨h4,h5⟩:=h4
     rcases hw with ⟨e1,_⟩|⟨n,k,e1,e2,e3,e4,e5,e6⟩|⟨m,F,S,_,e2,_⟩
     ·exact absurd e1 h4
     ·exact⟨n,k,e2,e3,e4,e5,by omega,by omega⟩
     ·rw[e2]at h5;simp[opnS]at h5
def txtPart (v:List Nd):Bool:=match v with
 | [x]=>decide (x.kind=2)&&mayN x
 | _=>false
def partBad (v:List Nd):Bool:=!txtPart v&&(behindO v).isNone
def Nd.to (n:Nd)(m:Int):Nd:={ n with many:=m }
def putEr (n:Nd)(l:List (List Nd)):Int :=
 if (behindO [n.to 0]).isNone=true then 8 else if l.any partBad=true then 8 else if 512<1+(l.map List.length).sum then 4
 else if (behindO (n.to l.length::l.flatten)).isNone=true then 8 else 0
def putTr (n:Nd)(l:List (List Nd)):List Nd:=if putEr n l=0 then n.to l.length::l.flatten else []
def Fo.parts:Fo→List (List Nd)
 | .nil=>[]
 | .cons n k r=>(n::k.flat)::r.parts
theorem Fo.parts_flat:∀(F:Fo),F.parts.flatten=F.flat
 | .nil=>rfl
 | .cons n k r=>by simp[Fo.parts,Fo.flat,r.parts_flat]
theorem Fo.parts_length:∀(F:Fo),F.parts.length=F.count
 | .nil=>rfl
 | .cons n k r=>by simp[Fo.parts,Fo.count,r.parts_length]
theorem Fo.parts_app:∀(F G:Fo),(F.app G).parts=F.parts++G.parts
 | .nil,_=>rfl
 | .cons n k r,g=>by simp[Fo.parts,Fo.app,r.parts_app]
theorem Fo.parts_sum (F:Fo):(F.parts.map List.length).sum=F.size:=by
 rw[← List.length_flatten,F.parts_flat,F.flat_length]
theorem Fo.tops_app:∀(F G:Fo) (p:Nat),(F.app G).tops p=F.tops p++G.tops (p+F.size)
 | .nil,_,_=>rfl
 | .cons n k r,g,p=>by simp only[Fo.app,Fo.tops,Fo.size,r.tops_app,List.cons_append];rw[show p+1+k.size+r.size=p+(k.size+r.size+1) by omega]
theorem behind_of {n:Nd}{k:Fo}{d:Nat}(hd:d≤12)(hk:n.kind=1)(h:(Fo.cons n k .nil).good d 0=true)(hl:k.size+1≤512):behindO (n::k.flat)=some ((1+k.size)::k.ends 1) :=
 behind_iff.2 ⟨n,k,hk,rfl,Fo.good_mono hd h,by simpa [Fo.flat_length] using hl,rfl⟩
theorem parts_ok:∀ {F:Fo} {d last:Nat},d≤12→F.size≤511→F.good d last=true→F.parts.any partBad=false
 | .nil,_,_,_,_,_=>rfl
 | .cons n k r,d,last,hd,hl,h=>by
  obtain⟨h1,h2,h3,h4,h5,h6⟩:=Fo.good_cons.1 h
  simp only[Fo.size]at hl
  simp only[Fo.parts,List.any_cons,Bool.or_eq_false_iff]
  refine⟨?_,parts_ok hd (by omega) h6⟩
  unfold partBad
  by_cases hk:n.kind=2
  ·have hkn:=Fo.text_leaf h hk
   subst hkn
   simp[txtPart,Fo.flat,hk,h1]
  ·have hk1:n.kind=1:=by rcases mayN_kind h1 with h|h;exact h;exact absurd h hk
   rw[behind_of hd hk1 (Fo.good_cons.2 ⟨h1,h2,by omega,h4,h5,rfl⟩) (by omega)]
   simp
theorem putr_parts {n:Nd}{k:Fo}(hk1:n.kind=1)(h:(Fo.cons n k .nil).good 12 0=true)(hl:k.size+1≤512):putEr n k.parts=0∧putTr n k.parts=n::k.flat:=by
 obtain⟨h1,h2,h3,h4,h5,h6⟩:=Fo.good_cons.1 h
 have hn:n.to k.parts.length=n:=by cases n;simp at h2;simp[Nd.to,Fo.parts_length,h2]
 have h0:behindO [n.to 0]=some [1]:=by
  have hm:mayN (n.to 0)=true:=by
   rw[← h1];unfold mayN Nd.to;rw[if_neg (by simp;omega),if_neg (by omega)]
  have:=behind_of (n:=n.to 0) (k:=.nil) (d:=12) (Nat.le_refl _) hk1 (Fo.good_cons.2 ⟨hm,rfl,by omega,by omega,rfl,rfl⟩) (by simp[Fo.size])
  simpa [Fo.flat,Fo.size,Fo.ends] using this
 have hE:putEr n k.parts=0:=by
  unfold putEr
  rw[h0,if_neg (by simp),if_neg (by rw[parts_ok (by omega) (by omega) h5];decide),if_neg (by rw[Fo.parts_sum];omega),hn,Fo.parts_flat,behind_of (Nat.le_refl _) hk1 h hl,if_neg (by simp)]
 refine⟨hE,?_⟩
 unfold putTr
 rw[if_pos hE,hn,Fo.parts_flat]
theorem indexat_ev (l:List At)(f:Nat)(caps:List V)(p:At→Bool)(hf:∀ h∈l,∀ nm,Ev cx f nm (.agg (atC h)::caps) Mem.nil (.bool (p h)) [])(hn:l.length≤lim)(hpl:plainL caps=true)(nm:Nat):Ev cx 102 nm [.sl false 3 (l.map atC),.fn f caps] Mem.nil (.int .i64 (idxI (l.findIdx? p))) []:=by
 unfold lim at hn
 refine ev_go rfl (fun cargs w=>call102 cargs w) func102 rfl mixed (by kernel_rfl) rfl ?_;intro b0 hb0
 repeat' first|simp only[fins,mems,results102,ntmps102,wks,vcs,seval,tys]|exact rfl|refine call_off (v:=.any) ?_|((first|(refine call_val (g:=?_) ?_ ?_)|(refine call_valg (g:=?_) ?_ ?_));rotate_left 1;(focus (simp only[results102,ntmps102,wks,vcs,seval,tys]<;>exact rfl)))|((first|apply Ca|apply Cb)<;>intro hb)|refine Ai (by omega) ?_|(apply Ai<;>intro hb)
 (refine loop_can2 cxG (fun x:Nat=>l.length-x) (fun x=>x≤l.length∧(l.take x).any p=false) (b0+16) (fun x=>[(0,.sl false 3 (l.map atC)),(1,.fn f caps),(7,.int .i64 l.length),(8,.int .i64 x)]) (fun x=>[]) (0) [] ?_ ?_ ?_ ?_;rotate_left 1;(focus (show b0≤_;omega));(focus (refine⟨?_,?_⟩<;>(try simp only[cans,Lm,plain_at,finL_caps hpl,finLOk_caps hpl,vcs,seval,tys,injs])<;>(try omega)));rotate_left 1)
 ·exact⟨Nat.zero_le _,by simp⟩
 ·rintro k ⟨hk,hno⟩
  by_cases hlt:k<l.length
  ·obtain⟨h,hh⟩:∃ h,l[k]? = some h:=⟨_,List.getElem?_eq_getElem hlt⟩
   have hat:(l.map atC)[k]? = some (atC h):=by rw[List.getElem?_map,hh];rfl
   have hd:decide (k<l.length)=true:=decide_eq_true hlt
   have hwk:IntKind.i64.wrap ((k:Int)+1)=((k+1:Nat):Int):=wrap_in (by omega) (by omega)
   have hfh:=hf h (List.mem_of_getElem? hh)
   cases hp:p h with
   | true =>
    have hfd:=find_at2 hno hh hp
    rw[hp]at hfh
    (repeat' first|simp only[fins,mems,results102,ntmps102,wks,hat,atC,hlt,hd,hwk,hfd,idxI_some,Lm,vcs,seval,tys]|exact rfl|refine call_off (v:=.any) ?_|refine call_pure (g:=f) (caps:=caps) (by simp only[results102,ntmps102,wks,hat,atC,hlt,hd,hwk,hfd,idxI_some,Lm,vcs,seval,tys]<;>exact rfl) (by simp only[results102,ntmps102,wks,hat,atC,hlt,hd,hwk,hfd,idxI_some,Lm,vcs,seval,tys]<;>exact rfl) (hfh _) ?_|((first|(refine call_val (g:=?_) ?_ ?_)|(refine call_valg (g:=?_) ?_ ?_));rotate_left 1;(focus (simp only[results102,ntmps102,wks,hat,atC,hlt,hd,hwk,hfd,idxI_some,Lm,vcs,seval,tys]<;>exact rfl)))|((first|apply Ca|apply Cb)<;>intro hb)|refine Ai (by omega) ?_|(apply Ai<;>intro hb)|refine Fin.pure ?_ ?_ ?_|simp only[injs])
   | false =>
    have hn':=notany_succ (p:=p) hno hh hp
    rw[hp]at hfh
    repeat' first|simp only[fins,mems,results102,ntmps102,wks,hat,atC,hlt,hd,hwk,Lm,vcs,seval,tys]|exact rfl|refine call_off (v:=.any) ?_|refine call_pure (g:=f) (caps:=caps) (by simp only[results102,ntmps102,wks,hat,atC,hlt,hd,hwk,Lm,vcs,seval,tys]<;>exact rfl) (by simp only[results102,ntmps102,wks,hat,atC,hlt,hd,hwk,Lm,vcs,seval,tys]<;>exact rfl) (hfh _) ?_|((first|(refine call_val (g:=?_) ?_ ?_)|(refine call_valg (g:=?_) ?_ ?_));rotate_left 1;(focus (simp only[results102,ntmps102,wks,hat,atC,hlt,hd,hwk,Lm,vcs,seval,tys]<;>exact rfl)))|((first|apply Ca|apply Cb)<;>intro hb)|refine Ai (by omega) ?_|(apply Ai<;>intro hb)
    all_goals ((refine again_can2 cxG (k+1) [] ?_ ?_ ?_ ?_;rotate_left 2;(focus (show b0≤_;omega));(focus (refine⟨?_,?_⟩<;>(try simp only[cans,plain_at,finL_caps hpl,finLOk_caps hpl,hwk,vcs,seval,tys,injs])<;>(try omega)))))
    all_goals (first|(show l.length-(k+1)<l.length-k;omega)|exact⟨hlt,hn'⟩|skip)
  ·have hke:k=l.length:=by omega
   subst hke
   rw[List.take_length]at hno
   have hfd:=find_none2 hno
   have hd:decide (l.length<l.length)=false:=decide_eq_false (by omega)
   (repeat' first|simp only[fins,mems,results102,ntmps102,wks,hd,hfd,idxI_none,Lm,vcs,seval,tys]|exact rfl|refine call_off (v:=.any) ?_|((first|(refine call_val (g:=?_) ?_ ?_)|(refine call_valg (g:=?_) ?_ ?_));rotate_left 1;(focus (simp only[results102,ntmps102,wks,hd,hfd,idxI_none,Lm,vcs,seval,tys]<;>exact rfl)))|((first|apply Ca|apply Cb)<;>intro hb)|refine Ai (by omega) ?_|(apply Ai<;>intro hb)|refine Fin.pure ?_ ?_ ?_|simp only[injs])
theorem containsat_ev (l:List At)(f:Nat)(caps:List V)(p:At→Bool)(hf:∀ h∈l,∀ nm,Ev cx f nm (.agg (atC h)::caps) Mem.nil (.bool (p h)) [])(hn:l.length≤lim)(hpl:plainL caps=true)(nm:Nat):Ev cx 61 nm [.sl false 3 (l.map atC),.fn f caps] Mem.nil (.bool (l.any p)) []:=by
 have hi:=indexat_ev l f caps p hf hn hpl
 cases h:l.findIdx? p with
 | none =>
  have ha:l.any p=false:=any_none h
  rw[h]at hi
  refine ev_go rfl (fun cargs w=>call61 cargs w) func61 rfl mixed (by kernel_rfl) rfl ?_;intro b0 hb0
  (repeat' first|simp only[fins,mems,results61,ntmps61,wks,ha,idxI_none,vcs,seval,tys]|exact rfl|refine call_off (v:=.any) ?_|(first|(refine call_fn ?_ (hi _) ?_)|(refine call_fn_g ?_ (fun _=>hi _) ?_))|((first|apply Ca|apply Cb)<;>intro hb)|refine Ai (by omega) ?_|(apply Ai<;>intro hb)|refine Fin.pure ?_ ?_ ?_|simp only[injs])
 | some n =>
  have ha:l.any p=true:=any_some h
  rw[h]at hi
  have hz:decide ((0:Int)≤(n:Int))=true:=decide_eq_true (by omega)
  refine ev_go rfl (fun cargs w=>call61 cargs w) func61 rfl mixed (by kernel_rfl) rfl ?_;intro b0 hb0
  (repeat' first|simp only[fins,mems,results61,ntmps61,wks,ha,idxI_some,hz,vcs,seval,tys]|exact rfl|refine call_off (v:=.any) ?_|(first|(refine call_fn ?_ (hi _) ?_)|(refine call_fn_g ?_ (fun _=>hi _) ?_))|((first|apply Ca|apply Cb)<;>intro hb)|refine Ai (by omega) ?_|(apply Ai<;>intro hb)|refine Fin.pure ?_ ?_ ?_|simp only[injs])
theorem attrs1_ev (a b:At)(nm:Nat):Ev cx 148 nm [.agg (atC b),.rp (atC a)] Mem.nil (.bool (a.space==b.space&&a.name==b.name)) []:=by
 refine ev_go rfl (fun cargs w=>call148 cargs w) func148 rfl mixed (by kernel_rfl) rfl ?_;intro b0 hb0
 (repeat' first|simp only[fins,mems,results148,ntmps148,wks,atC,vcs,seval,tys]|exact rfl|refine call_off (v:=.any) ?_|((first|apply Ca|apply Cb)<;>intro hb)|refine Ai (by omega) ?_|(apply Ai<;>intro hb)|refine Fin.pure ?_ ?_ ?_|simp only[injs])
theorem attrs_ev (l:List At)(hl:l.length≤lim)(hs:∀ a∈l,a.space.length≤lim∧a.name.length≤lim∧a.value.length≤lim)(nm:Nat):Ev cx 116 nm [.sl false 3 (l.map atC)] Mem.nil (.bool (atsL l)) []:=by
 have hl':=hl
 unfold lim at hl'
 refine ev_go rfl (fun cargs w=>call116 cargs w) func116 rfl mixed (by kernel_rfl) rfl ?_;intro b0 hb0
 repeat' first|simp only[fins,mems,results116,ntmps116,wks,vcs,seval,tys]|exact rfl|refine call_off (v:=.any) ?_|((first|apply Ca|apply Cb)<;>intro hb)|refine Ai (by omega) ?_|(apply Ai<;>intro hb)
 (refine loop_can2 cxG (fun x:Nat=>l.length-x) (fun x=>x≤l.length∧atsTo l x) (b0+16) (fun x=>[(0,.sl false 3 (l.map atC)),(6,.sl false 3 (l.map atC)),(7,.int .i64 l.length),(8,.int .i64 x)]) (fun x=>[]) (0) [] ?_ ?_ ?_ ?_;rotate_left 1;(focus (show b0≤_;omega));(focus (refine⟨?_,?_⟩<;>(try simp only[cans,plain_at,Lm,vcs,seval,tys,injs])<;>(try omega)));rotate_left 1)
 ·exact⟨Nat.zero_le _,fun i a hi=>by omega⟩
 ·rintro k ⟨hk,hn⟩
  by_cases hlt:k<l.length
  ·obtain⟨a,ha⟩:∃ a,l[k]? = some a:=⟨_,List.getElem?_eq_getElem hlt⟩
   obtain⟨hs0,hs1,hs2⟩:=hs a (List.mem_of_getElem? ha)
   have hat:=at_at ha
   have hd:decide (k<l.length)=true:=decide_eq_true hlt
   have hwk:IntKind.i64.wrap ((k:Int)+1)=((k+1:Nat):Int):=wrap_in (by omega) (by omega)
   have hki:(k:Int)≤(l.length:Int):=by omega
   have htk:(l.map atC).take k=(l.take k).map atC:=by rw[List.map_take]
   have hlen:(l.take k).length≤lim:=by rw[List.length_take];unfold lim;omega
   have hf2:=full_ev a.name hs1
   have hc2:=tCheck_ev a.value hs2
   have hc3:=tCheck_ev a.space hs0
   have hh2:=containsat_ev (l.take k) 148 [.rp (atC a)] (fun b=>a.space==b.space&&a.name==b.name) (fun b _ nm=>attrs1_ev a b nm) hlen rfl
   have hok:okA (l.take k) a=(!((l.take k).any fun b=>a.space==b.space&&a.name==b.name)&&fullL a.name&&decide (ptsErr a.value=0)&&decide (ptsErr a.space=0)):=rfl
   have hz2:decide (ptsErr a.value=0) = !(ptsErr a.value != 0):=by rw[Bool.eq_iff_iff];simp
   have hz3:decide (ptsErr a.space=0) = !(ptsErr a.space != 0):=by rw[Bool.eq_iff_iff];simp
   rw[hz2,hz3]at hok
   generalize hb1:((l.take k).any fun b=>a.space==b.space&&a.name==b.name)=b1 at hh2 hok
   generalize hb2:fullL a.name=b2 at hf2 hok
   generalize hb3:(ptsErr a.value != 0)=b3 at hok
   generalize hb4:(ptsErr a.space != 0)=b4 at hok
   cases ho2:okA (l.take k) a with
   | false =>
    have hr:=ats_false ha ho2
    rw[ho2]at hok
    cases b1<;>cases b2<;>cases b3<;>cases b4
    all_goals (try (exfalso;simp at hok;done))
    all_goals ((repeat' first|simp only[results116,ntmps116,wks,plain_at,hat,atC,hd,hlt,hk,hki,htk,hb3,hb4,hr,Bt,Bf,Lm,Nat.zero_add,vcs,seval,tys]|exact rfl|((first|(refine call_fn ?_ (hf2 _) ?_)|(refine call_fn_g ?_ (fun _=>hf2 _) ?_)|(refine call_fn ?_ (hc2 _) ?_)|(refine call_fn_g ?_ (fun _=>hc2 _) ?_));(focus (simp only[results116,ntmps116,wks,plain_at,hat,atC,hd,hlt,hk,hki,htk,hb3,hb4,hr,Bt,Bf,Lm,Nat.zero_add,vcs,seval,tys]<;>exact rfl)))|((first|(refine call_fn ?_ (hc3 _) ?_)|(refine call_fn_g ?_ (fun _=>hc3 _) ?_));(focus (simp only[results116,ntmps116,wks,plain_at,hat,atC,hd,hlt,hk,hki,htk,hb3,hb4,hr,Bt,Bf,Lm,Nat.zero_add,vcs,seval,tys]<;>exact rfl)))|((refine call_fn_vx (xs:=?_) [b0+80] ?_ ?_ ?_ rfl (hh2 _) ?_);rotate_left 1;iterate 3 (focus (simp only[fins,mems,results116,ntmps116,wks,plain_at,hat,atC,hd,hlt,hk,hki,htk,hb3,hb4,hr,Bt,Bf,Lm,Nat.zero_add,vcs,seval,tys]<;>(first|exact rfl|omega))))|(refine call_off (v:=.any) ?_)|((first|apply Ca|apply Cb)<;>intro hb)|refine Ai (by omega) ?_|(apply Ai<;>intro hb)|refine Fin.pure ?_ ?_ ?_|simp only[injs]))
   | true =>
    have hn':=atsTo_succ hn ha ho2
    rw[ho2]at hok
    cases b1<;>cases b2<;>cases b3<;>cases b4
    all_goals (try (exfalso;simp at hok;done))
    all_goals (repeat' first|simp only[results116,ntmps116,wks,plain_at,hat,atC,hd,hlt,hk,hki,htk,hb3,hb4,hwk,Bt,Bf,Lm,Nat.zero_add,vcs,seval,tys]|exact rfl|((first|(refine call_fn ?_ (hf2 _) ?_)|(refine call_fn_g ?_ (fun _=>hf2 _) ?_)|(refine call_fn ?_ (hc2 _) ?_)|(refine call_fn_g ?_ (fun _=>hc2 _) ?_));(focus (simp only[results116,ntmps116,wks,plain_at,hat,atC,hd,hlt,hk,hki,htk,hb3,hb4,hwk,Bt,Bf,Lm,Nat.zero_add,vcs,seval,tys]<;>exact rfl)))|((first|(refine call_fn ?_ (hc3 _) ?_)|(refine call_fn_g ?_ (fun _=>hc3 _) ?_));(focus (simp only[results116,ntmps116,wks,plain_at,hat,atC,hd,hlt,hk,hki,htk,hb3,hb4,hwk,Bt,Bf,Lm,Nat.zero_add,vcs,seval,tys]<;>exact rfl)))|((refine call_fn_vx (xs:=?_) [b0+80] ?_ ?_ ?_ rfl (hh2 _) ?_);rotate_left 1;iterate 3 (focus (simp only[fins,mems,results116,ntmps116,wks,plain_at,hat,atC,hd,hlt,hk,hki,htk,hb3,hb4,hwk,Bt,Bf,Lm,Nat.zero_add,vcs,seval,tys]<;>(first|exact rfl|omega))))|((first|apply Ca|apply Cb)<;>intro hb)|refine Ai (by omega) ?_|(apply Ai<;>intro hb))
    all_goals ((refine again_can2 cxG (k+1) [] ?_ ?_ ?_ ?_;rotate_left 2;(focus (show b0≤_;omega));(focus (refine⟨?_,?_⟩<;>(try simp only[cans,plain_at,hwk,vcs,seval,tys,injs])<;>(try omega)))))
    all_goals (first|(show l.length-(k+1)<l.length-k;omega)|exact⟨hlt,hn'⟩|skip)
  ·have hke:k=l.length:=by omega
   subst hke
   have hd:decide (l.length<l.length)=false:=decide_eq_false (by omega)
   have hr:atsL l=decide (l.length≤16):=by
    rw[Bool.eq_iff_iff,ats_iff];simp[hn]
   have hi:decide ((l.length:Int)≤16)=decide (l.length≤16):=by rw[Bool.eq_iff_iff];simp;omega
   (repeat' first|simp only[fins,mems,results116,ntmps116,wks,hd,hr,hi,Lm,vcs,seval,tys]|exact rfl|refine call_off (v:=.any) ?_|((first|apply Ca|apply Cb)<;>intro hb)|refine Ai (by omega) ?_|(apply Ai<;>intro hb)|refine Fin.pure ?_ ?_ ?_|simp only[injs])
def Nd.okTo (n:Nd)(k:Nat):Prop:=n.attrs.length≤k∧n.space.length≤k∧n.name.length≤k∧n.text.length≤k ∧ ∀ a∈n.attrs,a.space.length≤k∧a.name.length≤k∧a.value.length≤k
theorem beq_nil (s:List UInt8):(s==[])=s.isEmpty:=by cases s<;>rfl
theorem may_two {n:Nd}(h:n.kind=2):mayN n=(n.name.isEmpty&&n.space.isEmpty&&((n.attrs.length:Int)==0)&&(n.many==0) && !n.text.isEmpty&&(ptsErr n.text==0)):=by
 unfold mayN
 rw[if_pos h]
 have h1:((n.attrs.length:Int)==0)=n.attrs.isEmpty:=len_zero _
 have h2:(n.many==0)=decide (n.many=0):=by rw[Bool.eq_iff_iff];simp
 have h3:(ptsErr n.text==0)=decide (ptsErr n.text=0):=by rw[Bool.eq_iff_iff];simp
 rw[h1,h2,h3]
theorem may_one {n:Nd}(h:¬ n.kind=2):mayN n=(((n.kind:Int)==1)&&n.text.isEmpty&&fullL n.name&&(ptsErr n.space==0)&&atsL n.attrs):=by
 unfold mayN
 rw[if_neg h]
 have h2:((n.kind:Int)==1)=decide (n.kind=1):=by rw[Bool.eq_iff_iff];simp;omega
 have h3:(ptsErr n.space==0)=decide (ptsErr n.space=0):=by rw[Bool.eq_iff_iff];simp
 rw[h2,h3]
theorem may_ev (n:Nd)(h:n.okTo lim)(nm:Nat):Ev cx 81 nm [.agg (ndC n)] Mem.nil (.bool (mayN n)) []:=by
 obtain⟨h1,h2,h3,h4,h5⟩:=h
 have hc:=tCheck_ev n.text h4
 have hc2:=tCheck_ev n.space h2
 have hf:=full_ev n.name h3
 have ha:=attrs_ev n.attrs h1 h5
 by_cases hk:n.kind=2
 ·have hkb:((n.kind:Int)==2)=true:=by rw[hk];rfl
  rw[may_two hk]
  refine ev_go rfl (fun cargs w=>call81 cargs w) func81 rfl mixed (by kernel_rfl) rfl ?_;intro b0 hb0
  (repeat' first|simp only[fins,mems,results81,ntmps81,wks,ndC,hkb,beq_nil,Lm,vcs,seval,tys]|exact rfl|refine call_off (v:=.any) ?_|(first|(refine call_fn ?_ (hc _) ?_)|(refine call_fn_g ?_ (fun _=>hc _) ?_))|((first|apply Ca|apply Cb)<;>intro hb)|refine Ai (by omega) ?_|(apply Ai<;>intro hb)|refine Fin.pure ?_ ?_ ?_|simp only[injs])
 ·have hkb:((n.kind:Int)==2)=false:=beq_false_of_ne (by omega)
  rw[may_one hk]
  refine ev_go rfl (fun cargs w=>call81 cargs w) func81 rfl mixed (by kernel_rfl) rfl ?_;intro b0 hb0
  (repeat' first|simp only[fins,mems,results81,ntmps81,wks,ndC,hkb,beq_nil,Lm,vcs,seval,tys]|exact rfl|refine call_off (v:=.any) ?_|(first|(refine call_fn ?_ (hc2 _) ?_)|(refine call_fn_g ?_ (fun _=>hc2 _) ?_)|(refine call_fn ?_ (hf _) ?_)|(refine call_fn_g ?_ (fun _=>hf _) ?_)|(refine call_fn ?_ (ha _) ?_)|(refine call_fn_g ?_ (fun _=>ha _) ?_))|((first|apply Ca|apply Cb)<;>intro hb)|refine Ai (by omega) ?_|(apply Ai<;>intro hb)|refine Fin.pure ?_ ?_ ?_|simp only[injs])
end Go.Proofs.YtjdjclecdfhciaaGreatDoor
