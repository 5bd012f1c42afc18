/-
 Texts joined: XSa,XSb,XSc,XSd,XSe.
-/
import Derived.Test.YtidmkaalhmeflaaGreatDoorQf
import Derived.Test.YtidmkaalhmeflaaGreatDoorQl
import Derived.Test.YtidmkaalhmeflaaGreatDoorQp
namespace Go.Proofs.YtidmkaalhmeflaaGreatDoor
set_option maxRecDepth 100000
set_option maxHeartbeats 32000000
set_option linter.unusedSimpArgs false
set_option linter.unusedVariables false
open Go Go.RowKit Vm Go.Lib Tryz
open Vm renaming aZ→Ca,bj→Cb
open And renaming intro→Ai
open List renaming length_map→Lm,not_mem_nil→Ln,map_nil→Lo,map_cons→Lc,mem_cons→Lk
open Bool renaming not_false→Bf,not_true→Bt
def Ht (l:List At)(a:At):Bool:=!(l.any fun b=>a.space==b.space&&a.name==b.name)&&b8 a.name&&decide (aQ a.value=0)&&decide (aQ a.space=0)
def u7 (l:List At)(k:Nat):Prop:=∀(i:Nat) (a:At),i<k→l[i]? = some a→Ht (l.take i) a=true
def tn (l:List At):Bool:=decide (l.length≤16)&&l.zipIdx.all fun p=>Ht (l.take p.2) p.1
theorem rn {l:List At} : tn l=true↔l.length≤16∧u7 l l.length:=by
 unfold tn u7
 simp only[Bool.and_eq_true,decide_eq_true_eq,List.all_eq_true]
 refine and_congr_right fun _=>⟨fun h i a hi ha=>?_,fun h p hp=>?_⟩
 ·refine h (a,i) ?_
  rw[List.mem_zipIdx_iff_getElem?];exact ha
 ·have:=(List.mem_zipIdx_iff_getElem?).1 hp
  exact h p.2 p.1 (List.getElem?_eq_some_iff.1 this).1 this
theorem Ar {l:List At}{k:Nat}{a:At}(h:u7 l k)(ha:l[k]? = some a)(ho:Ht (l.take k) a=true):u7 l (k+1):=by
 intro i b hi hb
 by_cases e:i=k
 ·subst e;rw[ha]at hb;cases hb;exact ho
 ·exact h i b (by omega) hb
theorem Eb {l:List At}{k:Nat}{a:At}(ha:l[k]? = some a)(ho:Ht (l.take k) a=false):tn l=false:=by
 cases h:tn l with
 | false=>rfl
 | true =>
  have:=(rn.1 h).2 k a (List.getElem?_eq_some_iff.1 ha).1 ha
  rw[ho]at this;cases this
def iI (n:Nd):Bool :=
 if n.kind=2 then n.name.isEmpty&&n.space.isEmpty&&n.attrs.isEmpty&&decide (n.many=0) && !n.text.isEmpty&&decide (aQ n.text=0)
 else decide (n.kind=1)&&n.text.isEmpty&&b8 n.name&&decide (aQ n.space=0)&&tn n.attrs
theorem jY {n:Nd}(h:iI n=true):n.kind=1∨n.kind=2:=by
 unfold iI at h
 split at h
 ·right;assumption
 ·simp only[Bool.and_eq_true,decide_eq_true_eq]at h;left;exact h.1.1.1.1
theorem iN {n:Nd}(h:iI n=true)(hk:n.kind=2):n.name=[]∧n.space=[]∧n.attrs=[]∧n.many=0∧n.text≠[]∧aQ n.text=0:=by
 unfold iI at h
 rw[if_pos hk]at h
 simp only[Bool.and_eq_true,decide_eq_true_eq,List.isEmpty_iff,Bool.not_eq_true',List.isEmpty_eq_false_iff]at h
 obtain⟨⟨⟨⟨⟨h1,h2⟩,h3⟩,h4⟩,h5⟩,h6⟩:=h
 exact⟨h1,h2,h3,h4,h5,h6⟩
theorem ml {n:Nd}(h:iI n=true)(hk:n.kind=1):n.text=[]∧b8 n.name=true∧aQ n.space=0∧tn n.attrs=true:=by
 unfold iI at h
 rw[if_neg (by omega)]at h
 simp only[Bool.and_eq_true,decide_eq_true_eq,List.isEmpty_iff]at h
 obtain⟨⟨⟨⟨h1,h2⟩,h3⟩,h4⟩,h5⟩:=h
 exact⟨h2,h3,h4,h5⟩
def bN (walk:Nat→List Nat→Option Nat×List Nat)(v:List Nd):Nat→Option Nat→Nat→List Nat→Option Nat×List Nat
 | 0,next,_,en=>(next,en)
 | _+1,none,_,en=>(none,en)
 | n+1,some next,last,en=>match v[next]? with
  | none=>(none,en)
  | some y=>if (last==2&&y.kind==2)=true then (none,en) else bN walk v n (walk next en).1 y.kind (walk next en).2
def ez (p:Nat)(r:Option Nat×List Nat):Option Nat×List Nat:=match r.1 with
 | some e=>(some e,r.2.set p e)
 | none=>(none,r.2)
def okW (x:Nd)(dz:Bool):Bool:=iI x&&decide (0≤x.many) && !(x.kind==1&&dz)
def iR (walk:Nat→List Nat→Option Nat×List Nat)(v:List Nd)(dz:Bool)(p:Nat)(en:List Nat):Option Nat×List Nat:=match v[p]? with
 | none=>(none,en)
 | some x=>if okW x dz=true then ez p (bN walk v x.many.toNat (some (p+1)) 1 en) else (none,en)
def m9 (v:List Nd):Nat→Nat→List Nat→Option Nat×List Nat
 | 0=>iR (fun _ en=>(none,en)) v true
 | d+1=>iR (m9 v d) v false
def Ea (n:Nat):Option Nat×List Nat→Option (List Nat)
 |(some e,en)=>if e=n then some en else none
 |(none,_)=>none
def cX (v:List Nd):Option (List Nat):=if (v.isEmpty||decide (512<v.length) || !((v[0]?).map Nd.kind==some 1))=true then none else Ea v.length (m9 v 12 0 (List.replicate v.length 0))
inductive Fo where
 | nil
 | cons (n:Nd) (k r:Fo)
def Fo.flat:Fo→List Nd
 | .nil=>[]
 | .cons n k r=>n::(k.flat++r.flat)
def Fo.count:Fo→Nat
 | .nil=>0
 | .cons _ _ r=>r.count+1
def Fo.size:Fo→Nat
 | .nil=>0
 | .cons _ k r=>k.size+r.size+1
theorem Fo.flat_length:∀(F:Fo),F.flat.length=F.size
 | .nil=>rfl
 | .cons n k r=>by simp[Fo.flat,Fo.size,k.flat_length,r.flat_length]
def Fo.good:Fo→Nat→Nat→Bool
 | .nil,_,_=>true
 | .cons n k r,d,last=>iI n&&decide (n.many=(k.count:Int)) && !(last==2&&n.kind==2) && !(n.kind==1&&d==0)&&k.good (d-1) 1&&r.good d n.kind
def Fo.ends:Fo→Nat→List Nat
 | .nil,_=>[]
 | .cons _ k r,b=>(b+1+k.size)::(k.ends (b+1)++r.ends (b+1+k.size))
theorem Fo.ends_length:∀(F:Fo) (b:Nat),(F.ends b).length=F.size
 | .nil,_=>rfl
 | .cons n k r,b=>by simp[Fo.ends,Fo.size,k.ends_length,r.ends_length]
def Fo.app:Fo→Fo→Fo
 | .nil,g=>g
 | .cons n k r,g=>.cons n k (r.app g)
theorem Fo.good_cons {n:Nd}{k r:Fo}{d last:Nat} :(Fo.cons n k r).good d last=true↔iI n=true∧n.many=(k.count:Int) ∧ ¬(last=2∧n.kind=2) ∧ ¬(n.kind=1∧d=0)∧k.good (d-1) 1=true∧r.good d n.kind=true:=by
 simp only[Fo.good,Bool.and_eq_true,decide_eq_true_eq,Bool.not_eq_true',Bool.and_eq_false_iff,beq_eq_false_iff_ne,ne_eq]
 constructor
 ·rintro ⟨⟨⟨⟨⟨h1,h2⟩,h3⟩,h4⟩,h5⟩,h6⟩
  exact⟨h1,h2,by rcases h3 with h|h<;>simp_all,by rcases h4 with h|h<;>simp_all,h5,h6⟩
 ·rintro ⟨h1,h2,h3,h4,h5,h6⟩
  exact⟨⟨⟨⟨⟨h1,h2⟩,by by_cases h:last=2<;>simp_all⟩,by by_cases h:n.kind=1<;>simp_all⟩,h5⟩,h6⟩
theorem Fo.good_mono:∀ {F:Fo} {d d' last:Nat},d≤d'→F.good d last=true→F.good d' last=true
 | .nil,_,_,_,_,_=>rfl
 | .cons n k r,d,d',last,hd,h=>by
  obtain⟨h1,h2,h3,h4,h5,h6⟩:=Fo.good_cons.1 h
  exact Fo.good_cons.2 ⟨h1,h2,h3,by omega,Fo.good_mono (by omega) h5,Fo.good_mono hd h6⟩
theorem Fo.text_leaf {n:Nd}{k r:Fo}{d last:Nat}(h:(Fo.cons n k r).good d last=true)(hk:n.kind=2):k = .nil:=by
 obtain⟨h1,h2,_⟩:=Fo.good_cons.1 h
 have:=(iN h1 hk).2.2.2.1
 cases k with
 | nil=>rfl
 | cons _ _ _=>simp[Fo.count]at h2;omega
theorem CS {en l1 l2:List Nat}{p:Nat}(h:p+l1.length+l2.length≤en.length):bw (bw en p l1) (p+l1.length) l2=bw en p (l1++l2):=by
 have e1:(bw en p l1).length=en.length:=d8 (by omega)
 refine List.ext_getElem? fun i=>?_
 rw[cC (by omega),cC (by omega),cC (by simp;omega),List.getElem?_append,List.length_append]
 by_cases a:i<p
 ·rw[if_pos (by omega),if_pos a,if_pos a]
 ·by_cases b:i<p+l1.length
  ·rw[if_pos b,if_neg a,if_pos b,if_neg a,if_pos (by omega),if_pos (by omega)]
  ·by_cases c:i<p+l1.length+l2.length
   ·rw[if_neg b,if_pos c,if_neg a,if_pos (by omega),if_neg (by omega)];congr 1;omega
   ·rw[if_neg b,if_neg c,if_neg a,if_neg b,if_neg a,if_neg (by omega)]
theorem v8 {en l:List Nat}{p e:Nat}(h:p+1+l.length≤en.length):(bw en (p+1) l).set p e=bw en p (e::l):=by
  refine List.ext_getElem? fun i=>?_
  rw[List.getElem?_set,d8 (by omega),cC (by omega),cC (by simp;omega)]
  by_cases a:p=i
  · subst a;rw[if_pos rfl,if_pos (by omega),if_neg (by omega),if_pos (by simp)];simp
  · rw [if_neg a]
    by_cases b:i<p
    · rw[if_pos (by omega),if_pos b]
    · by_cases c:i<p+1+l.length
      · rw[if_neg (by omega),if_pos c,if_neg b,if_pos (by simp;omega)]
        obtain⟨j,rfl⟩:∃ j,i=p+1+j:=⟨i-(p+1),by omega⟩
        rw[show p+1+j-(p+1)=j by omega,show p+1+j-p=j+1 by omega];simp
      · rw[if_neg (by omega),if_neg c,if_neg b,if_neg (by simp;omega)]
theorem wq (en:List Nat)(p:Nat):bw en p []=en:=by simp[bw]
def t9 (v:List Nd)(d:Nat)(walk:Nat→List Nat→Option Nat×List Nat):Prop:=∀ p en,en.length=v.length →
 ((walk p en).2.length=v.length ∧ ∀ e,(walk p en).1=some e → ∃ n k,(Fo.cons n k .nil).good d 0=true∧v.drop p=n::(k.flat++v.drop e)∧e=p+1+k.size∧e≤v.length∧(walk p en).2=bw en p ((Fo.cons n k .nil).ends p)) ∧
 ∀ n k r,(Fo.cons n k .nil).good d 0=true→v.drop p=n::(k.flat++r)→walk p en=(some (p+1+k.size),bw en p ((Fo.cons n k .nil).ends p))
theorem fm {v:List Nd}{p:Nat}{n:Nd}{r:List Nd}(h:v.drop p=n::r):v[p]? = some n∧v.drop (p+1)=r∧p<v.length:=by
 have h1:v[p]? = some n:=by have:=congrArg (·[0]?) h;simpa using this
 refine⟨h1,?_,(List.getElem?_eq_some_iff.1 h1).1⟩
 have:=congrArg (List.drop 1) h
 rw[List.drop_drop]at this;simpa using this
theorem vA {v:List Nd}{p:Nat}{n:Nd}(h:v[p]? = some n):v.drop p=n::v.drop (p+1):=by
 obtain⟨hp,rfl⟩:=List.getElem?_eq_some_iff.1 h
 exact List.drop_eq_getElem_cons hp
theorem qb {v a r:List Nd}{p:Nat}(h:v.drop p=a++r):v.drop (p+a.length)=r:=by
 rw[← List.drop_drop,h,List.drop_left]
theorem rR {v a r:List Nd}{p:Nat}(h:v.drop p=a++r)(hp:p≤v.length):p+a.length≤v.length:=by
 have:=congrArg List.length h
 simp at this;omega
theorem CE {v:List Nd}{d:Nat}{walk:Nat→List Nat→Option Nat×List Nat}(hw:t9 v d walk):∀(c:Nat) (next:Option Nat) (last:Nat) (en:List Nat),en.length=v.length →
  (bN walk v c next last en).2.length=v.length ∧ ∀ p,next=some p→p≤v.length →
  (∀ e,(bN walk v c next last en).1=some e → ∃ F:Fo,F.count=c∧F.good d last=true∧v.drop p=F.flat++v.drop e∧e=p+F.size∧e≤v.length∧(bN walk v c next last en).2=bw en p (F.ends p)) ∧
  ∀(F:Fo) (r:List Nd),F.count=c→F.good d last=true→v.drop p=F.flat++r→bN walk v c next last en=(some (p+F.size),bw en p (F.ends p))
 | 0,next,last,en,hl=>by
  refine⟨hl,fun p hp hle=>⟨fun e he=>⟨.nil,rfl,rfl,?_,?_,?_,?_⟩,fun F r hc _ _=>?_⟩⟩
  ·subst hp;simp only[bN,Option.some.injEq]at he;subst he;rfl
  ·subst hp;simp only[bN,Option.some.injEq]at he;subst he;rfl
  ·subst hp;simp only[bN,Option.some.injEq]at he;subst he;exact hle
  ·simp[bN,Fo.ends,wq]
  ·cases F with
   | nil=>subst hp;simp[bN,Fo.ends,Fo.size,wq]
   | cons _ _ _=>simp[Fo.count]at hc
 | c+1,none,last,en,hl=>⟨hl,fun p hp=>by cases hp⟩
 | c+1,some q,last,en,hl=>by
  cases hv:v[q]? with
  | none =>
   refine⟨by simpa [bN,hv] using hl,fun p hp hle=>?_⟩
   cases hp
   refine⟨fun e he=>by simp[bN,hv]at he,fun F r hc hg hd=>?_⟩
   cases F with
   | nil=>simp[Fo.count]at hc
   | cons n k r' =>
    simp only[Fo.flat,List.cons_append]at hd
    rw[(fm hd).1]at hv;cases hv
  | some y =>
   by_cases hb:(last==2&&y.kind==2)=true
   ·refine⟨by simpa [bN,hv,hb] using hl,fun p hp hle=>?_⟩
    cases hp
    refine⟨fun e he=>by simp[bN,hv,hb]at he,fun F r hc hg hd=>?_⟩
    cases F with
    | nil=>simp[Fo.count]at hc
    | cons n k r' =>
     simp only[Fo.flat,List.cons_append]at hd
     rw[(fm hd).1]at hv;cases hv
     simp only[Bool.and_eq_true,beq_iff_eq]at hb
     exact absurd hb (Fo.good_cons.1 hg).2.2.1
   ·have hb':(last==2&&y.kind==2)=false:=by simpa using hb
    have hu:bN walk v (c+1) (some q) last en=bN walk v c (walk q en).1 y.kind (walk q en).2:=by simp[bN,hv,hb']
    rw[hu]
    obtain⟨⟨w1,w2⟩,w3⟩:=hw q en hl
    obtain⟨i1,i2⟩:=CE hw c (walk q en).1 y.kind (walk q en).2 w1
    refine⟨i1,fun p hp hle=>?_⟩
    cases hp
    refine⟨fun e he=>?_,fun F r hc hg hd=>?_⟩
    ·cases hwq:(walk q en).1 with
     | none =>
      rw[hwq]at he
      cases c<;>simp[bN]at he
     | some e1 =>
      obtain⟨n,k,g1,g2,g3,g4,g5⟩:=w2 e1 hwq
      obtain⟨i3,_⟩:=i2 e1 hwq g4
      obtain⟨F,f1,f2,f3,f4,f5,f6⟩:=i3 e he
      have hy:n=y:=by rw[(fm g2).1]at hv;exact Option.some.inj hv
      subst hy
      obtain⟨k1,k2,k3,k4,k5,k6⟩:=Fo.good_cons.1 g1
      refine⟨.cons n k F,by simp[Fo.count,f1],Fo.good_cons.2 ⟨k1,k2,?_,k4,k5,f2⟩,?_,?_,f5,?_⟩
      ·simpa using hb'
      ·rw[g2,f3];simp[Fo.flat]
      ·simp only[Fo.size];omega
      ·rw[hwq]at f6;rw[f6,g5]
       have hlen:=Fo.ends_length (.cons n k .nil) q
       have hlF:=Fo.ends_length F e1
       have hs:e1=q+((Fo.cons n k .nil).ends q).length:=by rw[hlen];simp[Fo.size];omega
       have:=CS (en:=en) (l1:=(Fo.cons n k .nil).ends q) (l2:=F.ends e1) (p:=q) (by omega)
       rw[← hs]at this
       rw[this]
       simp[Fo.ends,g3]
    ·cases F with
     | nil=>simp[Fo.count]at hc
     | cons n k r' =>
      obtain⟨k1,k2,k3,k4,k5,k6⟩:=Fo.good_cons.1 hg
      simp only[Fo.flat,List.cons_append,List.append_assoc]at hd
      have hy:n=y:=by rw[(fm hd).1]at hv;exact Option.some.inj hv
      subst hy
      have hwk:=w3 n k (r'.flat++r) (Fo.good_cons.2 ⟨k1,k2,by omega,k4,k5,rfl⟩) hd
      have hd1:v.drop q=(n::k.flat)++(r'.flat++r):=by simpa using hd
      have hle1:=rR hd1 hle
      have hd2:=qb hd1
      simp only[List.length_cons,Fo.flat_length]at hle1 hd2
      have hq1:q+(k.size+1)=q+1+k.size:=by omega
      rw[hq1]at hd2
      obtain⟨_,i4⟩:=i2 (q+1+k.size) (by rw[hwk]) (by omega)
      have hF:=i4 r' r (by simpa [Fo.count] using hc) k6 hd2
      rw[hF,hwk]
      have hlen:=Fo.ends_length (.cons n k .nil) q
      have hs:q+1+k.size=q+((Fo.cons n k .nil).ends q).length:=by rw[hlen];simp[Fo.size];omega
      have hle2:=rR hd2 (by omega)
      rw[Fo.flat_length]at hle2
      have:=CS (en:=en) (l1:=(Fo.cons n k .nil).ends q) (l2:=r'.ends (q+1+k.size)) (p:=q) (by rw[Fo.ends_length,Fo.ends_length];simp only[Fo.size];omega)
      rw[← hs]at this
      simp only
      rw[this]
      simp[Fo.ends,Fo.size];omega
theorem uY {p n:Nat}{r:Option Nat×List Nat}(h:r.2.length=n):(ez p r).2.length=n:=by
 unfold ez;split<;>simpa using h
theorem CT {v:List Nd}{d:Nat}{dz:Bool}{walk:Nat→List Nat→Option Nat×List Nat}(hz:dz=decide (d=0))(hw:d≠0→t9 v (d-1) walk)(hw0:∀ p en,(walk p en).2.length=en.length):t9 v d (iR walk v dz):=by
 have hlen0:∀(c:Nat) (next:Option Nat) (last:Nat) (en:List Nat),(bN walk v c next last en).2.length=en.length:=by
  intro c
  induction c with
  | zero=>intro next last en;rfl
  | succ c ih =>
   intro next last en
   cases next with
   | none=>rfl
   | some q =>
    cases hv:v[q]? with
    | none=>simp[bN,hv]
    | some y =>
     by_cases hb:(last==2&&y.kind==2)=true
     ·simp[bN,hv,hb]
     ·have hb':(last==2&&y.kind==2)=false:=by simpa using hb
      rw[show bN walk v (c+1) (some q) last en=bN walk v c (walk q en).1 y.kind (walk q en).2 by simp[bN,hv,hb'],ih,hw0]
 intro p en hl
 cases hv:v[p]? with
 | none =>
  refine⟨⟨by simpa [iR,hv] using hl,fun e he=>by simp[iR,hv]at he⟩,fun n k r _ hd=>?_⟩
  rw[(fm hd).1]at hv;cases hv
 | some x =>
  have hpl:=(List.getElem?_eq_some_iff.1 hv).1
  by_cases hx:okW x dz=true
  ·have hu:iR walk v dz p en=ez p (bN walk v x.many.toNat (some (p+1)) 1 en):=by simp[iR,hv,hx]
   rw[hu]
   simp only[okW,Bool.and_eq_true,decide_eq_true_eq,Bool.not_eq_true',Bool.and_eq_false_iff,beq_eq_false_iff_ne]at hx
   obtain⟨⟨hm,h0⟩,hkd⟩:=hx
   have hkd':¬(x.kind=1∧d=0):=by
    rintro ⟨e1,e2⟩;rcases hkd with h|h
    ·exact h e1
    ·subst hz;simp[e2]at h
   by_cases hd0:d=0
   ·have hk2:x.kind=2:=by rcases jY hm with h|h;exact absurd ⟨h,hd0⟩ hkd';exact h
    obtain⟨_,_,_,hm0,_,_⟩:=iN hm hk2
    have hl0:bN walk v x.many.toNat (some (p+1)) 1 en=(some (p+1),en):=by rw[hm0];rfl
    rw[hl0]
    have hs:en.set p (p+1)=bw en p ((Fo.cons x .nil .nil).ends p):=by
     have:=v8 (en:=en) (l:=[]) (p:=p) (e:=p+1) (by simp;omega)
     rw[wq]at this
     rw[this];simp[Fo.ends,Fo.size]
    refine⟨⟨by simp[ez];omega,fun e he=>⟨x,.nil,?_,?_,?_,?_,?_⟩⟩,fun n k r hg hd=>?_⟩
    ·exact Fo.good_cons.2 ⟨hm,by simp[Fo.count,hm0],by omega,hkd',rfl,rfl⟩
    ·simp only[ez,Option.some.injEq]at he;subst he;simp[Fo.flat];exact vA hv
    ·simp only[ez,Option.some.injEq]at he;subst he;simp[Fo.size]
    ·simp only[ez,Option.some.injEq]at he;subst he;omega
    ·simp only[ez];exact hs
    ·have hy:n=x:=by rw[(fm hd).1]at hv;exact Option.some.inj hv
     subst hy
     have hkn:=Fo.text_leaf hg hk2
     subst hkn
     simp only[ez,Fo.size,Nat.add_zero];rw[hs]
   ·obtain⟨i1,i2⟩:=CE (hw hd0) x.many.toNat (some (p+1)) 1 en hl
    obtain⟨i3,i4⟩:=i2 (p+1) rfl (by omega)
    refine⟨⟨uY i1,fun e he=>?_⟩,fun n k r hg hd=>?_⟩
    ·cases hq:(bN walk v x.many.toNat (some (p+1)) 1 en).1 with
     | none=>simp[ez,hq]at he
     | some e1 =>
      have hee:e1=e:=by simpa [ez,hq] using he
      subst hee
      obtain⟨F,f1,f2,f3,f4,f5,f6⟩:=i3 e1 hq
      refine⟨x,F,Fo.good_cons.2 ⟨hm,by rw[f1];omega,by omega,hkd',f2,rfl⟩,?_,?_,f5,?_⟩
      ·rw[← f3];exact vA hv
      ·omega
      ·simp only[ez,hq,f6]
       rw[v8 (by rw[Fo.ends_length];omega)]
       simp[Fo.ends,f4]
    ·have hy:n=x:=by rw[(fm hd).1]at hv;exact Option.some.inj hv
     subst hy
     obtain⟨k1,k2,k3,k4,k5,k6⟩:=Fo.good_cons.1 hg
     obtain⟨_,hd1,_⟩:=fm hd
     have:=i4 k r (by rw[k2];simp) k5 hd1
     rw[this]
     have hle:=rR hd1 (by omega)
     rw[Fo.flat_length]at hle
     simp only[ez]
     rw[v8 (by rw[Fo.ends_length];omega)]
     simp[Fo.ends]
  ·have hu:iR walk v dz p en=(none,en):=by simp[iR,hv,hx]
   rw[hu]
   refine⟨⟨hl,fun e he=>by cases he⟩,fun n k r hg hd=>?_⟩
   have hy:n=x:=by rw[(fm hd).1]at hv;exact Option.some.inj hv
   subst hy
   obtain⟨k1,k2,k3,k4,k5,k6⟩:=Fo.good_cons.1 hg
   exfalso;apply hx
   simp only[okW,Bool.and_eq_true,decide_eq_true_eq,Bool.not_eq_true',Bool.and_eq_false_iff,beq_eq_false_iff_ne]
   refine⟨⟨k1,by omega⟩,?_⟩
   subst hz
   by_cases e:n.kind=1
   ·right;simp;omega
   ·left;exact e
theorem vi {walk:Nat→List Nat→Option Nat×List Nat}(hw0:∀ p en,(walk p en).2.length=en.length)(v:List Nd):∀(c:Nat) (next:Option Nat) (last:Nat) (en:List Nat),(bN walk v c next last en).2.length=en.length
 | 0,_,_,_=>rfl
 | _+1,none,_,_=>rfl
 | c+1,some q,last,en=>by
  cases hv:v[q]? with
  | none=>simp[bN,hv]
  | some y =>
   by_cases hb:(last==2&&y.kind==2)=true
   ·simp[bN,hv,hb]
   ·have hb':(last==2&&y.kind==2)=false:=by simpa using hb
    rw[show bN walk v (c+1) (some q) last en=bN walk v c (walk q en).1 y.kind (walk q en).2 by simp[bN,hv,hb'],vi hw0,hw0]
theorem vC {walk:Nat→List Nat→Option Nat×List Nat}(hw0:∀ p en,(walk p en).2.length=en.length)(v:List Nd)(dz:Bool)(p:Nat)(en:List Nat):(iR walk v dz p en).2.length=en.length:=by
 unfold iR
 split
 ·rfl
 ·split
  ·exact uY (vi hw0 v _ _ _ _)
  ·rfl
theorem qg (v:List Nd):∀(d p:Nat) (en:List Nat),(m9 v d p en).2.length=en.length
 | 0,p,en=>vC (fun _ _=>rfl) v true p en
 | d+1,p,en=>vC (qg v d) v false p en
theorem wa (v:List Nd):∀(d:Nat),t9 v d (m9 v d)
 | 0=>CT (d:=0) rfl (fun h=>absurd rfl h) (fun _ _=>rfl)
 | d+1=>CT (d:=d+1) (by simp) (fun _=>wa v d) (qg v d)
theorem np {v:List Nd}{en:List Nat} : cX v=some en ↔ ∃ n k,n.kind=1∧v=n::k.flat∧(Fo.cons n k .nil).good 12 0=true∧v.length≤512∧en=(1+k.size)::k.ends 1:=by
 have hw:=wa v 12 0 (List.replicate v.length 0) (by simp)
 constructor
 ·intro h
  unfold cX at h
  split at h
  ·cases h
  ·rename_i hc
   simp only[Bool.or_eq_true,decide_eq_true_eq,Bool.not_eq_true',not_or,Bool.not_eq_true,List.isEmpty_eq_false_iff,Nat.not_lt,Bool.not_eq_false,beq_iff_eq,Option.map_eq_some_iff]at hc
   obtain⟨⟨c1,c2⟩,x,c3,c4⟩:=hc
   cases hr:m9 v 12 0 (List.replicate v.length 0) with
   | mk a b =>
    rw[hr]at h hw
    cases a with
    | none=>cases h
    | some e =>
     simp only[Ea]at h
     split at h
     ·rename_i he
      cases h
      obtain⟨n,k,h1,h2,h3,h4,h5⟩:=hw.1.2 e rfl
      subst he
      simp only[List.drop_zero,List.drop_length,List.append_nil]at h2
      have hx:x=n:=by rw[h2]at c3;simpa using c3.symm
      subst hx
      refine⟨x,k,c4,h2,h1,c2,?_⟩
      simp only at h5
      have hle:=Fo.ends_length (.cons x k .nil) 0
      have hvl:v.length=k.size+1:=by rw[h2];simp[Fo.flat_length]
      rw[h5]
      unfold bw
      rw[hle,List.take_zero,List.drop_of_length_le (by simp[Fo.size];omega)]
      simp[Fo.ends]
     ·cases h
 ·rintro ⟨n,k,h1,h2,h3,h4,rfl⟩
  have hwk:=hw.2 n k [] h3 (by simpa using h2)
  have hvl:v.length=k.size+1:=by rw[h2];simp[Fo.flat_length]
  unfold cX
  rw[if_neg (by rw[h2];simp[h1];rw[h2]at h4;simpa using h4),hwk]
  simp only[Ea]
  rw[if_pos (by omega)]
  have hle:=Fo.ends_length (.cons n k .nil) 0
  unfold bw
  rw[hle,List.take_zero,List.drop_of_length_le (by simp[Fo.size];omega)]
  simp[Fo.ends]
def hops (en:List Nat)(stop:Nat):Nat→Nat→List Nat
 | 0,_=>[]
 | f+1,p=>if p<stop then p::hops en stop f (en.getD p 0) else []
theorem wS:∀(F:Fo) (b i e:Nat),(F.ends b)[i]? = some e→b+i<e∧e≤b+F.size
 | .nil,b,i,e,h=>by simp[Fo.ends]at h
 | .cons n k r,b,0,e,h=>by simp[Fo.ends]at h;simp only[Fo.size];omega
 | .cons n k r,b,i+1,e,h=>by
  simp only[Fo.ends,List.getElem?_cons_succ,List.getElem?_append,Fo.ends_length]at h
  simp only[Fo.size]
  split at h
  ·have:=wS k _ _ _ h;omega
  ·have:=wS r _ _ _ h;omega
def Fo.sub:Fo→Nat→Option (Nd×Fo)
 | .nil,_=>none
 | .cons n k _,0=>some (n,k)
 | .cons _ k r,i+1=>if i<k.size then k.sub i else r.sub (i-k.size)
theorem gH:aQ []=0:=by decide
theorem En {n:Nd}{k:Fo}{d:Nat}(hd:d≤12)(hk:n.kind=1)(h:(Fo.cons n k .nil).good d 0=true)(hl:k.size+1≤512):cX (n::k.flat)=some ((1+k.size)::k.ends 1) :=
 np.2 ⟨n,k,hk,rfl,Fo.good_mono hd h,by simpa [Fo.flat_length] using hl,rfl⟩
theorem AC (l:List At)(f:Nat)(caps:List V)(p:At→Bool)(hf:∀ h∈l,∀ nm,Ev cx f nm (.agg (bG h)::caps) aq.nil (.bool (p h)) [])(hn:l.length≤bh)(hpl:plainL caps=true)(nm:Nat):Ev cx 101 nm [.sl false 3 (l.map bG),.fn f caps] aq.nil (.int .i64 (ES (l.findIdx? p))) []:=by
 unfold bh at hn
 refine ay rfl (fun cargs w=>call101 cargs w) func101 rfl mixed (by kernel_rfl) rfl ?_;intro b0 hb0
 repeat' first|simp only[al,aj,results101,ntmps101,am,ai,seval,ah]|exact rfl|refine aa (v:=.any) ?_|((first|(refine aM (g:=?_) ?_ ?_)|(refine aI (g:=?_) ?_ ?_));rotate_left 1;(focus (simp only[results101,ntmps101,am,ai,seval,ah]<;>exact rfl)))|((first|apply Ca|apply Cb)<;>intro hb)|refine Ai (by omega) ?_|(apply Ai<;>intro hb)
 (refine aU co (fun x:Nat=>l.length-x) (fun x=>x≤l.length∧(l.take x).any p=false) (b0+16) (fun x=>[(0,.sl false 3 (l.map bG)),(1,.fn f caps),(7,.int .i64 l.length),(8,.int .i64 x)]) (fun x=>[]) (0) [] ?_ ?_ ?_ ?_;rotate_left 1;(focus (show b0≤_;omega));(focus (refine⟨?_,?_⟩<;>(try simp only[bk,Lm,av,eC hpl,df hpl,ai,seval,ah,au])<;>(try omega)));rotate_left 1)
 ·exact⟨Nat.zero_le _,by simp⟩
 ·rintro k ⟨hk,hno⟩
  by_cases hlt:k<l.length
  ·obtain⟨h,hh⟩:∃ h,l[k]? = some h:=⟨_,List.getElem?_eq_getElem hlt⟩
   have hat:(l.map bG)[k]? = some (bG h):=by rw[List.getElem?_map,hh];rfl
   have hd:decide (k<l.length)=true:=decide_eq_true hlt
   have hwk:IntKind.i64.wrap ((k:Int)+1)=((k+1:Nat):Int):=aN (by omega) (by omega)
   have hfh:=hf h (List.mem_of_getElem? hh)
   cases hp:p h with
   | true =>
    have hfd:=lG hno hh hp
    rw[hp]at hfh
    (repeat' first|simp only[al,aj,results101,ntmps101,am,hat,bG,hlt,hd,hwk,hfd,b9,Lm,ai,seval,ah]|exact rfl|refine aa (v:=.any) ?_|refine cL (g:=f) (caps:=caps) (by simp only[results101,ntmps101,am,hat,bG,hlt,hd,hwk,hfd,b9,Lm,ai,seval,ah]<;>exact rfl) (by simp only[results101,ntmps101,am,hat,bG,hlt,hd,hwk,hfd,b9,Lm,ai,seval,ah]<;>exact rfl) (hfh _) ?_|((first|(refine aM (g:=?_) ?_ ?_)|(refine aI (g:=?_) ?_ ?_));rotate_left 1;(focus (simp only[results101,ntmps101,am,hat,bG,hlt,hd,hwk,hfd,b9,Lm,ai,seval,ah]<;>exact rfl)))|((first|apply Ca|apply Cb)<;>intro hb)|refine Ai (by omega) ?_|(apply Ai<;>intro hb)|refine Fin.pure ?_ ?_ ?_|simp only[au])
   | false =>
    have hn':=fR (p:=p) hno hh hp
    rw[hp]at hfh
    repeat' first|simp only[al,aj,results101,ntmps101,am,hat,bG,hlt,hd,hwk,Lm,ai,seval,ah]|exact rfl|refine aa (v:=.any) ?_|refine cL (g:=f) (caps:=caps) (by simp only[results101,ntmps101,am,hat,bG,hlt,hd,hwk,Lm,ai,seval,ah]<;>exact rfl) (by simp only[results101,ntmps101,am,hat,bG,hlt,hd,hwk,Lm,ai,seval,ah]<;>exact rfl) (hfh _) ?_|((first|(refine aM (g:=?_) ?_ ?_)|(refine aI (g:=?_) ?_ ?_));rotate_left 1;(focus (simp only[results101,ntmps101,am,hat,bG,hlt,hd,hwk,Lm,ai,seval,ah]<;>exact rfl)))|((first|apply Ca|apply Cb)<;>intro hb)|refine Ai (by omega) ?_|(apply Ai<;>intro hb)
    all_goals ((refine aJ co (k+1) [] ?_ ?_ ?_ ?_;rotate_left 2;(focus (show b0≤_;omega));(focus (refine⟨?_,?_⟩<;>(try simp only[bk,av,eC hpl,df hpl,hwk,ai,seval,ah,au])<;>(try omega)))))
    all_goals (first|(show l.length-(k+1)<l.length-k;omega)|exact⟨hlt,hn'⟩|skip)
  ·have hke:k=l.length:=by omega
   subst hke
   rw[List.take_length]at hno
   have hfd:=jd hno
   have hd:decide (l.length<l.length)=false:=decide_eq_false (by omega)
   (repeat' first|simp only[al,aj,results101,ntmps101,am,hd,hfd,ec,Lm,ai,seval,ah]|exact rfl|refine aa (v:=.any) ?_|((first|(refine aM (g:=?_) ?_ ?_)|(refine aI (g:=?_) ?_ ?_));rotate_left 1;(focus (simp only[results101,ntmps101,am,hd,hfd,ec,Lm,ai,seval,ah]<;>exact rfl)))|((first|apply Ca|apply Cb)<;>intro hb)|refine Ai (by omega) ?_|(apply Ai<;>intro hb)|refine Fin.pure ?_ ?_ ?_|simp only[au])
theorem fG (l:List At)(f:Nat)(caps:List V)(p:At→Bool)(hf:∀ h∈l,∀ nm,Ev cx f nm (.agg (bG h)::caps) aq.nil (.bool (p h)) [])(hn:l.length≤bh)(hpl:plainL caps=true)(nm:Nat):Ev cx 64 nm [.sl false 3 (l.map bG),.fn f caps] aq.nil (.bool (l.any p)) []:=by
 have hi:=AC l f caps p hf hn hpl
 cases h:l.findIdx? p with
 | none =>
  have ha:l.any p=false:=sH h
  rw[h]at hi
  refine ay rfl (fun cargs w=>call64 cargs w) func64 rfl mixed (by kernel_rfl) rfl ?_;intro b0 hb0
  (repeat' first|simp only[al,aj,results64,ntmps64,am,ha,ec,ai,seval,ah]|exact rfl|refine aa (v:=.any) ?_|(first|(refine ac ?_ (hi _) ?_)|(refine ab ?_ (fun _=>hi _) ?_))|((first|apply Ca|apply Cb)<;>intro hb)|refine Ai (by omega) ?_|(apply Ai<;>intro hb)|refine Fin.pure ?_ ?_ ?_|simp only[au])
 | some n =>
  have ha:l.any p=true:=t0 h
  rw[h]at hi
  have hz:decide ((0:Int)≤(n:Int))=true:=decide_eq_true (by omega)
  refine ay rfl (fun cargs w=>call64 cargs w) func64 rfl mixed (by kernel_rfl) rfl ?_;intro b0 hb0
  (repeat' first|simp only[al,aj,results64,ntmps64,am,ha,b9,hz,ai,seval,ah]|exact rfl|refine aa (v:=.any) ?_|(first|(refine ac ?_ (hi _) ?_)|(refine ab ?_ (fun _=>hi _) ?_))|((first|apply Ca|apply Cb)<;>intro hb)|refine Ai (by omega) ?_|(apply Ai<;>intro hb)|refine Fin.pure ?_ ?_ ?_|simp only[au])
theorem Ao (l:List Nd)(f:Nat)(caps:List V)(p:Nd→Bool)(hf:∀ h∈l,∀ nm,Ev cx f nm (.agg (ba h)::caps) aq.nil (.bool (p h)) [])(hn:l.length≤bh)(hpl:plainL caps=true)(nm:Nat):Ev cx 85 nm [.sl false 6 (l.map ba),.fn f caps] aq.nil (.int .i64 (ES (l.findIdx? p))) []:=by
 unfold bh at hn
 refine ay rfl (fun cargs w=>call85 cargs w) func85 rfl mixed (by kernel_rfl) rfl ?_;intro b0 hb0
 repeat' first|simp only[al,aj,results85,ntmps85,am,ai,seval,ah]|exact rfl|refine aa (v:=.any) ?_|((first|(refine aM (g:=?_) ?_ ?_)|(refine aI (g:=?_) ?_ ?_));rotate_left 1;(focus (simp only[results85,ntmps85,am,ai,seval,ah]<;>exact rfl)))|((first|apply Ca|apply Cb)<;>intro hb)|refine Ai (by omega) ?_|(apply Ai<;>intro hb)
 (refine aU co (fun x:Nat=>l.length-x) (fun x=>x≤l.length∧(l.take x).any p=false) (b0+16) (fun x=>[(0,.sl false 6 (l.map ba)),(1,.fn f caps),(7,.int .i64 l.length),(8,.int .i64 x)]) (fun x=>[]) (0) [] ?_ ?_ ?_ ?_;rotate_left 1;(focus (show b0≤_;omega));(focus (refine⟨?_,?_⟩<;>(try simp only[bk,Lm,ad,eC hpl,df hpl,ai,seval,ah,au])<;>(try omega)));rotate_left 1)
 ·exact⟨Nat.zero_le _,by simp⟩
 ·rintro k ⟨hk,hno⟩
  by_cases hlt:k<l.length
  ·obtain⟨h,hh⟩:∃ h,l[k]? = some h:=⟨_,List.getElem?_eq_getElem hlt⟩
   have hat:(l.map ba)[k]? = some (ba h):=by rw[List.getElem?_map,hh];rfl
   have hd:decide (k<l.length)=true:=decide_eq_true hlt
   have hwk:IntKind.i64.wrap ((k:Int)+1)=((k+1:Nat):Int):=aN (by omega) (by omega)
   have hfh:=hf h (List.mem_of_getElem? hh)
   cases hp:p h with
   | true =>
    have hfd:=lG hno hh hp
    rw[hp]at hfh
    (repeat' first|simp only[al,aj,results85,ntmps85,am,hat,ba,hlt,hd,hwk,hfd,b9,Lm,ai,seval,ah]|exact rfl|refine aa (v:=.any) ?_|refine cL (g:=f) (caps:=caps) (by simp only[results85,ntmps85,am,hat,ba,hlt,hd,hwk,hfd,b9,Lm,ai,seval,ah]<;>exact rfl) (by simp only[results85,ntmps85,am,hat,ba,hlt,hd,hwk,hfd,b9,Lm,ai,seval,ah]<;>exact rfl) (hfh _) ?_|((first|(refine aM (g:=?_) ?_ ?_)|(refine aI (g:=?_) ?_ ?_));rotate_left 1;(focus (simp only[results85,ntmps85,am,hat,ba,hlt,hd,hwk,hfd,b9,Lm,ai,seval,ah]<;>exact rfl)))|((first|apply Ca|apply Cb)<;>intro hb)|refine Ai (by omega) ?_|(apply Ai<;>intro hb)|refine Fin.pure ?_ ?_ ?_|simp only[au])
   | false =>
    have hn':=fR (p:=p) hno hh hp
    rw[hp]at hfh
    repeat' first|simp only[al,aj,results85,ntmps85,am,hat,ba,hlt,hd,hwk,Lm,ai,seval,ah]|exact rfl|refine aa (v:=.any) ?_|refine cL (g:=f) (caps:=caps) (by simp only[results85,ntmps85,am,hat,ba,hlt,hd,hwk,Lm,ai,seval,ah]<;>exact rfl) (by simp only[results85,ntmps85,am,hat,ba,hlt,hd,hwk,Lm,ai,seval,ah]<;>exact rfl) (hfh _) ?_|((first|(refine aM (g:=?_) ?_ ?_)|(refine aI (g:=?_) ?_ ?_));rotate_left 1;(focus (simp only[results85,ntmps85,am,hat,ba,hlt,hd,hwk,Lm,ai,seval,ah]<;>exact rfl)))|((first|apply Ca|apply Cb)<;>intro hb)|refine Ai (by omega) ?_|(apply Ai<;>intro hb)
    all_goals ((refine aJ co (k+1) [] ?_ ?_ ?_ ?_;rotate_left 2;(focus (show b0≤_;omega));(focus (refine⟨?_,?_⟩<;>(try simp only[bk,ad,eC hpl,df hpl,hwk,ai,seval,ah,au])<;>(try omega)))))
    all_goals (first|(show l.length-(k+1)<l.length-k;omega)|exact⟨hlt,hn'⟩|skip)
  ·have hke:k=l.length:=by omega
   subst hke
   rw[List.take_length]at hno
   have hfd:=jd hno
   have hd:decide (l.length<l.length)=false:=decide_eq_false (by omega)
   (repeat' first|simp only[al,aj,results85,ntmps85,am,hd,hfd,ec,Lm,ai,seval,ah]|exact rfl|refine aa (v:=.any) ?_|((first|(refine aM (g:=?_) ?_ ?_)|(refine aI (g:=?_) ?_ ?_));rotate_left 1;(focus (simp only[results85,ntmps85,am,hd,hfd,ec,Lm,ai,seval,ah]<;>exact rfl)))|((first|apply Ca|apply Cb)<;>intro hb)|refine Ai (by omega) ?_|(apply Ai<;>intro hb)|refine Fin.pure ?_ ?_ ?_|simp only[au])
theorem gW (l:List Nd)(f:Nat)(caps:List V)(p:Nd→Bool)(hf:∀ h∈l,∀ nm,Ev cx f nm (.agg (ba h)::caps) aq.nil (.bool (p h)) [])(hn:l.length≤bh)(hpl:plainL caps=true)(nm:Nat):Ev cx 44 nm [.sl false 6 (l.map ba),.fn f caps] aq.nil (.bool (l.any p)) []:=by
 have hi:=Ao l f caps p hf hn hpl
 cases h:l.findIdx? p with
 | none =>
  have ha:l.any p=false:=sH h
  rw[h]at hi
  refine ay rfl (fun cargs w=>call44 cargs w) func44 rfl mixed (by kernel_rfl) rfl ?_;intro b0 hb0
  (repeat' first|simp only[al,aj,results44,ntmps44,am,ha,ec,ai,seval,ah]|exact rfl|refine aa (v:=.any) ?_|(first|(refine ac ?_ (hi _) ?_)|(refine ab ?_ (fun _=>hi _) ?_))|((first|apply Ca|apply Cb)<;>intro hb)|refine Ai (by omega) ?_|(apply Ai<;>intro hb)|refine Fin.pure ?_ ?_ ?_|simp only[au])
 | some n =>
  have ha:l.any p=true:=t0 h
  rw[h]at hi
  have hz:decide ((0:Int)≤(n:Int))=true:=decide_eq_true (by omega)
  refine ay rfl (fun cargs w=>call44 cargs w) func44 rfl mixed (by kernel_rfl) rfl ?_;intro b0 hb0
  (repeat' first|simp only[al,aj,results44,ntmps44,am,ha,b9,hz,ai,seval,ah]|exact rfl|refine aa (v:=.any) ?_|(first|(refine ac ?_ (hi _) ?_)|(refine ab ?_ (fun _=>hi _) ?_))|((first|apply Ca|apply Cb)<;>intro hb)|refine Ai (by omega) ?_|(apply Ai<;>intro hb)|refine Fin.pure ?_ ?_ ?_|simp only[au])
theorem DK (a b:At)(nm:Nat):Ev cx 198 nm [.agg (bG b),.rp (bG a)] aq.nil (.bool (a.space==b.space&&a.name==b.name)) []:=by
 refine ay rfl (fun cargs w=>call198 cargs w) func198 rfl mixed (by kernel_rfl) rfl ?_;intro b0 hb0
 (repeat' first|simp only[al,aj,results198,ntmps198,am,bG,ai,seval,ah]|exact rfl|refine aa (v:=.any) ?_|((first|apply Ca|apply Cb)<;>intro hb)|refine Ai (by omega) ?_|(apply Ai<;>intro hb)|refine Fin.pure ?_ ?_ ?_|simp only[au])
theorem HO (l:List At)(hl:l.length≤bh)(hs:∀ a∈l,a.space.length≤bh∧a.name.length≤bh∧a.value.length≤bh)(nm:Nat):Ev cx 163 nm [.sl false 3 (l.map bG)] aq.nil (.bool (tn l)) []:=by
 have hl':=hl
 unfold bh at hl'
 refine ay rfl (fun cargs w=>call163 cargs w) func163 rfl mixed (by kernel_rfl) rfl ?_;intro b0 hb0
 repeat' first|simp only[al,aj,results163,ntmps163,am,ai,seval,ah]|exact rfl|refine aa (v:=.any) ?_|((first|apply Ca|apply Cb)<;>intro hb)|refine Ai (by omega) ?_|(apply Ai<;>intro hb)
 (refine aU co (fun x:Nat=>l.length-x) (fun x=>x≤l.length∧u7 l x) (b0+16) (fun x=>[(0,.sl false 3 (l.map bG)),(6,.sl false 3 (l.map bG)),(7,.int .i64 l.length),(8,.int .i64 x)]) (fun x=>[]) (0) [] ?_ ?_ ?_ ?_;rotate_left 1;(focus (show b0≤_;omega));(focus (refine⟨?_,?_⟩<;>(try simp only[bk,av,Lm,ai,seval,ah,au])<;>(try omega)));rotate_left 1)
 ·exact⟨Nat.zero_le _,fun i a hi=>by omega⟩
 ·rintro k ⟨hk,hn⟩
  by_cases hlt:k<l.length
  ·obtain⟨a,ha⟩:∃ a,l[k]? = some a:=⟨_,List.getElem?_eq_getElem hlt⟩
   obtain⟨hs0,hs1,hs2⟩:=hs a (List.mem_of_getElem? ha)
   have hat:=oD ha
   have hd:decide (k<l.length)=true:=decide_eq_true hlt
   have hwk:IntKind.i64.wrap ((k:Int)+1)=((k+1:Nat):Int):=aN (by omega) (by omega)
   have hki:(k:Int)≤(l.length:Int):=by omega
   have htk:(l.map bG).take k=(l.take k).map bG:=by rw[List.map_take]
   have hlen:(l.take k).length≤bh:=by rw[List.length_take];unfold bh;omega
   have hf2:=iG a.name hs1
   have hc2:=cV a.value hs2
   have hc3:=cV a.space hs0
   have hh2:=fG (l.take k) 198 [.rp (bG a)] (fun b=>a.space==b.space&&a.name==b.name) (fun b _ nm=>DK a b nm) hlen rfl
   have hok:Ht (l.take k) a=(!((l.take k).any fun b=>a.space==b.space&&a.name==b.name)&&b8 a.name&&decide (aQ a.value=0)&&decide (aQ a.space=0)):=rfl
   have hz2:decide (aQ a.value=0) = !(aQ a.value != 0):=by rw[Bool.eq_iff_iff];simp
   have hz3:decide (aQ a.space=0) = !(aQ a.space != 0):=by rw[Bool.eq_iff_iff];simp
   rw[hz2,hz3]at hok
   generalize hb1:((l.take k).any fun b=>a.space==b.space&&a.name==b.name)=b1 at hh2 hok
   generalize hb2:b8 a.name=b2 at hf2 hok
   generalize hb3:(aQ a.value != 0)=b3 at hok
   generalize hb4:(aQ a.space != 0)=b4 at hok
   cases ho2:Ht (l.take k) a with
   | false =>
    have hr:=Eb ha ho2
    rw[ho2]at hok
    cases b1<;>cases b2<;>cases b3<;>cases b4
    all_goals (try (exfalso;simp at hok;done))
    all_goals ((repeat' first|simp only[results163,ntmps163,am,av,hat,bG,hd,hlt,hk,hki,htk,hb3,hb4,hr,Bt,Bf,Lm,Nat.zero_add,ai,seval,ah]|exact rfl|((first|(refine ac ?_ (hf2 _) ?_)|(refine ab ?_ (fun _=>hf2 _) ?_)|(refine ac ?_ (hc2 _) ?_)|(refine ab ?_ (fun _=>hc2 _) ?_));(focus (simp only[results163,ntmps163,am,av,hat,bG,hd,hlt,hk,hki,htk,hb3,hb4,hr,Bt,Bf,Lm,Nat.zero_add,ai,seval,ah]<;>exact rfl)))|((first|(refine ac ?_ (hc3 _) ?_)|(refine ab ?_ (fun _=>hc3 _) ?_));(focus (simp only[results163,ntmps163,am,av,hat,bG,hd,hlt,hk,hki,htk,hb3,hb4,hr,Bt,Bf,Lm,Nat.zero_add,ai,seval,ah]<;>exact rfl)))|((refine bq (xs:=?_) [b0+80] ?_ ?_ ?_ rfl (hh2 _) ?_);rotate_left 1;iterate 3 (focus (simp only[al,aj,results163,ntmps163,am,av,hat,bG,hd,hlt,hk,hki,htk,hb3,hb4,hr,Bt,Bf,Lm,Nat.zero_add,ai,seval,ah]<;>(first|exact rfl|omega))))|(refine aa (v:=.any) ?_)|((first|apply Ca|apply Cb)<;>intro hb)|refine Ai (by omega) ?_|(apply Ai<;>intro hb)|refine Fin.pure ?_ ?_ ?_|simp only[au]))
   | true =>
    have hn':=Ar hn ha ho2
    rw[ho2]at hok
    cases b1<;>cases b2<;>cases b3<;>cases b4
    all_goals (try (exfalso;simp at hok;done))
    all_goals (repeat' first|simp only[results163,ntmps163,am,av,hat,bG,hd,hlt,hk,hki,htk,hb3,hb4,hwk,Bt,Bf,Lm,Nat.zero_add,ai,seval,ah]|exact rfl|((first|(refine ac ?_ (hf2 _) ?_)|(refine ab ?_ (fun _=>hf2 _) ?_)|(refine ac ?_ (hc2 _) ?_)|(refine ab ?_ (fun _=>hc2 _) ?_));(focus (simp only[results163,ntmps163,am,av,hat,bG,hd,hlt,hk,hki,htk,hb3,hb4,hwk,Bt,Bf,Lm,Nat.zero_add,ai,seval,ah]<;>exact rfl)))|((first|(refine ac ?_ (hc3 _) ?_)|(refine ab ?_ (fun _=>hc3 _) ?_));(focus (simp only[results163,ntmps163,am,av,hat,bG,hd,hlt,hk,hki,htk,hb3,hb4,hwk,Bt,Bf,Lm,Nat.zero_add,ai,seval,ah]<;>exact rfl)))|((refine bq (xs:=?_) [b0+80] ?_ ?_ ?_ rfl (hh2 _) ?_);rotate_left 1;iterate 3 (focus (simp only[al,aj,results163,ntmps163,am,av,hat,bG,hd,hlt,hk,hki,htk,hb3,hb4,hwk,Bt,Bf,Lm,Nat.zero_add,ai,seval,ah]<;>(first|exact rfl|omega))))|((first|apply Ca|apply Cb)<;>intro hb)|refine Ai (by omega) ?_|(apply Ai<;>intro hb))
    all_goals ((refine aJ co (k+1) [] ?_ ?_ ?_ ?_;rotate_left 2;(focus (show b0≤_;omega));(focus (refine⟨?_,?_⟩<;>(try simp only[bk,av,hwk,ai,seval,ah,au])<;>(try omega)))))
    all_goals (first|(show l.length-(k+1)<l.length-k;omega)|exact⟨hlt,hn'⟩|skip)
  ·have hke:k=l.length:=by omega
   subst hke
   have hd:decide (l.length<l.length)=false:=decide_eq_false (by omega)
   have hr:tn l=decide (l.length≤16):=by
    rw[Bool.eq_iff_iff,rn];simp[hn]
   have hi:decide ((l.length:Int)≤16)=decide (l.length≤16):=by rw[Bool.eq_iff_iff];simp;omega
   (repeat' first|simp only[al,aj,results163,ntmps163,am,hd,hr,hi,Lm,ai,seval,ah]|exact rfl|refine aa (v:=.any) ?_|((first|apply Ca|apply Cb)<;>intro hb)|refine Ai (by omega) ?_|(apply Ai<;>intro hb)|refine Fin.pure ?_ ?_ ?_|simp only[au])
def Nd.okTo (n:Nd)(k:Nat):Prop:=n.attrs.length≤k∧n.space.length≤k∧n.name.length≤k∧n.text.length≤k ∧ ∀ a∈n.attrs,a.space.length≤k∧a.name.length≤k∧a.value.length≤k
theorem CG (s:List UInt8):(s==[])=s.isEmpty:=by cases s<;>rfl
theorem KA {n:Nd}(h:n.kind=2):iI n=(n.name.isEmpty&&n.space.isEmpty&&((n.attrs.length:Int)==0)&&(n.many==0) && !n.text.isEmpty&&(aQ n.text==0)):=by
 unfold iI
 rw[if_pos h]
 have h1:((n.attrs.length:Int)==0)=n.attrs.isEmpty:=lX _
 have h2:(n.many==0)=decide (n.many=0):=by rw[Bool.eq_iff_iff];simp
 have h3:(aQ n.text==0)=decide (aQ n.text=0):=by rw[Bool.eq_iff_iff];simp
 rw[h1,h2,h3]
theorem KK {n:Nd}(h:¬ n.kind=2):iI n=(((n.kind:Int)==1)&&n.text.isEmpty&&b8 n.name&&(aQ n.space==0)&&tn n.attrs):=by
 unfold iI
 rw[if_neg h]
 have h2:((n.kind:Int)==1)=decide (n.kind=1):=by rw[Bool.eq_iff_iff];simp;omega
 have h3:(aQ n.space==0)=decide (aQ n.space=0):=by rw[Bool.eq_iff_iff];simp
 rw[h2,h3]
theorem Mk (n:Nd)(h:n.okTo bh)(nm:Nat):Ev cx 119 nm [.agg (ba n)] aq.nil (.bool (iI n)) []:=by
 obtain⟨h1,h2,h3,h4,h5⟩:=h
 have hc:=cV n.text h4
 have hc2:=cV n.space h2
 have hf:=iG n.name h3
 have ha:=HO n.attrs h1 h5
 by_cases hk:n.kind=2
 ·have hkb:((n.kind:Int)==2)=true:=by rw[hk];rfl
  rw[KA hk]
  refine ay rfl (fun cargs w=>call119 cargs w) func119 rfl mixed (by kernel_rfl) rfl ?_;intro b0 hb0
  (repeat' first|simp only[al,aj,results119,ntmps119,am,ba,hkb,CG,Lm,ai,seval,ah]|exact rfl|refine aa (v:=.any) ?_|(first|(refine ac ?_ (hc _) ?_)|(refine ab ?_ (fun _=>hc _) ?_))|((first|apply Ca|apply Cb)<;>intro hb)|refine Ai (by omega) ?_|(apply Ai<;>intro hb)|refine Fin.pure ?_ ?_ ?_|simp only[au])
 ·have hkb:((n.kind:Int)==2)=false:=beq_false_of_ne (by omega)
  rw[KK hk]
  refine ay rfl (fun cargs w=>call119 cargs w) func119 rfl mixed (by kernel_rfl) rfl ?_;intro b0 hb0
  (repeat' first|simp only[al,aj,results119,ntmps119,am,ba,hkb,CG,Lm,ai,seval,ah]|exact rfl|refine aa (v:=.any) ?_|(first|(refine ac ?_ (hc2 _) ?_)|(refine ab ?_ (fun _=>hc2 _) ?_)|(refine ac ?_ (hf _) ?_)|(refine ab ?_ (fun _=>hf _) ?_)|(refine ac ?_ (ha _) ?_)|(refine ab ?_ (fun _=>ha _) ?_))|((first|apply Ca|apply Cb)<;>intro hb)|refine Ai (by omega) ?_|(apply Ai<;>intro hb)|refine Fin.pure ?_ ?_ ?_|simp only[au])
end Go.Proofs.YtidmkaalhmeflaaGreatDoor
