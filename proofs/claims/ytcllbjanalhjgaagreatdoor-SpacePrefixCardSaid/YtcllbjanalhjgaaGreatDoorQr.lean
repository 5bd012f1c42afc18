/-
 Texts joined: XSa,XSb,XSc,XSd,XSe.
-/
import Derived.Test.YtcllbjanalhjgaaGreatDoorQf
import Derived.Test.YtcllbjanalhjgaaGreatDoorQl
import Derived.Test.YtcllbjanalhjgaaGreatDoorQp
namespace Go.Proofs.YtcllbjanalhjgaaGreatDoor
set_option maxRecDepth 100000
set_option maxHeartbeats 32000000
set_option linter.unusedSimpArgs false
set_option linter.unusedVariables false
open Go Go.RowKit Vm Go.Lib Tryz
open Vm renaming be→Ca,bo→Cb
open And renaming intro→Ai
open List renaming length_map→Lm,not_mem_nil→Ln,map_nil→Lo,map_cons→Lc,mem_cons→Lk
open Bool renaming not_false→Bf,not_true→Bt
def J1 (l:List At)(a:At):Bool:=!(l.any fun b=>a.space==b.space&&a.name==b.name)&&b8 a.name&&decide (aO a.value=0)&&decide (aO a.space=0)
def tT (l:List At)(k:Nat):Prop:=∀(i:Nat) (a:At),i<k→l[i]? = some a→J1 (l.take i) a=true
def pX (l:List At):Bool:=decide (l.length≤16)&&l.zipIdx.all fun p=>J1 (l.take p.2) p.1
theorem qn {l:List At} : pX l=true↔l.length≤16∧tT l l.length:=by
 unfold pX tT
 simp only[Bool.and_eq_true,decide_eq_true_eq,List.all_eq_true]
 refine and_congr_right fun _=>⟨fun h i a hi ha=>?_,fun h p hp=>?_⟩
 ·refine h (a,i) ?_
  rw[List.mem_zipIdx_iff_getElem?];exact ha
 ·have:=(List.mem_zipIdx_iff_getElem?).1 hp
  exact h p.2 p.1 (List.getElem?_eq_some_iff.1 this).1 this
theorem zb {l:List At}{k:Nat}{a:At}(h:tT l k)(ha:l[k]? = some a)(ho:J1 (l.take k) a=true):tT l (k+1):=by
 intro i b hi hb
 by_cases e:i=k
 ·subst e;rw[ha]at hb;cases hb;exact ho
 ·exact h i b (by omega) hb
theorem Ci {l:List At}{k:Nat}{a:At}(ha:l[k]? = some a)(ho:J1 (l.take k) a=false):pX l=false:=by
 cases h:pX l with
 | false=>rfl
 | true =>
  have:=(qn.1 h).2 k a (List.getElem?_eq_some_iff.1 ha).1 ha
  rw[ho]at this;cases this
def iY (n:Nd):Bool :=
 if n.kind=2 then n.name.isEmpty&&n.space.isEmpty&&n.attrs.isEmpty&&decide (n.many=0) && !n.text.isEmpty&&decide (aO n.text=0)
 else decide (n.kind=1)&&n.text.isEmpty&&b8 n.name&&decide (aO n.space=0)&&pX n.attrs
theorem pg {n:Nd}(h:iY n=true):n.kind=1∨n.kind=2:=by
 unfold iY at h
 split at h
 ·right;assumption
 ·simp only[Bool.and_eq_true,decide_eq_true_eq]at h;left;exact h.1.1.1.1
theorem ma {n:Nd}(h:iY n=true)(hk:n.kind=2):n.name=[]∧n.space=[]∧n.attrs=[]∧n.many=0∧n.text≠[]∧aO n.text=0:=by
 unfold iY at h
 rw[if_pos hk]at h
 simp only[Bool.and_eq_true,decide_eq_true_eq,List.isEmpty_iff,Bool.not_eq_true',List.isEmpty_eq_false_iff]at h
 obtain⟨⟨⟨⟨⟨h1,h2⟩,h3⟩,h4⟩,h5⟩,h6⟩:=h
 exact⟨h1,h2,h3,h4,h5,h6⟩
theorem uD {n:Nd}(h:iY n=true)(hk:n.kind=1):n.text=[]∧b8 n.name=true∧aO n.space=0∧pX n.attrs=true:=by
 unfold iY at h
 rw[if_neg (by omega)]at h
 simp only[Bool.and_eq_true,decide_eq_true_eq,List.isEmpty_iff]at h
 obtain⟨⟨⟨⟨h1,h2⟩,h3⟩,h4⟩,h5⟩:=h
 exact⟨h2,h3,h4,h5⟩
def bM (walk:Nat→List Nat→Option Nat×List Nat)(v:List Nd):Nat→Option Nat→Nat→List Nat→Option Nat×List Nat
 | 0,next,_,en=>(next,en)
 | _+1,none,_,en=>(none,en)
 | n+1,some next,last,en=>match v[next]? with
  | none=>(none,en)
  | some y=>if (last==2&&y.kind==2)=true then (none,en) else bM walk v n (walk next en).1 y.kind (walk next en).2
def dZ (p:Nat)(r:Option Nat×List Nat):Option Nat×List Nat:=match r.1 with
 | some e=>(some e,r.2.set p e)
 | none=>(none,r.2)
def okW (x:Nd)(dz:Bool):Bool:=iY x&&decide (0≤x.many) && !(x.kind==1&&dz)
def iJ (walk:Nat→List Nat→Option Nat×List Nat)(v:List Nd)(dz:Bool)(p:Nat)(en:List Nat):Option Nat×List Nat:=match v[p]? with
 | none=>(none,en)
 | some x=>if okW x dz=true then dZ p (bM walk v x.many.toNat (some (p+1)) 1 en) else (none,en)
def mG (v:List Nd):Nat→Nat→List Nat→Option Nat×List Nat
 | 0=>iJ (fun _ en=>(none,en)) v true
 | d+1=>iJ (mG v d) v false
def CP (n:Nat):Option Nat×List Nat→Option (List Nat)
 |(some e,en)=>if e=n then some en else none
 |(none,_)=>none
def cN (v:List Nd):Option (List Nat):=if (v.isEmpty||decide (512<v.length) || !((v[0]?).map Nd.kind==some 1))=true then none else CP v.length (mG v 12 0 (List.replicate v.length 0))
inductive Fo where
 | nil
 | cons (n:Nd) (k r:Fo)
def Fo.flat:Fo→List Nd
 | .nil=>[]
 | .cons n k r=>n::(k.flat++r.flat)
def Fo.count:Fo→Nat
 | .nil=>0
 | .cons _ _ r=>r.count+1
def Fo.size:Fo→Nat
 | .nil=>0
 | .cons _ k r=>k.size+r.size+1
theorem Fo.flat_length:∀(F:Fo),F.flat.length=F.size
 | .nil=>rfl
 | .cons n k r=>by simp[Fo.flat,Fo.size,k.flat_length,r.flat_length]
def Fo.good:Fo→Nat→Nat→Bool
 | .nil,_,_=>true
 | .cons n k r,d,last=>iY n&&decide (n.many=(k.count:Int)) && !(last==2&&n.kind==2) && !(n.kind==1&&d==0)&&k.good (d-1) 1&&r.good d n.kind
def Fo.ends:Fo→Nat→List Nat
 | .nil,_=>[]
 | .cons _ k r,b=>(b+1+k.size)::(k.ends (b+1)++r.ends (b+1+k.size))
theorem Fo.ends_length:∀(F:Fo) (b:Nat),(F.ends b).length=F.size
 | .nil,_=>rfl
 | .cons n k r,b=>by simp[Fo.ends,Fo.size,k.ends_length,r.ends_length]
def Fo.app:Fo→Fo→Fo
 | .nil,g=>g
 | .cons n k r,g=>.cons n k (r.app g)
theorem Fo.good_cons {n:Nd}{k r:Fo}{d last:Nat} :(Fo.cons n k r).good d last=true↔iY n=true∧n.many=(k.count:Int) ∧ ¬(last=2∧n.kind=2) ∧ ¬(n.kind=1∧d=0)∧k.good (d-1) 1=true∧r.good d n.kind=true:=by
 simp only[Fo.good,Bool.and_eq_true,decide_eq_true_eq,Bool.not_eq_true',Bool.and_eq_false_iff,beq_eq_false_iff_ne,ne_eq]
 constructor
 ·rintro ⟨⟨⟨⟨⟨h1,h2⟩,h3⟩,h4⟩,h5⟩,h6⟩
  exact⟨h1,h2,by rcases h3 with h|h<;>simp_all,by rcases h4 with h|h<;>simp_all,h5,h6⟩
 ·rintro ⟨h1,h2,h3,h4,h5,h6⟩
  exact⟨⟨⟨⟨⟨h1,h2⟩,by by_cases h:last=2<;>simp_all⟩,by by_cases h:n.kind=1<;>simp_all⟩,h5⟩,h6⟩
theorem Fo.good_mono:∀ {F:Fo} {d d' last:Nat},d≤d'→F.good d last=true→F.good d' last=true
 | .nil,_,_,_,_,_=>rfl
 | .cons n k r,d,d',last,hd,h=>by
  obtain⟨h1,h2,h3,h4,h5,h6⟩:=Fo.good_cons.1 h
  exact Fo.good_cons.2 ⟨h1,h2,h3,by omega,Fo.good_mono (by omega) h5,Fo.good_mono hd h6⟩
theorem Fo.text_leaf {n:Nd}{k r:Fo}{d last:Nat}(h:(Fo.cons n k r).good d last=true)(hk:n.kind=2):k = .nil:=by
 obtain⟨h1,h2,_⟩:=Fo.good_cons.1 h
 have:=(ma h1 hk).2.2.2.1
 cases k with
 | nil=>rfl
 | cons _ _ _=>simp[Fo.count]at h2;omega
theorem BZ {en l1 l2:List Nat}{p:Nat}(h:p+l1.length+l2.length≤en.length):bu (bu en p l1) (p+l1.length) l2=bu en p (l1++l2):=by
 have e1:(bu en p l1).length=en.length:=dR (by omega)
 refine List.ext_getElem? fun i=>?_
 rw[co (by omega),co (by omega),co (by simp;omega),List.getElem?_append,List.length_append]
 by_cases a:i<p
 ·rw[if_pos (by omega),if_pos a,if_pos a]
 ·by_cases b:i<p+l1.length
  ·rw[if_pos b,if_neg a,if_pos b,if_neg a,if_pos (by omega),if_pos (by omega)]
  ·by_cases c:i<p+l1.length+l2.length
   ·rw[if_neg b,if_pos c,if_neg a,if_pos (by omega),if_neg (by omega)];congr 1;omega
   ·rw[if_neg b,if_neg c,if_neg a,if_neg b,if_neg a,if_neg (by omega)]
theorem wn {en l:List Nat}{p e:Nat}(h:p+1+l.length≤en.length):(bu en (p+1) l).set p e=bu en p (e::l):=by
  refine List.ext_getElem? fun i=>?_
  rw[List.getElem?_set,dR (by omega),co (by omega),co (by simp;omega)]
  by_cases a:p=i
  · subst a;rw[if_pos rfl,if_pos (by omega),if_neg (by omega),if_pos (by simp)];simp
  · rw [if_neg a]
    by_cases b:i<p
    · rw[if_pos (by omega),if_pos b]
    · by_cases c:i<p+1+l.length
      · rw[if_neg (by omega),if_pos c,if_neg b,if_pos (by simp;omega)]
        obtain⟨j,rfl⟩:∃ j,i=p+1+j:=⟨i-(p+1),by omega⟩
        rw[show p+1+j-(p+1)=j by omega,show p+1+j-p=j+1 by omega];simp
      · rw[if_neg (by omega),if_neg c,if_neg b,if_neg (by simp;omega)]
theorem wm (en:List Nat)(p:Nat):bu en p []=en:=by simp[bu]
def qN (v:List Nd)(d:Nat)(walk:Nat→List Nat→Option Nat×List Nat):Prop:=∀ p en,en.length=v.length →
 ((walk p en).2.length=v.length ∧ ∀ e,(walk p en).1=some e → ∃ n k,(Fo.cons n k .nil).good d 0=true∧v.drop p=n::(k.flat++v.drop e)∧e=p+1+k.size∧e≤v.length∧(walk p en).2=bu en p ((Fo.cons n k .nil).ends p)) ∧
 ∀ n k r,(Fo.cons n k .nil).good d 0=true→v.drop p=n::(k.flat++r)→walk p en=(some (p+1+k.size),bu en p ((Fo.cons n k .nil).ends p))
theorem eU {v:List Nd}{p:Nat}{n:Nd}{r:List Nd}(h:v.drop p=n::r):v[p]? = some n∧v.drop (p+1)=r∧p<v.length:=by
 have h1:v[p]? = some n:=by have:=congrArg (·[0]?) h;simpa using this
 refine⟨h1,?_,(List.getElem?_eq_some_iff.1 h1).1⟩
 have:=congrArg (List.drop 1) h
 rw[List.drop_drop]at this;simpa using this
theorem ud {v:List Nd}{p:Nat}{n:Nd}(h:v[p]? = some n):v.drop p=n::v.drop (p+1):=by
 obtain⟨hp,rfl⟩:=List.getElem?_eq_some_iff.1 h
 exact List.drop_eq_getElem_cons hp
theorem oF {v a r:List Nd}{p:Nat}(h:v.drop p=a++r):v.drop (p+a.length)=r:=by
 rw[← List.drop_drop,h,List.drop_left]
theorem rA {v a r:List Nd}{p:Nat}(h:v.drop p=a++r)(hp:p≤v.length):p+a.length≤v.length:=by
 have:=congrArg List.length h
 simp at this;omega
theorem BG {v:List Nd}{d:Nat}{walk:Nat→List Nat→Option Nat×List Nat}(hw:qN v d walk):∀(c:Nat) (next:Option Nat) (last:Nat) (en:List Nat),en.length=v.length →
  (bM walk v c next last en).2.length=v.length ∧ ∀ p,next=some p→p≤v.length →
  (∀ e,(bM walk v c next last en).1=some e → ∃ F:Fo,F.count=c∧F.good d last=true∧v.drop p=F.flat++v.drop e∧e=p+F.size∧e≤v.length∧(bM walk v c next last en).2=bu en p (F.ends p)) ∧
  ∀(F:Fo) (r:List Nd),F.count=c→F.good d last=true→v.drop p=F.flat++r→bM walk v c next last en=(some (p+F.size),bu en p (F.ends p))
 | 0,next,last,en,hl=>by
  refine⟨hl,fun p hp hle=>⟨fun e he=>⟨.nil,rfl,rfl,?_,?_,?_,?_⟩,fun F r hc _ _=>?_⟩⟩
  ·subst hp;simp only[bM,Option.some.injEq]at he;subst he;rfl
  ·subst hp;simp only[bM,Option.some.injEq]at he;subst he;rfl
  ·subst hp;simp only[bM,Option.some.injEq]at he;subst he;exact hle
  ·simp[bM,Fo.ends,wm]
  ·cases F with
   | nil=>subst hp;simp[bM,Fo.ends,Fo.size,wm]
   | cons _ _ _=>simp[Fo.count]at hc
 | c+1,none,last,en,hl=>⟨hl,fun p hp=>by cases hp⟩
 | c+1,some q,last,en,hl=>by
  cases hv:v[q]? with
  | none =>
   refine⟨by simpa [bM,hv] using hl,fun p hp hle=>?_⟩
   cases hp
   refine⟨fun e he=>by simp[bM,hv]at he,fun F r hc hg hd=>?_⟩
   cases F with
   | nil=>simp[Fo.count]at hc
   | cons n k r' =>
    simp only[Fo.flat,List.cons_append]at hd
    rw[(eU hd).1]at hv;cases hv
  | some y =>
   by_cases hb:(last==2&&y.kind==2)=true
   ·refine⟨by simpa [bM,hv,hb] using hl,fun p hp hle=>?_⟩
    cases hp
    refine⟨fun e he=>by simp[bM,hv,hb]at he,fun F r hc hg hd=>?_⟩
    cases F with
    | nil=>simp[Fo.count]at hc
    | cons n k r' =>
     simp only[Fo.flat,List.cons_append]at hd
     rw[(eU hd).1]at hv;cases hv
     simp only[Bool.and_eq_true,beq_iff_eq]at hb
     exact absurd hb (Fo.good_cons.1 hg).2.2.1
   ·have hb':(last==2&&y.kind==2)=false:=by simpa using hb
    have hu:bM walk v (c+1) (some q) last en=bM walk v c (walk q en).1 y.kind (walk q en).2:=by simp[bM,hv,hb']
    rw[hu]
    obtain⟨⟨w1,w2⟩,w3⟩:=hw q en hl
    obtain⟨i1,i2⟩:=BG hw c (walk q en).1 y.kind (walk q en).2 w1
    refine⟨i1,fun p hp hle=>?_⟩
    cases hp
    refine⟨fun e he=>?_,fun F r hc hg hd=>?_⟩
    ·cases hwq:(walk q en).1 with
     | none =>
      rw[hwq]at he
      cases c<;>simp[bM]at he
     | some e1 =>
      obtain⟨n,k,g1,g2,g3,g4,g5⟩:=w2 e1 hwq
      obtain⟨i3,_⟩:=i2 e1 hwq g4
      obtain⟨F,f1,f2,f3,f4,f5,f6⟩:=i3 e he
      have hy:n=y:=by rw[(eU g2).1]at hv;exact Option.some.inj hv
      subst hy
      obtain⟨k1,k2,k3,k4,k5,k6⟩:=Fo.good_cons.1 g1
      refine⟨.cons n k F,by simp[Fo.count,f1],Fo.good_cons.2 ⟨k1,k2,?_,k4,k5,f2⟩,?_,?_,f5,?_⟩
      ·simpa using hb'
      ·rw[g2,f3];simp[Fo.flat]
      ·simp only[Fo.size];omega
      ·rw[hwq]at f6;rw[f6,g5]
       have hlen:=Fo.ends_length (.cons n k .nil) q
       have hlF:=Fo.ends_length F e1
       have hs:e1=q+((Fo.cons n k .nil).ends q).length:=by rw[hlen];simp[Fo.size];omega
       have:=BZ (en:=en) (l1:=(Fo.cons n k .nil).ends q) (l2:=F.ends e1) (p:=q) (by omega)
       rw[← hs]at this
       rw[this]
       simp[Fo.ends,g3]
    ·cases F with
     | nil=>simp[Fo.count]at hc
     | cons n k r' =>
      obtain⟨k1,k2,k3,k4,k5,k6⟩:=Fo.good_cons.1 hg
      simp only[Fo.flat,List.cons_append,List.append_assoc]at hd
      have hy:n=y:=by rw[(eU hd).1]at hv;exact Option.some.inj hv
      subst hy
      have hwk:=w3 n k (r'.flat++r) (Fo.good_cons.2 ⟨k1,k2,by omega,k4,k5,rfl⟩) hd
      have hd1:v.drop q=(n::k.flat)++(r'.flat++r):=by simpa using hd
      have hle1:=rA hd1 hle
      have hd2:=oF hd1
      simp only[List.length_cons,Fo.flat_length]at hle1 hd2
      have hq1:q+(k.size+1)=q+1+k.size:=by omega
      rw[hq1]at hd2
      obtain⟨_,i4⟩:=i2 (q+1+k.size) (by rw[hwk]) (by omega)
      have hF:=i4 r' r (by simpa [Fo.count] using hc) k6 hd2
      rw[hF,hwk]
      have hlen:=Fo.ends_length (.cons n k .nil) q
      have hs:q+1+k.size=q+((Fo.cons n k .nil).ends q).length:=by rw[hlen];simp[Fo.size];omega
      have hle2:=rA hd2 (by omega)
      rw[Fo.flat_length]at hle2
      have:=BZ (en:=en) (l1:=(Fo.cons n k .nil).ends q) (l2:=r'.ends (q+1+k.size)) (p:=q) (by rw[Fo.ends_length,Fo.ends_length];simp only[Fo.size];omega)
      rw[← hs]at this
      simp only
      rw[this]
      simp[Fo.ends,Fo.size];omega
theorem ue {p n:Nat}{r:Option Nat×List Nat}(h:r.2.length=n):(dZ p r).2.length=n:=by
 unfold dZ;split<;>simpa using h
theorem BO {v:List Nd}{d:Nat}{dz:Bool}{walk:Nat→List Nat→Option Nat×List Nat}(hz:dz=decide (d=0))(hw:d≠0→qN v (d-1) walk)(hw0:∀ p en,(walk p en).2.length=en.length):qN v d (iJ walk v dz):=by
 have hlen0:∀(c:Nat) (next:Option Nat) (last:Nat) (en:List Nat),(bM walk v c next last en).2.length=en.length:=by
  intro c
  induction c with
  | zero=>intro next last en;rfl
  | succ c ih =>
   intro next last en
   cases next with
   | none=>rfl
   | some q =>
    cases hv:v[q]? with
    | none=>simp[bM,hv]
    | some y =>
     by_cases hb:(last==2&&y.kind==2)=true
     ·simp[bM,hv,hb]
     ·have hb':(last==2&&y.kind==2)=false:=by simpa using hb
      rw[show bM walk v (c+1) (some q) last en=bM walk v c (walk q en).1 y.kind (walk q en).2 by simp[bM,hv,hb'],ih,hw0]
 intro p en hl
 cases hv:v[p]? with
 | none =>
  refine⟨⟨by simpa [iJ,hv] using hl,fun e he=>by simp[iJ,hv]at he⟩,fun n k r _ hd=>?_⟩
  rw[(eU hd).1]at hv;cases hv
 | some x =>
  have hpl:=(List.getElem?_eq_some_iff.1 hv).1
  by_cases hx:okW x dz=true
  ·have hu:iJ walk v dz p en=dZ p (bM walk v x.many.toNat (some (p+1)) 1 en):=by simp[iJ,hv,hx]
   rw[hu]
   simp only[okW,Bool.and_eq_true,decide_eq_true_eq,Bool.not_eq_true',Bool.and_eq_false_iff,beq_eq_false_iff_ne]at hx
   obtain⟨⟨hm,h0⟩,hkd⟩:=hx
   have hkd':¬(x.kind=1∧d=0):=by
    rintro ⟨e1,e2⟩;rcases hkd with h|h
    ·exact h e1
    ·subst hz;simp[e2]at h
   by_cases hd0:d=0
   ·have hk2:x.kind=2:=by rcases pg hm with h|h;exact absurd ⟨h,hd0⟩ hkd';exact h
    obtain⟨_,_,_,hm0,_,_⟩:=ma hm hk2
    have hl0:bM walk v x.many.toNat (some (p+1)) 1 en=(some (p+1),en):=by rw[hm0];rfl
    rw[hl0]
    have hs:en.set p (p+1)=bu en p ((Fo.cons x .nil .nil).ends p):=by
     have:=wn (en:=en) (l:=[]) (p:=p) (e:=p+1) (by simp;omega)
     rw[wm]at this
     rw[this];simp[Fo.ends,Fo.size]
    refine⟨⟨by simp[dZ];omega,fun e he=>⟨x,.nil,?_,?_,?_,?_,?_⟩⟩,fun n k r hg hd=>?_⟩
    ·exact Fo.good_cons.2 ⟨hm,by simp[Fo.count,hm0],by omega,hkd',rfl,rfl⟩
    ·simp only[dZ,Option.some.injEq]at he;subst he;simp[Fo.flat];exact ud hv
    ·simp only[dZ,Option.some.injEq]at he;subst he;simp[Fo.size]
    ·simp only[dZ,Option.some.injEq]at he;subst he;omega
    ·simp only[dZ];exact hs
    ·have hy:n=x:=by rw[(eU hd).1]at hv;exact Option.some.inj hv
     subst hy
     have hkn:=Fo.text_leaf hg hk2
     subst hkn
     simp only[dZ,Fo.size,Nat.add_zero];rw[hs]
   ·obtain⟨i1,i2⟩:=BG (hw hd0) x.many.toNat (some (p+1)) 1 en hl
    obtain⟨i3,i4⟩:=i2 (p+1) rfl (by omega)
    refine⟨⟨ue i1,fun e he=>?_⟩,fun n k r hg hd=>?_⟩
    ·cases hq:(bM walk v x.many.toNat (some (p+1)) 1 en).1 with
     | none=>simp[dZ,hq]at he
     | some e1 =>
      have hee:e1=e:=by simpa [dZ,hq] using he
      subst hee
      obtain⟨F,f1,f2,f3,f4,f5,f6⟩:=i3 e1 hq
      refine⟨x,F,Fo.good_cons.2 ⟨hm,by rw[f1];omega,by omega,hkd',f2,rfl⟩,?_,?_,f5,?_⟩
      ·rw[← f3];exact ud hv
      ·omega
      ·simp only[dZ,hq,f6]
       rw[wn (by rw[Fo.ends_length];omega)]
       simp[Fo.ends,f4]
    ·have hy:n=x:=by rw[(eU hd).1]at hv;exact Option.some.inj hv
     subst hy
     obtain⟨k1,k2,k3,k4,k5,k6⟩:=Fo.good_cons.1 hg
     obtain⟨_,hd1,_⟩:=eU hd
     have:=i4 k r (by rw[k2];simp) k5 hd1
     rw[this]
     have hle:=rA hd1 (by omega)
     rw[Fo.flat_length]at hle
     simp only[dZ]
     rw[wn (by rw[Fo.ends_length];omega)]
     simp[Fo.ends]
  ·have hu:iJ walk v dz p en=(none,en):=by simp[iJ,hv,hx]
   rw[hu]
   refine⟨⟨hl,fun e he=>by cases he⟩,fun n k r hg hd=>?_⟩
   have hy:n=x:=by rw[(eU hd).1]at hv;exact Option.some.inj hv
   subst hy
   obtain⟨k1,k2,k3,k4,k5,k6⟩:=Fo.good_cons.1 hg
   exfalso;apply hx
   simp only[okW,Bool.and_eq_true,decide_eq_true_eq,Bool.not_eq_true',Bool.and_eq_false_iff,beq_eq_false_iff_ne]
   refine⟨⟨k1,by omega⟩,?_⟩
   subst hz
   by_cases e:n.kind=1
   ·right;simp;omega
   ·left;exact e
theorem uz {walk:Nat→List Nat→Option Nat×List Nat}(hw0:∀ p en,(walk p en).2.length=en.length)(v:List Nd):∀(c:Nat) (next:Option Nat) (last:Nat) (en:List Nat),(bM walk v c next last en).2.length=en.length
 | 0,_,_,_=>rfl
 | _+1,none,_,_=>rfl
 | c+1,some q,last,en=>by
  cases hv:v[q]? with
  | none=>simp[bM,hv]
  | some y =>
   by_cases hb:(last==2&&y.kind==2)=true
   ·simp[bM,hv,hb]
   ·have hb':(last==2&&y.kind==2)=false:=by simpa using hb
    rw[show bM walk v (c+1) (some q) last en=bM walk v c (walk q en).1 y.kind (walk q en).2 by simp[bM,hv,hb'],uz hw0,hw0]
theorem uG {walk:Nat→List Nat→Option Nat×List Nat}(hw0:∀ p en,(walk p en).2.length=en.length)(v:List Nd)(dz:Bool)(p:Nat)(en:List Nat):(iJ walk v dz p en).2.length=en.length:=by
 unfold iJ
 split
 ·rfl
 ·split
  ·exact ue (uz hw0 v _ _ _ _)
  ·rfl
theorem pC (v:List Nd):∀(d p:Nat) (en:List Nat),(mG v d p en).2.length=en.length
 | 0,p,en=>uG (fun _ _=>rfl) v true p en
 | d+1,p,en=>uG (pC v d) v false p en
theorem wy (v:List Nd):∀(d:Nat),qN v d (mG v d)
 | 0=>BO (d:=0) rfl (fun h=>absurd rfl h) (fun _ _=>rfl)
 | d+1=>BO (d:=d+1) (by simp) (fun _=>wy v d) (pC v d)
theorem mI {v:List Nd}{en:List Nat} : cN v=some en ↔ ∃ n k,n.kind=1∧v=n::k.flat∧(Fo.cons n k .nil).good 12 0=true∧v.length≤512∧en=(1+k.size)::k.ends 1:=by
 have hw:=wy v 12 0 (List.replicate v.length 0) (by simp)
 constructor
 ·intro h
  unfold cN at h
  split at h
  ·cases h
  ·rename_i hc
   simp only[Bool.or_eq_true,decide_eq_true_eq,Bool.not_eq_true',not_or,Bool.not_eq_true,List.isEmpty_eq_false_iff,Nat.not_lt,Bool.not_eq_false,beq_iff_eq,Option.map_eq_some_iff]at hc
   obtain⟨⟨c1,c2⟩,x,c3,c4⟩:=hc
   cases hr:mG v 12 0 (List.replicate v.length 0) with
   | mk a b =>
    rw[hr]at h hw
    cases a with
    | none=>cases h
    | some e =>
     simp only[CP]at h
     split at h
     ·rename_i he
      cases h
      obtain⟨n,k,h1,h2,h3,h4,h5⟩:=hw.1.2 e rfl
      subst he
      simp only[List.drop_zero,List.drop_length,List.append_nil]at h2
      have hx:x=n:=by rw[h2]at c3;simpa using c3.symm
      subst hx
      refine⟨x,k,c4,h2,h1,c2,?_⟩
      simp only at h5
      have hle:=Fo.ends_length (.cons x k .nil) 0
      have hvl:v.length=k.size+1:=by rw[h2];simp[Fo.flat_length]
      rw[h5]
      unfold bu
      rw[hle,List.take_zero,List.drop_of_length_le (by simp[Fo.size];omega)]
      simp[Fo.ends]
     ·cases h
 ·rintro ⟨n,k,h1,h2,h3,h4,rfl⟩
  have hwk:=hw.2 n k [] h3 (by simpa using h2)
  have hvl:v.length=k.size+1:=by rw[h2];simp[Fo.flat_length]
  unfold cN
  rw[if_neg (by rw[h2];simp[h1];rw[h2]at h4;simpa using h4),hwk]
  simp only[CP]
  rw[if_pos (by omega)]
  have hle:=Fo.ends_length (.cons n k .nil) 0
  unfold bu
  rw[hle,List.take_zero,List.drop_of_length_le (by simp[Fo.size];omega)]
  simp[Fo.ends]
def hops (en:List Nat)(stop:Nat):Nat→Nat→List Nat
 | 0,_=>[]
 | f+1,p=>if p<stop then p::hops en stop f (en.getD p 0) else []
theorem vr:∀(F:Fo) (b i e:Nat),(F.ends b)[i]? = some e→b+i<e∧e≤b+F.size
 | .nil,b,i,e,h=>by simp[Fo.ends]at h
 | .cons n k r,b,0,e,h=>by simp[Fo.ends]at h;simp only[Fo.size];omega
 | .cons n k r,b,i+1,e,h=>by
  simp only[Fo.ends,List.getElem?_cons_succ,List.getElem?_append,Fo.ends_length]at h
  simp only[Fo.size]
  split at h
  ·have:=vr k _ _ _ h;omega
  ·have:=vr r _ _ _ h;omega
def Fo.sub:Fo→Nat→Option (Nd×Fo)
 | .nil,_=>none
 | .cons n k _,0=>some (n,k)
 | .cons _ k r,i+1=>if i<k.size then k.sub i else r.sub (i-k.size)
theorem iN:aO []=0:=by decide
theorem Co {n:Nd}{k:Fo}{d:Nat}(hd:d≤12)(hk:n.kind=1)(h:(Fo.cons n k .nil).good d 0=true)(hl:k.size+1≤512):cN (n::k.flat)=some ((1+k.size)::k.ends 1) :=
 mI.2 ⟨n,k,hk,rfl,Fo.good_mono hd h,by simpa [Fo.flat_length] using hl,rfl⟩
theorem Ab (l:List At)(f:Nat)(caps:List V)(p:At→Bool)(hf:∀ h∈l,∀ nm,Ev cx f nm (.agg (bG h)::caps) ao.nil (.bool (p h)) [])(hn:l.length≤bk)(hpl:plainL caps=true)(nm:Nat):Ev cx 65 nm [.sl false 3 (l.map bG),.fn f caps] ao.nil (.int .i64 (Dn (l.findIdx? p))) []:=by
 unfold bk at hn
 refine ay rfl (fun cargs w=>call65 cargs w) func65 rfl mixed (by kernel_rfl) rfl ?_;intro b0 hb0
 repeat' first|simp only[am,ah,results65,ntmps65,ap,ag,seval,ae]|exact rfl|refine aa (v:=.any) ?_|((first|(refine aL (g:=?_) ?_ ?_)|(refine aH (g:=?_) ?_ ?_));rotate_left 1;(focus (simp only[results65,ntmps65,ap,ag,seval,ae]<;>exact rfl)))|((first|apply Ca|apply Cb)<;>intro hb)|refine Ai (by omega) ?_|(apply Ai<;>intro hb)
 (refine aV cm (fun x:Nat=>l.length-x) (fun x=>x≤l.length∧(l.take x).any p=false) (b0+16) (fun x=>[(0,.sl false 3 (l.map bG)),(1,.fn f caps),(7,.int .i64 l.length),(8,.int .i64 x)]) (fun x=>[]) (0) [] ?_ ?_ ?_ ?_;rotate_left 1;(focus (show b0≤_;omega));(focus (refine⟨?_,?_⟩<;>(try simp only[bj,Lm,aw,eo hpl,c5 hpl,ag,seval,ae,au])<;>(try omega)));rotate_left 1)
 ·exact⟨Nat.zero_le _,by simp⟩
 ·rintro k ⟨hk,hno⟩
  by_cases hlt:k<l.length
  ·obtain⟨h,hh⟩:∃ h,l[k]? = some h:=⟨_,List.getElem?_eq_getElem hlt⟩
   have hat:(l.map bG)[k]? = some (bG h):=by rw[List.getElem?_map,hh];rfl
   have hd:decide (k<l.length)=true:=decide_eq_true hlt
   have hwk:IntKind.i64.wrap ((k:Int)+1)=((k+1:Nat):Int):=aR (by omega) (by omega)
   have hfh:=hf h (List.mem_of_getElem? hh)
   cases hp:p h with
   | true =>
    have hfd:=ll hno hh hp
    rw[hp]at hfh
    (repeat' first|simp only[am,ah,results65,ntmps65,ap,hat,bG,hlt,hd,hwk,hfd,bZ,Lm,ag,seval,ae]|exact rfl|refine aa (v:=.any) ?_|refine cE (g:=f) (caps:=caps) (by simp only[results65,ntmps65,ap,hat,bG,hlt,hd,hwk,hfd,bZ,Lm,ag,seval,ae]<;>exact rfl) (by simp only[results65,ntmps65,ap,hat,bG,hlt,hd,hwk,hfd,bZ,Lm,ag,seval,ae]<;>exact rfl) (hfh _) ?_|((first|(refine aL (g:=?_) ?_ ?_)|(refine aH (g:=?_) ?_ ?_));rotate_left 1;(focus (simp only[results65,ntmps65,ap,hat,bG,hlt,hd,hwk,hfd,bZ,Lm,ag,seval,ae]<;>exact rfl)))|((first|apply Ca|apply Cb)<;>intro hb)|refine Ai (by omega) ?_|(apply Ai<;>intro hb)|refine Fin.pure ?_ ?_ ?_|simp only[au])
   | false =>
    have hn':=fF (p:=p) hno hh hp
    rw[hp]at hfh
    repeat' first|simp only[am,ah,results65,ntmps65,ap,hat,bG,hlt,hd,hwk,Lm,ag,seval,ae]|exact rfl|refine aa (v:=.any) ?_|refine cE (g:=f) (caps:=caps) (by simp only[results65,ntmps65,ap,hat,bG,hlt,hd,hwk,Lm,ag,seval,ae]<;>exact rfl) (by simp only[results65,ntmps65,ap,hat,bG,hlt,hd,hwk,Lm,ag,seval,ae]<;>exact rfl) (hfh _) ?_|((first|(refine aL (g:=?_) ?_ ?_)|(refine aH (g:=?_) ?_ ?_));rotate_left 1;(focus (simp only[results65,ntmps65,ap,hat,bG,hlt,hd,hwk,Lm,ag,seval,ae]<;>exact rfl)))|((first|apply Ca|apply Cb)<;>intro hb)|refine Ai (by omega) ?_|(apply Ai<;>intro hb)
    all_goals ((refine aJ cm (k+1) [] ?_ ?_ ?_ ?_;rotate_left 2;(focus (show b0≤_;omega));(focus (refine⟨?_,?_⟩<;>(try simp only[bj,aw,eo hpl,c5 hpl,hwk,ag,seval,ae,au])<;>(try omega)))))
    all_goals (first|(show l.length-(k+1)<l.length-k;omega)|exact⟨hlt,hn'⟩|skip)
  ·have hke:k=l.length:=by omega
   subst hke
   rw[List.take_length]at hno
   have hfd:=iB hno
   have hd:decide (l.length<l.length)=false:=decide_eq_false (by omega)
   (repeat' first|simp only[am,ah,results65,ntmps65,ap,hd,hfd,dP,Lm,ag,seval,ae]|exact rfl|refine aa (v:=.any) ?_|((first|(refine aL (g:=?_) ?_ ?_)|(refine aH (g:=?_) ?_ ?_));rotate_left 1;(focus (simp only[results65,ntmps65,ap,hd,hfd,dP,Lm,ag,seval,ae]<;>exact rfl)))|((first|apply Ca|apply Cb)<;>intro hb)|refine Ai (by omega) ?_|(apply Ai<;>intro hb)|refine Fin.pure ?_ ?_ ?_|simp only[au])
theorem fe (l:List At)(f:Nat)(caps:List V)(p:At→Bool)(hf:∀ h∈l,∀ nm,Ev cx f nm (.agg (bG h)::caps) ao.nil (.bool (p h)) [])(hn:l.length≤bk)(hpl:plainL caps=true)(nm:Nat):Ev cx 41 nm [.sl false 3 (l.map bG),.fn f caps] ao.nil (.bool (l.any p)) []:=by
 have hi:=Ab l f caps p hf hn hpl
 cases h:l.findIdx? p with
 | none =>
  have ha:l.any p=false:=qP h
  rw[h]at hi
  refine ay rfl (fun cargs w=>call41 cargs w) func41 rfl mixed (by kernel_rfl) rfl ?_;intro b0 hb0
  (repeat' first|simp only[am,ah,results41,ntmps41,ap,ha,dP,ag,seval,ae]|exact rfl|refine aa (v:=.any) ?_|(first|(refine ac ?_ (hi _) ?_)|(refine ab ?_ (fun _=>hi _) ?_))|((first|apply Ca|apply Cb)<;>intro hb)|refine Ai (by omega) ?_|(apply Ai<;>intro hb)|refine Fin.pure ?_ ?_ ?_|simp only[au])
 | some n =>
  have ha:l.any p=true:=qR h
  rw[h]at hi
  have hz:decide ((0:Int)≤(n:Int))=true:=decide_eq_true (by omega)
  refine ay rfl (fun cargs w=>call41 cargs w) func41 rfl mixed (by kernel_rfl) rfl ?_;intro b0 hb0
  (repeat' first|simp only[am,ah,results41,ntmps41,ap,ha,bZ,hz,ag,seval,ae]|exact rfl|refine aa (v:=.any) ?_|(first|(refine ac ?_ (hi _) ?_)|(refine ab ?_ (fun _=>hi _) ?_))|((first|apply Ca|apply Cb)<;>intro hb)|refine Ai (by omega) ?_|(apply Ai<;>intro hb)|refine Fin.pure ?_ ?_ ?_|simp only[au])
theorem Ac (l:List Nd)(f:Nat)(caps:List V)(p:Nd→Bool)(hf:∀ h∈l,∀ nm,Ev cx f nm (.agg (bc h)::caps) ao.nil (.bool (p h)) [])(hn:l.length≤bk)(hpl:plainL caps=true)(nm:Nat):Ev cx 49 nm [.sl false 6 (l.map bc),.fn f caps] ao.nil (.int .i64 (Dn (l.findIdx? p))) []:=by
 unfold bk at hn
 refine ay rfl (fun cargs w=>call49 cargs w) func49 rfl mixed (by kernel_rfl) rfl ?_;intro b0 hb0
 repeat' first|simp only[am,ah,results49,ntmps49,ap,ag,seval,ae]|exact rfl|refine aa (v:=.any) ?_|((first|(refine aL (g:=?_) ?_ ?_)|(refine aH (g:=?_) ?_ ?_));rotate_left 1;(focus (simp only[results49,ntmps49,ap,ag,seval,ae]<;>exact rfl)))|((first|apply Ca|apply Cb)<;>intro hb)|refine Ai (by omega) ?_|(apply Ai<;>intro hb)
 (refine aV cm (fun x:Nat=>l.length-x) (fun x=>x≤l.length∧(l.take x).any p=false) (b0+16) (fun x=>[(0,.sl false 6 (l.map bc)),(1,.fn f caps),(7,.int .i64 l.length),(8,.int .i64 x)]) (fun x=>[]) (0) [] ?_ ?_ ?_ ?_;rotate_left 1;(focus (show b0≤_;omega));(focus (refine⟨?_,?_⟩<;>(try simp only[bj,Lm,ai,eo hpl,c5 hpl,ag,seval,ae,au])<;>(try omega)));rotate_left 1)
 ·exact⟨Nat.zero_le _,by simp⟩
 ·rintro k ⟨hk,hno⟩
  by_cases hlt:k<l.length
  ·obtain⟨h,hh⟩:∃ h,l[k]? = some h:=⟨_,List.getElem?_eq_getElem hlt⟩
   have hat:(l.map bc)[k]? = some (bc h):=by rw[List.getElem?_map,hh];rfl
   have hd:decide (k<l.length)=true:=decide_eq_true hlt
   have hwk:IntKind.i64.wrap ((k:Int)+1)=((k+1:Nat):Int):=aR (by omega) (by omega)
   have hfh:=hf h (List.mem_of_getElem? hh)
   cases hp:p h with
   | true =>
    have hfd:=ll hno hh hp
    rw[hp]at hfh
    (repeat' first|simp only[am,ah,results49,ntmps49,ap,hat,bc,hlt,hd,hwk,hfd,bZ,Lm,ag,seval,ae]|exact rfl|refine aa (v:=.any) ?_|refine cE (g:=f) (caps:=caps) (by simp only[results49,ntmps49,ap,hat,bc,hlt,hd,hwk,hfd,bZ,Lm,ag,seval,ae]<;>exact rfl) (by simp only[results49,ntmps49,ap,hat,bc,hlt,hd,hwk,hfd,bZ,Lm,ag,seval,ae]<;>exact rfl) (hfh _) ?_|((first|(refine aL (g:=?_) ?_ ?_)|(refine aH (g:=?_) ?_ ?_));rotate_left 1;(focus (simp only[results49,ntmps49,ap,hat,bc,hlt,hd,hwk,hfd,bZ,Lm,ag,seval,ae]<;>exact rfl)))|((first|apply Ca|apply Cb)<;>intro hb)|refine Ai (by omega) ?_|(apply Ai<;>intro hb)|refine Fin.pure ?_ ?_ ?_|simp only[au])
   | false =>
    have hn':=fF (p:=p) hno hh hp
    rw[hp]at hfh
    repeat' first|simp only[am,ah,results49,ntmps49,ap,hat,bc,hlt,hd,hwk,Lm,ag,seval,ae]|exact rfl|refine aa (v:=.any) ?_|refine cE (g:=f) (caps:=caps) (by simp only[results49,ntmps49,ap,hat,bc,hlt,hd,hwk,Lm,ag,seval,ae]<;>exact rfl) (by simp only[results49,ntmps49,ap,hat,bc,hlt,hd,hwk,Lm,ag,seval,ae]<;>exact rfl) (hfh _) ?_|((first|(refine aL (g:=?_) ?_ ?_)|(refine aH (g:=?_) ?_ ?_));rotate_left 1;(focus (simp only[results49,ntmps49,ap,hat,bc,hlt,hd,hwk,Lm,ag,seval,ae]<;>exact rfl)))|((first|apply Ca|apply Cb)<;>intro hb)|refine Ai (by omega) ?_|(apply Ai<;>intro hb)
    all_goals ((refine aJ cm (k+1) [] ?_ ?_ ?_ ?_;rotate_left 2;(focus (show b0≤_;omega));(focus (refine⟨?_,?_⟩<;>(try simp only[bj,ai,eo hpl,c5 hpl,hwk,ag,seval,ae,au])<;>(try omega)))))
    all_goals (first|(show l.length-(k+1)<l.length-k;omega)|exact⟨hlt,hn'⟩|skip)
  ·have hke:k=l.length:=by omega
   subst hke
   rw[List.take_length]at hno
   have hfd:=iB hno
   have hd:decide (l.length<l.length)=false:=decide_eq_false (by omega)
   (repeat' first|simp only[am,ah,results49,ntmps49,ap,hd,hfd,dP,Lm,ag,seval,ae]|exact rfl|refine aa (v:=.any) ?_|((first|(refine aL (g:=?_) ?_ ?_)|(refine aH (g:=?_) ?_ ?_));rotate_left 1;(focus (simp only[results49,ntmps49,ap,hd,hfd,dP,Lm,ag,seval,ae]<;>exact rfl)))|((first|apply Ca|apply Cb)<;>intro hb)|refine Ai (by omega) ?_|(apply Ai<;>intro hb)|refine Fin.pure ?_ ?_ ?_|simp only[au])
theorem gq (l:List Nd)(f:Nat)(caps:List V)(p:Nd→Bool)(hf:∀ h∈l,∀ nm,Ev cx f nm (.agg (bc h)::caps) ao.nil (.bool (p h)) [])(hn:l.length≤bk)(hpl:plainL caps=true)(nm:Nat):Ev cx 20 nm [.sl false 6 (l.map bc),.fn f caps] ao.nil (.bool (l.any p)) []:=by
 have hi:=Ac l f caps p hf hn hpl
 cases h:l.findIdx? p with
 | none =>
  have ha:l.any p=false:=qP h
  rw[h]at hi
  refine ay rfl (fun cargs w=>call20 cargs w) func20 rfl mixed (by kernel_rfl) rfl ?_;intro b0 hb0
  (repeat' first|simp only[am,ah,results20,ntmps20,ap,ha,dP,ag,seval,ae]|exact rfl|refine aa (v:=.any) ?_|(first|(refine ac ?_ (hi _) ?_)|(refine ab ?_ (fun _=>hi _) ?_))|((first|apply Ca|apply Cb)<;>intro hb)|refine Ai (by omega) ?_|(apply Ai<;>intro hb)|refine Fin.pure ?_ ?_ ?_|simp only[au])
 | some n =>
  have ha:l.any p=true:=qR h
  rw[h]at hi
  have hz:decide ((0:Int)≤(n:Int))=true:=decide_eq_true (by omega)
  refine ay rfl (fun cargs w=>call20 cargs w) func20 rfl mixed (by kernel_rfl) rfl ?_;intro b0 hb0
  (repeat' first|simp only[am,ah,results20,ntmps20,ap,ha,bZ,hz,ag,seval,ae]|exact rfl|refine aa (v:=.any) ?_|(first|(refine ac ?_ (hi _) ?_)|(refine ab ?_ (fun _=>hi _) ?_))|((first|apply Ca|apply Cb)<;>intro hb)|refine Ai (by omega) ?_|(apply Ai<;>intro hb)|refine Fin.pure ?_ ?_ ?_|simp only[au])
theorem Cj (a b:At)(nm:Nat):Ev cx 108 nm [.agg (bG b),.rp (bG a)] ao.nil (.bool (a.space==b.space&&a.name==b.name)) []:=by
 refine ay rfl (fun cargs w=>call108 cargs w) func108 rfl mixed (by kernel_rfl) rfl ?_;intro b0 hb0
 (repeat' first|simp only[am,ah,results108,ntmps108,ap,bG,ag,seval,ae]|exact rfl|refine aa (v:=.any) ?_|((first|apply Ca|apply Cb)<;>intro hb)|refine Ai (by omega) ?_|(apply Ai<;>intro hb)|refine Fin.pure ?_ ?_ ?_|simp only[au])
theorem EX (l:List At)(hl:l.length≤bk)(hs:∀ a∈l,a.space.length≤bk∧a.name.length≤bk∧a.value.length≤bk)(nm:Nat):Ev cx 89 nm [.sl false 3 (l.map bG)] ao.nil (.bool (pX l)) []:=by
 have hl':=hl
 unfold bk at hl'
 refine ay rfl (fun cargs w=>call89 cargs w) func89 rfl mixed (by kernel_rfl) rfl ?_;intro b0 hb0
 repeat' first|simp only[am,ah,results89,ntmps89,ap,ag,seval,ae]|exact rfl|refine aa (v:=.any) ?_|((first|apply Ca|apply Cb)<;>intro hb)|refine Ai (by omega) ?_|(apply Ai<;>intro hb)
 (refine aV cm (fun x:Nat=>l.length-x) (fun x=>x≤l.length∧tT l x) (b0+16) (fun x=>[(0,.sl false 3 (l.map bG)),(6,.sl false 3 (l.map bG)),(7,.int .i64 l.length),(8,.int .i64 x)]) (fun x=>[]) (0) [] ?_ ?_ ?_ ?_;rotate_left 1;(focus (show b0≤_;omega));(focus (refine⟨?_,?_⟩<;>(try simp only[bj,aw,Lm,ag,seval,ae,au])<;>(try omega)));rotate_left 1)
 ·exact⟨Nat.zero_le _,fun i a hi=>by omega⟩
 ·rintro k ⟨hk,hn⟩
  by_cases hlt:k<l.length
  ·obtain⟨a,ha⟩:∃ a,l[k]? = some a:=⟨_,List.getElem?_eq_getElem hlt⟩
   obtain⟨hs0,hs1,hs2⟩:=hs a (List.mem_of_getElem? ha)
   have hat:=pE ha
   have hd:decide (k<l.length)=true:=decide_eq_true hlt
   have hwk:IntKind.i64.wrap ((k:Int)+1)=((k+1:Nat):Int):=aR (by omega) (by omega)
   have hki:(k:Int)≤(l.length:Int):=by omega
   have htk:(l.map bG).take k=(l.take k).map bG:=by rw[List.map_take]
   have hlen:(l.take k).length≤bk:=by rw[List.length_take];unfold bk;omega
   have hf2:=ia a.name hs1
   have hc2:=cP a.value hs2
   have hc3:=cP a.space hs0
   have hh2:=fe (l.take k) 108 [.rp (bG a)] (fun b=>a.space==b.space&&a.name==b.name) (fun b _ nm=>Cj a b nm) hlen rfl
   have hok:J1 (l.take k) a=(!((l.take k).any fun b=>a.space==b.space&&a.name==b.name)&&b8 a.name&&decide (aO a.value=0)&&decide (aO a.space=0)):=rfl
   have hz2:decide (aO a.value=0) = !(aO a.value != 0):=by rw[Bool.eq_iff_iff];simp
   have hz3:decide (aO a.space=0) = !(aO a.space != 0):=by rw[Bool.eq_iff_iff];simp
   rw[hz2,hz3]at hok
   generalize hb1:((l.take k).any fun b=>a.space==b.space&&a.name==b.name)=b1 at hh2 hok
   generalize hb2:b8 a.name=b2 at hf2 hok
   generalize hb3:(aO a.value != 0)=b3 at hok
   generalize hb4:(aO a.space != 0)=b4 at hok
   cases ho2:J1 (l.take k) a with
   | false =>
    have hr:=Ci ha ho2
    rw[ho2]at hok
    cases b1<;>cases b2<;>cases b3<;>cases b4
    all_goals (try (exfalso;simp at hok;done))
    all_goals ((repeat' first|simp only[results89,ntmps89,ap,aw,hat,bG,hd,hlt,hk,hki,htk,hb3,hb4,hr,Bt,Bf,Lm,Nat.zero_add,ag,seval,ae]|exact rfl|((first|(refine ac ?_ (hf2 _) ?_)|(refine ab ?_ (fun _=>hf2 _) ?_)|(refine ac ?_ (hc2 _) ?_)|(refine ab ?_ (fun _=>hc2 _) ?_));(focus (simp only[results89,ntmps89,ap,aw,hat,bG,hd,hlt,hk,hki,htk,hb3,hb4,hr,Bt,Bf,Lm,Nat.zero_add,ag,seval,ae]<;>exact rfl)))|((first|(refine ac ?_ (hc3 _) ?_)|(refine ab ?_ (fun _=>hc3 _) ?_));(focus (simp only[results89,ntmps89,ap,aw,hat,bG,hd,hlt,hk,hki,htk,hb3,hb4,hr,Bt,Bf,Lm,Nat.zero_add,ag,seval,ae]<;>exact rfl)))|((refine bn (xs:=?_) [b0+80] ?_ ?_ ?_ rfl (hh2 _) ?_);rotate_left 1;iterate 3 (focus (simp only[am,ah,results89,ntmps89,ap,aw,hat,bG,hd,hlt,hk,hki,htk,hb3,hb4,hr,Bt,Bf,Lm,Nat.zero_add,ag,seval,ae]<;>(first|exact rfl|omega))))|(refine aa (v:=.any) ?_)|((first|apply Ca|apply Cb)<;>intro hb)|refine Ai (by omega) ?_|(apply Ai<;>intro hb)|refine Fin.pure ?_ ?_ ?_|simp only[au]))
   | true =>
    have hn':=zb hn ha ho2
    rw[ho2]at hok
    cases b1<;>cases b2<;>cases b3<;>cases b4
    all_goals (try (exfalso;simp at hok;done))
    all_goals (repeat' first|simp only[results89,ntmps89,ap,aw,hat,bG,hd,hlt,hk,hki,htk,hb3,hb4,hwk,Bt,Bf,Lm,Nat.zero_add,ag,seval,ae]|exact rfl|((first|(refine ac ?_ (hf2 _) ?_)|(refine ab ?_ (fun _=>hf2 _) ?_)|(refine ac ?_ (hc2 _) ?_)|(refine ab ?_ (fun _=>hc2 _) ?_));(focus (simp only[results89,ntmps89,ap,aw,hat,bG,hd,hlt,hk,hki,htk,hb3,hb4,hwk,Bt,Bf,Lm,Nat.zero_add,ag,seval,ae]<;>exact rfl)))|((first|(refine ac ?_ (hc3 _) ?_)|(refine ab ?_ (fun _=>hc3 _) ?_));(focus (simp only[results89,ntmps89,ap,aw,hat,bG,hd,hlt,hk,hki,htk,hb3,hb4,hwk,Bt,Bf,Lm,Nat.zero_add,ag,seval,ae]<;>exact rfl)))|((refine bn (xs:=?_) [b0+80] ?_ ?_ ?_ rfl (hh2 _) ?_);rotate_left 1;iterate 3 (focus (simp only[am,ah,results89,ntmps89,ap,aw,hat,bG,hd,hlt,hk,hki,htk,hb3,hb4,hwk,Bt,Bf,Lm,Nat.zero_add,ag,seval,ae]<;>(first|exact rfl|omega))))|((first|apply Ca|apply Cb)<;>intro hb)|refine Ai (by omega) ?_|(apply Ai<;>intro hb))
    all_goals ((refine aJ cm (k+1) [] ?_ ?_ ?_ ?_;rotate_left 2;(focus (show b0≤_;omega));(focus (refine⟨?_,?_⟩<;>(try simp only[bj,aw,hwk,ag,seval,ae,au])<;>(try omega)))))
    all_goals (first|(show l.length-(k+1)<l.length-k;omega)|exact⟨hlt,hn'⟩|skip)
  ·have hke:k=l.length:=by omega
   subst hke
   have hd:decide (l.length<l.length)=false:=decide_eq_false (by omega)
   have hr:pX l=decide (l.length≤16):=by
    rw[Bool.eq_iff_iff,qn];simp[hn]
   have hi:decide ((l.length:Int)≤16)=decide (l.length≤16):=by rw[Bool.eq_iff_iff];simp;omega
   (repeat' first|simp only[am,ah,results89,ntmps89,ap,hd,hr,hi,Lm,ag,seval,ae]|exact rfl|refine aa (v:=.any) ?_|((first|apply Ca|apply Cb)<;>intro hb)|refine Ai (by omega) ?_|(apply Ai<;>intro hb)|refine Fin.pure ?_ ?_ ?_|simp only[au])
def Nd.okTo (n:Nd)(k:Nat):Prop:=n.attrs.length≤k∧n.space.length≤k∧n.name.length≤k∧n.text.length≤k ∧ ∀ a∈n.attrs,a.space.length≤k∧a.name.length≤k∧a.value.length≤k
theorem Bh (s:List UInt8):(s==[])=s.isEmpty:=by cases s<;>rfl
theorem IZ {n:Nd}(h:n.kind=2):iY n=(n.name.isEmpty&&n.space.isEmpty&&((n.attrs.length:Int)==0)&&(n.many==0) && !n.text.isEmpty&&(aO n.text==0)):=by
 unfold iY
 rw[if_pos h]
 have h1:((n.attrs.length:Int)==0)=n.attrs.isEmpty:=lv _
 have h2:(n.many==0)=decide (n.many=0):=by rw[Bool.eq_iff_iff];simp
 have h3:(aO n.text==0)=decide (aO n.text=0):=by rw[Bool.eq_iff_iff];simp
 rw[h1,h2,h3]
theorem IY {n:Nd}(h:¬ n.kind=2):iY n=(((n.kind:Int)==1)&&n.text.isEmpty&&b8 n.name&&(aO n.space==0)&&pX n.attrs):=by
 unfold iY
 rw[if_neg h]
 have h2:((n.kind:Int)==1)=decide (n.kind=1):=by rw[Bool.eq_iff_iff];simp;omega
 have h3:(aO n.space==0)=decide (aO n.space=0):=by rw[Bool.eq_iff_iff];simp
 rw[h2,h3]
theorem LB (n:Nd)(h:n.okTo bk)(nm:Nat):Ev cx 70 nm [.agg (bc n)] ao.nil (.bool (iY n)) []:=by
 obtain⟨h1,h2,h3,h4,h5⟩:=h
 have hc:=cP n.text h4
 have hc2:=cP n.space h2
 have hf:=ia n.name h3
 have ha:=EX n.attrs h1 h5
 by_cases hk:n.kind=2
 ·have hkb:((n.kind:Int)==2)=true:=by rw[hk];rfl
  rw[IZ hk]
  refine ay rfl (fun cargs w=>call70 cargs w) func70 rfl mixed (by kernel_rfl) rfl ?_;intro b0 hb0
  (repeat' first|simp only[am,ah,results70,ntmps70,ap,bc,hkb,Bh,Lm,ag,seval,ae]|exact rfl|refine aa (v:=.any) ?_|(first|(refine ac ?_ (hc _) ?_)|(refine ab ?_ (fun _=>hc _) ?_))|((first|apply Ca|apply Cb)<;>intro hb)|refine Ai (by omega) ?_|(apply Ai<;>intro hb)|refine Fin.pure ?_ ?_ ?_|simp only[au])
 ·have hkb:((n.kind:Int)==2)=false:=beq_false_of_ne (by omega)
  rw[IY hk]
  refine ay rfl (fun cargs w=>call70 cargs w) func70 rfl mixed (by kernel_rfl) rfl ?_;intro b0 hb0
  (repeat' first|simp only[am,ah,results70,ntmps70,ap,bc,hkb,Bh,Lm,ag,seval,ae]|exact rfl|refine aa (v:=.any) ?_|(first|(refine ac ?_ (hc2 _) ?_)|(refine ab ?_ (fun _=>hc2 _) ?_)|(refine ac ?_ (hf _) ?_)|(refine ab ?_ (fun _=>hf _) ?_)|(refine ac ?_ (ha _) ?_)|(refine ab ?_ (fun _=>ha _) ?_))|((first|apply Ca|apply Cb)<;>intro hb)|refine Ai (by omega) ?_|(apply Ai<;>intro hb)|refine Fin.pure ?_ ?_ ?_|simp only[au])
end Go.Proofs.YtcllbjanalhjgaaGreatDoor
