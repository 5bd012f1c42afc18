/-
 Texts joined: XSa,XSb,XSc,XSd,XSe.
-/
import Derived.Test.YtjonibipieofcaaGreatDoorQl
import Derived.Test.YtjonibipieofcaaGreatDoorQp
set_option linter.all false
namespace Go.Proofs.YtjonibipieofcaaGreatDoor
set_option maxRecDepth 100000
set_option maxHeartbeats 32000000
open Go Go.RowKit Vm Go.Lib Tryz
open Vm renaming aI->Ca,aP->Cb
open And renaming intro->Ai
open List renaming length_map->Lm,not_mem_nil->Ln,map_nil->Lo,map_cons->Lc,mem_cons->Lk
open Bool renaming not_false->Bf,not_true->Bt
def Iy (l:List At)(a:At):Bool:=!(l.any fun b=>a.space==b.space&&a.name==b.name)&&bU a.name&&decide (aF a.value=0)&&decide (aF a.space=0)
def ux (l:List At)(k:Nat):Prop:=∀(i:Nat) (a:At),i<k->l[i]? = some a->Iy (l.take i) a=true
def na (l:List At):Bool:=decide (l.length<=16)&&l.zipIdx.all fun p=>Iy (l.take p.2) p.1
def qX {l:List At} : na l=true↔l.length<=16/\ux l l.length:=by
 unfold na ux
 simp only[Bool.and_eq_true,decide_eq_true_eq,List.all_eq_true]
 refine and_congr_right fun _=>⟨fun h i a hi ha=>?_,fun h p hp=>?_⟩
 ·refine h (a,i) ?_
  rw[List.mem_zipIdx_iff_getElem?];exact ha
 ·have:=(List.mem_zipIdx_iff_getElem?).1 hp
  exact h p.2 p.1 (List.getElem?_eq_some_iff.1 this).1 this
def rD {l:List At}{k:Nat}{a:At}(h:ux l k)(ha:l[k]? = some a)(ho:Iy (l.take k) a=true):ux l (k+1):=by
 intro i b hi hb
 by_cases e:i=k
 ·subst e;rw[ha]at hb;cases hb;exact ho
 ·exact h i b (by omega) hb
def pd {l:List At}{k:Nat}{a:At}(ha:l[k]? = some a)(ho:Iy (l.take k) a=false):na l=false:=by
 cases h:na l with
 | false=>rfl
 | true =>
  have:=(qX.1 h).2 k a (List.getElem?_eq_some_iff.1 ha).1 ha
  rw[ho]at this;cases this
def gE (n:Nd):Bool :=
 if n.kind=2 then n.name.isEmpty&&n.space.isEmpty&&n.attrs.isEmpty&&decide (n.many=0) && !n.text.isEmpty&&decide (aF n.text=0)
 else decide (n.kind=1)&&n.text.isEmpty&&bU n.name&&decide (aF n.space=0)&&na n.attrs
def gF {n:Nd}(h:gE n=true):n.kind=1\/n.kind=2:=by
 unfold gE at h
 split at h
 ·right;assumption
 ·simp only[Bool.and_eq_true,decide_eq_true_eq]at h;left;exact h.1.1.1.1
def gG {n:Nd}(h:gE n=true)(hk:n.kind=2):n.name=[]/\n.space=[]/\n.attrs=[]/\n.many=0/\n.text≠[]/\aF n.text=0:=by
 unfold gE at h
 rw[if_pos hk]at h
 simp only[Bool.and_eq_true,decide_eq_true_eq,List.isEmpty_iff,Bool.not_eq_true',List.isEmpty_eq_false_iff]at h
 obtain⟨⟨⟨⟨⟨h1,h2⟩,h3⟩,h4⟩,h5⟩,h6⟩:=h
 exact⟨h1,h2,h3,h4,h5,h6⟩
def DP {n:Nd}(h:gE n=true)(hk:n.kind=1):n.text=[]/\bU n.name=true/\aF n.space=0/\na n.attrs=true:=by
 unfold gE at h
 rw[if_neg (by omega)]at h
 simp only[Bool.and_eq_true,decide_eq_true_eq,List.isEmpty_iff]at h
 obtain⟨⟨⟨⟨h1,h2⟩,h3⟩,h4⟩,h5⟩:=h
 exact⟨h2,h3,h4,h5⟩
def bN (walk:Nat->List Nat->Option Nat×List Nat)(v:List Nd):Nat->Option Nat->Nat->List Nat->Option Nat×List Nat
 | 0,next,_,en=>(next,en)
 | _+1,none,_,en=>(none,en)
 | n+1,some next,last,en=>match v[next]? with
  | none=>(none,en)
  | some y=>if (last==2&&y.kind==2)=true then (none,en) else bN walk v n (walk next en).1 y.kind (walk next en).2
def ed (p:Nat)(r:Option Nat×List Nat):Option Nat×List Nat:=match r.1 with
 | some e=>(some e,r.2.set p e)
 | none=>(none,r.2)
def okW (x:Nd)(dz:Bool):Bool:=gE x&&decide (0<=x.many) && !(x.kind==1&&dz)
def iW (walk:Nat->List Nat->Option Nat×List Nat)(v:List Nd)(dz:Bool)(p:Nat)(en:List Nat):Option Nat×List Nat:=match v[p]? with
 | none=>(none,en)
 | some x=>if okW x dz=true then ed p (bN walk v x.many.toNat (some (p+1)) 1 en) else (none,en)
def m9 (v:List Nd):Nat->Nat->List Nat->Option Nat×List Nat
 | 0=>iW (fun _ en=>(none,en)) v true
 | d+1=>iW (m9 v d) v false
def C7 (n:Nat):Option Nat×List Nat->Option (List Nat)
 |(some e,en)=>if e=n then some en else none
 |(none,_)=>none
def bm (v:List Nd):Option (List Nat):=if (v.isEmpty||decide (512<v.length) || !((v[0]?).map Nd.kind==some 1))=true then none else C7 v.length (m9 v 12 0 (List.replicate v.length 0))
inductive Fo where
 | nil
 | cons (n:Nd) (k r:Fo)
def Fo.flat:Fo->List Nd
 | .nil=>[]
 | .cons n k r=>n::(k.flat++r.flat)
def Fo.count:Fo->Nat
 | .nil=>0
 | .cons _ _ r=>r.count+1
def Fo.size:Fo->Nat
 | .nil=>0
 | .cons _ k r=>k.size+r.size+1
def Fo.flat_length:∀(F:Fo),F.flat.length=F.size
 | .nil=>rfl
 | .cons n k r=>by simp[Fo.flat,Fo.size,k.flat_length,r.flat_length]
def Fo.good:Fo->Nat->Nat->Bool
 | .nil,_,_=>true
 | .cons n k r,d,last=>gE n&&decide (n.many=(k.count:Int)) && !(last==2&&n.kind==2) && !(n.kind==1&&d==0)&&k.good (d-1) 1&&r.good d n.kind
def Fo.ends:Fo->Nat->List Nat
 | .nil,_=>[]
 | .cons _ k r,b=>(b+1+k.size)::(k.ends (b+1)++r.ends (b+1+k.size))
def Fo.ends_length:∀(F:Fo) (b:Nat),(F.ends b).length=F.size
 | .nil,_=>rfl
 | .cons n k r,b=>by simp[Fo.ends,Fo.size,k.ends_length,r.ends_length]
def Fo.app:Fo->Fo->Fo
 | .nil,g=>g
 | .cons n k r,g=>.cons n k (r.app g)
def Fo.app_nil:∀(F:Fo),F.app .nil=F
 | .nil=>rfl
 | .cons n k r=>by simp[Fo.app,r.app_nil]
def Fo.app_flat:∀(F G:Fo),(F.app G).flat=F.flat++G.flat
 | .nil,_=>rfl
 | .cons n k r,g=>by simp[Fo.app,Fo.flat,r.app_flat]
def Fo.app_count:∀(F G:Fo),(F.app G).count=F.count+G.count
 | .nil,_=>by simp[Fo.app,Fo.count]
 | .cons n k r,g=>by simp[Fo.app,Fo.count,r.app_count];omega
def Fo.app_size:∀(F G:Fo),(F.app G).size=F.size+G.size
 | .nil,_=>by simp[Fo.app,Fo.size]
 | .cons n k r,g=>by simp[Fo.app,Fo.size,r.app_size];omega
def Fo.lastK:Fo->Nat->Nat
 | .nil,last=>last
 | .cons n _ r,_=>r.lastK n.kind
def Fo.app_good:∀(F G:Fo) (d last:Nat),(F.app G).good d last=(F.good d last&&G.good d (F.lastK last))
 | .nil,_,_,_=>by simp[Fo.app,Fo.good,Fo.lastK]
 | .cons n k r,g,d,last=>by simp[Fo.app,Fo.good,Fo.lastK,r.app_good,Bool.and_assoc]
def Fo.good_cons {n:Nd}{k r:Fo}{d last:Nat} :(Fo.cons n k r).good d last=true↔gE n=true/\n.many=(k.count:Int) /\ ¬(last=2/\n.kind=2) /\ ¬(n.kind=1/\d=0)/\k.good (d-1) 1=true/\r.good d n.kind=true:=by
 simp only[Fo.good,Bool.and_eq_true,decide_eq_true_eq,Bool.not_eq_true',Bool.and_eq_false_iff,beq_eq_false_iff_ne,ne_eq]
 constructor
 ·rintro ⟨⟨⟨⟨⟨h1,h2⟩,h3⟩,h4⟩,h5⟩,h6⟩
  exact⟨h1,h2,by rcases h3 with h|h<;>simp_all,by rcases h4 with h|h<;>simp_all,h5,h6⟩
 ·rintro ⟨h1,h2,h3,h4,h5,h6⟩
  exact⟨⟨⟨⟨⟨h1,h2⟩,by by_cases h:last=2<;>simp_all⟩,by by_cases h:n.kind=1<;>simp_all⟩,h5⟩,h6⟩
def Fo.good_mono:∀ {F:Fo} {d d' last:Nat},d<=d'->F.good d last=true->F.good d' last=true
 | .nil,_,_,_,_,_=>rfl
 | .cons n k r,d,d',last,hd,h=>by
  obtain⟨h1,h2,h3,h4,h5,h6⟩:=Fo.good_cons.1 h
  exact Fo.good_cons.2 ⟨h1,h2,h3,by omega,Fo.good_mono (by omega) h5,Fo.good_mono hd h6⟩
def Fo.text_leaf {n:Nd}{k r:Fo}{d last:Nat}(h:(Fo.cons n k r).good d last=true)(hk:n.kind=2):k = .nil:=by
 obtain⟨h1,h2,_⟩:=Fo.good_cons.1 h
 have:=(gG h1 hk).2.2.2.1
 cases k with
 | nil=>rfl
 | cons _ _ _=>simp[Fo.count]at h2;omega
def Cn {en l1 l2:List Nat}{p:Nat}(h:p+l1.length+l2.length<=en.length):bv (bv en p l1) (p+l1.length) l2=bv en p (l1++l2):=by
 have e1:(bv en p l1).length=en.length:=dP (by omega)
 refine List.ext_getElem? fun i=>?_
 rw[cC (by omega),cC (by omega),cC (by simp;omega),List.getElem?_append,List.length_append]
 by_cases a:i<p
 ·rw[if_pos (by omega),if_pos a,if_pos a]
 ·by_cases b:i<p+l1.length
  ·rw[if_pos b,if_neg a,if_pos b,if_neg a,if_pos (by omega),if_pos (by omega)]
  ·by_cases c:i<p+l1.length+l2.length
   ·rw[if_neg b,if_pos c,if_neg a,if_pos (by omega),if_neg (by omega)];congr 1;omega
   ·rw[if_neg b,if_neg c,if_neg a,if_neg b,if_neg a,if_neg (by omega)]
def wX {en l:List Nat}{p e:Nat}(h:p+1+l.length<=en.length):(bv en (p+1) l).set p e=bv en p (e::l):=by
  refine List.ext_getElem? fun i=>?_
  rw[List.getElem?_set,dP (by omega),cC (by omega),cC (by simp;omega)]
  by_cases a:p=i
  · subst a;rw[if_pos rfl,if_pos (by omega),if_neg (by omega),if_pos (by simp)];simp
  · rw [if_neg a]
    by_cases b:i<p
    · rw[if_pos (by omega),if_pos b]
    · by_cases c:i<p+1+l.length
      · rw[if_neg (by omega),if_pos c,if_neg b,if_pos (by simp;omega)]
        obtain⟨j,rfl⟩:∃ j,i=p+1+j:=⟨i-(p+1),by omega⟩
        rw[show p+1+j-(p+1)=j by omega,show p+1+j-p=j+1 by omega];simp
      · rw[if_neg (by omega),if_neg c,if_neg b,if_neg (by simp;omega)]
def wW (en:List Nat)(p:Nat):bv en p []=en:=by simp[bv]
def rr (v:List Nd)(d:Nat)(walk:Nat->List Nat->Option Nat×List Nat):Prop:=∀ p en,en.length=v.length ->
 ((walk p en).2.length=v.length /\ ∀ e,(walk p en).1=some e -> ∃ n k,(Fo.cons n k .nil).good d 0=true/\v.drop p=n::(k.flat++v.drop e)/\e=p+1+k.size/\e<=v.length/\(walk p en).2=bv en p ((Fo.cons n k .nil).ends p)) /\
 ∀ n k r,(Fo.cons n k .nil).good d 0=true->v.drop p=n::(k.flat++r)->walk p en=(some (p+1+k.size),bv en p ((Fo.cons n k .nil).ends p))
def eT {v:List Nd}{p:Nat}{n:Nd}{r:List Nd}(h:v.drop p=n::r):v[p]? = some n/\v.drop (p+1)=r/\p<v.length:=by
 have h1:v[p]? = some n:=by have:=congrArg (·[0]?) h;simpa using this
 refine⟨h1,?_,(List.getElem?_eq_some_iff.1 h1).1⟩
 have:=congrArg (List.drop 1) h
 rw[List.drop_drop]at this;simpa using this
def uG {v:List Nd}{p:Nat}{n:Nd}(h:v[p]? = some n):v.drop p=n::v.drop (p+1):=by
 obtain⟨hp,rfl⟩:=List.getElem?_eq_some_iff.1 h
 exact List.drop_eq_getElem_cons hp
def pr {v a r:List Nd}{p:Nat}(h:v.drop p=a++r):v.drop (p+a.length)=r:=by
 rw[<- List.drop_drop,h,List.drop_left]
def sa {v a r:List Nd}{p:Nat}(h:v.drop p=a++r)(hp:p<=v.length):p+a.length<=v.length:=by
 have:=congrArg List.length h
 simp at this;omega
def B6 {v:List Nd}{d:Nat}{walk:Nat->List Nat->Option Nat×List Nat}(hw:rr v d walk):∀(c:Nat) (next:Option Nat) (last:Nat) (en:List Nat),en.length=v.length ->
  (bN walk v c next last en).2.length=v.length /\ ∀ p,next=some p->p<=v.length ->
  (∀ e,(bN walk v c next last en).1=some e -> ∃ F:Fo,F.count=c/\F.good d last=true/\v.drop p=F.flat++v.drop e/\e=p+F.size/\e<=v.length/\(bN walk v c next last en).2=bv en p (F.ends p)) /\
  ∀(F:Fo) (r:List Nd),F.count=c->F.good d last=true->v.drop p=F.flat++r->bN walk v c next last en=(some (p+F.size),bv en p (F.ends p))
 | 0,next,last,en,hl=>by
  refine⟨hl,fun p hp hle=>⟨fun e he=>⟨.nil,rfl,rfl,?_,?_,?_,?_⟩,fun F r hc _ _=>?_⟩⟩
  ·subst hp;simp only[bN,Option.some.injEq]at he;subst he;rfl
  ·subst hp;simp only[bN,Option.some.injEq]at he;subst he;rfl
  ·subst hp;simp only[bN,Option.some.injEq]at he;subst he;exact hle
  ·simp[bN,Fo.ends,wW]
  ·cases F with
   | nil=>subst hp;simp[bN,Fo.ends,Fo.size,wW]
   | cons _ _ _=>simp[Fo.count]at hc
 | c+1,none,last,en,hl=>⟨hl,fun p hp=>by cases hp⟩
 | c+1,some q,last,en,hl=>by
  cases hv:v[q]? with
  | none =>
   refine⟨by simpa [bN,hv] using hl,fun p hp hle=>?_⟩
   cases hp
   refine⟨fun e he=>by simp[bN,hv]at he,fun F r hc hg hd=>?_⟩
   cases F with
   | nil=>simp[Fo.count]at hc
   | cons n k r' =>
    simp only[Fo.flat,List.cons_append]at hd
    rw[(eT hd).1]at hv;cases hv
  | some y =>
   by_cases hb:(last==2&&y.kind==2)=true
   ·refine⟨by simpa [bN,hv,hb] using hl,fun p hp hle=>?_⟩
    cases hp
    refine⟨fun e he=>by simp[bN,hv,hb]at he,fun F r hc hg hd=>?_⟩
    cases F with
    | nil=>simp[Fo.count]at hc
    | cons n k r' =>
     simp only[Fo.flat,List.cons_append]at hd
     rw[(eT hd).1]at hv;cases hv
     simp only[Bool.and_eq_true,beq_iff_eq]at hb
     exact absurd hb (Fo.good_cons.1 hg).2.2.1
   ·have hb':(last==2&&y.kind==2)=false:=by simpa using hb
    have hu:bN walk v (c+1) (some q) last en=bN walk v c (walk q en).1 y.kind (walk q en).2:=by simp[bN,hv,hb']
    rw[hu]
    obtain⟨⟨w1,w2⟩,w3⟩:=hw q en hl
    obtain⟨i1,i2⟩:=B6 hw c (walk q en).1 y.kind (walk q en).2 w1
    refine⟨i1,fun p hp hle=>?_⟩
    cases hp
    refine⟨fun e he=>?_,fun F r hc hg hd=>?_⟩
    ·cases hwq:(walk q en).1 with
     | none =>
      rw[hwq]at he
      cases c<;>simp[bN]at he
     | some e1 =>
      obtain⟨n,k,g1,g2,g3,g4,g5⟩:=w2 e1 hwq
      obtain⟨i3,_⟩:=i2 e1 hwq g4
      obtain⟨F,f1,f2,f3,f4,f5,f6⟩:=i3 e he
      have hy:n=y:=by rw[(eT g2).1]at hv;exact Option.some.inj hv
      subst hy
      obtain⟨k1,k2,k3,k4,k5,k6⟩:=Fo.good_cons.1 g1
      refine⟨.cons n k F,by simp[Fo.count,f1],Fo.good_cons.2 ⟨k1,k2,?_,k4,k5,f2⟩,?_,?_,f5,?_⟩
      ·simpa using hb'
      ·rw[g2,f3];simp[Fo.flat]
      ·simp only[Fo.size];omega
      ·rw[hwq]at f6;rw[f6,g5]
       have hlen:=Fo.ends_length (.cons n k .nil) q
       have hlF:=Fo.ends_length F e1
       have hs:e1=q+((Fo.cons n k .nil).ends q).length:=by rw[hlen];simp[Fo.size];omega
       have:=Cn (en:=en) (l1:=(Fo.cons n k .nil).ends q) (l2:=F.ends e1) (p:=q) (by omega)
       rw[<- hs]at this
       rw[this]
       simp[Fo.ends,g3]
    ·cases F with
     | nil=>simp[Fo.count]at hc
     | cons n k r' =>
      obtain⟨k1,k2,k3,k4,k5,k6⟩:=Fo.good_cons.1 hg
      simp only[Fo.flat,List.cons_append,List.append_assoc]at hd
      have hy:n=y:=by rw[(eT hd).1]at hv;exact Option.some.inj hv
      subst hy
      have hwk:=w3 n k (r'.flat++r) (Fo.good_cons.2 ⟨k1,k2,by omega,k4,k5,rfl⟩) hd
      have hd1:v.drop q=(n::k.flat)++(r'.flat++r):=by simpa using hd
      have hle1:=sa hd1 hle
      have hd2:=pr hd1
      simp only[List.length_cons,Fo.flat_length]at hle1 hd2
      have hq1:q+(k.size+1)=q+1+k.size:=by omega
      rw[hq1]at hd2
      obtain⟨_,i4⟩:=i2 (q+1+k.size) (by rw[hwk]) (by omega)
      have hF:=i4 r' r (by simpa [Fo.count] using hc) k6 hd2
      rw[hF,hwk]
      have hlen:=Fo.ends_length (.cons n k .nil) q
      have hs:q+1+k.size=q+((Fo.cons n k .nil).ends q).length:=by rw[hlen];simp[Fo.size];omega
      have hle2:=sa hd2 (by omega)
      rw[Fo.flat_length]at hle2
      have:=Cn (en:=en) (l1:=(Fo.cons n k .nil).ends q) (l2:=r'.ends (q+1+k.size)) (p:=q) (by rw[Fo.ends_length,Fo.ends_length];simp only[Fo.size];omega)
      rw[<- hs]at this
      simp only
      rw[this]
      simp[Fo.ends,Fo.size];omega
def uH {p n:Nat}{r:Option Nat×List Nat}(h:r.2.length=n):(ed p r).2.length=n:=by
 unfold ed;split<;>simpa using h
def Ce {v:List Nd}{d:Nat}{dz:Bool}{walk:Nat->List Nat->Option Nat×List Nat}(hz:dz=decide (d=0))(hw:d≠0->rr v (d-1) walk)(hw0:∀ p en,(walk p en).2.length=en.length):rr v d (iW walk v dz):=by
 have hlen0:∀(c:Nat) (next:Option Nat) (last:Nat) (en:List Nat),(bN walk v c next last en).2.length=en.length:=by
  intro c
  induction c with
  | zero=>intro next last en;rfl
  | succ c ih =>
   intro next last en
   cases next with
   | none=>rfl
   | some q =>
    cases hv:v[q]? with
    | none=>simp[bN,hv]
    | some y =>
     by_cases hb:(last==2&&y.kind==2)=true
     ·simp[bN,hv,hb]
     ·have hb':(last==2&&y.kind==2)=false:=by simpa using hb
      rw[show bN walk v (c+1) (some q) last en=bN walk v c (walk q en).1 y.kind (walk q en).2 by simp[bN,hv,hb'],ih,hw0]
 intro p en hl
 cases hv:v[p]? with
 | none =>
  refine⟨⟨by simpa [iW,hv] using hl,fun e he=>by simp[iW,hv]at he⟩,fun n k r _ hd=>?_⟩
  rw[(eT hd).1]at hv;cases hv
 | some x =>
  have hpl:=(List.getElem?_eq_some_iff.1 hv).1
  by_cases hx:okW x dz=true
  ·have hu:iW walk v dz p en=ed p (bN walk v x.many.toNat (some (p+1)) 1 en):=by simp[iW,hv,hx]
   rw[hu]
   simp only[okW,Bool.and_eq_true,decide_eq_true_eq,Bool.not_eq_true',Bool.and_eq_false_iff,beq_eq_false_iff_ne]at hx
   obtain⟨⟨hm,h0⟩,hkd⟩:=hx
   have hkd':¬(x.kind=1/\d=0):=by
    rintro ⟨e1,e2⟩;rcases hkd with h|h
    ·exact h e1
    ·subst hz;simp[e2]at h
   by_cases hd0:d=0
   ·have hk2:x.kind=2:=by rcases gF hm with h|h;exact absurd ⟨h,hd0⟩ hkd';exact h
    obtain⟨_,_,_,hm0,_,_⟩:=gG hm hk2
    have hl0:bN walk v x.many.toNat (some (p+1)) 1 en=(some (p+1),en):=by rw[hm0];rfl
    rw[hl0]
    have hs:en.set p (p+1)=bv en p ((Fo.cons x .nil .nil).ends p):=by
     have:=wX (en:=en) (l:=[]) (p:=p) (e:=p+1) (by simp;omega)
     rw[wW]at this
     rw[this];simp[Fo.ends,Fo.size]
    refine⟨⟨by simp[ed];omega,fun e he=>⟨x,.nil,?_,?_,?_,?_,?_⟩⟩,fun n k r hg hd=>?_⟩
    ·exact Fo.good_cons.2 ⟨hm,by simp[Fo.count,hm0],by omega,hkd',rfl,rfl⟩
    ·simp only[ed,Option.some.injEq]at he;subst he;simp[Fo.flat];exact uG hv
    ·simp only[ed,Option.some.injEq]at he;subst he;simp[Fo.size]
    ·simp only[ed,Option.some.injEq]at he;subst he;omega
    ·simp only[ed];exact hs
    ·have hy:n=x:=by rw[(eT hd).1]at hv;exact Option.some.inj hv
     subst hy
     have hkn:=Fo.text_leaf hg hk2
     subst hkn
     simp only[ed,Fo.size,Nat.add_zero];rw[hs]
   ·obtain⟨i1,i2⟩:=B6 (hw hd0) x.many.toNat (some (p+1)) 1 en hl
    obtain⟨i3,i4⟩:=i2 (p+1) rfl (by omega)
    refine⟨⟨uH i1,fun e he=>?_⟩,fun n k r hg hd=>?_⟩
    ·cases hq:(bN walk v x.many.toNat (some (p+1)) 1 en).1 with
     | none=>simp[ed,hq]at he
     | some e1 =>
      have hee:e1=e:=by simpa [ed,hq] using he
      subst hee
      obtain⟨F,f1,f2,f3,f4,f5,f6⟩:=i3 e1 hq
      refine⟨x,F,Fo.good_cons.2 ⟨hm,by rw[f1];omega,by omega,hkd',f2,rfl⟩,?_,?_,f5,?_⟩
      ·rw[<- f3];exact uG hv
      ·omega
      ·simp only[ed,hq,f6]
       rw[wX (by rw[Fo.ends_length];omega)]
       simp[Fo.ends,f4]
    ·have hy:n=x:=by rw[(eT hd).1]at hv;exact Option.some.inj hv
     subst hy
     obtain⟨k1,k2,k3,k4,k5,k6⟩:=Fo.good_cons.1 hg
     obtain⟨_,hd1,_⟩:=eT hd
     have:=i4 k r (by rw[k2];simp) k5 hd1
     rw[this]
     have hle:=sa hd1 (by omega)
     rw[Fo.flat_length]at hle
     simp only[ed]
     rw[wX (by rw[Fo.ends_length];omega)]
     simp[Fo.ends]
  ·have hu:iW walk v dz p en=(none,en):=by simp[iW,hv,hx]
   rw[hu]
   refine⟨⟨hl,fun e he=>by cases he⟩,fun n k r hg hd=>?_⟩
   have hy:n=x:=by rw[(eT hd).1]at hv;exact Option.some.inj hv
   subst hy
   obtain⟨k1,k2,k3,k4,k5,k6⟩:=Fo.good_cons.1 hg
   exfalso;apply hx
   simp only[okW,Bool.and_eq_true,decide_eq_true_eq,Bool.not_eq_true',Bool.and_eq_false_iff,beq_eq_false_iff_ne]
   refine⟨⟨k1,by omega⟩,?_⟩
   subst hz
   by_cases e:n.kind=1
   ·right;simp;omega
   ·left;exact e
def uW {walk:Nat->List Nat->Option Nat×List Nat}(hw0:∀ p en,(walk p en).2.length=en.length)(v:List Nd):∀(c:Nat) (next:Option Nat) (last:Nat) (en:List Nat),(bN walk v c next last en).2.length=en.length
 | 0,_,_,_=>rfl
 | _+1,none,_,_=>rfl
 | c+1,some q,last,en=>by
  cases hv:v[q]? with
  | none=>simp[bN,hv]
  | some y =>
   by_cases hb:(last==2&&y.kind==2)=true
   ·simp[bN,hv,hb]
   ·have hb':(last==2&&y.kind==2)=false:=by simpa using hb
    rw[show bN walk v (c+1) (some q) last en=bN walk v c (walk q en).1 y.kind (walk q en).2 by simp[bN,hv,hb'],uW hw0,hw0]
def uZ {walk:Nat->List Nat->Option Nat×List Nat}(hw0:∀ p en,(walk p en).2.length=en.length)(v:List Nd)(dz:Bool)(p:Nat)(en:List Nat):(iW walk v dz p en).2.length=en.length:=by
 unfold iW
 split
 ·rfl
 ·split
  ·exact uH (uW hw0 v _ _ _ _)
  ·rfl
def qa (v:List Nd):∀(d p:Nat) (en:List Nat),(m9 v d p en).2.length=en.length
 | 0,p,en=>uZ (fun _ _=>rfl) v true p en
 | d+1,p,en=>uZ (qa v d) v false p en
def xa (v:List Nd):∀(d:Nat),rr v d (m9 v d)
 | 0=>Ce (d:=0) rfl (fun h=>absurd rfl h) (fun _ _=>rfl)
 | d+1=>Ce (d:=d+1) (by simp) (fun _=>xa v d) (qa v d)
def gr {v:List Nd}{en:List Nat} : bm v=some en ↔ ∃ n k,n.kind=1/\v=n::k.flat/\(Fo.cons n k .nil).good 12 0=true/\v.length<=512/\en=(1+k.size)::k.ends 1:=by
 have hw:=xa v 12 0 (List.replicate v.length 0) (by simp)
 constructor
 ·intro h
  unfold bm at h
  split at h
  ·cases h
  ·rename_i hc
   simp only[Bool.or_eq_true,decide_eq_true_eq,Bool.not_eq_true',not_or,Bool.not_eq_true,List.isEmpty_eq_false_iff,Nat.not_lt,Bool.not_eq_false,beq_iff_eq,Option.map_eq_some_iff]at hc
   obtain⟨⟨c1,c2⟩,x,c3,c4⟩:=hc
   cases hr:m9 v 12 0 (List.replicate v.length 0) with
   | mk a b =>
    rw[hr]at h hw
    cases a with
    | none=>cases h
    | some e =>
     simp only[C7]at h
     split at h
     ·rename_i he
      cases h
      obtain⟨n,k,h1,h2,h3,h4,h5⟩:=hw.1.2 e rfl
      subst he
      simp only[List.drop_zero,List.drop_length,List.append_nil]at h2
      have hx:x=n:=by rw[h2]at c3;simpa using c3.symm
      subst hx
      refine⟨x,k,c4,h2,h1,c2,?_⟩
      simp only at h5
      have hle:=Fo.ends_length (.cons x k .nil) 0
      have hvl:v.length=k.size+1:=by rw[h2];simp[Fo.flat_length]
      rw[h5]
      unfold bv
      rw[hle,List.take_zero,List.drop_of_length_le (by simp[Fo.size];omega)]
      simp[Fo.ends]
     ·cases h
 ·rintro ⟨n,k,h1,h2,h3,h4,rfl⟩
  have hwk:=hw.2 n k [] h3 (by simpa using h2)
  have hvl:v.length=k.size+1:=by rw[h2];simp[Fo.flat_length]
  unfold bm
  rw[if_neg (by rw[h2];simp[h1];rw[h2]at h4;simpa using h4),hwk]
  simp only[C7]
  rw[if_pos (by omega)]
  have hle:=Fo.ends_length (.cons n k .nil) 0
  unfold bv
  rw[hle,List.take_zero,List.drop_of_length_le (by simp[Fo.size];omega)]
  simp[Fo.ends]
def Fo.tops:Fo->Nat->List Nat
 | .nil,_=>[]
 | .cons _ k r,p=>p::r.tops (p+1+k.size)
def Fo.tops_length:∀(F:Fo) (p:Nat),(F.tops p).length=F.count
 | .nil,_=>rfl
 | .cons n k r,p=>by simp[Fo.tops,Fo.count,r.tops_length]
def hops (en:List Nat)(stop:Nat):Nat->Nat->List Nat
 | 0,_=>[]
 | f+1,p=>if p<stop then p::hops en stop f (en.getD p 0) else []
def vV:∀(F:Fo) (b i e:Nat),(F.ends b)[i]? = some e->b+i<e/\e<=b+F.size
 | .nil,b,i,e,h=>by simp[Fo.ends]at h
 | .cons n k r,b,0,e,h=>by simp[Fo.ends]at h;simp only[Fo.size];omega
 | .cons n k r,b,i+1,e,h=>by
  simp only[Fo.ends,List.getElem?_cons_succ,List.getElem?_append,Fo.ends_length]at h
  simp only[Fo.size]
  split at h
  ·have:=vV k _ _ _ h;omega
  ·have:=vV r _ _ _ h;omega
def MA (en:List Nat)(stop p:Nat):List Nat:=hops en stop (stop-p) p
def uP:∀(F:Fo) (en rest:List Nat) (p f:Nat),en.drop p=F.ends p++rest->F.size<=f->hops en (p+F.size) f p=F.tops p
 | .nil,en,rest,p,f,_,_=>by
  cases f with
  | zero=>rfl
  | succ f=>simp[hops,Fo.size,Fo.tops]
 | .cons n k r,en,rest,p,f,h,hf=>by
  cases f with
  | zero=>simp[Fo.size]at hf
  | succ f =>
   have h0:en[p]? = some (p+1+k.size):=by have:=congrArg (·[0]?) h;simpa [Fo.ends] using this
   have h1:en.drop (p+1+k.size)=r.ends (p+1+k.size)++rest:=by
    have:=congrArg (List.drop (1+k.size)) h
    rw[List.drop_drop]at this
    rw[show p+1+k.size=p+(1+k.size) by omega,this]
    simp only[Fo.ends,List.cons_append]
    rw[show 1+k.size=(k.ends (p+1)).length+1 by rw[Fo.ends_length];omega,List.drop_succ_cons,List.append_assoc,List.drop_left]
    rw[show p+((k.ends (p+1)).length+1)=p+1+k.size by rw[Fo.ends_length];omega]
   simp only[Fo.size]at hf
   simp only[hops,Fo.tops]
   rw[if_pos (by simp only[Fo.size];omega),List.getD_eq_getElem?_getD,h0,Option.getD_some]
   have:=uP r en rest (p+1+k.size) f h1 (by omega)
   rw[show p+(Fo.cons n k r).size=p+1+k.size+r.size by simp only[Fo.size];omega,this]
def DD {F:Fo}{en rest:List Nat}{p:Nat}(h:en.drop p=F.ends p++rest):MA en (p+F.size) p=F.tops p:=by
 unfold MA
 exact uP F en rest p _ h (by omega)
def Fo.sub:Fo->Nat->Option (Nd×Fo)
 | .nil,_=>none
 | .cons n k _,0=>some (n,k)
 | .cons _ k r,i+1=>if i<k.size then k.sub i else r.sub (i-k.size)
def Fo.good_all:∀ {F:Fo} {d last:Nat},F.good d last=true -> ∀ x∈F.flat,gE x=true/\0<=x.many/\x.many<=F.size
 | .nil,_,_,_,x,hx=>by simp[Fo.flat]at hx
 | .cons n k r,d,last,h,x,hx=>by
  obtain⟨h1,h2,h3,h4,h5,h6⟩:=Fo.good_cons.1 h
  simp only[Fo.size]
  have hc:∀(F:Fo),F.count<=F.size:=by
   intro F
   induction F with
   | nil=>exact Nat.le_refl _
   | cons n k r _ ih=>simp only[Fo.count,Fo.size];omega
  simp only[Fo.flat,Lk,List.mem_append]at hx
  rcases hx with rfl|hx|hx
  ·have:=hc k;exact⟨h1,by omega,by omega⟩
  ·obtain⟨a,b,c⟩:=Fo.good_all h5 x hx;exact⟨a,b,by omega⟩
  ·obtain⟨a,b,c⟩:=Fo.good_all h6 x hx;exact⟨a,b,by omega⟩
def aW (l:List At):List Pr:=l.map fun a=>⟨a.name,a.value⟩
def Fo.toks:Fo->List Tk
 | .nil=>[]
 | .cons n k r=>(if n.kind=2 then [⟨4,[],[],n.text⟩] else if n.many=0 then [⟨3,n.name,aW n.attrs,[]⟩] else ⟨1,n.name,aW n.attrs,[]⟩::(k.toks++[⟨2,n.name,[],[]⟩]))++r.toks
def js (n:Nd):Bool:=!n.space.isEmpty||n.attrs.any fun a=>!a.space.isEmpty
def bV (v:List Nd):Bool:=v.any js
def Fo.toks_length:∀ {F:Fo} {d last:Nat},F.good d last=true->F.toks.length=F.size+(F.flat.filter fun n=>decide (0<n.many)).length
 | .nil,_,_,_=>rfl
 | .cons n k r,d,last,h=>by
  obtain⟨h1,h2,h3,h4,h5,h6⟩:=Fo.good_cons.1 h
  have ik:=Fo.toks_length h5
  have ir:=Fo.toks_length h6
  simp only[Fo.toks,Fo.size,Fo.flat,List.filter_cons,List.filter_append,List.length_append]
  by_cases hk:n.kind=2
  ·have hm:=(gG h1 hk).2.2.2.1
   have hkn:=Fo.text_leaf h hk
   subst hkn
   rw[if_pos hk,if_neg (by rw[hm];decide)]
   simp[Fo.size,Fo.flat,ir];omega
  ·by_cases hm:n.many=0
   ·have hkn:k = .nil:=by
     cases k with
     | nil=>rfl
     | cons _ _ _=>simp[Fo.count]at h2;omega
    subst hkn
    rw[if_neg hk,if_pos hm,if_neg (by rw[hm];decide)]
    simp[Fo.size,Fo.flat,ir];omega
   ·rw[if_neg hk,if_neg hm,if_pos (by rw[decide_eq_true_eq];omega)]
    simp[ir,ik];omega
def Fo.toks_app:∀(F G:Fo),(F.app G).toks=F.toks++G.toks
 | .nil,_=>rfl
 | .cons n k r,g=>by simp[Fo.app,Fo.toks,r.toks_app]
def gT (v:List Nd):Bool:=match v with
 | [x]=>decide (x.kind=2)&&gE x
 | _=>false
def eC (v:List Nd):Bool:=!gT v&&(bm v).isNone
def Nd.to (n:Nd)(m:Int):Nd:={ n with many:=m }
def ck (n:Nd)(l:List (List Nd)):Int :=
 if (bm [n.to 0]).isNone=true then 8 else if l.any eC=true then 8 else if 512<1+(l.map List.length).sum then 4
 else if (bm (n.to l.length::l.flatten)).isNone=true then 8 else 0
def ef (n:Nd)(l:List (List Nd)):List Nd:=if ck n l=0 then n.to l.length::l.flatten else []
def Fo.parts:Fo->List (List Nd)
 | .nil=>[]
 | .cons n k r=>(n::k.flat)::r.parts
def Fo.tops_app:∀(F G:Fo) (p:Nat),(F.app G).tops p=F.tops p++G.tops (p+F.size)
 | .nil,_,_=>rfl
 | .cons n k r,g,p=>by simp only[Fo.app,Fo.tops,Fo.size,r.tops_app,List.cons_append];rw[show p+1+k.size+r.size=p+(k.size+r.size+1) by omega]
def uz {n:Nd}{k:Fo}{d:Nat}(hd:d<=12)(hk:n.kind=1)(h:(Fo.cons n k .nil).good d 0=true)(hl:k.size+1<=512):bm (n::k.flat)=some ((1+k.size)::k.ends 1) :=
 gr.2 ⟨n,k,hk,rfl,Fo.good_mono hd h,by simpa [Fo.flat_length] using hl,rfl⟩
def Ax (l:List At)(f:Nat)(caps:List V)(p:At->Bool)(hf:∀ h∈l,∀ nm,Ev cx f nm (.agg (bf h)::caps) ao.nil (.bool (p h)) [])(hn:l.length<=aT)(hpl:plainL caps=true)(nm:Nat):Ev cx 111 nm [.sl false 3 (l.map bf),.fn f caps] ao.nil (.int .i64 (yw (l.findIdx? p))) []:=by
 unfold aT at hn
 refine aX call111 func111 ?_;intro b0 hb0;have zF:=Ai results111 ntmps111
 repeat' first|simp only[au,ap,zF,am,aj,ai,seval]|exact rfl|refine aa (v:=.any) ?_|((first|(refine bh (g:=?_) ?_ ?_)|(refine aZ (g:=?_) ?_ ?_));rotate_left 1;(focus (simp only[zF,am,aj,ai,seval]<;>exact rfl)))|((first|apply Ca|apply Cb)<;>intro hb)|refine Ai (by omega) ?_|(apply Ai<;>intro hb)
 (refine ew (fun x:Nat=>l.length-x) (fun x=>x<=l.length/\(l.take x).any p=false) (b0+16) (fun x=>[(0,.sl false 3 (l.map bf)),(1,.fn f caps),(7,.int .i64 l.length),(8,.int .i64 x)]) (fun x=>[]) (0) [] ?_ ?_ ?_;(focus (refine⟨?_,?_⟩<;>(try simp only[aE,Lm,ab,bd hpl,aU hpl,aj,ai,aq,seval])<;>(try omega))))
 ·exact⟨Nat.zero_le _,by simp⟩
 ·rintro k ⟨hk,hno⟩
  by_cases hlt:k<l.length
  ·obtain⟨h,hh⟩:=ic hlt
   have hat:(l.map bf)[k]? = some (bf h):=by rw[List.getElem?_map,hh];rfl
   have hd:=decide_eq_true hlt
   have hwk:=eD k
   have hfh:=hf h (List.mem_of_getElem? hh)
   cases hp:p h with
   | true =>
    have hfd:=iQ hno hh hp
    rw[hp]at hfh
    (repeat' first|simp only[au,ap,zF,am,hat,bf,hlt,hd,hwk,hfd,br,Lm,aj,ai,seval]|exact rfl|refine aa (v:=.any) ?_|refine bw (g:=f) (caps:=caps) (by simp only[zF,am,hat,bf,hlt,hd,hwk,hfd,br,Lm,aj,ai,seval]<;>exact rfl) (by simp only[zF,am,hat,bf,hlt,hd,hwk,hfd,br,Lm,aj,ai,seval]<;>exact rfl) (hfh _) ?_|((first|(refine bh (g:=?_) ?_ ?_)|(refine aZ (g:=?_) ?_ ?_));rotate_left 1;(focus (simp only[zF,am,hat,bf,hlt,hd,hwk,hfd,br,Lm,aj,ai,seval]<;>exact rfl)))|((first|apply Ca|apply Cb)<;>intro hb)|refine Ai (by omega) ?_|(apply Ai<;>intro hb)|apply Fin.pure|simp only[aq])
   | false =>
    have hn':=cB (p:=p) hno hh hp
    rw[hp]at hfh
    repeat' first|simp only[au,ap,zF,am,hat,bf,hlt,hd,hwk,Lm,aj,ai,seval]|exact rfl|refine aa (v:=.any) ?_|refine bw (g:=f) (caps:=caps) (by simp only[zF,am,hat,bf,hlt,hd,hwk,Lm,aj,ai,seval]<;>exact rfl) (by simp only[zF,am,hat,bf,hlt,hd,hwk,Lm,aj,ai,seval]<;>exact rfl) (hfh _) ?_|((first|(refine bh (g:=?_) ?_ ?_)|(refine aZ (g:=?_) ?_ ?_));rotate_left 1;(focus (simp only[zF,am,hat,bf,hlt,hd,hwk,Lm,aj,ai,seval]<;>exact rfl)))|((first|apply Ca|apply Cb)<;>intro hb)|refine Ai (by omega) ?_|(apply Ai<;>intro hb)
    all_goals ((refine de (k+1) [] ?_ ?_ ?_;(focus (refine⟨?_,?_⟩<;>(try simp only[aE,ab,bd hpl,aU hpl,hwk,aj,ai,aq,seval])<;>(try omega)))))
    all_goals (first|(show l.length-(k+1)<l.length-k;omega)|exact⟨hlt,hn'⟩|skip)
  ·have hke:k=l.length:=by omega
   subst hke
   rw[List.take_length]at hno
   have hfd:=fC hno
   have hd:decide (l.length<l.length)=false:=bi
   (repeat' first|simp only[au,ap,zF,am,hd,hfd,cK,Lm,aj,ai,seval]|exact rfl|refine aa (v:=.any) ?_|((first|(refine bh (g:=?_) ?_ ?_)|(refine aZ (g:=?_) ?_ ?_));rotate_left 1;(focus (simp only[zF,am,hd,hfd,cK,Lm,aj,ai,seval]<;>exact rfl)))|((first|apply Ca|apply Cb)<;>intro hb)|refine Ai (by omega) ?_|(apply Ai<;>intro hb)|apply Fin.pure|simp only[aq])
def gL (l:List At)(f:Nat)(caps:List V)(p:At->Bool)(hf:∀ h∈l,∀ nm,Ev cx f nm (.agg (bf h)::caps) ao.nil (.bool (p h)) [])(hn:l.length<=aT)(hpl:plainL caps=true)(nm:Nat):Ev cx 64 nm [.sl false 3 (l.map bf),.fn f caps] ao.nil (.bool (l.any p)) []:=by
 have hi:=Ax l f caps p hf hn hpl
 cases h:l.findIdx? p with
 | none =>
  have ha:l.any p=false:=lm h
  rw[h]at hi
  refine aX call64 func64 ?_;intro b0 hb0
  exact wP (a4 (results64) (ntmps64) ha @cK) hi
 | some n =>
  have ha:l.any p=true:=ln h
  rw[h]at hi
  have hz:decide ((0:Int)<=(n:Int))=true:=dh
  refine aX call64 func64 ?_;intro b0 hb0
  exact wP (a5 (results64) (ntmps64) ha @br hz) hi
def Az (l:List Nd)(f:Nat)(caps:List V)(p:Nd->Bool)(hf:∀ h∈l,∀ nm,Ev cx f nm (.agg (aD h)::caps) ao.nil (.bool (p h)) [])(hn:l.length<=aT)(hpl:plainL caps=true)(nm:Nat):Ev cx 112 nm [.sl false 6 (l.map aD),.fn f caps] ao.nil (.int .i64 (yw (l.findIdx? p))) []:=by
 unfold aT at hn
 refine aX call112 func112 ?_;intro b0 hb0;have zF:=Ai results112 ntmps112
 repeat' first|simp only[au,ap,zF,am,aj,ai,seval]|exact rfl|refine aa (v:=.any) ?_|((first|(refine bh (g:=?_) ?_ ?_)|(refine aZ (g:=?_) ?_ ?_));rotate_left 1;(focus (simp only[zF,am,aj,ai,seval]<;>exact rfl)))|((first|apply Ca|apply Cb)<;>intro hb)|refine Ai (by omega) ?_|(apply Ai<;>intro hb)
 (refine ew (fun x:Nat=>l.length-x) (fun x=>x<=l.length/\(l.take x).any p=false) (b0+16) (fun x=>[(0,.sl false 6 (l.map aD)),(1,.fn f caps),(7,.int .i64 l.length),(8,.int .i64 x)]) (fun x=>[]) (0) [] ?_ ?_ ?_;(focus (refine⟨?_,?_⟩<;>(try simp only[aE,Lm,ae,bd hpl,aU hpl,aj,ai,aq,seval])<;>(try omega))))
 ·exact⟨Nat.zero_le _,by simp⟩
 ·rintro k ⟨hk,hno⟩
  by_cases hlt:k<l.length
  ·obtain⟨h,hh⟩:=ic hlt
   have hat:(l.map aD)[k]? = some (aD h):=by rw[List.getElem?_map,hh];rfl
   have hd:=decide_eq_true hlt
   have hwk:=eD k
   have hfh:=hf h (List.mem_of_getElem? hh)
   cases hp:p h with
   | true =>
    have hfd:=iQ hno hh hp
    rw[hp]at hfh
    (repeat' first|simp only[au,ap,zF,am,hat,aD,hlt,hd,hwk,hfd,br,Lm,aj,ai,seval]|exact rfl|refine aa (v:=.any) ?_|refine bw (g:=f) (caps:=caps) (by simp only[zF,am,hat,aD,hlt,hd,hwk,hfd,br,Lm,aj,ai,seval]<;>exact rfl) (by simp only[zF,am,hat,aD,hlt,hd,hwk,hfd,br,Lm,aj,ai,seval]<;>exact rfl) (hfh _) ?_|((first|(refine bh (g:=?_) ?_ ?_)|(refine aZ (g:=?_) ?_ ?_));rotate_left 1;(focus (simp only[zF,am,hat,aD,hlt,hd,hwk,hfd,br,Lm,aj,ai,seval]<;>exact rfl)))|((first|apply Ca|apply Cb)<;>intro hb)|refine Ai (by omega) ?_|(apply Ai<;>intro hb)|apply Fin.pure|simp only[aq])
   | false =>
    have hn':=cB (p:=p) hno hh hp
    rw[hp]at hfh
    repeat' first|simp only[au,ap,zF,am,hat,aD,hlt,hd,hwk,Lm,aj,ai,seval]|exact rfl|refine aa (v:=.any) ?_|refine bw (g:=f) (caps:=caps) (by simp only[zF,am,hat,aD,hlt,hd,hwk,Lm,aj,ai,seval]<;>exact rfl) (by simp only[zF,am,hat,aD,hlt,hd,hwk,Lm,aj,ai,seval]<;>exact rfl) (hfh _) ?_|((first|(refine bh (g:=?_) ?_ ?_)|(refine aZ (g:=?_) ?_ ?_));rotate_left 1;(focus (simp only[zF,am,hat,aD,hlt,hd,hwk,Lm,aj,ai,seval]<;>exact rfl)))|((first|apply Ca|apply Cb)<;>intro hb)|refine Ai (by omega) ?_|(apply Ai<;>intro hb)
    all_goals ((refine de (k+1) [] ?_ ?_ ?_;(focus (refine⟨?_,?_⟩<;>(try simp only[aE,ae,bd hpl,aU hpl,hwk,aj,ai,aq,seval])<;>(try omega)))))
    all_goals (first|(show l.length-(k+1)<l.length-k;omega)|exact⟨hlt,hn'⟩|skip)
  ·have hke:k=l.length:=by omega
   subst hke
   rw[List.take_length]at hno
   have hfd:=fC hno
   have hd:decide (l.length<l.length)=false:=bi
   (repeat' first|simp only[au,ap,zF,am,hd,hfd,cK,Lm,aj,ai,seval]|exact rfl|refine aa (v:=.any) ?_|((first|(refine bh (g:=?_) ?_ ?_)|(refine aZ (g:=?_) ?_ ?_));rotate_left 1;(focus (simp only[zF,am,hd,hfd,cK,Lm,aj,ai,seval]<;>exact rfl)))|((first|apply Ca|apply Cb)<;>intro hb)|refine Ai (by omega) ?_|(apply Ai<;>intro hb)|apply Fin.pure|simp only[aq])
def mP (l:List Nd)(f:Nat)(caps:List V)(p:Nd->Bool)(hf:∀ h∈l,∀ nm,Ev cx f nm (.agg (aD h)::caps) ao.nil (.bool (p h)) [])(hn:l.length<=aT)(hpl:plainL caps=true)(nm:Nat):Ev cx 65 nm [.sl false 6 (l.map aD),.fn f caps] ao.nil (.bool (l.any p)) []:=by
 have hi:=Az l f caps p hf hn hpl
 cases h:l.findIdx? p with
 | none =>
  have ha:l.any p=false:=lm h
  rw[h]at hi
  refine aX call65 func65 ?_;intro b0 hb0
  exact wP (a4 (results65) (ntmps65) ha @cK) hi
 | some n =>
  have ha:l.any p=true:=ln h
  rw[h]at hi
  have hz:decide ((0:Int)<=(n:Int))=true:=dh
  refine aX call65 func65 ?_;intro b0 hb0
  exact wP (a5 (results65) (ntmps65) ha @br hz) hi
def CG (a b:At)(nm:Nat):Ev cx 121 nm [.agg (bf b),.rp (bf a)] ao.nil (.bool (a.space==b.space&&a.name==b.name)) []:=by
 refine aX call121 func121 ?_;intro b0 hb0
 exact wP (a3 results121 ntmps121 @bf.eq_1) trivial
def Fq (l:List At)(hl:l.length<=aT)(hs:∀ a∈l,a.space.length<=aT/\a.name.length<=aT/\a.value.length<=aT)(nm:Nat):Ev cx 86 nm [.sl false 3 (l.map bf)] ao.nil (.bool (na l)) []:=by
 have hl':=hl
 unfold aT at hl'
 refine aX call86 func86 ?_;intro b0 hb0
 refine wR (a2 results86 ntmps86) trivial ?_
 (refine ew (fun x:Nat=>l.length-x) (fun x=>x<=l.length/\ux l x) (b0+16) (fun x=>[(0,.sl false 3 (l.map bf)),(6,.sl false 3 (l.map bf)),(7,.int .i64 l.length),(8,.int .i64 x)]) (fun x=>[]) (0) [] ?_ ?_ ?_;(focus (refine⟨?_,?_⟩<;>(try simp only[aE,ab,Lm,aj,ai,aq,seval])<;>(try omega))))
 ·exact⟨Nat.zero_le _,fun i a hi=>by omega⟩
 ·rintro k ⟨hk,hn⟩
  by_cases hlt:k<l.length
  ·obtain⟨a,ha⟩:=ic hlt
   obtain⟨hs0,hs1,hs2⟩:=hs a (List.mem_of_getElem? ha)
   have hat:=iu ha
   have hd:=decide_eq_true hlt
   have hwk:=eD k
   have hki:(k:Int)<=(l.length:Int):=by omega
   have htk:(l.map bf).take k=(l.take k).map bf:=by rw[List.map_take]
   have hlen:(l.take k).length<=aT:=by rw[List.length_take];unfold aT;omega
   have hf2:=ou a.name hs1
   have hc2:=db a.value hs2
   have hc3:=db a.space hs0
   have hh2:=gL (l.take k) 121 [.rp (bf a)] (fun b=>a.space==b.space&&a.name==b.name) (fun b _ nm=>CG a b nm) hlen rfl
   have hok:Iy (l.take k) a=(!((l.take k).any fun b=>a.space==b.space&&a.name==b.name)&&bU a.name&&decide (aF a.value=0)&&decide (aF a.space=0)):=rfl
   have hz2:decide (aF a.value=0) = !(aF a.value != 0):=by rw[Bool.eq_iff_iff];simp
   have hz3:decide (aF a.space=0) = !(aF a.space != 0):=by rw[Bool.eq_iff_iff];simp
   rw[hz2,hz3]at hok
   generalize hb1:((l.take k).any fun b=>a.space==b.space&&a.name==b.name)=b1 at hh2 hok
   generalize hb2:bU a.name=b2 at hf2 hok
   generalize hb3:(aF a.value != 0)=b3 at hok
   generalize hb4:(aF a.space != 0)=b4 at hok
   cases ho2:Iy (l.take k) a with
   | false =>
    have hr:=pd ha ho2
    rw[ho2]at hok
    cases b1<;>cases b2<;>cases b3<;>cases b4
    all_goals (try (exfalso;simp at hok;done))
    all_goals ((repeat' first|simp only[results86,ntmps86,am,ab,hat,bf,hd,hlt,hk,hki,htk,hb3,hb4,hr,Bt,Bf,Lm,Nat.zero_add,aj,ai,seval]|exact rfl|((first|(refine ah ?_ (hf2 _) ?_)|(refine ac ?_ (fun _=>hf2 _) ?_)|(refine ah ?_ (hc2 _) ?_)|(refine ac ?_ (fun _=>hc2 _) ?_));(focus (simp only[results86,ntmps86,am,ab,hat,bf,hd,hlt,hk,hki,htk,hb3,hb4,hr,Bt,Bf,Lm,Nat.zero_add,aj,ai,seval]<;>exact rfl)))|((first|(refine ah ?_ (hc3 _) ?_)|(refine ac ?_ (fun _=>hc3 _) ?_));(focus (simp only[results86,ntmps86,am,ab,hat,bf,hd,hlt,hk,hki,htk,hb3,hb4,hr,Bt,Bf,Lm,Nat.zero_add,aj,ai,seval]<;>exact rfl)))|((refine bg (xs:=?_) [b0+80] ?_ ?_ ?_ rfl (hh2 _) ?_);rotate_left 1;iterate 3 (focus (simp only[au,ap,results86,ntmps86,am,ab,hat,bf,hd,hlt,hk,hki,htk,hb3,hb4,hr,Bt,Bf,Lm,Nat.zero_add,aj,ai,seval]<;>(first|exact rfl|omega))))|(refine aa (v:=.any) ?_)|((first|apply Ca|apply Cb)<;>intro hb)|refine Ai (by omega) ?_|(apply Ai<;>intro hb)|apply Fin.pure|simp only[aq]))
   | true =>
    have hn':=rD hn ha ho2
    rw[ho2]at hok
    cases b1<;>cases b2<;>cases b3<;>cases b4
    all_goals (try (exfalso;simp at hok;done))
    all_goals (repeat' first|simp only[results86,ntmps86,am,ab,hat,bf,hd,hlt,hk,hki,htk,hb3,hb4,hwk,Bt,Bf,Lm,Nat.zero_add,aj,ai,seval]|exact rfl|((first|(refine ah ?_ (hf2 _) ?_)|(refine ac ?_ (fun _=>hf2 _) ?_)|(refine ah ?_ (hc2 _) ?_)|(refine ac ?_ (fun _=>hc2 _) ?_));(focus (simp only[results86,ntmps86,am,ab,hat,bf,hd,hlt,hk,hki,htk,hb3,hb4,hwk,Bt,Bf,Lm,Nat.zero_add,aj,ai,seval]<;>exact rfl)))|((first|(refine ah ?_ (hc3 _) ?_)|(refine ac ?_ (fun _=>hc3 _) ?_));(focus (simp only[results86,ntmps86,am,ab,hat,bf,hd,hlt,hk,hki,htk,hb3,hb4,hwk,Bt,Bf,Lm,Nat.zero_add,aj,ai,seval]<;>exact rfl)))|((refine bg (xs:=?_) [b0+80] ?_ ?_ ?_ rfl (hh2 _) ?_);rotate_left 1;iterate 3 (focus (simp only[au,ap,results86,ntmps86,am,ab,hat,bf,hd,hlt,hk,hki,htk,hb3,hb4,hwk,Bt,Bf,Lm,Nat.zero_add,aj,ai,seval]<;>(first|exact rfl|omega))))|((first|apply Ca|apply Cb)<;>intro hb)|refine Ai (by omega) ?_|(apply Ai<;>intro hb))
    all_goals ((refine de (k+1) [] ?_ ?_ ?_;(focus (refine⟨?_,?_⟩<;>(try simp only[aE,ab,hwk,aj,ai,aq,seval])<;>(try omega)))))
    all_goals (first|(show l.length-(k+1)<l.length-k;omega)|exact⟨hlt,hn'⟩|skip)
  ·have hke:k=l.length:=by omega
   subst hke
   have hd:decide (l.length<l.length)=false:=bi
   have hr:na l=decide (l.length<=16):=by
    rw[Bool.eq_iff_iff,qX];simp[hn]
   have hi:decide ((l.length:Int)<=16)=decide (l.length<=16):=by rw[Bool.eq_iff_iff];simp;omega
   exact wP (a5 results86 ntmps86 hd hr hi) trivial
def Nd.okTo (n:Nd)(k:Nat):Prop:=n.attrs.length<=k/\n.space.length<=k/\n.name.length<=k/\n.text.length<=k /\ ∀ a∈n.attrs,a.space.length<=k/\a.name.length<=k/\a.value.length<=k
def nS (s:List UInt8):(s==[])=s.isEmpty:=by cases s<;>rfl
def JU {n:Nd}(h:n.kind=2):gE n=(n.name.isEmpty&&n.space.isEmpty&&((n.attrs.length:Int)==0)&&(n.many==0) && !n.text.isEmpty&&(aF n.text==0)):=by
 unfold gE
 rw[if_pos h]
 have h1:((n.attrs.length:Int)==0)=n.attrs.isEmpty:=lQ _
 have h2:(n.many==0)=decide (n.many=0):=by rw[Bool.eq_iff_iff];simp
 have h3:(aF n.text==0)=decide (aF n.text=0):=by rw[Bool.eq_iff_iff];simp
 rw[h1,h2,h3]
def JT {n:Nd}(h:¬ n.kind=2):gE n=(((n.kind:Int)==1)&&n.text.isEmpty&&bU n.name&&(aF n.space==0)&&na n.attrs):=by
 unfold gE
 rw[if_neg h]
 have h2:((n.kind:Int)==1)=decide (n.kind=1):=by rw[Bool.eq_iff_iff];simp;omega
 have h3:(aF n.space==0)=decide (aF n.space=0):=by rw[Bool.eq_iff_iff];simp
 rw[h2,h3]
def GK (n:Nd)(h:n.okTo aT)(nm:Nat):Ev cx 35 nm [.agg (aD n)] ao.nil (.bool (gE n)) []:=by
 obtain⟨h1,h2,h3,h4,h5⟩:=h
 have hc:=db n.text h4
 have hc2:=db n.space h2
 have hf:=ou n.name h3
 have ha:=Fq n.attrs h1 h5
 by_cases hk:n.kind=2
 ·have hkb:((n.kind:Int)==2)=true:=by rw[hk];rfl
  rw[JU hk]
  refine aX call35 func35 ?_;intro b0 hb0
  exact wP (a5 results35 ntmps35 @aD.eq_1 hkb @nS) hc
 ·have hkb:((n.kind:Int)==2)=false:=beq_false_of_ne (by omega)
  rw[JT hk]
  refine aX call35 func35 ?_;intro b0 hb0
  exact wP (a5 results35 ntmps35 @aD.eq_1 hkb @nS) (a3 hc2 hf ha)
end Go.Proofs.YtjonibipieofcaaGreatDoor
