/-
 Texts joined: XSa,XSb,XSc,XSd,XSe.
-/
import Derived.Test.YtlnlopnpcmahgaaGreatDoorQf
import Derived.Test.YtlnlopnpcmahgaaGreatDoorQl
import Derived.Test.YtlnlopnpcmahgaaGreatDoorQp
set_option linter.all false
namespace Go.Proofs.YtlnlopnpcmahgaaGreatDoor
set_option maxRecDepth 100000
set_option maxHeartbeats 32000000
open Go Go.RowKit Vm Go.Lib Tryz
open Vm renaming ba->Ca,bh->Cb
open And renaming intro->Ai
open List renaming length_map->Lm,not_mem_nil->Ln,map_nil->Lo,map_cons->Lc,mem_cons->Lk
open Bool renaming not_false->Bf,not_true->Bt
def Oh (l:List At)(a:At):Bool:=!(l.any fun b=>a.space==b.space&&a.name==b.name)&&bU a.name&&decide (aN a.value=0)&&decide (aN a.space=0)
def v6 (l:List At)(k:Nat):Prop:=∀(i:Nat) (a:At),i<k->l[i]? = some a->Oh (l.take i) a=true
def pp (l:List At):Bool:=decide (l.length<=16)&&l.zipIdx.all fun p=>Oh (l.take p.2) p.1
def sB {l:List At} : pp l=true↔l.length<=16/\v6 l l.length:=by
 unfold pp v6
 simp only[Bool.and_eq_true,decide_eq_true_eq,List.all_eq_true]
 refine and_congr_right fun _=>⟨fun h i a hi ha=>?_,fun h p hp=>?_⟩
 ·refine h (a,i) ?_
  rw[List.mem_zipIdx_iff_getElem?];exact ha
 ·have:=(List.mem_zipIdx_iff_getElem?).1 hp
  exact h p.2 p.1 (List.getElem?_eq_some_iff.1 this).1 this
def B0 {l:List At}{k:Nat}{a:At}(h:v6 l k)(ha:l[k]? = some a)(ho:Oh (l.take k) a=true):v6 l (k+1):=by
 intro i b hi hb
 by_cases e:i=k
 ·subst e;rw[ha]at hb;cases hb;exact ho
 ·exact h i b (by omega) hb
def FC {l:List At}{k:Nat}{a:At}(ha:l[k]? = some a)(ho:Oh (l.take k) a=false):pp l=false:=by
 cases h:pp l with
 | false=>rfl
 | true =>
  have:=(sB.1 h).2 k a (List.getElem?_eq_some_iff.1 ha).1 ha
  rw[ho]at this;cases this
def j9 (n:Nd):Bool :=
 if n.kind=2 then n.name.isEmpty&&n.space.isEmpty&&n.attrs.isEmpty&&decide (n.many=0) && !n.text.isEmpty&&decide (aN n.text=0)
 else decide (n.kind=1)&&n.text.isEmpty&&bU n.name&&decide (aN n.space=0)&&pp n.attrs
def jz {n:Nd}(h:j9 n=true):n.kind=1\/n.kind=2:=by
 unfold j9 at h
 split at h
 ·right;assumption
 ·simp only[Bool.and_eq_true,decide_eq_true_eq]at h;left;exact h.1.1.1.1
def gF {n:Nd}(h:j9 n=true)(hk:n.kind=2):n.name=[]/\n.space=[]/\n.attrs=[]/\n.many=0/\n.text≠[]/\aN n.text=0:=by
 unfold j9 at h
 rw[if_pos hk]at h
 simp only[Bool.and_eq_true,decide_eq_true_eq,List.isEmpty_iff,Bool.not_eq_true',List.isEmpty_eq_false_iff]at h
 obtain⟨⟨⟨⟨⟨h1,h2⟩,h3⟩,h4⟩,h5⟩,h6⟩:=h
 exact⟨h1,h2,h3,h4,h5,h6⟩
def kY {n:Nd}(h:j9 n=true)(hk:n.kind=1):n.text=[]/\bU n.name=true/\aN n.space=0/\pp n.attrs=true:=by
 unfold j9 at h
 rw[if_neg (by omega)]at h
 simp only[Bool.and_eq_true,decide_eq_true_eq,List.isEmpty_iff]at h
 obtain⟨⟨⟨⟨h1,h2⟩,h3⟩,h4⟩,h5⟩:=h
 exact⟨h2,h3,h4,h5⟩
def bW (walk:Nat->List Nat->Option Nat×List Nat)(v:List Nd):Nat->Option Nat->Nat->List Nat->Option Nat×List Nat
 | 0,next,_,en=>(next,en)
 | _+1,none,_,en=>(none,en)
 | n+1,some next,last,en=>match v[next]? with
  | none=>(none,en)
  | some y=>if (last==2&&y.kind==2)=true then (none,en) else bW walk v n (walk next en).1 y.kind (walk next en).2
def e8 (p:Nat)(r:Option Nat×List Nat):Option Nat×List Nat:=match r.1 with
 | some e=>(some e,r.2.set p e)
 | none=>(none,r.2)
def okW (x:Nd)(dz:Bool):Bool:=j9 x&&decide (0<=x.many) && !(x.kind==1&&dz)
def jU (walk:Nat->List Nat->Option Nat×List Nat)(v:List Nd)(dz:Bool)(p:Nat)(en:List Nat):Option Nat×List Nat:=match v[p]? with
 | none=>(none,en)
 | some x=>if okW x dz=true then e8 p (bW walk v x.many.toNat (some (p+1)) 1 en) else (none,en)
def ou (v:List Nd):Nat->Nat->List Nat->Option Nat×List Nat
 | 0=>jU (fun _ en=>(none,en)) v true
 | d+1=>jU (ou v d) v false
def Ge (n:Nat):Option Nat×List Nat->Option (List Nat)
 |(some e,en)=>if e=n then some en else none
 |(none,_)=>none
def cL (v:List Nd):Option (List Nat):=if (v.isEmpty||decide (512<v.length) || !((v[0]?).map Nd.kind==some 1))=true then none else Ge v.length (ou v 12 0 (List.replicate v.length 0))
inductive Fo where
 | nil
 | cons (n:Nd) (k r:Fo)
def Fo.flat:Fo->List Nd
 | .nil=>[]
 | .cons n k r=>n::(k.flat++r.flat)
def Fo.count:Fo->Nat
 | .nil=>0
 | .cons _ _ r=>r.count+1
def Fo.size:Fo->Nat
 | .nil=>0
 | .cons _ k r=>k.size+r.size+1
def Fo.flat_length:∀(F:Fo),F.flat.length=F.size
 | .nil=>rfl
 | .cons n k r=>by simp[Fo.flat,Fo.size,k.flat_length,r.flat_length]
def Fo.good:Fo->Nat->Nat->Bool
 | .nil,_,_=>true
 | .cons n k r,d,last=>j9 n&&decide (n.many=(k.count:Int)) && !(last==2&&n.kind==2) && !(n.kind==1&&d==0)&&k.good (d-1) 1&&r.good d n.kind
def Fo.ends:Fo->Nat->List Nat
 | .nil,_=>[]
 | .cons _ k r,b=>(b+1+k.size)::(k.ends (b+1)++r.ends (b+1+k.size))
def Fo.ends_length:∀(F:Fo) (b:Nat),(F.ends b).length=F.size
 | .nil,_=>rfl
 | .cons n k r,b=>by simp[Fo.ends,Fo.size,k.ends_length,r.ends_length]
def Fo.app:Fo->Fo->Fo
 | .nil,g=>g
 | .cons n k r,g=>.cons n k (r.app g)
def Fo.lastK:Fo->Nat->Nat
 | .nil,last=>last
 | .cons n _ r,_=>r.lastK n.kind
def Fo.good_cons {n:Nd}{k r:Fo}{d last:Nat} :(Fo.cons n k r).good d last=true↔j9 n=true/\n.many=(k.count:Int) /\ ¬(last=2/\n.kind=2) /\ ¬(n.kind=1/\d=0)/\k.good (d-1) 1=true/\r.good d n.kind=true:=by
 simp only[Fo.good,Bool.and_eq_true,decide_eq_true_eq,Bool.not_eq_true',Bool.and_eq_false_iff,beq_eq_false_iff_ne,ne_eq]
 constructor
 ·rintro ⟨⟨⟨⟨⟨h1,h2⟩,h3⟩,h4⟩,h5⟩,h6⟩
  exact⟨h1,h2,by rcases h3 with h|h<;>simp_all,by rcases h4 with h|h<;>simp_all,h5,h6⟩
 ·rintro ⟨h1,h2,h3,h4,h5,h6⟩
  exact⟨⟨⟨⟨⟨h1,h2⟩,by by_cases h:last=2<;>simp_all⟩,by by_cases h:n.kind=1<;>simp_all⟩,h5⟩,h6⟩
def Fo.good_mono:∀ {F:Fo} {d d' last:Nat},d<=d'->F.good d last=true->F.good d' last=true
 | .nil,_,_,_,_,_=>rfl
 | .cons n k r,d,d',last,hd,h=>by
  obtain⟨h1,h2,h3,h4,h5,h6⟩:=Fo.good_cons.1 h
  exact Fo.good_cons.2 ⟨h1,h2,h3,by omega,Fo.good_mono (by omega) h5,Fo.good_mono hd h6⟩
def Fo.text_leaf {n:Nd}{k r:Fo}{d last:Nat}(h:(Fo.cons n k r).good d last=true)(hk:n.kind=2):k = .nil:=by
 obtain⟨h1,h2,_⟩:=Fo.good_cons.1 h
 have:=(gF h1 hk).2.2.2.1
 cases k with
 | nil=>rfl
 | cons _ _ _=>simp[Fo.count]at h2;omega
def Fe {en l1 l2:List Nat}{p:Nat}(h:p+l1.length+l2.length<=en.length):br (br en p l1) (p+l1.length) l2=br en p (l1++l2):=by
 have e1:(br en p l1).length=en.length:=eL (by omega)
 refine List.ext_getElem? fun i=>?_
 rw[cT (by omega),cT (by omega),cT (by simp;omega),List.getElem?_append,List.length_append]
 by_cases a:i<p
 ·rw[if_pos (by omega),if_pos a,if_pos a]
 ·by_cases b:i<p+l1.length
  ·rw[if_pos b,if_neg a,if_pos b,if_neg a,if_pos (by omega),if_pos (by omega)]
  ·by_cases c:i<p+l1.length+l2.length
   ·rw[if_neg b,if_pos c,if_neg a,if_pos (by omega),if_neg (by omega)];congr 1;omega
   ·rw[if_neg b,if_neg c,if_neg a,if_neg b,if_neg a,if_neg (by omega)]
def yP {en l:List Nat}{p e:Nat}(h:p+1+l.length<=en.length):(br en (p+1) l).set p e=br en p (e::l):=by
  refine List.ext_getElem? fun i=>?_
  rw[List.getElem?_set,eL (by omega),cT (by omega),cT (by simp;omega)]
  by_cases a:p=i
  · subst a;rw[if_pos rfl,if_pos (by omega),if_neg (by omega),if_pos (by simp)];simp
  · rw [if_neg a]
    by_cases b:i<p
    · rw[if_pos (by omega),if_pos b]
    · by_cases c:i<p+1+l.length
      · rw[if_neg (by omega),if_pos c,if_neg b,if_pos (by simp;omega)]
        obtain⟨j,rfl⟩:∃ j,i=p+1+j:=⟨i-(p+1),by omega⟩
        rw[show p+1+j-(p+1)=j by omega,show p+1+j-p=j+1 by omega];simp
      · rw[if_neg (by omega),if_neg c,if_neg b,if_neg (by simp;omega)]
def yO (en:List Nat)(p:Nat):br en p []=en:=by simp[br]
def sV (v:List Nd)(d:Nat)(walk:Nat->List Nat->Option Nat×List Nat):Prop:=∀ p en,en.length=v.length ->
 ((walk p en).2.length=v.length /\ ∀ e,(walk p en).1=some e -> ∃ n k,(Fo.cons n k .nil).good d 0=true/\v.drop p=n::(k.flat++v.drop e)/\e=p+1+k.size/\e<=v.length/\(walk p en).2=br en p ((Fo.cons n k .nil).ends p)) /\
 ∀ n k r,(Fo.cons n k .nil).good d 0=true->v.drop p=n::(k.flat++r)->walk p en=(some (p+1+k.size),br en p ((Fo.cons n k .nil).ends p))
def eV {v:List Nd}{p:Nat}{n:Nd}{r:List Nd}(h:v.drop p=n::r):v[p]? = some n/\v.drop (p+1)=r/\p<v.length:=by
 have h1:v[p]? = some n:=by have:=congrArg (·[0]?) h;simpa using this
 refine⟨h1,?_,(List.getElem?_eq_some_iff.1 h1).1⟩
 have:=congrArg (List.drop 1) h
 rw[List.drop_drop]at this;simpa using this
def wj {v:List Nd}{p:Nat}{n:Nd}(h:v[p]? = some n):v.drop p=n::v.drop (p+1):=by
 obtain⟨hp,rfl⟩:=List.getElem?_eq_some_iff.1 h
 exact List.drop_eq_getElem_cons hp
def nz {v a r:List Nd}{p:Nat}(h:v.drop p=a++r):v.drop (p+a.length)=r:=by
 rw[<- List.drop_drop,h,List.drop_left]
def tP {v a r:List Nd}{p:Nat}(h:v.drop p=a++r)(hp:p<=v.length):p+a.length<=v.length:=by
 have:=congrArg List.length h
 simp at this;omega
def ES {v:List Nd}{d:Nat}{walk:Nat->List Nat->Option Nat×List Nat}(hw:sV v d walk):∀(c:Nat) (next:Option Nat) (last:Nat) (en:List Nat),en.length=v.length ->
  (bW walk v c next last en).2.length=v.length /\ ∀ p,next=some p->p<=v.length ->
  (∀ e,(bW walk v c next last en).1=some e -> ∃ F:Fo,F.count=c/\F.good d last=true/\v.drop p=F.flat++v.drop e/\e=p+F.size/\e<=v.length/\(bW walk v c next last en).2=br en p (F.ends p)) /\
  ∀(F:Fo) (r:List Nd),F.count=c->F.good d last=true->v.drop p=F.flat++r->bW walk v c next last en=(some (p+F.size),br en p (F.ends p))
 | 0,next,last,en,hl=>by
  refine⟨hl,fun p hp hle=>⟨fun e he=>⟨.nil,rfl,rfl,?_,?_,?_,?_⟩,fun F r hc _ _=>?_⟩⟩
  ·subst hp;simp only[bW,Option.some.injEq]at he;subst he;rfl
  ·subst hp;simp only[bW,Option.some.injEq]at he;subst he;rfl
  ·subst hp;simp only[bW,Option.some.injEq]at he;subst he;exact hle
  ·simp[bW,Fo.ends,yO]
  ·cases F with
   | nil=>subst hp;simp[bW,Fo.ends,Fo.size,yO]
   | cons _ _ _=>simp[Fo.count]at hc
 | c+1,none,last,en,hl=>⟨hl,fun p hp=>by cases hp⟩
 | c+1,some q,last,en,hl=>by
  cases hv:v[q]? with
  | none =>
   refine⟨by simpa [bW,hv] using hl,fun p hp hle=>?_⟩
   cases hp
   refine⟨fun e he=>by simp[bW,hv]at he,fun F r hc hg hd=>?_⟩
   cases F with
   | nil=>simp[Fo.count]at hc
   | cons n k r' =>
    simp only[Fo.flat,List.cons_append]at hd
    rw[(eV hd).1]at hv;cases hv
  | some y =>
   by_cases hb:(last==2&&y.kind==2)=true
   ·refine⟨by simpa [bW,hv,hb] using hl,fun p hp hle=>?_⟩
    cases hp
    refine⟨fun e he=>by simp[bW,hv,hb]at he,fun F r hc hg hd=>?_⟩
    cases F with
    | nil=>simp[Fo.count]at hc
    | cons n k r' =>
     simp only[Fo.flat,List.cons_append]at hd
     rw[(eV hd).1]at hv;cases hv
     simp only[Bool.and_eq_true,beq_iff_eq]at hb
     exact absurd hb (Fo.good_cons.1 hg).2.2.1
   ·have hb':(last==2&&y.kind==2)=false:=by simpa using hb
    have hu:bW walk v (c+1) (some q) last en=bW walk v c (walk q en).1 y.kind (walk q en).2:=by simp[bW,hv,hb']
    rw[hu]
    obtain⟨⟨w1,w2⟩,w3⟩:=hw q en hl
    obtain⟨i1,i2⟩:=ES hw c (walk q en).1 y.kind (walk q en).2 w1
    refine⟨i1,fun p hp hle=>?_⟩
    cases hp
    refine⟨fun e he=>?_,fun F r hc hg hd=>?_⟩
    ·cases hwq:(walk q en).1 with
     | none =>
      rw[hwq]at he
      cases c<;>simp[bW]at he
     | some e1 =>
      obtain⟨n,k,g1,g2,g3,g4,g5⟩:=w2 e1 hwq
      obtain⟨i3,_⟩:=i2 e1 hwq g4
      obtain⟨F,f1,f2,f3,f4,f5,f6⟩:=i3 e he
      have hy:n=y:=by rw[(eV g2).1]at hv;exact Option.some.inj hv
      subst hy
      obtain⟨k1,k2,k3,k4,k5,k6⟩:=Fo.good_cons.1 g1
      refine⟨.cons n k F,by simp[Fo.count,f1],Fo.good_cons.2 ⟨k1,k2,?_,k4,k5,f2⟩,?_,?_,f5,?_⟩
      ·simpa using hb'
      ·rw[g2,f3];simp[Fo.flat]
      ·simp only[Fo.size];omega
      ·rw[hwq]at f6;rw[f6,g5]
       have hlen:=Fo.ends_length (.cons n k .nil) q
       have hlF:=Fo.ends_length F e1
       have hs:e1=q+((Fo.cons n k .nil).ends q).length:=by rw[hlen];simp[Fo.size];omega
       have:=Fe (en:=en) (l1:=(Fo.cons n k .nil).ends q) (l2:=F.ends e1) (p:=q) (by omega)
       rw[<- hs]at this
       rw[this]
       simp[Fo.ends,g3]
    ·cases F with
     | nil=>simp[Fo.count]at hc
     | cons n k r' =>
      obtain⟨k1,k2,k3,k4,k5,k6⟩:=Fo.good_cons.1 hg
      simp only[Fo.flat,List.cons_append,List.append_assoc]at hd
      have hy:n=y:=by rw[(eV hd).1]at hv;exact Option.some.inj hv
      subst hy
      have hwk:=w3 n k (r'.flat++r) (Fo.good_cons.2 ⟨k1,k2,by omega,k4,k5,rfl⟩) hd
      have hd1:v.drop q=(n::k.flat)++(r'.flat++r):=by simpa using hd
      have hle1:=tP hd1 hle
      have hd2:=nz hd1
      simp only[List.length_cons,Fo.flat_length]at hle1 hd2
      have hq1:q+(k.size+1)=q+1+k.size:=by omega
      rw[hq1]at hd2
      obtain⟨_,i4⟩:=i2 (q+1+k.size) (by rw[hwk]) (by omega)
      have hF:=i4 r' r (by simpa [Fo.count] using hc) k6 hd2
      rw[hF,hwk]
      have hlen:=Fo.ends_length (.cons n k .nil) q
      have hs:q+1+k.size=q+((Fo.cons n k .nil).ends q).length:=by rw[hlen];simp[Fo.size];omega
      have hle2:=tP hd2 (by omega)
      rw[Fo.flat_length]at hle2
      have:=Fe (en:=en) (l1:=(Fo.cons n k .nil).ends q) (l2:=r'.ends (q+1+k.size)) (p:=q) (by rw[Fo.ends_length,Fo.ends_length];simp only[Fo.size];omega)
      rw[<- hs]at this
      simp only
      rw[this]
      simp[Fo.ends,Fo.size];omega
def wk {p n:Nat}{r:Option Nat×List Nat}(h:r.2.length=n):(e8 p r).2.length=n:=by
 unfold e8;split<;>simpa using h
def EZ {v:List Nd}{d:Nat}{dz:Bool}{walk:Nat->List Nat->Option Nat×List Nat}(hz:dz=decide (d=0))(hw:d≠0->sV v (d-1) walk)(hw0:∀ p en,(walk p en).2.length=en.length):sV v d (jU walk v dz):=by
 have hlen0:∀(c:Nat) (next:Option Nat) (last:Nat) (en:List Nat),(bW walk v c next last en).2.length=en.length:=by
  intro c
  induction c with
  | zero=>intro next last en;rfl
  | succ c ih =>
   intro next last en
   cases next with
   | none=>rfl
   | some q =>
    cases hv:v[q]? with
    | none=>simp[bW,hv]
    | some y =>
     by_cases hb:(last==2&&y.kind==2)=true
     ·simp[bW,hv,hb]
     ·have hb':(last==2&&y.kind==2)=false:=by simpa using hb
      rw[show bW walk v (c+1) (some q) last en=bW walk v c (walk q en).1 y.kind (walk q en).2 by simp[bW,hv,hb'],ih,hw0]
 intro p en hl
 cases hv:v[p]? with
 | none =>
  refine⟨⟨by simpa [jU,hv] using hl,fun e he=>by simp[jU,hv]at he⟩,fun n k r _ hd=>?_⟩
  rw[(eV hd).1]at hv;cases hv
 | some x =>
  have hpl:=(List.getElem?_eq_some_iff.1 hv).1
  by_cases hx:okW x dz=true
  ·have hu:jU walk v dz p en=e8 p (bW walk v x.many.toNat (some (p+1)) 1 en):=by simp[jU,hv,hx]
   rw[hu]
   simp only[okW,Bool.and_eq_true,decide_eq_true_eq,Bool.not_eq_true',Bool.and_eq_false_iff,beq_eq_false_iff_ne]at hx
   obtain⟨⟨hm,h0⟩,hkd⟩:=hx
   have hkd':¬(x.kind=1/\d=0):=by
    rintro ⟨e1,e2⟩;rcases hkd with h|h
    ·exact h e1
    ·subst hz;simp[e2]at h
   by_cases hd0:d=0
   ·have hk2:x.kind=2:=by rcases jz hm with h|h;exact absurd ⟨h,hd0⟩ hkd';exact h
    obtain⟨_,_,_,hm0,_,_⟩:=gF hm hk2
    have hl0:bW walk v x.many.toNat (some (p+1)) 1 en=(some (p+1),en):=by rw[hm0];rfl
    rw[hl0]
    have hs:en.set p (p+1)=br en p ((Fo.cons x .nil .nil).ends p):=by
     have:=yP (en:=en) (l:=[]) (p:=p) (e:=p+1) (by simp;omega)
     rw[yO]at this
     rw[this];simp[Fo.ends,Fo.size]
    refine⟨⟨by simp[e8];omega,fun e he=>⟨x,.nil,?_,?_,?_,?_,?_⟩⟩,fun n k r hg hd=>?_⟩
    ·exact Fo.good_cons.2 ⟨hm,by simp[Fo.count,hm0],by omega,hkd',rfl,rfl⟩
    ·simp only[e8,Option.some.injEq]at he;subst he;simp[Fo.flat];exact wj hv
    ·simp only[e8,Option.some.injEq]at he;subst he;simp[Fo.size]
    ·simp only[e8,Option.some.injEq]at he;subst he;omega
    ·simp only[e8];exact hs
    ·have hy:n=x:=by rw[(eV hd).1]at hv;exact Option.some.inj hv
     subst hy
     have hkn:=Fo.text_leaf hg hk2
     subst hkn
     simp only[e8,Fo.size,Nat.add_zero];rw[hs]
   ·obtain⟨i1,i2⟩:=ES (hw hd0) x.many.toNat (some (p+1)) 1 en hl
    obtain⟨i3,i4⟩:=i2 (p+1) rfl (by omega)
    refine⟨⟨wk i1,fun e he=>?_⟩,fun n k r hg hd=>?_⟩
    ·cases hq:(bW walk v x.many.toNat (some (p+1)) 1 en).1 with
     | none=>simp[e8,hq]at he
     | some e1 =>
      have hee:e1=e:=by simpa [e8,hq] using he
      subst hee
      obtain⟨F,f1,f2,f3,f4,f5,f6⟩:=i3 e1 hq
      refine⟨x,F,Fo.good_cons.2 ⟨hm,by rw[f1];omega,by omega,hkd',f2,rfl⟩,?_,?_,f5,?_⟩
      ·rw[<- f3];exact wj hv
      ·omega
      ·simp only[e8,hq,f6]
       rw[yP (by rw[Fo.ends_length];omega)]
       simp[Fo.ends,f4]
    ·have hy:n=x:=by rw[(eV hd).1]at hv;exact Option.some.inj hv
     subst hy
     obtain⟨k1,k2,k3,k4,k5,k6⟩:=Fo.good_cons.1 hg
     obtain⟨_,hd1,_⟩:=eV hd
     have:=i4 k r (by rw[k2];simp) k5 hd1
     rw[this]
     have hle:=tP hd1 (by omega)
     rw[Fo.flat_length]at hle
     simp only[e8]
     rw[yP (by rw[Fo.ends_length];omega)]
     simp[Fo.ends]
  ·have hu:jU walk v dz p en=(none,en):=by simp[jU,hv,hx]
   rw[hu]
   refine⟨⟨hl,fun e he=>by cases he⟩,fun n k r hg hd=>?_⟩
   have hy:n=x:=by rw[(eV hd).1]at hv;exact Option.some.inj hv
   subst hy
   obtain⟨k1,k2,k3,k4,k5,k6⟩:=Fo.good_cons.1 hg
   exfalso;apply hx
   simp only[okW,Bool.and_eq_true,decide_eq_true_eq,Bool.not_eq_true',Bool.and_eq_false_iff,beq_eq_false_iff_ne]
   refine⟨⟨k1,by omega⟩,?_⟩
   subst hz
   by_cases e:n.kind=1
   ·right;simp;omega
   ·left;exact e
def wF {walk:Nat->List Nat->Option Nat×List Nat}(hw0:∀ p en,(walk p en).2.length=en.length)(v:List Nd):∀(c:Nat) (next:Option Nat) (last:Nat) (en:List Nat),(bW walk v c next last en).2.length=en.length
 | 0,_,_,_=>rfl
 | _+1,none,_,_=>rfl
 | c+1,some q,last,en=>by
  cases hv:v[q]? with
  | none=>simp[bW,hv]
  | some y =>
   by_cases hb:(last==2&&y.kind==2)=true
   ·simp[bW,hv,hb]
   ·have hb':(last==2&&y.kind==2)=false:=by simpa using hb
    rw[show bW walk v (c+1) (some q) last en=bW walk v c (walk q en).1 y.kind (walk q en).2 by simp[bW,hv,hb'],wF hw0,hw0]
def wL {walk:Nat->List Nat->Option Nat×List Nat}(hw0:∀ p en,(walk p en).2.length=en.length)(v:List Nd)(dz:Bool)(p:Nat)(en:List Nat):(jU walk v dz p en).2.length=en.length:=by
 unfold jU
 split
 ·rfl
 ·split
  ·exact wk (wF hw0 v _ _ _ _)
  ·rfl
def rI (v:List Nd):∀(d p:Nat) (en:List Nat),(ou v d p en).2.length=en.length
 | 0,p,en=>wL (fun _ _=>rfl) v true p en
 | d+1,p,en=>wL (rI v d) v false p en
def yZ (v:List Nd):∀(d:Nat),sV v d (ou v d)
 | 0=>EZ (d:=0) rfl (fun h=>absurd rfl h) (fun _ _=>rfl)
 | d+1=>EZ (d:=d+1) (by simp) (fun _=>yZ v d) (rI v d)
def lr {v:List Nd}{en:List Nat} : cL v=some en ↔ ∃ n k,n.kind=1/\v=n::k.flat/\(Fo.cons n k .nil).good 12 0=true/\v.length<=512/\en=(1+k.size)::k.ends 1:=by
 have hw:=yZ v 12 0 (List.replicate v.length 0) (by simp)
 constructor
 ·intro h
  unfold cL at h
  split at h
  ·cases h
  ·rename_i hc
   simp only[Bool.or_eq_true,decide_eq_true_eq,Bool.not_eq_true',not_or,Bool.not_eq_true,List.isEmpty_eq_false_iff,Nat.not_lt,Bool.not_eq_false,beq_iff_eq,Option.map_eq_some_iff]at hc
   obtain⟨⟨c1,c2⟩,x,c3,c4⟩:=hc
   cases hr:ou v 12 0 (List.replicate v.length 0) with
   | mk a b =>
    rw[hr]at h hw
    cases a with
    | none=>cases h
    | some e =>
     simp only[Ge]at h
     split at h
     ·rename_i he
      cases h
      obtain⟨n,k,h1,h2,h3,h4,h5⟩:=hw.1.2 e rfl
      subst he
      simp only[List.drop_zero,List.drop_length,List.append_nil]at h2
      have hx:x=n:=by rw[h2]at c3;simpa using c3.symm
      subst hx
      refine⟨x,k,c4,h2,h1,c2,?_⟩
      simp only at h5
      have hle:=Fo.ends_length (.cons x k .nil) 0
      have hvl:v.length=k.size+1:=by rw[h2];simp[Fo.flat_length]
      rw[h5]
      unfold br
      rw[hle,List.take_zero,List.drop_of_length_le (by simp[Fo.size];omega)]
      simp[Fo.ends]
     ·cases h
 ·rintro ⟨n,k,h1,h2,h3,h4,rfl⟩
  have hwk:=hw.2 n k [] h3 (by simpa using h2)
  have hvl:v.length=k.size+1:=by rw[h2];simp[Fo.flat_length]
  unfold cL
  rw[if_neg (by rw[h2];simp[h1];rw[h2]at h4;simpa using h4),hwk]
  simp only[Ge]
  rw[if_pos (by omega)]
  have hle:=Fo.ends_length (.cons n k .nil) 0
  unfold br
  rw[hle,List.take_zero,List.drop_of_length_le (by simp[Fo.size];omega)]
  simp[Fo.ends]
def hops (en:List Nat)(stop:Nat):Nat->Nat->List Nat
 | 0,_=>[]
 | f+1,p=>if p<stop then p::hops en stop f (en.getD p 0) else []
def xR:∀(F:Fo) (b i e:Nat),(F.ends b)[i]? = some e->b+i<e/\e<=b+F.size
 | .nil,b,i,e,h=>by simp[Fo.ends]at h
 | .cons n k r,b,0,e,h=>by simp[Fo.ends]at h;simp only[Fo.size];omega
 | .cons n k r,b,i+1,e,h=>by
  simp only[Fo.ends,List.getElem?_cons_succ,List.getElem?_append,Fo.ends_length]at h
  simp only[Fo.size]
  split at h
  ·have:=xR k _ _ _ h;omega
  ·have:=xR r _ _ _ h;omega
def Fo.sub:Fo->Nat->Option (Nd×Fo)
 | .nil,_=>none
 | .cons n k _,0=>some (n,k)
 | .cons _ k r,i+1=>if i<k.size then k.sub i else r.sub (i-k.size)
def Fo.good_all:∀ {F:Fo} {d last:Nat},F.good d last=true -> ∀ x∈F.flat,j9 x=true/\0<=x.many/\x.many<=F.size
 | .nil,_,_,_,x,hx=>by simp[Fo.flat]at hx
 | .cons n k r,d,last,h,x,hx=>by
  obtain⟨h1,h2,h3,h4,h5,h6⟩:=Fo.good_cons.1 h
  simp only[Fo.size]
  have hc:∀(F:Fo),F.count<=F.size:=by
   intro F
   induction F with
   | nil=>exact Nat.le_refl _
   | cons n k r _ ih=>simp only[Fo.count,Fo.size];omega
  simp only[Fo.flat,Lk,List.mem_append]at hx
  rcases hx with rfl|hx|hx
  ·have:=hc k;exact⟨h1,by omega,by omega⟩
  ·obtain⟨a,b,c⟩:=Fo.good_all h5 x hx;exact⟨a,b,by omega⟩
  ·obtain⟨a,b,c⟩:=Fo.good_all h6 x hx;exact⟨a,b,by omega⟩
def bl (l:List At):List Pr:=l.map fun a=>⟨a.name,a.value⟩
def Fo.toks:Fo->List Tk
 | .nil=>[]
 | .cons n k r=>(if n.kind=2 then [⟨4,[],[],n.text⟩] else if n.many=0 then [⟨3,n.name,bl n.attrs,[]⟩] else ⟨1,n.name,bl n.attrs,[]⟩::(k.toks++[⟨2,n.name,[],[]⟩]))++r.toks
def nP (n:Nd):Bool:=!n.space.isEmpty||n.attrs.any fun a=>!a.space.isEmpty
def ck (v:List Nd):Bool:=v.any nP
def mT {l:List At}(h:(l.any fun a=>!a.space.isEmpty)=false):co (bl l)=l:=by
 unfold co bl
 rw[List.map_map]
 refine(List.map_congr_left (fun a ha=>?_)).trans (List.map_id l)
 have:a.space=[]:=by
  have:=List.any_eq_false.1 h a ha
  simpa using this
 cases a;simp at this;simp[this]
def jW:aN []=0:=by decide
def FD (l:List Pr):pp (co l)=gn l:=by
 unfold pp gn
 have h1:(co l).length=l.length:=by simp[co]
 rw[h1]
 congr 1
 unfold co
 rw[List.zipIdx_map,List.all_map]
 refine congrArg (List.all _) (funext fun p=>?_)
 simp only[Function.comp,Oh,Ih,Prod.map,id_eq,<- List.map_take,List.any_map,jW,decide_true,Bool.and_true,beq_self_eq_true,Bool.true_and]
 rfl
def FE {l:List At}(h:(l.any fun a=>!a.space.isEmpty)=false):gn (bl l)=pp l:=by
 rw[<- FD,mT h]
def Fo.toks_length:∀ {F:Fo} {d last:Nat},F.good d last=true->F.toks.length=F.size+(F.flat.filter fun n=>decide (0<n.many)).length
 | .nil,_,_,_=>rfl
 | .cons n k r,d,last,h=>by
  obtain⟨h1,h2,h3,h4,h5,h6⟩:=Fo.good_cons.1 h
  have ik:=Fo.toks_length h5
  have ir:=Fo.toks_length h6
  simp only[Fo.toks,Fo.size,Fo.flat,List.filter_cons,List.filter_append,List.length_append]
  by_cases hk:n.kind=2
  ·have hm:=(gF h1 hk).2.2.2.1
   have hkn:=Fo.text_leaf h hk
   subst hkn
   rw[if_pos hk,if_neg (by rw[hm];decide)]
   simp[Fo.size,Fo.flat,ir];omega
  ·by_cases hm:n.many=0
   ·have hkn:k = .nil:=by
     cases k with
     | nil=>rfl
     | cons _ _ _=>simp[Fo.count]at h2;omega
    subst hkn
    rw[if_neg hk,if_pos hm,if_neg (by rw[hm];decide)]
    simp[Fo.size,Fo.flat,ir];omega
   ·rw[if_neg hk,if_neg hm,if_pos (by rw[decide_eq_true_eq];omega)]
    simp[ir,ik];omega
def Fo.toks_ok:∀ {F:Fo} {d last:Nat},F.good d last=true->ck F.flat=false -> ∀ t∈F.toks,cR t=true
 | .nil,_,_,_,_,t,ht=>by simp[Fo.toks]at ht
 | .cons n k r,d,last,h,hs,t,ht=>by
  obtain⟨h1,h2,h3,h4,h5,h6⟩:=Fo.good_cons.1 h
  simp only[ck,Fo.flat,List.any_cons,List.any_append,Bool.or_eq_false_iff]at hs
  obtain⟨s1,s2,s3⟩:=hs
  simp only[nP,Bool.or_eq_false_iff]at s1
  simp only[Fo.toks,List.mem_append]at ht
  rcases ht with ht|ht
  ·split at ht
   ·rename_i hk
    obtain⟨_,_,_,_,e5,e6⟩:=gF h1 hk
    simp only[List.mem_singleton]at ht;subst ht
    unfold cR
    rw[if_neg (by simp),if_neg (by simp),if_pos rfl]
    simp[e5,e6]
   ·rename_i hk
    have hk1:n.kind=1:=by rcases jz h1 with h|h;exact h;exact absurd h hk
    obtain⟨e1,e2,e3,e4⟩:=kY h1 hk1
    have ea:=FE s1.2
    split at ht
    ·simp only[List.mem_singleton]at ht;subst ht
     unfold cR
     rw[if_pos (by simp)]
     simp[e2,ea,e4]
    ·simp only[Lk,List.mem_append,Ln,or_false]at ht
     rcases ht with rfl|ht|rfl
     ·unfold cR
      rw[if_pos (by simp)]
      simp[e2,ea,e4]
     ·exact Fo.toks_ok h5 s2 t ht
     ·unfold cR
      rw[if_neg (by simp),if_pos rfl]
      simp[e2]
  ·exact Fo.toks_ok h6 s3 t ht
def Nd.addM (n:Nd)(c:Nat):Nd:={ n with many:=n.many+c }
def Fs (n:Nd):n.addM 0=n:=by simp[Nd.addM]
def sX (n:Nd)(c:Nat):n.inc.addM c=n.addM (c+1):=by simp[Nd.addM,Nd.inc];omega
def uk (a b:List Nd)(x:Nd)(o:List Nat):lF (a++x::b) (o++[a.length])=a++x.inc::b:=by
 rw[ra (k:=a.length) (by simp),uQ (x:=x) (by simp)]
 simp
def pU (a b:List Nd)(x:Nd)(o:List Nat):iS ⟨a++x::b,o++[a.length]⟩=some x.name:=by
 simp[iS]
def uc:∀(F:Fo) (d last:Nat) (a b:List Nd) (x:Nd) (o:List Nat) (r:List Tk),F.good d last=true->ck F.flat=false->o.length+1+d<=12 ->
  qR ⟨a++x::b,o++[a.length]⟩ (last==2) (F.toks++r)=qR ⟨a++x.addM F.count::(b++F.flat),o++[a.length]⟩ (F.lastK last==2) r
 | .nil,d,last,a,b,x,o,r,_,_,_=>by simp[Fo.toks,Fo.count,Fs,Fo.flat,Fo.lastK]
 | .cons n k R,d,last,a,b,x,o,r,h,hs,hd=>by
  obtain⟨h1,h2,h3,h4,h5,h6⟩:=Fo.good_cons.1 h
  simp only[ck,Fo.flat,List.any_cons,List.any_append,Bool.or_eq_false_iff]at hs
  obtain⟨s1,s2,s3⟩:=hs
  simp only[nP,Bool.or_eq_false_iff,Bool.not_eq_eq_eq_not,Bf,List.isEmpty_iff]at s1
  have key:∀(b':List Nd) (x':Nd),qR ⟨a++x'::b',o++[a.length]⟩ (n.kind==2) (R.toks++r)=qR ⟨a++x'.addM R.count::(b'++R.flat),o++[a.length]⟩ (R.lastK n.kind==2) r:=fun b' x'=>uc R d n.kind a b' x' o r h6 s3 hd
  have hone:(o++[a.length]).isEmpty=false:=by simp
  by_cases hk:n.kind=2
  ·obtain⟨e1,e2,e3,e4,e5,e6⟩:=gF h1 hk
   have hkn:=Fo.text_leaf h hk
   subst hkn
   have hlast:(last==2)=false:=by simp;omega
   have hn:n=iY n.text:=by cases n;simp only[iY]at *;subst_vars;rfl
   have hst:stepG ⟨a++x::b,o++[a.length]⟩ ⟨4,[],[],n.text⟩ (last==2)=(⟨a++x.inc::(b++[n]),o++[a.length]⟩,0):=by
    unfold stepG
    rw[if_pos rfl,if_neg (by simp[hlast]),if_neg (by simp)]
    simp only[jj]
    rw[uk,<- hn];simp
   simp only[Fo.toks,if_pos hk,List.cons_append,List.nil_append]
   rw[iO rfl (by rw[hst]),hst]
   have hk4:((⟨4,[],[],n.text⟩:Tk).kind==4)=(n.kind==2):=by simp[hk]
   rw[hk4]
   simp only
   rw[key,sX]
   simp[Fo.count,Fo.flat,Fo.lastK]
  ·have hk1:n.kind=1:=by rcases jz h1 with h|h;exact h;exact absurd h hk
   obtain⟨e1,e2,e3,e4⟩:=kY h1 hk1
   have hd0:d≠0:=fun e=>h4 ⟨hk1,e⟩
   have hg:=mT s1.2
   have hol:(o++[a.length]).length=o.length+1:=by simp
   have hel:∀(c:Nat),fP ⟨c,n.name,bl n.attrs,[]⟩ = { n with many:=0 }:=by
    intro c;unfold fP;rw[hg];cases n;simp at *;simp[*]
   by_cases hm:n.many=0
   ·have hkn:k = .nil:=by
     cases k with
     | nil=>rfl
     | cons _ _ _=>simp[Fo.count]at h2;omega
    subst hkn
    have hn0:{ n with many:=0 } = n:=by cases n;simp at hm;simp[hm]
    have hst:stepG ⟨a++x::b,o++[a.length]⟩ ⟨3,n.name,bl n.attrs,[]⟩ (last==2)=(⟨a++x.inc::(b++[n]),o++[a.length]⟩,0):=by
     unfold stepG
     rw[if_neg (by simp),if_neg (by simp),if_neg (by simp),if_neg (by simp;omega)]
     simp only[jj]
     rw[uk,hel,hn0];simp
    simp only[Fo.toks,if_neg hk,if_pos hm,List.cons_append,List.nil_append]
    rw[iO rfl (by rw[hst]),hst]
    have hk4:((⟨3,n.name,bl n.attrs,[]⟩:Tk).kind==4)=(n.kind==2):=by simp[hk1]
    rw[hk4]
    simp only
    rw[key,sX]
    simp[Fo.count,Fo.flat,Fo.lastK]
   ·have hst:stepG ⟨a++x::b,o++[a.length]⟩ ⟨1,n.name,bl n.attrs,[]⟩ (last==2)=(⟨(a++x.inc::b) ++ { n with many:=0 } :: [],(o++[a.length])++[(a++x.inc::b).length]⟩,0):=by
     unfold stepG
     rw[if_neg (by simp),if_neg (by simp),if_neg (by simp),if_neg (by simp;omega)]
     simp only[jj]
     rw[uk,hel];simp
    simp only[Fo.toks,if_neg hk,if_neg hm,List.cons_append,List.append_assoc,List.nil_append]
    rw[iO rfl (by rw[hst]),hst]
    simp only
    rw[show((1:Nat)==4)=((1:Nat)==2) by decide]
    have hin:=uc k (d-1) 1 (a++x.inc::b) [] { n with many:=0 } (o++[a.length]) (⟨2,n.name,[],[]⟩::(R.toks++r)) h5 s2 (by simp;omega)
    rw[hin]
    have hnm:({ n with many:=0 } : Nd).addM k.count=n:=by cases n;simp at h2;simp[Nd.addM,h2]
    rw[hnm,List.nil_append]
    have hst2:∀ tx,stepG ⟨(a++x.inc::b)++n::k.flat,(o++[a.length])++[(a++x.inc::b).length]⟩ ⟨2,n.name,[],[]⟩ tx=(⟨a++x.inc::(b++n::k.flat),o++[a.length]⟩,0):=by
     intro tx
     unfold stepG
     rw[if_neg (by simp),if_pos rfl,if_pos (pU _ _ _ _)]
     rw[List.dropLast_concat]
     simp only[List.append_assoc,List.cons_append]
    rw[iO rfl (by rw[hst2]),hst2]
    simp only
    rw[show((2:Nat)==4)=(n.kind==2) by rw[hk1];rfl,key,sX]
    simp[Fo.count,Fo.flat,Fo.lastK]
def Dr {n:Nd}{k:Fo}(hk1:n.kind=1)(h:(Fo.cons n k .nil).good 12 0=true)(hs:ck (n::k.flat)=false)(hl:(Fo.cons n k .nil).toks.length<=512):cB (Fo.cons n k .nil).toks=0/\dy (Fo.cons n k .nil).toks=n::k.flat:=by
 obtain⟨h1,h2,h3,h4,h5,h6⟩:=Fo.good_cons.1 h
 have hok:=Fo.toks_ok h (by simpa [Fo.flat] using hs)
 simp only[ck,List.any_cons,Bool.or_eq_false_iff]at hs
 obtain⟨s1,s2⟩:=hs
 simp only[nP,Bool.or_eq_false_iff,Bool.not_eq_eq_eq_not,Bf,List.isEmpty_iff]at s1
 obtain⟨e1,e2,e3,e4⟩:=kY h1 hk1
 have hg:=mT s1.2
 have hel:∀(c:Nat),fP ⟨c,n.name,bl n.attrs,[]⟩ = { n with many:=0 }:=by
  intro c;unfold fP;rw[hg];cases n;simp at *;simp[*]
 have hgo:qR ⟨[],[]⟩ false (Fo.cons n k .nil).toks=(⟨n::k.flat,[]⟩,0):=by
  by_cases hm:n.many=0
  ·have hkn:k = .nil:=by
    cases k with
    | nil=>rfl
    | cons _ _ _=>simp[Fo.count]at h2;omega
   subst hkn
   have hn0:{ n with many:=0 } = n:=by cases n;simp at hm;simp[hm]
   have hst:stepG ⟨[],[]⟩ ⟨3,n.name,bl n.attrs,[]⟩ false=(⟨[n],[]⟩,0):=by
    unfold stepG
    rw[if_neg (by simp),if_neg (by simp),if_neg (by simp),if_neg (by simp)]
    simp only[jj]
    rw[AB,hel,hn0];rfl
   simp only[Fo.toks,if_neg (show ¬ n.kind=2 by omega),if_pos hm,List.append_nil]
   rw[iO rfl (by rw[hst]),hst,x8];simp[Fo.flat]
  ·have hst:stepG ⟨[],[]⟩ ⟨1,n.name,bl n.attrs,[]⟩ false=(⟨[] ++ { n with many:=0 } :: [],[]++[([]:List Nd).length]⟩,0):=by
    unfold stepG
    rw[if_neg (by simp),if_neg (by simp),if_neg (by simp),if_neg (by simp)]
    simp only[jj]
    rw[AB,hel];rfl
   simp only[Fo.toks,if_neg (show ¬ n.kind=2 by omega),if_neg hm,List.append_nil]
   rw[iO rfl (by rw[hst]),hst]
   simp only
   rw[show((1:Nat)==4)=((1:Nat)==2) by decide]
   have hin:=uc k 11 1 [] [] { n with many:=0 } [] [⟨2,n.name,[],[]⟩] h5 (by simpa [ck] using s2) (by simp)
   rw[hin]
   have hnm:({ n with many:=0 } : Nd).addM k.count=n:=by cases n;simp at h2;simp[Nd.addM,h2]
   rw[hnm,List.nil_append,List.nil_append]
   have hst2:∀ tx,stepG ⟨n::k.flat,[]++[([]:List Nd).length]⟩ ⟨2,n.name,[],[]⟩ tx=(⟨n::k.flat,[]⟩,0):=by
    intro tx
    unfold stepG
    rw[if_neg (by simp),if_pos rfl,if_pos (show iS ⟨n::k.flat,[]++[([]:List Nd).length]⟩=some n.name from pU [] k.flat n [])]
    simp
   rw[iO rfl (by rw[hst2]),hst2,x8]
 have ha:((Fo.cons n k .nil).toks.any fun t=>!cR t)=false:=by
  rw[List.any_eq_false];intro t ht;simp[hok t ht]
 have hE:cB (Fo.cons n k .nil).toks=0:=by
  unfold cB
  rw[if_neg (by omega),if_neg (by rw[ha];decide),hgo,if_neg (by simp),if_neg (by simp)]
 refine⟨hE,?_⟩
 unfold dy
 rw[if_pos hE,hgo]
def Fo.parts:Fo->List (List Nd)
 | .nil=>[]
 | .cons n k r=>(n::k.flat)::r.parts
def v8 {n:Nd}{k:Fo}{d:Nat}(hd:d<=12)(hk:n.kind=1)(h:(Fo.cons n k .nil).good d 0=true)(hl:k.size+1<=512):cL (n::k.flat)=some ((1+k.size)::k.ends 1) :=
 lr.2 ⟨n,k,hk,rfl,Fo.good_mono hd h,by simpa [Fo.flat_length] using hl,rfl⟩
def CW (l:List At)(f:Nat)(caps:List V)(p:At->Bool)(hf:∀ h∈l,∀ nm,Ev cx f nm (.agg (bN h)::caps) ap.nil (.bool (p h)) [])(hn:l.length<=be)(hpl:plainL caps=true)(nm:Nat):Ev cx 129 nm [.sl false 3 (l.map bN),.fn f caps] ap.nil (.int .i64 (GL (l.findIdx? p))) []:=by
 unfold be at hn
 refine bi call129 func129 rfl (by kernel_rfl) rfl ?_;intro b0 hb0;have zF:=Ai results129 ntmps129
 repeat' first|simp only[ak,aj,zF,al,ai,seval,ah]|exact rfl|refine aa (v:=.any) ?_|((first|(refine aM (g:=?_) ?_ ?_)|(refine aI (g:=?_) ?_ ?_));rotate_left 1;(focus (simp only[zF,al,ai,seval,ah]<;>exact rfl)))|((first|apply Ca|apply Cb)<;>intro hb)|refine Ai (by omega) ?_|(apply Ai<;>intro hb)
 (refine aR bR (fun x:Nat=>l.length-x) (fun x=>x<=l.length/\(l.take x).any p=false) (b0+16) (fun x=>[(0,.sl false 3 (l.map bN)),(1,.fn f caps),(7,.int .i64 l.length),(8,.int .i64 x)]) (fun x=>[]) (0) [] ?_ ?_ ?_ ?_;rotate_left 1;(focus (show b0<=_;omega));(focus (refine⟨?_,?_⟩<;>(try simp only[aX,Lm,aq,fg hpl,dE hpl,ai,seval,ah,ao])<;>(try omega)));rotate_left 1)
 ·exact⟨Nat.zero_le _,by simp⟩
 ·rintro k ⟨hk,hno⟩
  by_cases hlt:k<l.length
  ·obtain⟨h,hh⟩:∃ h,l[k]? = some h:=⟨_,List.getElem?_eq_getElem hlt⟩
   have hat:(l.map bN)[k]? = some (bN h):=by rw[List.getElem?_map,hh];rfl
   have hd:decide (k<l.length)=true:=decide_eq_true hlt
   have hwk:IntKind.i64.wrap ((k:Int)+1)=((k+1:Nat):Int):=bf
   have hfh:=hf h (List.mem_of_getElem? hh)
   cases hp:p h with
   | true =>
    have hfd:=mS hno hh hp
    rw[hp]at hfh
    (repeat' first|simp only[ak,aj,zF,al,hat,bN,hlt,hd,hwk,hfd,cG,Lm,ai,seval,ah]|exact rfl|refine aa (v:=.any) ?_|refine c5 (g:=f) (caps:=caps) (by simp only[zF,al,hat,bN,hlt,hd,hwk,hfd,cG,Lm,ai,seval,ah]<;>exact rfl) (by simp only[zF,al,hat,bN,hlt,hd,hwk,hfd,cG,Lm,ai,seval,ah]<;>exact rfl) (hfh _) ?_|((first|(refine aM (g:=?_) ?_ ?_)|(refine aI (g:=?_) ?_ ?_));rotate_left 1;(focus (simp only[zF,al,hat,bN,hlt,hd,hwk,hfd,cG,Lm,ai,seval,ah]<;>exact rfl)))|((first|apply Ca|apply Cb)<;>intro hb)|refine Ai (by omega) ?_|(apply Ai<;>intro hb)|refine Fin.pure ?_ ?_ ?_|simp only[ao])
   | false =>
    have hn':=gG (p:=p) hno hh hp
    rw[hp]at hfh
    repeat' first|simp only[ak,aj,zF,al,hat,bN,hlt,hd,hwk,Lm,ai,seval,ah]|exact rfl|refine aa (v:=.any) ?_|refine c5 (g:=f) (caps:=caps) (by simp only[zF,al,hat,bN,hlt,hd,hwk,Lm,ai,seval,ah]<;>exact rfl) (by simp only[zF,al,hat,bN,hlt,hd,hwk,Lm,ai,seval,ah]<;>exact rfl) (hfh _) ?_|((first|(refine aM (g:=?_) ?_ ?_)|(refine aI (g:=?_) ?_ ?_));rotate_left 1;(focus (simp only[zF,al,hat,bN,hlt,hd,hwk,Lm,ai,seval,ah]<;>exact rfl)))|((first|apply Ca|apply Cb)<;>intro hb)|refine Ai (by omega) ?_|(apply Ai<;>intro hb)
    all_goals ((refine aD bR (k+1) [] ?_ ?_ ?_ ?_;rotate_left 2;(focus (show b0<=_;omega));(focus (refine⟨?_,?_⟩<;>(try simp only[aX,aq,fg hpl,dE hpl,hwk,ai,seval,ah,ao])<;>(try omega)))))
    all_goals (first|(show l.length-(k+1)<l.length-k;omega)|exact⟨hlt,hn'⟩|skip)
  ·have hke:k=l.length:=by omega
   subst hke
   rw[List.take_length]at hno
   have hfd:=jM hno
   have hd:decide (l.length<l.length)=false:=bo
   (repeat' first|simp only[ak,aj,zF,al,hd,hfd,eI,Lm,ai,seval,ah]|exact rfl|refine aa (v:=.any) ?_|((first|(refine aM (g:=?_) ?_ ?_)|(refine aI (g:=?_) ?_ ?_));rotate_left 1;(focus (simp only[zF,al,hd,hfd,eI,Lm,ai,seval,ah]<;>exact rfl)))|((first|apply Ca|apply Cb)<;>intro hb)|refine Ai (by omega) ?_|(apply Ai<;>intro hb)|refine Fin.pure ?_ ?_ ?_|simp only[ao])
def ef (l:List At)(f:Nat)(caps:List V)(p:At->Bool)(hf:∀ h∈l,∀ nm,Ev cx f nm (.agg (bN h)::caps) ap.nil (.bool (p h)) [])(hn:l.length<=be)(hpl:plainL caps=true)(nm:Nat):Ev cx 81 nm [.sl false 3 (l.map bN),.fn f caps] ap.nil (.bool (l.any p)) []:=by
 have hi:=CW l f caps p hf hn hpl
 cases h:l.findIdx? p with
 | none =>
  have ha:l.any p=false:=s4 h
  rw[h]at hi
  refine bi call81 func81 rfl (by kernel_rfl) rfl ?_;intro b0 hb0
  (repeat' first|simp only[ak,aj,results81,ntmps81,al,ha,eI,ai,seval,ah]|exact rfl|refine aa (v:=.any) ?_|(first|(refine ad ?_ (hi _) ?_)|(refine ab ?_ (fun _=>hi _) ?_))|((first|apply Ca|apply Cb)<;>intro hb)|refine Ai (by omega) ?_|(apply Ai<;>intro hb)|refine Fin.pure ?_ ?_ ?_|simp only[ao])
 | some n =>
  have ha:l.any p=true:=s7 h
  rw[h]at hi
  have hz:decide ((0:Int)<=(n:Int))=true:=cn
  refine bi call81 func81 rfl (by kernel_rfl) rfl ?_;intro b0 hb0
  (repeat' first|simp only[ak,aj,results81,ntmps81,al,ha,cG,hz,ai,seval,ah]|exact rfl|refine aa (v:=.any) ?_|(first|(refine ad ?_ (hi _) ?_)|(refine ab ?_ (fun _=>hi _) ?_))|((first|apply Ca|apply Cb)<;>intro hb)|refine Ai (by omega) ?_|(apply Ai<;>intro hb)|refine Fin.pure ?_ ?_ ?_|simp only[ao])
def CX (l:List Nd)(f:Nat)(caps:List V)(p:Nd->Bool)(hf:∀ h∈l,∀ nm,Ev cx f nm (.agg (aZ h)::caps) ap.nil (.bool (p h)) [])(hn:l.length<=be)(hpl:plainL caps=true)(nm:Nat):Ev cx 128 nm [.sl false 6 (l.map aZ),.fn f caps] ap.nil (.int .i64 (GL (l.findIdx? p))) []:=by
 unfold be at hn
 refine bi call128 func128 rfl (by kernel_rfl) rfl ?_;intro b0 hb0;have zF:=Ai results128 ntmps128
 repeat' first|simp only[ak,aj,zF,al,ai,seval,ah]|exact rfl|refine aa (v:=.any) ?_|((first|(refine aM (g:=?_) ?_ ?_)|(refine aI (g:=?_) ?_ ?_));rotate_left 1;(focus (simp only[zF,al,ai,seval,ah]<;>exact rfl)))|((first|apply Ca|apply Cb)<;>intro hb)|refine Ai (by omega) ?_|(apply Ai<;>intro hb)
 (refine aR bR (fun x:Nat=>l.length-x) (fun x=>x<=l.length/\(l.take x).any p=false) (b0+16) (fun x=>[(0,.sl false 6 (l.map aZ)),(1,.fn f caps),(7,.int .i64 l.length),(8,.int .i64 x)]) (fun x=>[]) (0) [] ?_ ?_ ?_ ?_;rotate_left 1;(focus (show b0<=_;omega));(focus (refine⟨?_,?_⟩<;>(try simp only[aX,Lm,ae,fg hpl,dE hpl,ai,seval,ah,ao])<;>(try omega)));rotate_left 1)
 ·exact⟨Nat.zero_le _,by simp⟩
 ·rintro k ⟨hk,hno⟩
  by_cases hlt:k<l.length
  ·obtain⟨h,hh⟩:∃ h,l[k]? = some h:=⟨_,List.getElem?_eq_getElem hlt⟩
   have hat:(l.map aZ)[k]? = some (aZ h):=by rw[List.getElem?_map,hh];rfl
   have hd:decide (k<l.length)=true:=decide_eq_true hlt
   have hwk:IntKind.i64.wrap ((k:Int)+1)=((k+1:Nat):Int):=bf
   have hfh:=hf h (List.mem_of_getElem? hh)
   cases hp:p h with
   | true =>
    have hfd:=mS hno hh hp
    rw[hp]at hfh
    (repeat' first|simp only[ak,aj,zF,al,hat,aZ,hlt,hd,hwk,hfd,cG,Lm,ai,seval,ah]|exact rfl|refine aa (v:=.any) ?_|refine c5 (g:=f) (caps:=caps) (by simp only[zF,al,hat,aZ,hlt,hd,hwk,hfd,cG,Lm,ai,seval,ah]<;>exact rfl) (by simp only[zF,al,hat,aZ,hlt,hd,hwk,hfd,cG,Lm,ai,seval,ah]<;>exact rfl) (hfh _) ?_|((first|(refine aM (g:=?_) ?_ ?_)|(refine aI (g:=?_) ?_ ?_));rotate_left 1;(focus (simp only[zF,al,hat,aZ,hlt,hd,hwk,hfd,cG,Lm,ai,seval,ah]<;>exact rfl)))|((first|apply Ca|apply Cb)<;>intro hb)|refine Ai (by omega) ?_|(apply Ai<;>intro hb)|refine Fin.pure ?_ ?_ ?_|simp only[ao])
   | false =>
    have hn':=gG (p:=p) hno hh hp
    rw[hp]at hfh
    repeat' first|simp only[ak,aj,zF,al,hat,aZ,hlt,hd,hwk,Lm,ai,seval,ah]|exact rfl|refine aa (v:=.any) ?_|refine c5 (g:=f) (caps:=caps) (by simp only[zF,al,hat,aZ,hlt,hd,hwk,Lm,ai,seval,ah]<;>exact rfl) (by simp only[zF,al,hat,aZ,hlt,hd,hwk,Lm,ai,seval,ah]<;>exact rfl) (hfh _) ?_|((first|(refine aM (g:=?_) ?_ ?_)|(refine aI (g:=?_) ?_ ?_));rotate_left 1;(focus (simp only[zF,al,hat,aZ,hlt,hd,hwk,Lm,ai,seval,ah]<;>exact rfl)))|((first|apply Ca|apply Cb)<;>intro hb)|refine Ai (by omega) ?_|(apply Ai<;>intro hb)
    all_goals ((refine aD bR (k+1) [] ?_ ?_ ?_ ?_;rotate_left 2;(focus (show b0<=_;omega));(focus (refine⟨?_,?_⟩<;>(try simp only[aX,ae,fg hpl,dE hpl,hwk,ai,seval,ah,ao])<;>(try omega)))))
    all_goals (first|(show l.length-(k+1)<l.length-k;omega)|exact⟨hlt,hn'⟩|skip)
  ·have hke:k=l.length:=by omega
   subst hke
   rw[List.take_length]at hno
   have hfd:=jM hno
   have hd:decide (l.length<l.length)=false:=bo
   (repeat' first|simp only[ak,aj,zF,al,hd,hfd,eI,Lm,ai,seval,ah]|exact rfl|refine aa (v:=.any) ?_|((first|(refine aM (g:=?_) ?_ ?_)|(refine aI (g:=?_) ?_ ?_));rotate_left 1;(focus (simp only[zF,al,hd,hfd,eI,Lm,ai,seval,ah]<;>exact rfl)))|((first|apply Ca|apply Cb)<;>intro hb)|refine Ai (by omega) ?_|(apply Ai<;>intro hb)|refine Fin.pure ?_ ?_ ?_|simp only[ao])
def iw (l:List Nd)(f:Nat)(caps:List V)(p:Nd->Bool)(hf:∀ h∈l,∀ nm,Ev cx f nm (.agg (aZ h)::caps) ap.nil (.bool (p h)) [])(hn:l.length<=be)(hpl:plainL caps=true)(nm:Nat):Ev cx 78 nm [.sl false 6 (l.map aZ),.fn f caps] ap.nil (.bool (l.any p)) []:=by
 have hi:=CX l f caps p hf hn hpl
 cases h:l.findIdx? p with
 | none =>
  have ha:l.any p=false:=s4 h
  rw[h]at hi
  refine bi call78 func78 rfl (by kernel_rfl) rfl ?_;intro b0 hb0
  (repeat' first|simp only[ak,aj,results78,ntmps78,al,ha,eI,ai,seval,ah]|exact rfl|refine aa (v:=.any) ?_|(first|(refine ad ?_ (hi _) ?_)|(refine ab ?_ (fun _=>hi _) ?_))|((first|apply Ca|apply Cb)<;>intro hb)|refine Ai (by omega) ?_|(apply Ai<;>intro hb)|refine Fin.pure ?_ ?_ ?_|simp only[ao])
 | some n =>
  have ha:l.any p=true:=s7 h
  rw[h]at hi
  have hz:decide ((0:Int)<=(n:Int))=true:=cn
  refine bi call78 func78 rfl (by kernel_rfl) rfl ?_;intro b0 hb0
  (repeat' first|simp only[ak,aj,results78,ntmps78,al,ha,cG,hz,ai,seval,ah]|exact rfl|refine aa (v:=.any) ?_|(first|(refine ad ?_ (hi _) ?_)|(refine ab ?_ (fun _=>hi _) ?_))|((first|apply Ca|apply Cb)<;>intro hb)|refine Ai (by omega) ?_|(apply Ai<;>intro hb)|refine Fin.pure ?_ ?_ ?_|simp only[ao])
def FG (a b:At)(nm:Nat):Ev cx 199 nm [.agg (bN b),.rp (bN a)] ap.nil (.bool (a.space==b.space&&a.name==b.name)) []:=by
 refine bi call199 func199 rfl (by kernel_rfl) rfl ?_;intro b0 hb0
 (repeat' first|simp only[ak,aj,results199,ntmps199,al,bN,ai,seval,ah]|exact rfl|refine aa (v:=.any) ?_|((first|apply Ca|apply Cb)<;>intro hb)|refine Ai (by omega) ?_|(apply Ai<;>intro hb)|refine Fin.pure ?_ ?_ ?_|simp only[ao])
def IC (l:List At)(hl:l.length<=be)(hs:∀ a∈l,a.space.length<=be/\a.name.length<=be/\a.value.length<=be)(nm:Nat):Ev cx 167 nm [.sl false 3 (l.map bN)] ap.nil (.bool (pp l)) []:=by
 have hl':=hl
 unfold be at hl'
 refine bi call167 func167 rfl (by kernel_rfl) rfl ?_;intro b0 hb0;have zF:=Ai results167 ntmps167
 repeat' first|simp only[ak,aj,zF,al,ai,seval,ah]|exact rfl|refine aa (v:=.any) ?_|((first|apply Ca|apply Cb)<;>intro hb)|refine Ai (by omega) ?_|(apply Ai<;>intro hb)
 (refine aR bR (fun x:Nat=>l.length-x) (fun x=>x<=l.length/\v6 l x) (b0+16) (fun x=>[(0,.sl false 3 (l.map bN)),(6,.sl false 3 (l.map bN)),(7,.int .i64 l.length),(8,.int .i64 x)]) (fun x=>[]) (0) [] ?_ ?_ ?_ ?_;rotate_left 1;(focus (show b0<=_;omega));(focus (refine⟨?_,?_⟩<;>(try simp only[aX,aq,Lm,ai,seval,ah,ao])<;>(try omega)));rotate_left 1)
 ·exact⟨Nat.zero_le _,fun i a hi=>by omega⟩
 ·rintro k ⟨hk,hn⟩
  by_cases hlt:k<l.length
  ·obtain⟨a,ha⟩:∃ a,l[k]? = some a:=⟨_,List.getElem?_eq_getElem hlt⟩
   obtain⟨hs0,hs1,hs2⟩:=hs a (List.mem_of_getElem? ha)
   have hat:=rO ha
   have hd:decide (k<l.length)=true:=decide_eq_true hlt
   have hwk:IntKind.i64.wrap ((k:Int)+1)=((k+1:Nat):Int):=bf
   have hki:(k:Int)<=(l.length:Int):=by omega
   have htk:(l.map bN).take k=(l.take k).map bN:=by rw[List.map_take]
   have hlen:(l.take k).length<=be:=by rw[List.length_take];unfold be;omega
   have hf2:=jo a.name hs1
   have hc2:=cm a.value hs2
   have hc3:=cm a.space hs0
   have hh2:=ef (l.take k) 199 [.rp (bN a)] (fun b=>a.space==b.space&&a.name==b.name) (fun b _ nm=>FG a b nm) hlen rfl
   have hok:Oh (l.take k) a=(!((l.take k).any fun b=>a.space==b.space&&a.name==b.name)&&bU a.name&&decide (aN a.value=0)&&decide (aN a.space=0)):=rfl
   have hz2:decide (aN a.value=0) = !(aN a.value != 0):=by rw[Bool.eq_iff_iff];simp
   have hz3:decide (aN a.space=0) = !(aN a.space != 0):=by rw[Bool.eq_iff_iff];simp
   rw[hz2,hz3]at hok
   generalize hb1:((l.take k).any fun b=>a.space==b.space&&a.name==b.name)=b1 at hh2 hok
   generalize hb2:bU a.name=b2 at hf2 hok
   generalize hb3:(aN a.value != 0)=b3 at hok
   generalize hb4:(aN a.space != 0)=b4 at hok
   cases ho2:Oh (l.take k) a with
   | false =>
    have hr:=FC ha ho2
    rw[ho2]at hok
    cases b1<;>cases b2<;>cases b3<;>cases b4
    all_goals (try (exfalso;simp at hok;done))
    all_goals ((repeat' first|simp only[zF,al,aq,hat,bN,hd,hlt,hk,hki,htk,hb3,hb4,hr,Bt,Bf,Lm,Nat.zero_add,ai,seval,ah]|exact rfl|((first|(refine ad ?_ (hf2 _) ?_)|(refine ab ?_ (fun _=>hf2 _) ?_)|(refine ad ?_ (hc2 _) ?_)|(refine ab ?_ (fun _=>hc2 _) ?_));(focus (simp only[zF,al,aq,hat,bN,hd,hlt,hk,hki,htk,hb3,hb4,hr,Bt,Bf,Lm,Nat.zero_add,ai,seval,ah]<;>exact rfl)))|((first|(refine ad ?_ (hc3 _) ?_)|(refine ab ?_ (fun _=>hc3 _) ?_));(focus (simp only[zF,al,aq,hat,bN,hd,hlt,hk,hki,htk,hb3,hb4,hr,Bt,Bf,Lm,Nat.zero_add,ai,seval,ah]<;>exact rfl)))|((refine bm (xs:=?_) [b0+80] ?_ ?_ ?_ rfl (hh2 _) ?_);rotate_left 1;iterate 3 (focus (simp only[ak,aj,zF,al,aq,hat,bN,hd,hlt,hk,hki,htk,hb3,hb4,hr,Bt,Bf,Lm,Nat.zero_add,ai,seval,ah]<;>(first|exact rfl|omega))))|(refine aa (v:=.any) ?_)|((first|apply Ca|apply Cb)<;>intro hb)|refine Ai (by omega) ?_|(apply Ai<;>intro hb)|refine Fin.pure ?_ ?_ ?_|simp only[ao]))
   | true =>
    have hn':=B0 hn ha ho2
    rw[ho2]at hok
    cases b1<;>cases b2<;>cases b3<;>cases b4
    all_goals (try (exfalso;simp at hok;done))
    all_goals (repeat' first|simp only[zF,al,aq,hat,bN,hd,hlt,hk,hki,htk,hb3,hb4,hwk,Bt,Bf,Lm,Nat.zero_add,ai,seval,ah]|exact rfl|((first|(refine ad ?_ (hf2 _) ?_)|(refine ab ?_ (fun _=>hf2 _) ?_)|(refine ad ?_ (hc2 _) ?_)|(refine ab ?_ (fun _=>hc2 _) ?_));(focus (simp only[zF,al,aq,hat,bN,hd,hlt,hk,hki,htk,hb3,hb4,hwk,Bt,Bf,Lm,Nat.zero_add,ai,seval,ah]<;>exact rfl)))|((first|(refine ad ?_ (hc3 _) ?_)|(refine ab ?_ (fun _=>hc3 _) ?_));(focus (simp only[zF,al,aq,hat,bN,hd,hlt,hk,hki,htk,hb3,hb4,hwk,Bt,Bf,Lm,Nat.zero_add,ai,seval,ah]<;>exact rfl)))|((refine bm (xs:=?_) [b0+80] ?_ ?_ ?_ rfl (hh2 _) ?_);rotate_left 1;iterate 3 (focus (simp only[ak,aj,zF,al,aq,hat,bN,hd,hlt,hk,hki,htk,hb3,hb4,hwk,Bt,Bf,Lm,Nat.zero_add,ai,seval,ah]<;>(first|exact rfl|omega))))|((first|apply Ca|apply Cb)<;>intro hb)|refine Ai (by omega) ?_|(apply Ai<;>intro hb))
    all_goals ((refine aD bR (k+1) [] ?_ ?_ ?_ ?_;rotate_left 2;(focus (show b0<=_;omega));(focus (refine⟨?_,?_⟩<;>(try simp only[aX,aq,hwk,ai,seval,ah,ao])<;>(try omega)))))
    all_goals (first|(show l.length-(k+1)<l.length-k;omega)|exact⟨hlt,hn'⟩|skip)
  ·have hke:k=l.length:=by omega
   subst hke
   have hd:decide (l.length<l.length)=false:=bo
   have hr:pp l=decide (l.length<=16):=by
    rw[Bool.eq_iff_iff,sB];simp[hn]
   have hi:decide ((l.length:Int)<=16)=decide (l.length<=16):=by rw[Bool.eq_iff_iff];simp;omega
   (repeat' first|simp only[ak,aj,zF,al,hd,hr,hi,Lm,ai,seval,ah]|exact rfl|refine aa (v:=.any) ?_|((first|apply Ca|apply Cb)<;>intro hb)|refine Ai (by omega) ?_|(apply Ai<;>intro hb)|refine Fin.pure ?_ ?_ ?_|simp only[ao])
def Nd.okTo (n:Nd)(k:Nat):Prop:=n.attrs.length<=k/\n.space.length<=k/\n.name.length<=k/\n.text.length<=k /\ ∀ a∈n.attrs,a.space.length<=k/\a.name.length<=k/\a.value.length<=k
def pr (s:List UInt8):(s==[])=s.isEmpty:=by cases s<;>rfl
def N2 {n:Nd}(h:n.kind=2):j9 n=(n.name.isEmpty&&n.space.isEmpty&&((n.attrs.length:Int)==0)&&(n.many==0) && !n.text.isEmpty&&(aN n.text==0)):=by
 unfold j9
 rw[if_pos h]
 have h1:((n.attrs.length:Int)==0)=n.attrs.isEmpty:=m7 _
 have h2:(n.many==0)=decide (n.many=0):=by rw[Bool.eq_iff_iff];simp
 have h3:(aN n.text==0)=decide (aN n.text=0):=by rw[Bool.eq_iff_iff];simp
 rw[h1,h2,h3]
def N1 {n:Nd}(h:¬ n.kind=2):j9 n=(((n.kind:Int)==1)&&n.text.isEmpty&&bU n.name&&(aN n.space==0)&&pp n.attrs):=by
 unfold j9
 rw[if_neg h]
 have h2:((n.kind:Int)==1)=decide (n.kind=1):=by rw[Bool.eq_iff_iff];simp;omega
 have h3:(aN n.space==0)=decide (aN n.space=0):=by rw[Bool.eq_iff_iff];simp
 rw[h2,h3]
def Qp (n:Nd)(h:n.okTo be)(nm:Nat):Ev cx 118 nm [.agg (aZ n)] ap.nil (.bool (j9 n)) []:=by
 obtain⟨h1,h2,h3,h4,h5⟩:=h
 have hc:=cm n.text h4
 have hc2:=cm n.space h2
 have hf:=jo n.name h3
 have ha:=IC n.attrs h1 h5
 by_cases hk:n.kind=2
 ·have hkb:((n.kind:Int)==2)=true:=by rw[hk];rfl
  rw[N2 hk]
  refine bi call118 func118 rfl (by kernel_rfl) rfl ?_;intro b0 hb0
  (repeat' first|simp only[ak,aj,results118,ntmps118,al,aZ,hkb,pr,Lm,ai,seval,ah]|exact rfl|refine aa (v:=.any) ?_|(first|(refine ad ?_ (hc _) ?_)|(refine ab ?_ (fun _=>hc _) ?_))|((first|apply Ca|apply Cb)<;>intro hb)|refine Ai (by omega) ?_|(apply Ai<;>intro hb)|refine Fin.pure ?_ ?_ ?_|simp only[ao])
 ·have hkb:((n.kind:Int)==2)=false:=beq_false_of_ne (by omega)
  rw[N1 hk]
  refine bi call118 func118 rfl (by kernel_rfl) rfl ?_;intro b0 hb0
  (repeat' first|simp only[ak,aj,results118,ntmps118,al,aZ,hkb,pr,Lm,ai,seval,ah]|exact rfl|refine aa (v:=.any) ?_|(first|(refine ad ?_ (hc2 _) ?_)|(refine ab ?_ (fun _=>hc2 _) ?_)|(refine ad ?_ (hf _) ?_)|(refine ab ?_ (fun _=>hf _) ?_)|(refine ad ?_ (ha _) ?_)|(refine ab ?_ (fun _=>ha _) ?_))|((first|apply Ca|apply Cb)<;>intro hb)|refine Ai (by omega) ?_|(apply Ai<;>intro hb)|refine Fin.pure ?_ ?_ ?_|simp only[ao])
end Go.Proofs.YtlnlopnpcmahgaaGreatDoor
