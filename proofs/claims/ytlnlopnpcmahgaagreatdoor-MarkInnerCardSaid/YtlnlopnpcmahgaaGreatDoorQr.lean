/-
 Texts joined: XSa,XSb,XSc,XSd,XSe.
-/
import Derived.Test.YtlnlopnpcmahgaaGreatDoorQf
import Derived.Test.YtlnlopnpcmahgaaGreatDoorQl
import Derived.Test.YtlnlopnpcmahgaaGreatDoorQp
set_option linter.all false
namespace Go.Proofs.YtlnlopnpcmahgaaGreatDoor
set_option maxRecDepth 100000
set_option maxHeartbeats 32000000
open Go Go.RowKit Vm Go.Lib Tryz
open Vm renaming aW->Ca,bf->Cb
open And renaming intro->Ai
open List renaming length_map->Lm,not_mem_nil->Ln,map_nil->Lo,map_cons->Lc,mem_cons->Lk
open Bool renaming not_false->Bf,not_true->Bt
def O1 (l:List At)(a:At):Bool:=!(l.any fun b=>a.space==b.space&&a.name==b.name)&&cN a.name&&decide (aN a.value=0)&&decide (aN a.space=0)
def vT (l:List At)(k:Nat):Prop:=∀(i:Nat) (a:At),i<k->l[i]? = some a->O1 (l.take i) a=true
def s9 (l:List At):Bool:=decide (l.length<=16)&&l.zipIdx.all fun p=>O1 (l.take p.2) p.1
def su {l:List At} : s9 l=true↔l.length<=16/\vT l l.length:=by
 unfold s9 vT
 simp only[Bool.and_eq_true,decide_eq_true_eq,List.all_eq_true]
 refine and_congr_right fun _=>⟨fun h i a hi ha=>?_,fun h p hp=>?_⟩
 ·refine h (a,i) ?_
  rw[List.mem_zipIdx_iff_getElem?];exact ha
 ·have:=(List.mem_zipIdx_iff_getElem?).1 hp
  exact h p.2 p.1 (List.getElem?_eq_some_iff.1 this).1 this
def BH {l:List At}{k:Nat}{a:At}(h:vT l k)(ha:l[k]? = some a)(ho:O1 (l.take k) a=true):vT l (k+1):=by
 intro i b hi hb
 by_cases e:i=k
 ·subst e;rw[ha]at hb;cases hb;exact ho
 ·exact h i b (by omega) hb
def Fi {l:List At}{k:Nat}{a:At}(ha:l[k]? = some a)(ho:O1 (l.take k) a=false):s9 l=false:=by
 cases h:s9 l with
 | false=>rfl
 | true =>
  have:=(su.1 h).2 k a (List.getElem?_eq_some_iff.1 ha).1 ha
  rw[ho]at this;cases this
def jJ (n:Nd):Bool :=
 if n.kind=2 then n.name.isEmpty&&n.space.isEmpty&&n.attrs.isEmpty&&decide (n.many=0) && !n.text.isEmpty&&decide (aN n.text=0)
 else decide (n.kind=1)&&n.text.isEmpty&&cN n.name&&decide (aN n.space=0)&&s9 n.attrs
def kS {n:Nd}(h:jJ n=true):n.kind=1\/n.kind=2:=by
 unfold jJ at h
 split at h
 ·right;assumption
 ·simp only[Bool.and_eq_true,decide_eq_true_eq]at h;left;exact h.1.1.1.1
def kT {n:Nd}(h:jJ n=true)(hk:n.kind=2):n.name=[]/\n.space=[]/\n.attrs=[]/\n.many=0/\n.text≠[]/\aN n.text=0:=by
 unfold jJ at h
 rw[if_pos hk]at h
 simp only[Bool.and_eq_true,decide_eq_true_eq,List.isEmpty_iff,Bool.not_eq_true',List.isEmpty_eq_false_iff]at h
 obtain⟨⟨⟨⟨⟨h1,h2⟩,h3⟩,h4⟩,h5⟩,h6⟩:=h
 exact⟨h1,h2,h3,h4,h5,h6⟩
def rj {n:Nd}(h:jJ n=true)(hk:n.kind=1):n.text=[]/\cN n.name=true/\aN n.space=0/\s9 n.attrs=true:=by
 unfold jJ at h
 rw[if_neg (by omega)]at h
 simp only[Bool.and_eq_true,decide_eq_true_eq,List.isEmpty_iff]at h
 obtain⟨⟨⟨⟨h1,h2⟩,h3⟩,h4⟩,h5⟩:=h
 exact⟨h2,h3,h4,h5⟩
def bQ (walk:Nat->List Nat->Option Nat×List Nat)(v:List Nd):Nat->Option Nat->Nat->List Nat->Option Nat×List Nat
 | 0,next,_,en=>(next,en)
 | _+1,none,_,en=>(none,en)
 | n+1,some next,last,en=>match v[next]? with
  | none=>(none,en)
  | some y=>if (last==2&&y.kind==2)=true then (none,en) else bQ walk v n (walk next en).1 y.kind (walk next en).2
def eX (p:Nat)(r:Option Nat×List Nat):Option Nat×List Nat:=match r.1 with
 | some e=>(some e,r.2.set p e)
 | none=>(none,r.2)
def okW (x:Nd)(dz:Bool):Bool:=jJ x&&decide (0<=x.many) && !(x.kind==1&&dz)
def jN (walk:Nat->List Nat->Option Nat×List Nat)(v:List Nd)(dz:Bool)(p:Nat)(en:List Nat):Option Nat×List Nat:=match v[p]? with
 | none=>(none,en)
 | some x=>if okW x dz=true then eX p (bQ walk v x.many.toNat (some (p+1)) 1 en) else (none,en)
def oF (v:List Nd):Nat->Nat->List Nat->Option Nat×List Nat
 | 0=>jN (fun _ en=>(none,en)) v true
 | d+1=>jN (oF v d) v false
def FT (n:Nat):Option Nat×List Nat->Option (List Nat)
 |(some e,en)=>if e=n then some en else none
 |(none,_)=>none
def bu (v:List Nd):Option (List Nat):=if (v.isEmpty||decide (512<v.length) || !((v[0]?).map Nd.kind==some 1))=true then none else FT v.length (oF v 12 0 (List.replicate v.length 0))
inductive Fo where
 | nil
 | cons (n:Nd) (k r:Fo)
def Fo.flat:Fo->List Nd
 | .nil=>[]
 | .cons n k r=>n::(k.flat++r.flat)
def Fo.count:Fo->Nat
 | .nil=>0
 | .cons _ _ r=>r.count+1
def Fo.size:Fo->Nat
 | .nil=>0
 | .cons _ k r=>k.size+r.size+1
def Fo.flat_length:∀(F:Fo),F.flat.length=F.size
 | .nil=>rfl
 | .cons n k r=>by simp[Fo.flat,Fo.size,k.flat_length,r.flat_length]
def Fo.good:Fo->Nat->Nat->Bool
 | .nil,_,_=>true
 | .cons n k r,d,last=>jJ n&&decide (n.many=(k.count:Int)) && !(last==2&&n.kind==2) && !(n.kind==1&&d==0)&&k.good (d-1) 1&&r.good d n.kind
def Fo.ends:Fo->Nat->List Nat
 | .nil,_=>[]
 | .cons _ k r,b=>(b+1+k.size)::(k.ends (b+1)++r.ends (b+1+k.size))
def Fo.ends_length:∀(F:Fo) (b:Nat),(F.ends b).length=F.size
 | .nil,_=>rfl
 | .cons n k r,b=>by simp[Fo.ends,Fo.size,k.ends_length,r.ends_length]
def Fo.app:Fo->Fo->Fo
 | .nil,g=>g
 | .cons n k r,g=>.cons n k (r.app g)
def Fo.app_nil:∀(F:Fo),F.app .nil=F
 | .nil=>rfl
 | .cons n k r=>by simp[Fo.app,r.app_nil]
def Fo.app_flat:∀(F G:Fo),(F.app G).flat=F.flat++G.flat
 | .nil,_=>rfl
 | .cons n k r,g=>by simp[Fo.app,Fo.flat,r.app_flat]
def Fo.app_count:∀(F G:Fo),(F.app G).count=F.count+G.count
 | .nil,_=>by simp[Fo.app,Fo.count]
 | .cons n k r,g=>by simp[Fo.app,Fo.count,r.app_count];omega
def Fo.app_size:∀(F G:Fo),(F.app G).size=F.size+G.size
 | .nil,_=>by simp[Fo.app,Fo.size]
 | .cons n k r,g=>by simp[Fo.app,Fo.size,r.app_size];omega
def Fo.lastK:Fo->Nat->Nat
 | .nil,last=>last
 | .cons n _ r,_=>r.lastK n.kind
def Fo.app_good:∀(F G:Fo) (d last:Nat),(F.app G).good d last=(F.good d last&&G.good d (F.lastK last))
 | .nil,_,_,_=>by simp[Fo.app,Fo.good,Fo.lastK]
 | .cons n k r,g,d,last=>by simp[Fo.app,Fo.good,Fo.lastK,r.app_good,Bool.and_assoc]
def Fo.good_cons {n:Nd}{k r:Fo}{d last:Nat} :(Fo.cons n k r).good d last=true↔jJ n=true/\n.many=(k.count:Int) /\ ¬(last=2/\n.kind=2) /\ ¬(n.kind=1/\d=0)/\k.good (d-1) 1=true/\r.good d n.kind=true:=by
 simp only[Fo.good,Bool.and_eq_true,decide_eq_true_eq,Bool.not_eq_true',Bool.and_eq_false_iff,beq_eq_false_iff_ne,ne_eq]
 constructor
 ·rintro ⟨⟨⟨⟨⟨h1,h2⟩,h3⟩,h4⟩,h5⟩,h6⟩
  exact⟨h1,h2,by rcases h3 with h|h<;>simp_all,by rcases h4 with h|h<;>simp_all,h5,h6⟩
 ·rintro ⟨h1,h2,h3,h4,h5,h6⟩
  exact⟨⟨⟨⟨⟨h1,h2⟩,by by_cases h:last=2<;>simp_all⟩,by by_cases h:n.kind=1<;>simp_all⟩,h5⟩,h6⟩
def Fo.good_mono:∀ {F:Fo} {d d' last:Nat},d<=d'->F.good d last=true->F.good d' last=true
 | .nil,_,_,_,_,_=>rfl
 | .cons n k r,d,d',last,hd,h=>by
  obtain⟨h1,h2,h3,h4,h5,h6⟩:=Fo.good_cons.1 h
  exact Fo.good_cons.2 ⟨h1,h2,h3,by omega,Fo.good_mono (by omega) h5,Fo.good_mono hd h6⟩
def Fo.text_leaf {n:Nd}{k r:Fo}{d last:Nat}(h:(Fo.cons n k r).good d last=true)(hk:n.kind=2):k = .nil:=by
 obtain⟨h1,h2,_⟩:=Fo.good_cons.1 h
 have:=(kT h1 hk).2.2.2.1
 cases k with
 | nil=>rfl
 | cons _ _ _=>simp[Fo.count]at h2;omega
def EX {en l1 l2:List Nat}{p:Nat}(h:p+l1.length+l2.length<=en.length):bt (bt en p l1) (p+l1.length) l2=bt en p (l1++l2):=by
 have e1:(bt en p l1).length=en.length:=eK (by omega)
 refine List.ext_getElem? fun i=>?_
 rw[cO (by omega),cO (by omega),cO (by simp;omega),List.getElem?_append,List.length_append]
 by_cases a:i<p
 ·rw[if_pos (by omega),if_pos a,if_pos a]
 ·by_cases b:i<p+l1.length
  ·rw[if_pos b,if_neg a,if_pos b,if_neg a,if_pos (by omega),if_pos (by omega)]
  ·by_cases c:i<p+l1.length+l2.length
   ·rw[if_neg b,if_pos c,if_neg a,if_pos (by omega),if_neg (by omega)];congr 1;omega
   ·rw[if_neg b,if_neg c,if_neg a,if_neg b,if_neg a,if_neg (by omega)]
def yG {en l:List Nat}{p e:Nat}(h:p+1+l.length<=en.length):(bt en (p+1) l).set p e=bt en p (e::l):=by
  refine List.ext_getElem? fun i=>?_
  rw[List.getElem?_set,eK (by omega),cO (by omega),cO (by simp;omega)]
  by_cases a:p=i
  · subst a;rw[if_pos rfl,if_pos (by omega),if_neg (by omega),if_pos (by simp)];simp
  · rw [if_neg a]
    by_cases b:i<p
    · rw[if_pos (by omega),if_pos b]
    · by_cases c:i<p+1+l.length
      · rw[if_neg (by omega),if_pos c,if_neg b,if_pos (by simp;omega)]
        obtain⟨j,rfl⟩:∃ j,i=p+1+j:=⟨i-(p+1),by omega⟩
        rw[show p+1+j-(p+1)=j by omega,show p+1+j-p=j+1 by omega];simp
      · rw[if_neg (by omega),if_neg c,if_neg b,if_neg (by simp;omega)]
def yF (en:List Nat)(p:Nat):bt en p []=en:=by simp[bt]
def sS (v:List Nd)(d:Nat)(walk:Nat->List Nat->Option Nat×List Nat):Prop:=∀ p en,en.length=v.length ->
 ((walk p en).2.length=v.length /\ ∀ e,(walk p en).1=some e -> ∃ n k,(Fo.cons n k .nil).good d 0=true/\v.drop p=n::(k.flat++v.drop e)/\e=p+1+k.size/\e<=v.length/\(walk p en).2=bt en p ((Fo.cons n k .nil).ends p)) /\
 ∀ n k r,(Fo.cons n k .nil).good d 0=true->v.drop p=n::(k.flat++r)->walk p en=(some (p+1+k.size),bt en p ((Fo.cons n k .nil).ends p))
def eS {v:List Nd}{p:Nat}{n:Nd}{r:List Nd}(h:v.drop p=n::r):v[p]? = some n/\v.drop (p+1)=r/\p<v.length:=by
 have h1:v[p]? = some n:=by have:=congrArg (·[0]?) h;simpa using this
 refine⟨h1,?_,(List.getElem?_eq_some_iff.1 h1).1⟩
 have:=congrArg (List.drop 1) h
 rw[List.drop_drop]at this;simpa using this
def v7 {v:List Nd}{p:Nat}{n:Nd}(h:v[p]? = some n):v.drop p=n::v.drop (p+1):=by
 obtain⟨hp,rfl⟩:=List.getElem?_eq_some_iff.1 h
 exact List.drop_eq_getElem_cons hp
def nF {v a r:List Nd}{p:Nat}(h:v.drop p=a++r):v.drop (p+a.length)=r:=by
 rw[<- List.drop_drop,h,List.drop_left]
def tJ {v a r:List Nd}{p:Nat}(h:v.drop p=a++r)(hp:p<=v.length):p+a.length<=v.length:=by
 have:=congrArg List.length h
 simp at this;omega
def EC {v:List Nd}{d:Nat}{walk:Nat->List Nat->Option Nat×List Nat}(hw:sS v d walk):∀(c:Nat) (next:Option Nat) (last:Nat) (en:List Nat),en.length=v.length ->
  (bQ walk v c next last en).2.length=v.length /\ ∀ p,next=some p->p<=v.length ->
  (∀ e,(bQ walk v c next last en).1=some e -> ∃ F:Fo,F.count=c/\F.good d last=true/\v.drop p=F.flat++v.drop e/\e=p+F.size/\e<=v.length/\(bQ walk v c next last en).2=bt en p (F.ends p)) /\
  ∀(F:Fo) (r:List Nd),F.count=c->F.good d last=true->v.drop p=F.flat++r->bQ walk v c next last en=(some (p+F.size),bt en p (F.ends p))
 | 0,next,last,en,hl=>by
  refine⟨hl,fun p hp hle=>⟨fun e he=>⟨.nil,rfl,rfl,?_,?_,?_,?_⟩,fun F r hc _ _=>?_⟩⟩
  ·subst hp;simp only[bQ,Option.some.injEq]at he;subst he;rfl
  ·subst hp;simp only[bQ,Option.some.injEq]at he;subst he;rfl
  ·subst hp;simp only[bQ,Option.some.injEq]at he;subst he;exact hle
  ·simp[bQ,Fo.ends,yF]
  ·cases F with
   | nil=>subst hp;simp[bQ,Fo.ends,Fo.size,yF]
   | cons _ _ _=>simp[Fo.count]at hc
 | c+1,none,last,en,hl=>⟨hl,fun p hp=>by cases hp⟩
 | c+1,some q,last,en,hl=>by
  cases hv:v[q]? with
  | none =>
   refine⟨by simpa [bQ,hv] using hl,fun p hp hle=>?_⟩
   cases hp
   refine⟨fun e he=>by simp[bQ,hv]at he,fun F r hc hg hd=>?_⟩
   cases F with
   | nil=>simp[Fo.count]at hc
   | cons n k r' =>
    simp only[Fo.flat,List.cons_append]at hd
    rw[(eS hd).1]at hv;cases hv
  | some y =>
   by_cases hb:(last==2&&y.kind==2)=true
   ·refine⟨by simpa [bQ,hv,hb] using hl,fun p hp hle=>?_⟩
    cases hp
    refine⟨fun e he=>by simp[bQ,hv,hb]at he,fun F r hc hg hd=>?_⟩
    cases F with
    | nil=>simp[Fo.count]at hc
    | cons n k r' =>
     simp only[Fo.flat,List.cons_append]at hd
     rw[(eS hd).1]at hv;cases hv
     simp only[Bool.and_eq_true,beq_iff_eq]at hb
     exact absurd hb (Fo.good_cons.1 hg).2.2.1
   ·have hb':(last==2&&y.kind==2)=false:=by simpa using hb
    have hu:bQ walk v (c+1) (some q) last en=bQ walk v c (walk q en).1 y.kind (walk q en).2:=by simp[bQ,hv,hb']
    rw[hu]
    obtain⟨⟨w1,w2⟩,w3⟩:=hw q en hl
    obtain⟨i1,i2⟩:=EC hw c (walk q en).1 y.kind (walk q en).2 w1
    refine⟨i1,fun p hp hle=>?_⟩
    cases hp
    refine⟨fun e he=>?_,fun F r hc hg hd=>?_⟩
    ·cases hwq:(walk q en).1 with
     | none =>
      rw[hwq]at he
      cases c<;>simp[bQ]at he
     | some e1 =>
      obtain⟨n,k,g1,g2,g3,g4,g5⟩:=w2 e1 hwq
      obtain⟨i3,_⟩:=i2 e1 hwq g4
      obtain⟨F,f1,f2,f3,f4,f5,f6⟩:=i3 e he
      have hy:n=y:=by rw[(eS g2).1]at hv;exact Option.some.inj hv
      subst hy
      obtain⟨k1,k2,k3,k4,k5,k6⟩:=Fo.good_cons.1 g1
      refine⟨.cons n k F,by simp[Fo.count,f1],Fo.good_cons.2 ⟨k1,k2,?_,k4,k5,f2⟩,?_,?_,f5,?_⟩
      ·simpa using hb'
      ·rw[g2,f3];simp[Fo.flat]
      ·simp only[Fo.size];omega
      ·rw[hwq]at f6;rw[f6,g5]
       have hlen:=Fo.ends_length (.cons n k .nil) q
       have hlF:=Fo.ends_length F e1
       have hs:e1=q+((Fo.cons n k .nil).ends q).length:=by rw[hlen];simp[Fo.size];omega
       have:=EX (en:=en) (l1:=(Fo.cons n k .nil).ends q) (l2:=F.ends e1) (p:=q) (by omega)
       rw[<- hs]at this
       rw[this]
       simp[Fo.ends,g3]
    ·cases F with
     | nil=>simp[Fo.count]at hc
     | cons n k r' =>
      obtain⟨k1,k2,k3,k4,k5,k6⟩:=Fo.good_cons.1 hg
      simp only[Fo.flat,List.cons_append,List.append_assoc]at hd
      have hy:n=y:=by rw[(eS hd).1]at hv;exact Option.some.inj hv
      subst hy
      have hwk:=w3 n k (r'.flat++r) (Fo.good_cons.2 ⟨k1,k2,by omega,k4,k5,rfl⟩) hd
      have hd1:v.drop q=(n::k.flat)++(r'.flat++r):=by simpa using hd
      have hle1:=tJ hd1 hle
      have hd2:=nF hd1
      simp only[List.length_cons,Fo.flat_length]at hle1 hd2
      have hq1:q+(k.size+1)=q+1+k.size:=by omega
      rw[hq1]at hd2
      obtain⟨_,i4⟩:=i2 (q+1+k.size) (by rw[hwk]) (by omega)
      have hF:=i4 r' r (by simpa [Fo.count] using hc) k6 hd2
      rw[hF,hwk]
      have hlen:=Fo.ends_length (.cons n k .nil) q
      have hs:q+1+k.size=q+((Fo.cons n k .nil).ends q).length:=by rw[hlen];simp[Fo.size];omega
      have hle2:=tJ hd2 (by omega)
      rw[Fo.flat_length]at hle2
      have:=EX (en:=en) (l1:=(Fo.cons n k .nil).ends q) (l2:=r'.ends (q+1+k.size)) (p:=q) (by rw[Fo.ends_length,Fo.ends_length];simp only[Fo.size];omega)
      rw[<- hs]at this
      simp only
      rw[this]
      simp[Fo.ends,Fo.size];omega
def v8 {p n:Nat}{r:Option Nat×List Nat}(h:r.2.length=n):(eX p r).2.length=n:=by
 unfold eX;split<;>simpa using h
def EK {v:List Nd}{d:Nat}{dz:Bool}{walk:Nat->List Nat->Option Nat×List Nat}(hz:dz=decide (d=0))(hw:d≠0->sS v (d-1) walk)(hw0:∀ p en,(walk p en).2.length=en.length):sS v d (jN walk v dz):=by
 have hlen0:∀(c:Nat) (next:Option Nat) (last:Nat) (en:List Nat),(bQ walk v c next last en).2.length=en.length:=by
  intro c
  induction c with
  | zero=>intro next last en;rfl
  | succ c ih =>
   intro next last en
   cases next with
   | none=>rfl
   | some q =>
    cases hv:v[q]? with
    | none=>simp[bQ,hv]
    | some y =>
     by_cases hb:(last==2&&y.kind==2)=true
     ·simp[bQ,hv,hb]
     ·have hb':(last==2&&y.kind==2)=false:=by simpa using hb
      rw[show bQ walk v (c+1) (some q) last en=bQ walk v c (walk q en).1 y.kind (walk q en).2 by simp[bQ,hv,hb'],ih,hw0]
 intro p en hl
 cases hv:v[p]? with
 | none =>
  refine⟨⟨by simpa [jN,hv] using hl,fun e he=>by simp[jN,hv]at he⟩,fun n k r _ hd=>?_⟩
  rw[(eS hd).1]at hv;cases hv
 | some x =>
  have hpl:=(List.getElem?_eq_some_iff.1 hv).1
  by_cases hx:okW x dz=true
  ·have hu:jN walk v dz p en=eX p (bQ walk v x.many.toNat (some (p+1)) 1 en):=by simp[jN,hv,hx]
   rw[hu]
   simp only[okW,Bool.and_eq_true,decide_eq_true_eq,Bool.not_eq_true',Bool.and_eq_false_iff,beq_eq_false_iff_ne]at hx
   obtain⟨⟨hm,h0⟩,hkd⟩:=hx
   have hkd':¬(x.kind=1/\d=0):=by
    rintro ⟨e1,e2⟩;rcases hkd with h|h
    ·exact h e1
    ·subst hz;simp[e2]at h
   by_cases hd0:d=0
   ·have hk2:x.kind=2:=by rcases kS hm with h|h;exact absurd ⟨h,hd0⟩ hkd';exact h
    obtain⟨_,_,_,hm0,_,_⟩:=kT hm hk2
    have hl0:bQ walk v x.many.toNat (some (p+1)) 1 en=(some (p+1),en):=by rw[hm0];rfl
    rw[hl0]
    have hs:en.set p (p+1)=bt en p ((Fo.cons x .nil .nil).ends p):=by
     have:=yG (en:=en) (l:=[]) (p:=p) (e:=p+1) (by simp;omega)
     rw[yF]at this
     rw[this];simp[Fo.ends,Fo.size]
    refine⟨⟨by simp[eX];omega,fun e he=>⟨x,.nil,?_,?_,?_,?_,?_⟩⟩,fun n k r hg hd=>?_⟩
    ·exact Fo.good_cons.2 ⟨hm,by simp[Fo.count,hm0],by omega,hkd',rfl,rfl⟩
    ·simp only[eX,Option.some.injEq]at he;subst he;simp[Fo.flat];exact v7 hv
    ·simp only[eX,Option.some.injEq]at he;subst he;simp[Fo.size]
    ·simp only[eX,Option.some.injEq]at he;subst he;omega
    ·simp only[eX];exact hs
    ·have hy:n=x:=by rw[(eS hd).1]at hv;exact Option.some.inj hv
     subst hy
     have hkn:=Fo.text_leaf hg hk2
     subst hkn
     simp only[eX,Fo.size,Nat.add_zero];rw[hs]
   ·obtain⟨i1,i2⟩:=EC (hw hd0) x.many.toNat (some (p+1)) 1 en hl
    obtain⟨i3,i4⟩:=i2 (p+1) rfl (by omega)
    refine⟨⟨v8 i1,fun e he=>?_⟩,fun n k r hg hd=>?_⟩
    ·cases hq:(bQ walk v x.many.toNat (some (p+1)) 1 en).1 with
     | none=>simp[eX,hq]at he
     | some e1 =>
      have hee:e1=e:=by simpa [eX,hq] using he
      subst hee
      obtain⟨F,f1,f2,f3,f4,f5,f6⟩:=i3 e1 hq
      refine⟨x,F,Fo.good_cons.2 ⟨hm,by rw[f1];omega,by omega,hkd',f2,rfl⟩,?_,?_,f5,?_⟩
      ·rw[<- f3];exact v7 hv
      ·omega
      ·simp only[eX,hq,f6]
       rw[yG (by rw[Fo.ends_length];omega)]
       simp[Fo.ends,f4]
    ·have hy:n=x:=by rw[(eS hd).1]at hv;exact Option.some.inj hv
     subst hy
     obtain⟨k1,k2,k3,k4,k5,k6⟩:=Fo.good_cons.1 hg
     obtain⟨_,hd1,_⟩:=eS hd
     have:=i4 k r (by rw[k2];simp) k5 hd1
     rw[this]
     have hle:=tJ hd1 (by omega)
     rw[Fo.flat_length]at hle
     simp only[eX]
     rw[yG (by rw[Fo.ends_length];omega)]
     simp[Fo.ends]
  ·have hu:jN walk v dz p en=(none,en):=by simp[jN,hv,hx]
   rw[hu]
   refine⟨⟨hl,fun e he=>by cases he⟩,fun n k r hg hd=>?_⟩
   have hy:n=x:=by rw[(eS hd).1]at hv;exact Option.some.inj hv
   subst hy
   obtain⟨k1,k2,k3,k4,k5,k6⟩:=Fo.good_cons.1 hg
   exfalso;apply hx
   simp only[okW,Bool.and_eq_true,decide_eq_true_eq,Bool.not_eq_true',Bool.and_eq_false_iff,beq_eq_false_iff_ne]
   refine⟨⟨k1,by omega⟩,?_⟩
   subst hz
   by_cases e:n.kind=1
   ·right;simp;omega
   ·left;exact e
def wx {walk:Nat->List Nat->Option Nat×List Nat}(hw0:∀ p en,(walk p en).2.length=en.length)(v:List Nd):∀(c:Nat) (next:Option Nat) (last:Nat) (en:List Nat),(bQ walk v c next last en).2.length=en.length
 | 0,_,_,_=>rfl
 | _+1,none,_,_=>rfl
 | c+1,some q,last,en=>by
  cases hv:v[q]? with
  | none=>simp[bQ,hv]
  | some y =>
   by_cases hb:(last==2&&y.kind==2)=true
   ·simp[bQ,hv,hb]
   ·have hb':(last==2&&y.kind==2)=false:=by simpa using hb
    rw[show bQ walk v (c+1) (some q) last en=bQ walk v c (walk q en).1 y.kind (walk q en).2 by simp[bQ,hv,hb'],wx hw0,hw0]
def wC {walk:Nat->List Nat->Option Nat×List Nat}(hw0:∀ p en,(walk p en).2.length=en.length)(v:List Nd)(dz:Bool)(p:Nat)(en:List Nat):(jN walk v dz p en).2.length=en.length:=by
 unfold jN
 split
 ·rfl
 ·split
  ·exact v8 (wx hw0 v _ _ _ _)
  ·rfl
def rE (v:List Nd):∀(d p:Nat) (en:List Nat),(oF v d p en).2.length=en.length
 | 0,p,en=>wC (fun _ _=>rfl) v true p en
 | d+1,p,en=>wC (rE v d) v false p en
def yQ (v:List Nd):∀(d:Nat),sS v d (oF v d)
 | 0=>EK (d:=0) rfl (fun h=>absurd rfl h) (fun _ _=>rfl)
 | d+1=>EK (d:=d+1) (by simp) (fun _=>yQ v d) (rE v d)
def jw {v:List Nd}{en:List Nat} : bu v=some en ↔ ∃ n k,n.kind=1/\v=n::k.flat/\(Fo.cons n k .nil).good 12 0=true/\v.length<=512/\en=(1+k.size)::k.ends 1:=by
 have hw:=yQ v 12 0 (List.replicate v.length 0) (by simp)
 constructor
 ·intro h
  unfold bu at h
  split at h
  ·cases h
  ·rename_i hc
   simp only[Bool.or_eq_true,decide_eq_true_eq,Bool.not_eq_true',not_or,Bool.not_eq_true,List.isEmpty_eq_false_iff,Nat.not_lt,Bool.not_eq_false,beq_iff_eq,Option.map_eq_some_iff]at hc
   obtain⟨⟨c1,c2⟩,x,c3,c4⟩:=hc
   cases hr:oF v 12 0 (List.replicate v.length 0) with
   | mk a b =>
    rw[hr]at h hw
    cases a with
    | none=>cases h
    | some e =>
     simp only[FT]at h
     split at h
     ·rename_i he
      cases h
      obtain⟨n,k,h1,h2,h3,h4,h5⟩:=hw.1.2 e rfl
      subst he
      simp only[List.drop_zero,List.drop_length,List.append_nil]at h2
      have hx:x=n:=by rw[h2]at c3;simpa using c3.symm
      subst hx
      refine⟨x,k,c4,h2,h1,c2,?_⟩
      simp only at h5
      have hle:=Fo.ends_length (.cons x k .nil) 0
      have hvl:v.length=k.size+1:=by rw[h2];simp[Fo.flat_length]
      rw[h5]
      unfold bt
      rw[hle,List.take_zero,List.drop_of_length_le (by simp[Fo.size];omega)]
      simp[Fo.ends]
     ·cases h
 ·rintro ⟨n,k,h1,h2,h3,h4,rfl⟩
  have hwk:=hw.2 n k [] h3 (by simpa using h2)
  have hvl:v.length=k.size+1:=by rw[h2];simp[Fo.flat_length]
  unfold bu
  rw[if_neg (by rw[h2];simp[h1];rw[h2]at h4;simpa using h4),hwk]
  simp only[FT]
  rw[if_pos (by omega)]
  have hle:=Fo.ends_length (.cons n k .nil) 0
  unfold bt
  rw[hle,List.take_zero,List.drop_of_length_le (by simp[Fo.size];omega)]
  simp[Fo.ends]
def Fo.tops:Fo->Nat->List Nat
 | .nil,_=>[]
 | .cons _ k r,p=>p::r.tops (p+1+k.size)
def Fo.tops_length:∀(F:Fo) (p:Nat),(F.tops p).length=F.count
 | .nil,_=>rfl
 | .cons n k r,p=>by simp[Fo.tops,Fo.count,r.tops_length]
def hops (en:List Nat)(stop:Nat):Nat->Nat->List Nat
 | 0,_=>[]
 | f+1,p=>if p<stop then p::hops en stop f (en.getD p 0) else []
def xH:∀(F:Fo) (b i e:Nat),(F.ends b)[i]? = some e->b+i<e/\e<=b+F.size
 | .nil,b,i,e,h=>by simp[Fo.ends]at h
 | .cons n k r,b,0,e,h=>by simp[Fo.ends]at h;simp only[Fo.size];omega
 | .cons n k r,b,i+1,e,h=>by
  simp only[Fo.ends,List.getElem?_cons_succ,List.getElem?_append,Fo.ends_length]at h
  simp only[Fo.size]
  split at h
  ·have:=xH k _ _ _ h;omega
  ·have:=xH r _ _ _ h;omega
def wj {en:List Nat}{stop:Nat}(h:∀ i e,i<stop->en[i]? = some e->i<e)(hl:stop<=en.length):∀(f g p:Nat),stop<=p+f->stop<=p+g->hops en stop f p=hops en stop g p
 | 0,0,_,_,_=>rfl
 | 0,g+1,p,h1,_=>by simp only[hops];rw[if_neg (by omega)]
 | f+1,0,p,_,h2=>by simp only[hops];rw[if_neg (by omega)]
 | f+1,g+1,p,h1,h2=>by
  simp only[hops]
  split
  ·rename_i hp
   have he:en[p]? = some (en.getD p 0):=by rw[List.getD_eq_getElem?_getD,List.getElem?_eq_getElem (by omega)];rfl
   have:=h p _ hp he
   rw[wj h hl f g _ (by omega) (by omega)]
  ·rfl
def od (en:List Nat)(stop p:Nat):List Nat:=hops en stop (stop-p) p
def Gq {en:List Nat}{stop p e:Nat}(h:∀ i e,i<stop->en[i]? = some e->i<e)(hl:stop<=en.length)(hp:p<stop)(he:en[p]? = some e):od en stop p=p::od en stop e:=by
 unfold od
 obtain⟨f,hf⟩:∃ f,stop-p=f+1:=⟨stop-p-1,by omega⟩
 have hpe:=h p e hp he
 rw[hf]
 simp only[hops]
 rw[if_pos hp,List.getD_eq_getElem?_getD,he,Option.getD_some,wj h hl f (stop-e) e (by omega) (by omega)]
def Js {en:List Nat}{stop p:Nat}(hp:¬ p<stop):od en stop p=[]:=by
 unfold od
 rw[show stop-p=0 by omega];rfl
def wk:∀(F:Fo) (en rest:List Nat) (p f:Nat),en.drop p=F.ends p++rest->F.size<=f->hops en (p+F.size) f p=F.tops p
 | .nil,en,rest,p,f,_,_=>by
  cases f with
  | zero=>rfl
  | succ f=>simp[hops,Fo.size,Fo.tops]
 | .cons n k r,en,rest,p,f,h,hf=>by
  cases f with
  | zero=>simp[Fo.size]at hf
  | succ f =>
   have h0:en[p]? = some (p+1+k.size):=by have:=congrArg (·[0]?) h;simpa [Fo.ends] using this
   have h1:en.drop (p+1+k.size)=r.ends (p+1+k.size)++rest:=by
    have:=congrArg (List.drop (1+k.size)) h
    rw[List.drop_drop]at this
    rw[show p+1+k.size=p+(1+k.size) by omega,this]
    simp only[Fo.ends,List.cons_append]
    rw[show 1+k.size=(k.ends (p+1)).length+1 by rw[Fo.ends_length];omega,List.drop_succ_cons,List.append_assoc,List.drop_left]
    rw[show p+((k.ends (p+1)).length+1)=p+1+k.size by rw[Fo.ends_length];omega]
   simp only[Fo.size]at hf
   simp only[hops,Fo.tops]
   rw[if_pos (by simp only[Fo.size];omega),List.getD_eq_getElem?_getD,h0,Option.getD_some]
   have:=wk r en rest (p+1+k.size) f h1 (by omega)
   rw[show p+(Fo.cons n k r).size=p+1+k.size+r.size by simp only[Fo.size];omega,this]
def Gs {F:Fo}{en rest:List Nat}{p:Nat}(h:en.drop p=F.ends p++rest):od en (p+F.size) p=F.tops p:=by
 unfold od
 exact wk F en rest p _ h (by omega)
def Fo.sub:Fo->Nat->Option (Nd×Fo)
 | .nil,_=>none
 | .cons n k _,0=>some (n,k)
 | .cons _ k r,i+1=>if i<k.size then k.sub i else r.sub (i-k.size)
def Fo.good_all:∀ {F:Fo} {d last:Nat},F.good d last=true -> ∀ x∈F.flat,jJ x=true/\0<=x.many/\x.many<=F.size
 | .nil,_,_,_,x,hx=>by simp[Fo.flat]at hx
 | .cons n k r,d,last,h,x,hx=>by
  obtain⟨h1,h2,h3,h4,h5,h6⟩:=Fo.good_cons.1 h
  simp only[Fo.size]
  have hc:∀(F:Fo),F.count<=F.size:=by
   intro F
   induction F with
   | nil=>exact Nat.le_refl _
   | cons n k r _ ih=>simp only[Fo.count,Fo.size];omega
  simp only[Fo.flat,Lk,List.mem_append]at hx
  rcases hx with rfl|hx|hx
  ·have:=hc k;exact⟨h1,by omega,by omega⟩
  ·obtain⟨a,b,c⟩:=Fo.good_all h5 x hx;exact⟨a,b,by omega⟩
  ·obtain⟨a,b,c⟩:=Fo.good_all h6 x hx;exact⟨a,b,by omega⟩
def br (l:List At):List Pr:=l.map fun a=>⟨a.name,a.value⟩
def Fo.toks:Fo->List Tk
 | .nil=>[]
 | .cons n k r=>(if n.kind=2 then [⟨4,[],[],n.text⟩] else if n.many=0 then [⟨3,n.name,br n.attrs,[]⟩] else ⟨1,n.name,br n.attrs,[]⟩::(k.toks++[⟨2,n.name,[],[]⟩]))++r.toks
def yE (n:Nd):Bool:=!n.space.isEmpty||n.attrs.any fun a=>!a.space.isEmpty
def cU (v:List Nd):Bool:=v.any yE
def lO:aN []=0:=by decide
def Fo.toks_length:∀ {F:Fo} {d last:Nat},F.good d last=true->F.toks.length=F.size+(F.flat.filter fun n=>decide (0<n.many)).length
 | .nil,_,_,_=>rfl
 | .cons n k r,d,last,h=>by
  obtain⟨h1,h2,h3,h4,h5,h6⟩:=Fo.good_cons.1 h
  have ik:=Fo.toks_length h5
  have ir:=Fo.toks_length h6
  simp only[Fo.toks,Fo.size,Fo.flat,List.filter_cons,List.filter_append,List.length_append]
  by_cases hk:n.kind=2
  ·have hm:=(kT h1 hk).2.2.2.1
   have hkn:=Fo.text_leaf h hk
   subst hkn
   rw[if_pos hk,if_neg (by rw[hm];decide)]
   simp[Fo.size,Fo.flat,ir];omega
  ·by_cases hm:n.many=0
   ·have hkn:k = .nil:=by
     cases k with
     | nil=>rfl
     | cons _ _ _=>simp[Fo.count]at h2;omega
    subst hkn
    rw[if_neg hk,if_pos hm,if_neg (by rw[hm];decide)]
    simp[Fo.size,Fo.flat,ir];omega
   ·rw[if_neg hk,if_neg hm,if_pos (by rw[decide_eq_true_eq];omega)]
    simp[ir,ik];omega
def Fo.toks_app:∀(F G:Fo),(F.app G).toks=F.toks++G.toks
 | .nil,_=>rfl
 | .cons n k r,g=>by simp[Fo.app,Fo.toks,r.toks_app]
def Fo.parts:Fo->List (List Nd)
 | .nil=>[]
 | .cons n k r=>(n::k.flat)::r.parts
def Fo.tops_app:∀(F G:Fo) (p:Nat),(F.app G).tops p=F.tops p++G.tops (p+F.size)
 | .nil,_,_=>rfl
 | .cons n k r,g,p=>by simp only[Fo.app,Fo.tops,Fo.size,r.tops_app,List.cons_append];rw[show p+1+k.size+r.size=p+(k.size+r.size+1) by omega]
def qx {n:Nd}{k:Fo}{d:Nat}(hd:d<=12)(hk:n.kind=1)(h:(Fo.cons n k .nil).good d 0=true)(hl:k.size+1<=512):bu (n::k.flat)=some ((1+k.size)::k.ends 1) :=
 jw.2 ⟨n,k,hk,rfl,Fo.good_mono hd h,by simpa [Fo.flat_length] using hl,rfl⟩
def CJ (l:List At)(f:Nat)(caps:List V)(p:At->Bool)(hf:∀ h∈l,∀ nm,Ev cx f nm (.agg (b9 h)::caps) am.nil (.bool (p h)) [])(hn:l.length<=bc)(hpl:plainL caps=true)(nm:Nat):Ev cx 129 nm [.sl false 3 (l.map b9),.fn f caps] am.nil (.int .i64 (Gt (l.findIdx? p))) []:=by
 unfold bc at hn
 refine bh call129 func129 rfl (by kernel_rfl) rfl ?_;intro b0 hb0;have zF:=Ai results129 ntmps129
 repeat' first|simp only[ak,ag,zF,al,ai,seval,ah]|exact rfl|refine aa (v:=.any) ?_|((first|(refine aS (g:=?_) ?_ ?_)|(refine aM (g:=?_) ?_ ?_));rotate_left 1;(focus (simp only[zF,al,ai,seval,ah]<;>exact rfl)))|((first|apply Ca|apply Cb)<;>intro hb)|refine Ai (by omega) ?_|(apply Ai<;>intro hb)
 (refine aQ bM (fun x:Nat=>l.length-x) (fun x=>x<=l.length/\(l.take x).any p=false) (b0+16) (fun x=>[(0,.sl false 3 (l.map b9)),(1,.fn f caps),(7,.int .i64 l.length),(8,.int .i64 x)]) (fun x=>[]) (0) [] ?_ ?_ ?_ ?_;rotate_left 1;(focus (show b0<=_;omega));(focus (refine⟨?_,?_⟩<;>(try simp only[aX,Lm,aq,jo hpl,gp hpl,ai,seval,ah,ap])<;>(try omega)));rotate_left 1)
 ·exact⟨Nat.zero_le _,by simp⟩
 ·rintro k ⟨hk,hno⟩
  by_cases hlt:k<l.length
  ·obtain⟨h,hh⟩:∃ h,l[k]? = some h:=⟨_,List.getElem?_eq_getElem hlt⟩
   have hat:(l.map b9)[k]? = some (b9 h):=by rw[List.getElem?_map,hh];rfl
   have hd:decide (k<l.length)=true:=decide_eq_true hlt
   have hwk:IntKind.i64.wrap ((k:Int)+1)=((k+1:Nat):Int):=bd
   have hfh:=hf h (List.mem_of_getElem? hh)
   cases hp:p h with
   | true =>
    have hfd:=mV hno hh hp
    rw[hp]at hfh
    (repeat' first|simp only[ak,ag,zF,al,hat,b9,hlt,hd,hwk,hfd,cq,Lm,ai,seval,ah]|exact rfl|refine aa (v:=.any) ?_|refine eD (g:=f) (caps:=caps) (by simp only[zF,al,hat,b9,hlt,hd,hwk,hfd,cq,Lm,ai,seval,ah]<;>exact rfl) (by simp only[zF,al,hat,b9,hlt,hd,hwk,hfd,cq,Lm,ai,seval,ah]<;>exact rfl) (hfh _) ?_|((first|(refine aS (g:=?_) ?_ ?_)|(refine aM (g:=?_) ?_ ?_));rotate_left 1;(focus (simp only[zF,al,hat,b9,hlt,hd,hwk,hfd,cq,Lm,ai,seval,ah]<;>exact rfl)))|((first|apply Ca|apply Cb)<;>intro hb)|refine Ai (by omega) ?_|(apply Ai<;>intro hb)|refine Fin.pure ?_ ?_ ?_|simp only[ap])
   | false =>
    have hn':=gy (p:=p) hno hh hp
    rw[hp]at hfh
    repeat' first|simp only[ak,ag,zF,al,hat,b9,hlt,hd,hwk,Lm,ai,seval,ah]|exact rfl|refine aa (v:=.any) ?_|refine eD (g:=f) (caps:=caps) (by simp only[zF,al,hat,b9,hlt,hd,hwk,Lm,ai,seval,ah]<;>exact rfl) (by simp only[zF,al,hat,b9,hlt,hd,hwk,Lm,ai,seval,ah]<;>exact rfl) (hfh _) ?_|((first|(refine aS (g:=?_) ?_ ?_)|(refine aM (g:=?_) ?_ ?_));rotate_left 1;(focus (simp only[zF,al,hat,b9,hlt,hd,hwk,Lm,ai,seval,ah]<;>exact rfl)))|((first|apply Ca|apply Cb)<;>intro hb)|refine Ai (by omega) ?_|(apply Ai<;>intro hb)
    all_goals ((refine aC bM (k+1) [] ?_ ?_ ?_ ?_;rotate_left 2;(focus (show b0<=_;omega));(focus (refine⟨?_,?_⟩<;>(try simp only[aX,aq,jo hpl,gp hpl,hwk,ai,seval,ah,ap])<;>(try omega)))))
    all_goals (first|(show l.length-(k+1)<l.length-k;omega)|exact⟨hlt,hn'⟩|skip)
  ·have hke:k=l.length:=by omega
   subst hke
   rw[List.take_length]at hno
   have hfd:=jD hno
   have hd:decide (l.length<l.length)=false:=bm
   (repeat' first|simp only[ak,ag,zF,al,hd,hfd,eH,Lm,ai,seval,ah]|exact rfl|refine aa (v:=.any) ?_|((first|(refine aS (g:=?_) ?_ ?_)|(refine aM (g:=?_) ?_ ?_));rotate_left 1;(focus (simp only[zF,al,hd,hfd,eH,Lm,ai,seval,ah]<;>exact rfl)))|((first|apply Ca|apply Cb)<;>intro hb)|refine Ai (by omega) ?_|(apply Ai<;>intro hb)|refine Fin.pure ?_ ?_ ?_|simp only[ap])
def eg (l:List At)(f:Nat)(caps:List V)(p:At->Bool)(hf:∀ h∈l,∀ nm,Ev cx f nm (.agg (b9 h)::caps) am.nil (.bool (p h)) [])(hn:l.length<=bc)(hpl:plainL caps=true)(nm:Nat):Ev cx 81 nm [.sl false 3 (l.map b9),.fn f caps] am.nil (.bool (l.any p)) []:=by
 have hi:=CJ l f caps p hf hn hpl
 cases h:l.findIdx? p with
 | none =>
  have ha:l.any p=false:=sW h
  rw[h]at hi
  refine bh call81 func81 rfl (by kernel_rfl) rfl ?_;intro b0 hb0
  (repeat' first|simp only[ak,ag,results81,ntmps81,al,ha,eH,ai,seval,ah]|exact rfl|refine aa (v:=.any) ?_|(first|(refine ae ?_ (hi _) ?_)|(refine ab ?_ (fun _=>hi _) ?_))|((first|apply Ca|apply Cb)<;>intro hb)|refine Ai (by omega) ?_|(apply Ai<;>intro hb)|refine Fin.pure ?_ ?_ ?_|simp only[ap])
 | some n =>
  have ha:l.any p=true:=sY h
  rw[h]at hi
  have hz:decide ((0:Int)<=(n:Int))=true:=bR
  refine bh call81 func81 rfl (by kernel_rfl) rfl ?_;intro b0 hb0
  (repeat' first|simp only[ak,ag,results81,ntmps81,al,ha,cq,hz,ai,seval,ah]|exact rfl|refine aa (v:=.any) ?_|(first|(refine ae ?_ (hi _) ?_)|(refine ab ?_ (fun _=>hi _) ?_))|((first|apply Ca|apply Cb)<;>intro hb)|refine Ai (by omega) ?_|(apply Ai<;>intro hb)|refine Fin.pure ?_ ?_ ?_|simp only[ap])
def CK (l:List Nd)(f:Nat)(caps:List V)(p:Nd->Bool)(hf:∀ h∈l,∀ nm,Ev cx f nm (.agg (aV h)::caps) am.nil (.bool (p h)) [])(hn:l.length<=bc)(hpl:plainL caps=true)(nm:Nat):Ev cx 128 nm [.sl false 6 (l.map aV),.fn f caps] am.nil (.int .i64 (Gt (l.findIdx? p))) []:=by
 unfold bc at hn
 refine bh call128 func128 rfl (by kernel_rfl) rfl ?_;intro b0 hb0;have zF:=Ai results128 ntmps128
 repeat' first|simp only[ak,ag,zF,al,ai,seval,ah]|exact rfl|refine aa (v:=.any) ?_|((first|(refine aS (g:=?_) ?_ ?_)|(refine aM (g:=?_) ?_ ?_));rotate_left 1;(focus (simp only[zF,al,ai,seval,ah]<;>exact rfl)))|((first|apply Ca|apply Cb)<;>intro hb)|refine Ai (by omega) ?_|(apply Ai<;>intro hb)
 (refine aQ bM (fun x:Nat=>l.length-x) (fun x=>x<=l.length/\(l.take x).any p=false) (b0+16) (fun x=>[(0,.sl false 6 (l.map aV)),(1,.fn f caps),(7,.int .i64 l.length),(8,.int .i64 x)]) (fun x=>[]) (0) [] ?_ ?_ ?_ ?_;rotate_left 1;(focus (show b0<=_;omega));(focus (refine⟨?_,?_⟩<;>(try simp only[aX,Lm,ad,jo hpl,gp hpl,ai,seval,ah,ap])<;>(try omega)));rotate_left 1)
 ·exact⟨Nat.zero_le _,by simp⟩
 ·rintro k ⟨hk,hno⟩
  by_cases hlt:k<l.length
  ·obtain⟨h,hh⟩:∃ h,l[k]? = some h:=⟨_,List.getElem?_eq_getElem hlt⟩
   have hat:(l.map aV)[k]? = some (aV h):=by rw[List.getElem?_map,hh];rfl
   have hd:decide (k<l.length)=true:=decide_eq_true hlt
   have hwk:IntKind.i64.wrap ((k:Int)+1)=((k+1:Nat):Int):=bd
   have hfh:=hf h (List.mem_of_getElem? hh)
   cases hp:p h with
   | true =>
    have hfd:=mV hno hh hp
    rw[hp]at hfh
    (repeat' first|simp only[ak,ag,zF,al,hat,aV,hlt,hd,hwk,hfd,cq,Lm,ai,seval,ah]|exact rfl|refine aa (v:=.any) ?_|refine eD (g:=f) (caps:=caps) (by simp only[zF,al,hat,aV,hlt,hd,hwk,hfd,cq,Lm,ai,seval,ah]<;>exact rfl) (by simp only[zF,al,hat,aV,hlt,hd,hwk,hfd,cq,Lm,ai,seval,ah]<;>exact rfl) (hfh _) ?_|((first|(refine aS (g:=?_) ?_ ?_)|(refine aM (g:=?_) ?_ ?_));rotate_left 1;(focus (simp only[zF,al,hat,aV,hlt,hd,hwk,hfd,cq,Lm,ai,seval,ah]<;>exact rfl)))|((first|apply Ca|apply Cb)<;>intro hb)|refine Ai (by omega) ?_|(apply Ai<;>intro hb)|refine Fin.pure ?_ ?_ ?_|simp only[ap])
   | false =>
    have hn':=gy (p:=p) hno hh hp
    rw[hp]at hfh
    repeat' first|simp only[ak,ag,zF,al,hat,aV,hlt,hd,hwk,Lm,ai,seval,ah]|exact rfl|refine aa (v:=.any) ?_|refine eD (g:=f) (caps:=caps) (by simp only[zF,al,hat,aV,hlt,hd,hwk,Lm,ai,seval,ah]<;>exact rfl) (by simp only[zF,al,hat,aV,hlt,hd,hwk,Lm,ai,seval,ah]<;>exact rfl) (hfh _) ?_|((first|(refine aS (g:=?_) ?_ ?_)|(refine aM (g:=?_) ?_ ?_));rotate_left 1;(focus (simp only[zF,al,hat,aV,hlt,hd,hwk,Lm,ai,seval,ah]<;>exact rfl)))|((first|apply Ca|apply Cb)<;>intro hb)|refine Ai (by omega) ?_|(apply Ai<;>intro hb)
    all_goals ((refine aC bM (k+1) [] ?_ ?_ ?_ ?_;rotate_left 2;(focus (show b0<=_;omega));(focus (refine⟨?_,?_⟩<;>(try simp only[aX,ad,jo hpl,gp hpl,hwk,ai,seval,ah,ap])<;>(try omega)))))
    all_goals (first|(show l.length-(k+1)<l.length-k;omega)|exact⟨hlt,hn'⟩|skip)
  ·have hke:k=l.length:=by omega
   subst hke
   rw[List.take_length]at hno
   have hfd:=jD hno
   have hd:decide (l.length<l.length)=false:=bm
   (repeat' first|simp only[ak,ag,zF,al,hd,hfd,eH,Lm,ai,seval,ah]|exact rfl|refine aa (v:=.any) ?_|((first|(refine aS (g:=?_) ?_ ?_)|(refine aM (g:=?_) ?_ ?_));rotate_left 1;(focus (simp only[zF,al,hd,hfd,eH,Lm,ai,seval,ah]<;>exact rfl)))|((first|apply Ca|apply Cb)<;>intro hb)|refine Ai (by omega) ?_|(apply Ai<;>intro hb)|refine Fin.pure ?_ ?_ ?_|simp only[ap])
def il (l:List Nd)(f:Nat)(caps:List V)(p:Nd->Bool)(hf:∀ h∈l,∀ nm,Ev cx f nm (.agg (aV h)::caps) am.nil (.bool (p h)) [])(hn:l.length<=bc)(hpl:plainL caps=true)(nm:Nat):Ev cx 78 nm [.sl false 6 (l.map aV),.fn f caps] am.nil (.bool (l.any p)) []:=by
 have hi:=CK l f caps p hf hn hpl
 cases h:l.findIdx? p with
 | none =>
  have ha:l.any p=false:=sW h
  rw[h]at hi
  refine bh call78 func78 rfl (by kernel_rfl) rfl ?_;intro b0 hb0
  (repeat' first|simp only[ak,ag,results78,ntmps78,al,ha,eH,ai,seval,ah]|exact rfl|refine aa (v:=.any) ?_|(first|(refine ae ?_ (hi _) ?_)|(refine ab ?_ (fun _=>hi _) ?_))|((first|apply Ca|apply Cb)<;>intro hb)|refine Ai (by omega) ?_|(apply Ai<;>intro hb)|refine Fin.pure ?_ ?_ ?_|simp only[ap])
 | some n =>
  have ha:l.any p=true:=sY h
  rw[h]at hi
  have hz:decide ((0:Int)<=(n:Int))=true:=bR
  refine bh call78 func78 rfl (by kernel_rfl) rfl ?_;intro b0 hb0
  (repeat' first|simp only[ak,ag,results78,ntmps78,al,ha,cq,hz,ai,seval,ah]|exact rfl|refine aa (v:=.any) ?_|(first|(refine ae ?_ (hi _) ?_)|(refine ab ?_ (fun _=>hi _) ?_))|((first|apply Ca|apply Cb)<;>intro hb)|refine Ai (by omega) ?_|(apply Ai<;>intro hb)|refine Fin.pure ?_ ?_ ?_|simp only[ap])
def Fj (a b:At)(nm:Nat):Ev cx 199 nm [.agg (b9 b),.rp (b9 a)] am.nil (.bool (a.space==b.space&&a.name==b.name)) []:=by
 refine bh call199 func199 rfl (by kernel_rfl) rfl ?_;intro b0 hb0
 (repeat' first|simp only[ak,ag,results199,ntmps199,al,b9,ai,seval,ah]|exact rfl|refine aa (v:=.any) ?_|((first|apply Ca|apply Cb)<;>intro hb)|refine Ai (by omega) ?_|(apply Ai<;>intro hb)|refine Fin.pure ?_ ?_ ?_|simp only[ap])
def Ii (l:List At)(hl:l.length<=bc)(hs:∀ a∈l,a.space.length<=bc/\a.name.length<=bc/\a.value.length<=bc)(nm:Nat):Ev cx 167 nm [.sl false 3 (l.map b9)] am.nil (.bool (s9 l)) []:=by
 have hl':=hl
 unfold bc at hl'
 refine bh call167 func167 rfl (by kernel_rfl) rfl ?_;intro b0 hb0;have zF:=Ai results167 ntmps167
 repeat' first|simp only[ak,ag,zF,al,ai,seval,ah]|exact rfl|refine aa (v:=.any) ?_|((first|apply Ca|apply Cb)<;>intro hb)|refine Ai (by omega) ?_|(apply Ai<;>intro hb)
 (refine aQ bM (fun x:Nat=>l.length-x) (fun x=>x<=l.length/\vT l x) (b0+16) (fun x=>[(0,.sl false 3 (l.map b9)),(6,.sl false 3 (l.map b9)),(7,.int .i64 l.length),(8,.int .i64 x)]) (fun x=>[]) (0) [] ?_ ?_ ?_ ?_;rotate_left 1;(focus (show b0<=_;omega));(focus (refine⟨?_,?_⟩<;>(try simp only[aX,aq,Lm,ai,seval,ah,ap])<;>(try omega)));rotate_left 1)
 ·exact⟨Nat.zero_le _,fun i a hi=>by omega⟩
 ·rintro k ⟨hk,hn⟩
  by_cases hlt:k<l.length
  ·obtain⟨a,ha⟩:∃ a,l[k]? = some a:=⟨_,List.getElem?_eq_getElem hlt⟩
   obtain⟨hs0,hs1,hs2⟩:=hs a (List.mem_of_getElem? ha)
   have hat:=vS ha
   have hd:decide (k<l.length)=true:=decide_eq_true hlt
   have hwk:IntKind.i64.wrap ((k:Int)+1)=((k+1:Nat):Int):=bd
   have hki:(k:Int)<=(l.length:Int):=by omega
   have htk:(l.map b9).take k=(l.take k).map b9:=by rw[List.map_take]
   have hlen:(l.take k).length<=bc:=by rw[List.length_take];unfold bc;omega
   have hf2:=jf a.name hs1
   have hc2:=ce a.value hs2
   have hc3:=ce a.space hs0
   have hh2:=eg (l.take k) 199 [.rp (b9 a)] (fun b=>a.space==b.space&&a.name==b.name) (fun b _ nm=>Fj a b nm) hlen rfl
   have hok:O1 (l.take k) a=(!((l.take k).any fun b=>a.space==b.space&&a.name==b.name)&&cN a.name&&decide (aN a.value=0)&&decide (aN a.space=0)):=rfl
   have hz2:decide (aN a.value=0) = !(aN a.value != 0):=by rw[Bool.eq_iff_iff];simp
   have hz3:decide (aN a.space=0) = !(aN a.space != 0):=by rw[Bool.eq_iff_iff];simp
   rw[hz2,hz3]at hok
   generalize hb1:((l.take k).any fun b=>a.space==b.space&&a.name==b.name)=b1 at hh2 hok
   generalize hb2:cN a.name=b2 at hf2 hok
   generalize hb3:(aN a.value != 0)=b3 at hok
   generalize hb4:(aN a.space != 0)=b4 at hok
   cases ho2:O1 (l.take k) a with
   | false =>
    have hr:=Fi ha ho2
    rw[ho2]at hok
    cases b1<;>cases b2<;>cases b3<;>cases b4
    all_goals (try (exfalso;simp at hok;done))
    all_goals ((repeat' first|simp only[zF,al,aq,hat,b9,hd,hlt,hk,hki,htk,hb3,hb4,hr,Bt,Bf,Lm,Nat.zero_add,ai,seval,ah]|exact rfl|((first|(refine ae ?_ (hf2 _) ?_)|(refine ab ?_ (fun _=>hf2 _) ?_)|(refine ae ?_ (hc2 _) ?_)|(refine ab ?_ (fun _=>hc2 _) ?_));(focus (simp only[zF,al,aq,hat,b9,hd,hlt,hk,hki,htk,hb3,hb4,hr,Bt,Bf,Lm,Nat.zero_add,ai,seval,ah]<;>exact rfl)))|((first|(refine ae ?_ (hc3 _) ?_)|(refine ab ?_ (fun _=>hc3 _) ?_));(focus (simp only[zF,al,aq,hat,b9,hd,hlt,hk,hki,htk,hb3,hb4,hr,Bt,Bf,Lm,Nat.zero_add,ai,seval,ah]<;>exact rfl)))|((refine bo (xs:=?_) [b0+80] ?_ ?_ ?_ rfl (hh2 _) ?_);rotate_left 1;iterate 3 (focus (simp only[ak,ag,zF,al,aq,hat,b9,hd,hlt,hk,hki,htk,hb3,hb4,hr,Bt,Bf,Lm,Nat.zero_add,ai,seval,ah]<;>(first|exact rfl|omega))))|(refine aa (v:=.any) ?_)|((first|apply Ca|apply Cb)<;>intro hb)|refine Ai (by omega) ?_|(apply Ai<;>intro hb)|refine Fin.pure ?_ ?_ ?_|simp only[ap]))
   | true =>
    have hn':=BH hn ha ho2
    rw[ho2]at hok
    cases b1<;>cases b2<;>cases b3<;>cases b4
    all_goals (try (exfalso;simp at hok;done))
    all_goals (repeat' first|simp only[zF,al,aq,hat,b9,hd,hlt,hk,hki,htk,hb3,hb4,hwk,Bt,Bf,Lm,Nat.zero_add,ai,seval,ah]|exact rfl|((first|(refine ae ?_ (hf2 _) ?_)|(refine ab ?_ (fun _=>hf2 _) ?_)|(refine ae ?_ (hc2 _) ?_)|(refine ab ?_ (fun _=>hc2 _) ?_));(focus (simp only[zF,al,aq,hat,b9,hd,hlt,hk,hki,htk,hb3,hb4,hwk,Bt,Bf,Lm,Nat.zero_add,ai,seval,ah]<;>exact rfl)))|((first|(refine ae ?_ (hc3 _) ?_)|(refine ab ?_ (fun _=>hc3 _) ?_));(focus (simp only[zF,al,aq,hat,b9,hd,hlt,hk,hki,htk,hb3,hb4,hwk,Bt,Bf,Lm,Nat.zero_add,ai,seval,ah]<;>exact rfl)))|((refine bo (xs:=?_) [b0+80] ?_ ?_ ?_ rfl (hh2 _) ?_);rotate_left 1;iterate 3 (focus (simp only[ak,ag,zF,al,aq,hat,b9,hd,hlt,hk,hki,htk,hb3,hb4,hwk,Bt,Bf,Lm,Nat.zero_add,ai,seval,ah]<;>(first|exact rfl|omega))))|((first|apply Ca|apply Cb)<;>intro hb)|refine Ai (by omega) ?_|(apply Ai<;>intro hb))
    all_goals ((refine aC bM (k+1) [] ?_ ?_ ?_ ?_;rotate_left 2;(focus (show b0<=_;omega));(focus (refine⟨?_,?_⟩<;>(try simp only[aX,aq,hwk,ai,seval,ah,ap])<;>(try omega)))))
    all_goals (first|(show l.length-(k+1)<l.length-k;omega)|exact⟨hlt,hn'⟩|skip)
  ·have hke:k=l.length:=by omega
   subst hke
   have hd:decide (l.length<l.length)=false:=bm
   have hr:s9 l=decide (l.length<=16):=by
    rw[Bool.eq_iff_iff,su];simp[hn]
   have hi:decide ((l.length:Int)<=16)=decide (l.length<=16):=by rw[Bool.eq_iff_iff];simp;omega
   (repeat' first|simp only[ak,ag,zF,al,hd,hr,hi,Lm,ai,seval,ah]|exact rfl|refine aa (v:=.any) ?_|((first|apply Ca|apply Cb)<;>intro hb)|refine Ai (by omega) ?_|(apply Ai<;>intro hb)|refine Fin.pure ?_ ?_ ?_|simp only[ap])
def Nd.okTo (n:Nd)(k:Nat):Prop:=n.attrs.length<=k/\n.space.length<=k/\n.name.length<=k/\n.text.length<=k /\ ∀ a∈n.attrs,a.space.length<=k/\a.name.length<=k/\a.value.length<=k
def px (s:List UInt8):(s==[])=s.isEmpty:=by cases s<;>rfl
def NP {n:Nd}(h:n.kind=2):jJ n=(n.name.isEmpty&&n.space.isEmpty&&((n.attrs.length:Int)==0)&&(n.many==0) && !n.text.isEmpty&&(aN n.text==0)):=by
 unfold jJ
 rw[if_pos h]
 have h1:((n.attrs.length:Int)==0)=n.attrs.isEmpty:=na _
 have h2:(n.many==0)=decide (n.many=0):=by rw[Bool.eq_iff_iff];simp
 have h3:(aN n.text==0)=decide (aN n.text=0):=by rw[Bool.eq_iff_iff];simp
 rw[h1,h2,h3]
def NO {n:Nd}(h:¬ n.kind=2):jJ n=(((n.kind:Int)==1)&&n.text.isEmpty&&cN n.name&&(aN n.space==0)&&s9 n.attrs):=by
 unfold jJ
 rw[if_neg h]
 have h2:((n.kind:Int)==1)=decide (n.kind=1):=by rw[Bool.eq_iff_iff];simp;omega
 have h3:(aN n.space==0)=decide (aN n.space=0):=by rw[Bool.eq_iff_iff];simp
 rw[h2,h3]
def Qh (n:Nd)(h:n.okTo bc)(nm:Nat):Ev cx 118 nm [.agg (aV n)] am.nil (.bool (jJ n)) []:=by
 obtain⟨h1,h2,h3,h4,h5⟩:=h
 have hc:=ce n.text h4
 have hc2:=ce n.space h2
 have hf:=jf n.name h3
 have ha:=Ii n.attrs h1 h5
 by_cases hk:n.kind=2
 ·have hkb:((n.kind:Int)==2)=true:=by rw[hk];rfl
  rw[NP hk]
  refine bh call118 func118 rfl (by kernel_rfl) rfl ?_;intro b0 hb0
  (repeat' first|simp only[ak,ag,results118,ntmps118,al,aV,hkb,px,Lm,ai,seval,ah]|exact rfl|refine aa (v:=.any) ?_|(first|(refine ae ?_ (hc _) ?_)|(refine ab ?_ (fun _=>hc _) ?_))|((first|apply Ca|apply Cb)<;>intro hb)|refine Ai (by omega) ?_|(apply Ai<;>intro hb)|refine Fin.pure ?_ ?_ ?_|simp only[ap])
 ·have hkb:((n.kind:Int)==2)=false:=beq_false_of_ne (by omega)
  rw[NO hk]
  refine bh call118 func118 rfl (by kernel_rfl) rfl ?_;intro b0 hb0
  (repeat' first|simp only[ak,ag,results118,ntmps118,al,aV,hkb,px,Lm,ai,seval,ah]|exact rfl|refine aa (v:=.any) ?_|(first|(refine ae ?_ (hc2 _) ?_)|(refine ab ?_ (fun _=>hc2 _) ?_)|(refine ae ?_ (hf _) ?_)|(refine ab ?_ (fun _=>hf _) ?_)|(refine ae ?_ (ha _) ?_)|(refine ab ?_ (fun _=>ha _) ?_))|((first|apply Ca|apply Cb)<;>intro hb)|refine Ai (by omega) ?_|(apply Ai<;>intro hb)|refine Fin.pure ?_ ?_ ?_|simp only[ap])
end Go.Proofs.YtlnlopnpcmahgaaGreatDoor
