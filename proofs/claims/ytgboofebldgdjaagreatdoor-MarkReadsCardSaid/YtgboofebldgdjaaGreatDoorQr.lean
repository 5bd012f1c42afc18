/-
 Texts joined: XSa,XSb,XUi,XSc,XSd,XSe,XSf,XSh,XSi,XSj,XSk,XSl,XSm,XSn,XSo,XSp,XSg,XSq,XSr,XSs.
-/
import Derived.Test.YtgboofebldgdjaaGreatDoorQn
set_option linter.all false
namespace Go.Proofs.YtgboofebldgdjaaGreatDoor
set_option maxRecDepth 100000
set_option maxHeartbeats 32000000
open Go Go.RowKit Vm Go.Lib Tryz
def Lf (l:List At)(a:At):Bool:=!(l.any fun b=>a.space==b.space&&a.name==b.name)&&bI a.name&&decide (az a.value=0)&&decide (az a.space=0)
def uY (l:List At)(k:Nat):Prop:=∀(i:Nat) (a:At),i<k->l[i]? = some a->Lf (l.take i) a=true
def pB (l:List At):Bool:=decide (l.length<=16)&&l.zipIdx.all fun p=>Lf (l.take p.2) p.1
def qN {l:List At} : pB l=true↔l.length<=16/\uY l l.length:=by
 unfold pB uY
 simp only[In,WD,WI]
 refine Yv fun _=>⟨fun h i a hi ha=>?_,fun h p hp=>?_⟩
 ·refine h (a,i) ?_
  rw[Xn];exact ha
 ·have:=(Xn).1 hp
  exact h p.2 p.1 (AS.1 this).1 this
def uZ {l:List At}{k:Nat}{a:At}(h:uY l k)(ha:l[k]? = some a)(ho:Lf (l.take k) a=true):uY l (k+1):=by
 intro i b hi hb
 by_cases e:i=k
 ·subst e;rw[ha]at hb;cases hb;exact ho
 ·exact h i b Y6 hb
def se {l:List At}{k:Nat}{a:At}(ha:l[k]? = some a)(ho:Lf (l.take k) a=false):pB l=false:=by
 cases h:pB l with
 | false=>rfl
 | true =>
  have:=(qN.1 h).2 k a (AS.1 ha).1 ha
  rw[ho]at this;cases this
def kf (n:Nd):Bool :=
 if n.kind=2 then n.name.isEmpty&&n.space.isEmpty&&n.attrs.isEmpty&&decide (n.many=0) && !n.text.isEmpty&&decide (az n.text=0)
 else decide (n.kind=1)&&n.text.isEmpty&&bI n.name&&decide (az n.space=0)&&pB n.attrs
def iA {n:Nd}(h:kf n=true):n.kind=1\/n.kind=2:=by
 unfold kf at h
 split at h
 ·right;assumption
 ·simp only[In,WD]at h;left;exact h.1.1.1.1
def ji {n:Nd}(h:kf n=true)(hk:n.kind=2):n.name=[]/\n.space=[]/\n.attrs=[]/\n.many=0/\n.text≠[]/\az n.text=0:=by
 unfold kf at h
 rw[if_pos hk]at h
 simp only[In,WD,XC,XH,Xu]at h
 obtain⟨⟨⟨⟨⟨h1,h2⟩,h3⟩,h4⟩,h5⟩,h6⟩:=h
 exact⟨h1,h2,h3,h4,h5,h6⟩
def zd {n:Nd}(h:kf n=true)(hk:n.kind=1):n.text=[]/\bI n.name=true/\az n.space=0/\pB n.attrs=true:=by
 unfold kf at h
 rw[if_neg Y6]at h
 simp only[In,WD,XC]at h
 obtain⟨⟨⟨⟨h1,h2⟩,h3⟩,h4⟩,h5⟩:=h
 exact⟨h2,h3,h4,h5⟩
def cj (walk:Nat->ZB->ZC×ZB)(v:List Nd):Nat->ZC->Nat->ZB->ZC×ZB
 | 0,next,_,en=>(next,en)
 | _+1,none,_,en=>(none,en)
 | n+1,some next,last,en=>match v[next]? with
  | none=>(none,en)
  | some y=>if (last==2&&y.kind==2)=true then (none,en) else cj walk v n (walk next en).1 y.kind (walk next en).2
def il (p:Nat)(r:ZC×ZB):ZC×ZB:=match r.1 with
 | some e=>(some e,r.2.set p e)
 | none=>(none,r.2)
def okW (x:Nd)(dz:Bool):Bool:=kf x&&decide (0<=x.many) && !(x.kind==1&&dz)
def kS (walk:Nat->ZB->ZC×ZB)(v:List Nd)(dz:Bool)(p:Nat)(en:ZB):ZC×ZB:=match v[p]? with
 | none=>(none,en)
 | some x=>if okW x dz=true then il p (cj walk v x.many.toNat (some (p+1)) 1 en) else (none,en)
def pU (v:List Nd):Nat->Nat->ZB->ZC×ZB
 | 0=>kS (fun _ en=>(none,en)) v true
 | d+1=>kS (pU v d) v false
def IB (n:Nat):ZC×ZB->Option ZB
 |(some e,en)=>if e=n then some en else none
 |(none,_)=>none
def cQ (v:List Nd):Option ZB:=if (v.isEmpty||decide (512<v.length) || !((v[0]?).map Nd.kind==some 1))=true then none else IB v.length (pU v 12 0 (List.replicate v.length 0))
inductive Fo where
 | nil
 | cons (n:Nd) (k r:Fo)
def Fo.flat:Fo->List Nd
 | .nil=>[]
 | .cons n k r=>n::(k.flat++r.flat)
def Fo.count:Fo->Nat
 | .nil=>0
 | .cons _ _ r=>r.count+1
def Fo.size:Fo->Nat
 | .nil=>0
 | .cons _ k r=>k.size+r.size+1
theorem Fo.flat_length:∀(F:Fo),F.flat.length=F.size
 | .nil=>rfl
 | .cons n k r=>by simp[Fo.flat,Fo.size,k.flat_length,r.flat_length]
def Fo.good:Fo->Nat->Nat->Bool
 | .nil,_,_=>true
 | .cons n k r,d,last=>kf n&&decide (n.many=(k.count:Int)) && !(last==2&&n.kind==2) && !(n.kind==1&&d==0)&&k.good (d-1) 1&&r.good d n.kind
def Fo.ends:Fo->Nat->ZB
 | .nil,_=>[]
 | .cons _ k r,b=>(b+1+k.size)::(k.ends (b+1)++r.ends (b+1+k.size))
def Fo.ends_length:∀(F:Fo) (b:Nat),(F.ends b).length=F.size
 | .nil,_=>rfl
 | .cons n k r,b=>by simp[Fo.ends,Fo.size,k.ends_length,r.ends_length]
def Fo.app:Fo->Fo->Fo
 | .nil,g=>g
 | .cons n k r,g=>.cons n k (r.app g)
def Fo.app_nil:∀(F:Fo),F.app .nil=F
 | .nil=>rfl
 | .cons n k r=>by simp[Fo.app,r.app_nil]
def Fo.app_flat:∀(F G:Fo),(F.app G).flat=F.flat++G.flat
 | .nil,_=>rfl
 | .cons n k r,g=>by simp[Fo.app,Fo.flat,r.app_flat]
def Fo.app_count:∀(F G:Fo),(F.app G).count=F.count+G.count
 | .nil,_=>by simp[Fo.app,Fo.count]
 | .cons n k r,g=>by simp[Fo.app,Fo.count,r.app_count];omega
def Fo.app_size:∀(F G:Fo),(F.app G).size=F.size+G.size
 | .nil,_=>by simp[Fo.app,Fo.size]
 | .cons n k r,g=>by simp[Fo.app,Fo.size,r.app_size];omega
def Fo.lastK:Fo->Nat->Nat
 | .nil,last=>last
 | .cons n _ r,_=>r.lastK n.kind
def Fo.app_good:∀(F G:Fo) (d last:Nat),(F.app G).good d last=(F.good d last&&G.good d (F.lastK last))
 | .nil,_,_,_=>by simp[Fo.app,Fo.good,Fo.lastK]
 | .cons n k r,g,d,last=>by simp[Fo.app,Fo.good,Fo.lastK,r.app_good,YT]
def Fo.good_cons {n:Nd}{k r:Fo}{d last:Nat} :(Fo.cons n k r).good d last=true↔kf n=true/\n.many=(k.count:Int) /\ ¬(last=2/\n.kind=2) /\ ¬(n.kind=1/\d=0)/\k.good (d-1) 1=true/\r.good d n.kind=true:=by
 simp only[Fo.good,In,WD,XH,Wo,Wb,ne_eq]
 constructor
 ·rintro ⟨⟨⟨⟨⟨h1,h2⟩,h3⟩,h4⟩,h5⟩,h6⟩
  exact⟨h1,h2,by rcases h3 with h|h<;>simp_all,by rcases h4 with h|h<;>simp_all,h5,h6⟩
 ·rintro ⟨h1,h2,h3,h4,h5,h6⟩
  exact⟨⟨⟨⟨⟨h1,h2⟩,by by_cases h:last=2<;>simp_all⟩,by by_cases h:n.kind=1<;>simp_all⟩,h5⟩,h6⟩
def Fo.good_mono:∀ {F:Fo} {d d' last:Nat},d<=d'->F.good d last=true->F.good d' last=true
 | .nil,_,_,_,_,_=>rfl
 | .cons n k r,d,d',last,hd,h=>by
  obtain⟨h1,h2,h3,h4,h5,h6⟩:=Fo.good_cons.1 h
  exact Fo.good_cons.2 ⟨h1,h2,h3,by omega,Fo.good_mono Y6 h5,Fo.good_mono hd h6⟩
def Fo.text_leaf {n:Nd}{k r:Fo}{d last:Nat}(h:(Fo.cons n k r).good d last=true)(hk:n.kind=2):k = .nil:=by
 obtain⟨h1,h2,_⟩:=Fo.good_cons.1 h
 have:=(ji h1 hk).2.2.2.1
 cases k with
 | nil=>rfl
 | cons _ _ _=>simp[Fo.count]at h2;omega
def HJ {en l1 l2:ZB}{p:Nat}(h:p+l1.length+l2.length<=en.length):bw (bw en p l1) (p+l1.length) l2=bw en p (l1++l2):=by
 have e1:(bw en p l1).length=en.length:=fh Y6
 refine Xx fun i=>?_
 rw[cV Y6,cV Y6,cV ZK,Ws,List.length_append]
 by_cases a:i<p
 ·rw[if_pos Y6,if_pos a,if_pos a]
 ·by_cases b:i<p+l1.length
  ·rw[if_pos b,if_neg a,if_pos b,if_neg a,if_pos Y6,if_pos Y6]
  ·by_cases c:i<p+l1.length+l2.length
   ·rw[if_neg b,if_pos c,if_neg a,if_pos Y6,if_neg Y6];congr 1;omega
   ·rw[if_neg b,if_neg c,if_neg a,if_neg b,if_neg a,if_neg Y6]
def Br {en l:ZB}{p e:Nat}(h:p+1+l.length<=en.length):(bw en (p+1) l).set p e=bw en p (e::l):=by
  refine Xx fun i=>?_
  rw[Xb,fh Y6,cV Y6,cV ZK]
  by_cases a:p=i
  · subst a;rw[if_pos rfl,if_pos Y6,if_neg Y6,if_pos ZH];simp
  · rw [if_neg a]
    by_cases b:i<p
    · rw[if_pos Y6,if_pos b]
    · by_cases c:i<p+1+l.length
      · rw[if_neg Y6,if_pos c,if_neg b,if_pos ZK]
        obtain⟨j,rfl⟩:∃ j,i=p+1+j:=⟨i-(p+1),by omega⟩
        rw[show p+1+j-(p+1)=j by omega,show p+1+j-p=j+1 by omega];simp
      · rw[if_neg Y6,if_neg c,if_neg b,if_neg ZK]
def Bq (en:ZB)(p:Nat):bw en p []=en:=by simp[bw]
def uO (v:List Nd)(d:Nat)(walk:Nat->ZB->ZC×ZB):Prop:=∀ p en,en.length=v.length ->
 ((walk p en).2.length=v.length /\ ∀ e,(walk p en).1=some e -> ∃ n k,(Fo.cons n k .nil).good d 0=true/\v.drop p=n::(k.flat++v.drop e)/\e=p+1+k.size/\e<=v.length/\(walk p en).2=bw en p ((Fo.cons n k .nil).ends p)) /\
 ∀ n k r,(Fo.cons n k .nil).good d 0=true->v.drop p=n::(k.flat++r)->walk p en=(some (p+1+k.size),bw en p ((Fo.cons n k .nil).ends p))
def fC {v:List Nd}{p:Nat}{n:Nd}{r:List Nd}(h:v.drop p=n::r):v[p]? = some n/\v.drop (p+1)=r/\p<v.length:=by
 have h1:v[p]? = some n:=by have:=congrArg (·[0]?) h;simpa using this
 refine⟨h1,?_,(AS.1 h1).1⟩
 have:=congrArg (List.drop 1) h
 rw[List.drop_drop]at this;simpa using this
def yJ {v:List Nd}{p:Nat}{n:Nd}(h:v[p]? = some n):v.drop p=n::v.drop (p+1):=by
 obtain⟨hp,rfl⟩:=AS.1 h
 exact W1 hp
def oY {v a r:List Nd}{p:Nat}(h:v.drop p=a++r):v.drop (p+a.length)=r:=by
 rw[<- List.drop_drop,h,XT]
def vu {v a r:List Nd}{p:Nat}(h:v.drop p=a++r)(hp:p<=v.length):p+a.length<=v.length:=by
 have:=congrArg List.length h
 simp at this;omega
def Ho {v:List Nd}{d:Nat}{walk:Nat->ZB->ZC×ZB}(hw:uO v d walk):∀(c:Nat) (next:ZC) (last:Nat) (en:ZB),en.length=v.length ->
  (cj walk v c next last en).2.length=v.length /\ ∀ p,next=some p->p<=v.length ->
  (∀ e,(cj walk v c next last en).1=some e -> ∃ F:Fo,F.count=c/\F.good d last=true/\v.drop p=F.flat++v.drop e/\e=p+F.size/\e<=v.length/\(cj walk v c next last en).2=bw en p (F.ends p)) /\
  ∀(F:Fo) (r:List Nd),F.count=c->F.good d last=true->v.drop p=F.flat++r->cj walk v c next last en=(some (p+F.size),bw en p (F.ends p))
 | 0,next,last,en,hl=>by
  refine⟨hl,fun p hp hle=>⟨fun e he=>⟨.nil,rfl,rfl,?_,?_,?_,?_⟩,fun F r hc _ _=>?_⟩⟩
  ·subst hp;simp only[cj,WO]at he;subst he;rfl
  ·subst hp;simp only[cj,WO]at he;subst he;rfl
  ·subst hp;simp only[cj,WO]at he;subst he;exact hle
  ·simp[cj,Fo.ends,Bq]
  ·cases F with
   | nil=>subst hp;simp[cj,Fo.ends,Fo.size,Bq]
   | cons _ _ _=>simp[Fo.count]at hc
 | c+1,none,last,en,hl=>⟨hl,fun p hp=>by cases hp⟩
 | c+1,some q,last,en,hl=>by
  cases hv:v[q]? with
  | none =>
   refine⟨by simpa [cj,hv] using hl,fun p hp hle=>?_⟩
   cases hp
   refine⟨fun e he=>by simp[cj,hv]at he,fun F r hc hg hd=>?_⟩
   cases F with
   | nil=>simp[Fo.count]at hc
   | cons n k r' =>
    simp only[Fo.flat,List.cons_append]at hd
    rw[(fC hd).1]at hv;cases hv
  | some y =>
   by_cases hb:(last==2&&y.kind==2)=true
   ·refine⟨by simpa [cj,hv,hb] using hl,fun p hp hle=>?_⟩
    cases hp
    refine⟨fun e he=>by simp[cj,hv,hb]at he,fun F r hc hg hd=>?_⟩
    cases F with
    | nil=>simp[Fo.count]at hc
    | cons n k r' =>
     simp only[Fo.flat,List.cons_append]at hd
     rw[(fC hd).1]at hv;cases hv
     simp only[In,W3]at hb
     exact absurd hb (Fo.good_cons.1 hg).2.2.1
   ·have hb':(last==2&&y.kind==2)=false:=by simpa using hb
    have hu:cj walk v (c+1) (some q) last en=cj walk v c (walk q en).1 y.kind (walk q en).2:=by simp[cj,hv,hb']
    rw[hu]
    obtain⟨⟨w1,w2⟩,w3⟩:=hw q en hl
    obtain⟨i1,i2⟩:=Ho hw c (walk q en).1 y.kind (walk q en).2 w1
    refine⟨i1,fun p hp hle=>?_⟩
    cases hp
    refine⟨fun e he=>?_,fun F r hc hg hd=>?_⟩
    ·cases hwq:(walk q en).1 with
     | none =>
      rw[hwq]at he
      cases c<;>simp[cj]at he
     | some e1 =>
      obtain⟨n,k,g1,g2,g3,g4,g5⟩:=w2 e1 hwq
      obtain⟨i3,_⟩:=i2 e1 hwq g4
      obtain⟨F,f1,f2,f3,f4,f5,f6⟩:=i3 e he
      have hy:n=y:=by rw[(fC g2).1]at hv;exact Ww hv
      subst hy
      obtain⟨k1,k2,k3,k4,k5,k6⟩:=Fo.good_cons.1 g1
      refine⟨.cons n k F,by simp[Fo.count,f1],Fo.good_cons.2 ⟨k1,k2,?_,k4,k5,f2⟩,?_,?_,f5,?_⟩
      ·simpa using hb'
      ·rw[g2,f3];simp[Fo.flat]
      ·simp only[Fo.size];omega
      ·rw[hwq]at f6;rw[f6,g5]
       have hlen:=Fo.ends_length (.cons n k .nil) q
       have hlF:=Fo.ends_length F e1
       have hs:e1=q+((Fo.cons n k .nil).ends q).length:=by rw[hlen];simp[Fo.size];omega
       have:=HJ (en:=en) (l1:=(Fo.cons n k .nil).ends q) (l2:=F.ends e1) (p:=q) Y6
       rw[<- hs]at this
       rw[this]
       simp[Fo.ends,g3]
    ·cases F with
     | nil=>simp[Fo.count]at hc
     | cons n k r' =>
      obtain⟨k1,k2,k3,k4,k5,k6⟩:=Fo.good_cons.1 hg
      simp only[Fo.flat,List.cons_append,WV]at hd
      have hy:n=y:=by rw[(fC hd).1]at hv;exact Ww hv
      subst hy
      have hwk:=w3 n k (r'.flat++r) (Fo.good_cons.2 ⟨k1,k2,by omega,k4,k5,rfl⟩) hd
      have hd1:v.drop q=(n::k.flat)++(r'.flat++r):=by simpa using hd
      have hle1:=vu hd1 hle
      have hd2:=oY hd1
      simp only[List.length_cons,Fo.flat_length]at hle1 hd2
      have hq1:q+(k.size+1)=q+1+k.size:=Y6
      rw[hq1]at hd2
      obtain⟨_,i4⟩:=i2 (q+1+k.size) (by rw[hwk]) Y6
      have hF:=i4 r' r (by simpa [Fo.count] using hc) k6 hd2
      rw[hF,hwk]
      have hlen:=Fo.ends_length (.cons n k .nil) q
      have hs:q+1+k.size=q+((Fo.cons n k .nil).ends q).length:=by rw[hlen];simp[Fo.size];omega
      have hle2:=vu hd2 Y6
      rw[Fo.flat_length]at hle2
      have:=HJ (en:=en) (l1:=(Fo.cons n k .nil).ends q) (l2:=r'.ends (q+1+k.size)) (p:=q) (by rw[Fo.ends_length,Fo.ends_length];simp only[Fo.size];omega)
      rw[<- hs]at this
      simp only
      rw[this]
      simp[Fo.ends,Fo.size];omega
def yK {p n:Nat}{r:ZC×ZB}(h:r.2.length=n):(il p r).2.length=n:=by
 unfold il;split<;>simpa using h
def Hw {v:List Nd}{d:Nat}{dz:Bool}{walk:Nat->ZB->ZC×ZB}(hz:dz=decide (d=0))(hw:d≠0->uO v (d-1) walk)(hw0:∀ p en,(walk p en).2.length=en.length):uO v d (kS walk v dz):=by
 have hlen0:∀(c:Nat) (next:ZC) (last:Nat) (en:ZB),(cj walk v c next last en).2.length=en.length:=by
  intro c
  induction c with
  | zero=>intro next last en;rfl
  | succ c ih =>
   intro next last en
   cases next with
   | none=>rfl
   | some q =>
    cases hv:v[q]? with
    | none=>simp[cj,hv]
    | some y =>
     by_cases hb:(last==2&&y.kind==2)=true
     ·simp[cj,hv,hb]
     ·have hb':(last==2&&y.kind==2)=false:=by simpa using hb
      rw[show cj walk v (c+1) (some q) last en=cj walk v c (walk q en).1 y.kind (walk q en).2 by simp[cj,hv,hb'],ih,hw0]
 intro p en hl
 cases hv:v[p]? with
 | none =>
  refine⟨⟨by simpa [kS,hv] using hl,fun e he=>by simp[kS,hv]at he⟩,fun n k r _ hd=>?_⟩
  rw[(fC hd).1]at hv;cases hv
 | some x =>
  have hpl:=(AS.1 hv).1
  by_cases hx:okW x dz=true
  ·have hu:kS walk v dz p en=il p (cj walk v x.many.toNat (some (p+1)) 1 en):=by simp[kS,hv,hx]
   rw[hu]
   simp only[okW,In,WD,XH,Wo,Wb]at hx
   obtain⟨⟨hm,h0⟩,hkd⟩:=hx
   have hkd':¬(x.kind=1/\d=0):=by
    rintro ⟨e1,e2⟩;rcases hkd with h|h
    ·exact h e1
    ·subst hz;simp[e2]at h
   by_cases hd0:d=0
   ·have hk2:x.kind=2:=by rcases iA hm with h|h;exact absurd ⟨h,hd0⟩ hkd';exact h
    obtain⟨_,_,_,hm0,_,_⟩:=ji hm hk2
    have hl0:cj walk v x.many.toNat (some (p+1)) 1 en=(some (p+1),en):=by rw[hm0];rfl
    rw[hl0]
    have hs:en.set p (p+1)=bw en p ((Fo.cons x .nil .nil).ends p):=by
     have:=Br (en:=en) (l:=[]) (p:=p) (e:=p+1) ZK
     rw[Bq]at this
     rw[this];simp[Fo.ends,Fo.size]
    refine⟨⟨by simp[il];omega,fun e he=>⟨x,.nil,?_,?_,?_,?_,?_⟩⟩,fun n k r hg hd=>?_⟩
    ·exact Fo.good_cons.2 ⟨hm,by simp[Fo.count,hm0],by omega,hkd',rfl,rfl⟩
    ·simp only[il,WO]at he;subst he;simp[Fo.flat];exact yJ hv
    ·simp only[il,WO]at he;subst he;simp[Fo.size]
    ·simp only[il,WO]at he;subst he;omega
    ·simp only[il];exact hs
    ·have hy:n=x:=by rw[(fC hd).1]at hv;exact Ww hv
     subst hy
     have hkn:=Fo.text_leaf hg hk2
     subst hkn
     simp only[il,Fo.size,Nat.add_zero];rw[hs]
   ·obtain⟨i1,i2⟩:=Ho (hw hd0) x.many.toNat (some (p+1)) 1 en hl
    obtain⟨i3,i4⟩:=i2 (p+1) rfl Y6
    refine⟨⟨yK i1,fun e he=>?_⟩,fun n k r hg hd=>?_⟩
    ·cases hq:(cj walk v x.many.toNat (some (p+1)) 1 en).1 with
     | none=>simp[il,hq]at he
     | some e1 =>
      have hee:e1=e:=by simpa [il,hq] using he
      subst hee
      obtain⟨F,f1,f2,f3,f4,f5,f6⟩:=i3 e1 hq
      refine⟨x,F,Fo.good_cons.2 ⟨hm,by rw[f1];omega,by omega,hkd',f2,rfl⟩,?_,?_,f5,?_⟩
      ·rw[<- f3];exact yJ hv
      ·omega
      ·simp only[il,hq,f6]
       rw[Br (by rw[Fo.ends_length];omega)]
       simp[Fo.ends,f4]
    ·have hy:n=x:=by rw[(fC hd).1]at hv;exact Ww hv
     subst hy
     obtain⟨k1,k2,k3,k4,k5,k6⟩:=Fo.good_cons.1 hg
     obtain⟨_,hd1,_⟩:=fC hd
     have:=i4 k r (by rw[k2];simp) k5 hd1
     rw[this]
     have hle:=vu hd1 Y6
     rw[Fo.flat_length]at hle
     simp only[il]
     rw[Br (by rw[Fo.ends_length];omega)]
     simp[Fo.ends]
  ·have hu:kS walk v dz p en=(none,en):=by simp[kS,hv,hx]
   rw[hu]
   refine⟨⟨hl,fun e he=>by cases he⟩,fun n k r hg hd=>?_⟩
   have hy:n=x:=by rw[(fC hd).1]at hv;exact Ww hv
   subst hy
   obtain⟨k1,k2,k3,k4,k5,k6⟩:=Fo.good_cons.1 hg
   exfalso;apply hx
   simp only[okW,In,WD,XH,Wo,Wb]
   refine⟨⟨k1,by omega⟩,?_⟩
   subst hz
   by_cases e:n.kind=1
   ·right;simp;omega
   ·left;exact e
def y8 {walk:Nat->ZB->ZC×ZB}(hw0:∀ p en,(walk p en).2.length=en.length)(v:List Nd):∀(c:Nat) (next:ZC) (last:Nat) (en:ZB),(cj walk v c next last en).2.length=en.length
 | 0,_,_,_=>rfl
 | _+1,none,_,_=>rfl
 | c+1,some q,last,en=>by
  cases hv:v[q]? with
  | none=>simp[cj,hv]
  | some y =>
   by_cases hb:(last==2&&y.kind==2)=true
   ·simp[cj,hv,hb]
   ·have hb':(last==2&&y.kind==2)=false:=by simpa using hb
    rw[show cj walk v (c+1) (some q) last en=cj walk v c (walk q en).1 y.kind (walk q en).2 by simp[cj,hv,hb'],y8 hw0,hw0]
def zh {walk:Nat->ZB->ZC×ZB}(hw0:∀ p en,(walk p en).2.length=en.length)(v:List Nd)(dz:Bool)(p:Nat)(en:ZB):(kS walk v dz p en).2.length=en.length:=by
 unfold kS
 split
 ·rfl
 ·split
  ·exact yK (y8 hw0 v _ _ _ _)
  ·rfl
def tn (v:List Nd):∀(d p:Nat) (en:ZB),(pU v d p en).2.length=en.length
 | 0,p,en=>zh (fun _ _=>rfl) v true p en
 | d+1,p,en=>zh (tn v d) v false p en
def BF (v:List Nd):∀(d:Nat),uO v d (pU v d)
 | 0=>Hw (d:=0) rfl (fun h=>absurd rfl h) (fun _ _=>rfl)
 | d+1=>Hw (d:=d+1) ZH (fun _=>BF v d) (tn v d)
def mR {v:List Nd}{en:ZB} : cQ v=some en ↔ ∃ n k,n.kind=1/\v=n::k.flat/\(Fo.cons n k .nil).good 12 0=true/\v.length<=512/\en=(1+k.size)::k.ends 1:=by
 have hw:=BF v 12 0 (List.replicate v.length 0) ZH
 constructor
 ·intro h
  unfold cQ at h
  split at h
  ·cases h
  ·rename_i hc
   simp only[Xf,WD,XH,not_or,Yn,Xu,Nat.not_lt,Bool.not_eq_false,W3,BY]at hc
   obtain⟨⟨c1,c2⟩,x,c3,c4⟩:=hc
   cases hr:pU v 12 0 (List.replicate v.length 0) with
   | mk a b =>
    rw[hr]at h hw
    cases a with
    | none=>cases h
    | some e =>
     simp only[IB]at h
     split at h
     ·rename_i he
      cases h
      obtain⟨n,k,h1,h2,h3,h4,h5⟩:=hw.1.2 e rfl
      subst he
      simp only[WP,XV,WR]at h2
      have hx:x=n:=by rw[h2]at c3;simpa using c3.symm
      subst hx
      refine⟨x,k,c4,h2,h1,c2,?_⟩
      simp only at h5
      have hle:=Fo.ends_length (.cons x k .nil) 0
      have hvl:v.length=k.size+1:=by rw[h2];simp[Fo.flat_length]
      rw[h5]
      unfold bw
      rw[hle,List.take_zero,YS (by simp[Fo.size];omega)]
      simp[Fo.ends]
     ·cases h
 ·rintro ⟨n,k,h1,h2,h3,h4,rfl⟩
  have hwk:=hw.2 n k [] h3 (by simpa using h2)
  have hvl:v.length=k.size+1:=by rw[h2];simp[Fo.flat_length]
  unfold cQ
  rw[if_neg (by rw[h2];simp[h1];rw[h2]at h4;simpa using h4),hwk]
  simp only[IB]
  rw[if_pos Y6]
  have hle:=Fo.ends_length (.cons n k .nil) 0
  unfold bw
  rw[hle,List.take_zero,YS (by simp[Fo.size];omega)]
  simp[Fo.ends]
def Fo.tops:Fo->Nat->ZB
 | .nil,_=>[]
 | .cons _ k r,p=>p::r.tops (p+1+k.size)
def Fo.tops_length:∀(F:Fo) (p:Nat),(F.tops p).length=F.count
 | .nil,_=>rfl
 | .cons n k r,p=>by simp[Fo.tops,Fo.count,r.tops_length]
def hops (en:ZB)(stop:Nat):Nat->Nat->ZB
 | 0,_=>[]
 | f+1,p=>if p<stop then p::hops en stop f (en.getD p 0) else []
def Av:∀(F:Fo) (b i e:Nat),(F.ends b)[i]? = some e->b+i<e/\e<=b+F.size
 | .nil,b,i,e,h=>by grind[Fo.ends]
 | .cons n k r,b,0,e,h=>by grind[Fo.ends,Fo.size]
 | .cons n k r,b,i+1,e,h=>by
  simp only[Fo.ends,List.getElem?_cons_succ,Ws,Fo.ends_length]at h
  simp only[Fo.size]
  split at h
  ·have:=Av k _ _ _ h;omega
  ·have:=Av r _ _ _ h;omega
def Fo.sub:Fo->Nat->Option (Nd×Fo)
 | .nil,_=>none
 | .cons n k _,0=>some (n,k)
 | .cons _ k r,i+1=>if i<k.size then k.sub i else r.sub (i-k.size)
def Fo.good_all:∀ {F:Fo} {d last:Nat},F.good d last=true -> ∀ x∈F.flat,kf x=true/\0<=x.many/\x.many<=F.size
 | .nil,_,_,_,x,hx=>by grind[Fo.flat]
 | .cons n k r,d,last,h,x,hx=>by
  obtain⟨h1,h2,h3,h4,h5,h6⟩:=Fo.good_cons.1 h
  simp only[Fo.size]
  have hc:∀(F:Fo),F.count<=F.size:=by
   intro F
   induction F with
   | nil=>exact IS _
   | cons n k r _ ih=>grind[Fo.count,Fo.size]
  simp only[Fo.flat,Lk,Wf]at hx
  rcases hx with rfl|hx|hx
  ·grind
  ·obtain⟨a,b,c⟩:=Fo.good_all h5 x hx;grind
  ·obtain⟨a,b,c⟩:=Fo.good_all h6 x hx;grind
def aV (l:List At):List Pr:=l.map fun a=>⟨a.name,a.value⟩
def Fo.toks:Fo->List Tk
 | .nil=>[]
 | .cons n k r=>(if n.kind=2 then [⟨4,[],[],n.text⟩] else if n.many=0 then [⟨3,n.name,aV n.attrs,[]⟩] else ⟨1,n.name,aV n.attrs,[]⟩::(k.toks++[⟨2,n.name,[],[]⟩]))++r.toks
def fH (n:Nd):Bool:=!n.space.isEmpty||n.attrs.any fun a=>!a.space.isEmpty
def bj (v:List Nd):Bool:=v.any fH
def Fo.toks_length:∀ {F:Fo} {d last:Nat},F.good d last=true->F.toks.length=F.size+(F.flat.filter fun n=>decide (0<n.many)).length
 | .nil,_,_,_=>rfl
 | .cons n k r,d,last,h=>by
  obtain⟨h1,h2,h3,h4,h5,h6⟩:=Fo.good_cons.1 h
  have ik:=Fo.toks_length h5
  have ir:=Fo.toks_length h6
  simp only[Fo.toks,Fo.size,Fo.flat,List.filter_cons,List.filter_append,List.length_append]
  by_cases hk:n.kind=2
  ·have hm:=(ji h1 hk).2.2.2.1
   have hkn:=Fo.text_leaf h hk
   subst hkn
   rw[if_pos hk,if_neg (by simp_all)]
   simp[Fo.size,Fo.flat,ir];omega
  ·by_cases hm:n.many=0
   ·have hkn:k = .nil:=by
     cases k with
     | nil=>rfl
     | cons _ _ _=>grind[Fo.count]
    subst hkn
    rw[if_neg hk,if_pos hm,if_neg (by simp_all)]
    simp[Fo.size,Fo.flat,ir];omega
   grind
def Fo.toks_app:∀(F G:Fo),(F.app G).toks=F.toks++G.toks
 | .nil,_=>rfl
 | .cons n k r,g=>by simp[Fo.app,Fo.toks,r.toks_app]
set_option maxRecDepth 100000
set_option maxHeartbeats 32000000
open Nat renaming reduceAdd->Ka,reduceMul->Kb,reduceEqDiff->Kc,reduceLeDiff->Kd,reduceSub->Ke,reduceLT->Kf,reduceBEq->Kr,reduceBNe->Ks,reducePow->Kt
open Int renaming reduceToNat->Kg,reduceLE->Kh,reduceLT->Ki,reduceAdd->Kj,reduceSub->Kk,reduceMul->Kl,reduceNeg->Km,reduceBEq->Kn,reduceBNe->Ko,reduceEq->Kp,reduceNe->Kq
open Go Go.RowKit Vm Go.Lib Tryz
def UW {x y:Nd} : x=y↔x.kind=y.kind/\x.space=y.space/\x.name=y.name/\x.text=y.text/\x.many=y.many/\x.attrs=y.attrs:=by
 cases x;cases y;simp only[Nd.mk.injEq];constructor
 ·rintro ⟨h1,h2,h3,h4,h5,h6⟩;exact⟨h1,h2,h3,h5,h6,h4⟩
 ·rintro ⟨h1,h2,h3,h4,h5,h6⟩;exact⟨h1,h2,h3,h6,h4,h5⟩
def J2 (a b:List At)(ha:a.length<=aN)(hb:b.length<=aN)(nm:Nat):Ev cx 20 nm [.sl false 3 (a.map bi),.sl false 3 (b.map bi)] ah.nil (.bool (decide (a=b))) []:=by
  unfold aN at ha hb
  by_cases hl:a.length=b.length
  · have e1 : (((a.length:Nat):Int) !=((b.length:Nat):Int))=false:=vY hl
    refine aG call20 func20 results20 ntmps20 ?_;intro b0 hb0 zN
    (refine xR e1 trivial ?_)
    (have zF:=@aj;refine fu (fun x:Nat=>a.length-x) (fun x=>x<=a.length/\wV a b x) (b0+16) (fun x=>[(0,.sl false 3 (a.map bi)),(1,.sl false 3 (b.map bi)),(5,.int .i64 x)]) (fun x=>[]) (0) [] ?_ ?_)
    · exact⟨WB _,fun i hi=>by omega⟩
    · rintro k ⟨hk,hsm⟩
      by_cases hlt:k<a.length
      · obtain ⟨x,hx⟩:∃ x,a[k]? = some x:=⟨_,AT hlt⟩
        obtain⟨y,hy⟩:∃ y,b[k]? = some y:=⟨_,AT (hl ▸ hlt)⟩
        have hax:=iG hx
        have hby:=iG hy
        have hd:=AI hlt
        have hlt2:k<b.length:=hl ▸ hlt
        have hwk:=eX k
        by_cases hxy:x=y
        · subst hxy
          have hsm':=tT hsm hx hy
          (refine xR (a7 @aj hax hby @bi.eq_1 hd hlt hlt2) trivial ?_)
          all_goals ((have zF:=a2 @aj hwk;refine c7 (k+1) [] ?_ ?_))
          all_goals (first|(show a.length-(k+1)<a.length-k;omega)|exact⟨hlt,hsm'⟩|skip)
        · have hr:decide (a=b)=false:=WA (HH hx hy hxy)
          have e2:((x.space==y.space)&&((x.name==y.name)&&(x.value==y.value)))=false:=by
            cases x with|mk xs xn xv=>cases y with|mk ys yn yv =>
            simp only[At.mk.injEq,not_and]at hxy
            by_cases h0:xs=ys
            · by_cases h1:xn=yn
              · have:=hxy h0 h1
                simp[this]
              · simp[h1]
            · simp[h0]
          exact xP (a9 @aj hax hby @bi.eq_1 hd hlt hlt2 hr e2) trivial
      · have hke:k=a.length:=Y6
        subst hke
        have hr:decide (a=b)=true:=AI (DS hl hsm)
        have hd:decide (a.length<a.length)=false:=aL
        exact xP (a2 hd hr) trivial
  · have e1:(((a.length:Nat):Int) !=((b.length:Nat):Int))=true:=vZ hl
    have hr:decide (a=b)=false:=WA (fun e=>hl (congrArg List.length e))
    refine aG call20 func20 results20 ntmps20 ?_;intro b0 hb0 zN
    exact xP (a2 e1 hr) trivial
def J3 (a b:List Nd)(ha:a.length<=aN)(hb:b.length<=aN)(ha2:∀ t∈a,t.attrs.length<=aN)(hb2:∀ t∈b,t.attrs.length<=aN)(nm:Nat):Ev cx 8 nm [.sl false 6 (a.map aC),.sl false 6 (b.map aC)] ah.nil (.bool (decide (a=b))) []:=by
  unfold aN at ha hb
  by_cases hl:a.length=b.length
  · have e1:(((a.length:Nat):Int) !=((b.length:Nat):Int))=false:=vY hl
    refine aG call8 func8 results8 ntmps8 ?_;intro b0 hb0 zN
    (refine xR e1 trivial ?_)
    (have zF:=@aa;refine fu (fun x:Nat=>a.length-x) (fun x=>x<=a.length/\wV a b x) (b0+16) (fun x=>[(0,.sl false 6 (a.map aC)),(1,.sl false 6 (b.map aC)),(5,.int .i64 x)]) (fun x=>[]) (0) [] ?_ ?_)
    · exact⟨WB _,fun i hi=>by omega⟩
    · rintro k ⟨hk,hsm⟩
      by_cases hlt:k<a.length
      · obtain⟨x,hx⟩:=js hlt
        obtain⟨y,hy⟩:∃ y,b[k]? = some y:=⟨_,AT (hl ▸ hlt)⟩
        have hax:=dv hx
        have hby:=dv hy
        have hd:=AI hlt
        have hlt2:k<b.length:=hl ▸ hlt
        have hwk:=eX k
        have hsp:=J2 x.attrs y.attrs (ha2 x (By hx)) (hb2 y (By hy))
        by_cases hxy:x=y
        · subst hxy
          have hsm':=tT hsm hx hy
          have hz:decide (x.attrs=x.attrs)=true:=AI rfl
          rw[hz]at hsp
          repeat' first|simp (maxSteps:=4000000) only[cC,aK,results8,ntmps8,Kt,aF,List.append_eq,aj,hax,hby,aC,hd,hlt,hlt2,WT,WY,No,Bt,Lm,au,Ka,Kb,Kc,Kd,Ke,Kf,Kg,Kh,Ki,Kj,Kk,Kl,Km,reduceCtorEq,reduceIte,Kn,Ko,Kp,Kq,Kr,Ks,aH]|exact rfl|refine ao (v:=.any) ?_|(first|(refine ad ?_ (hsp _) ?_)|(refine ai ?_ (fun _=>hsp _) ?_))|refine bm  ZJ  ?_|((first|apply b7|apply cM)<;>intro hb)|refine Ai Y6 ?_|(apply Ai<;>intro hb)
          all_goals ((have zF:=a2 @aa hwk;refine c7 (k+1) [] ?_ ?_))
          all_goals (first|(show a.length-(k+1)<a.length-k;omega)|exact⟨hlt,hsm'⟩|skip)
        · have hr:decide (a=b)=false:=WA (HH hx hy hxy)
          have hk1:((x.kind:Int) !=(y.kind:Int)) = !decide (x.kind=y.kind):=by rw[bne,QK]
          have hk2:(x.many != y.many) = !decide (x.many=y.many):=by
            rw[bne];congr 1
          have hcs:decide (x.kind=y.kind)=false\/(decide (x.kind=y.kind)=true/\(x.space==y.space)=false)\/(decide (x.kind=y.kind)=true/\(x.space==y.space)=true/\(x.name==y.name)=false)\/(decide (x.kind=y.kind)=true/\(x.space==y.space)=true/\(x.name==y.name)=true/\(x.text==y.text)=false)\/(decide (x.kind=y.kind)=true/\(x.space==y.space)=true/\(x.name==y.name)=true/\(x.text==y.text)=true/\decide (x.many=y.many)=false)\/(decide (x.kind=y.kind)=true/\(x.space==y.space)=true/\(x.name==y.name)=true/\(x.text==y.text)=true/\decide (x.many=y.many)=true/\decide (x.attrs=y.attrs)=false):=by
            have hx2:¬(decide (x.kind=y.kind)=true/\(x.space==y.space)=true/\(x.name==y.name)=true/\(x.text==y.text)=true/\decide (x.many=y.many)=true/\decide (x.attrs=y.attrs)=true):=by
              rintro ⟨h1,h2,h3,h4,h5,h6⟩
              exact hxy (UW.2 ⟨Xl h1,eq_of_beq h2,eq_of_beq h3,eq_of_beq h4,Xl h5,Xl h6⟩)
            generalize decide (x.kind=y.kind)=p1 at hx2 ⊢
            generalize (x.space==y.space)=p2 at hx2 ⊢
            generalize (x.name==y.name)=p3 at hx2 ⊢
            generalize (x.text==y.text)=p4 at hx2 ⊢
            generalize decide (x.many=y.many)=p5 at hx2 ⊢
            generalize decide (x.attrs=y.attrs)=p6 at hx2 ⊢
            cases p1<;>cases p2<;>cases p3<;>cases p4<;>cases p5<;>cases p6<;>simp at hx2 ⊢
          generalize hg1:decide (x.kind=y.kind)=g1 at hcs hk1
          generalize hg2:(x.space==y.space)=g2 at hcs
          generalize hg3:(x.name==y.name)=g3 at hcs
          generalize hg4:(x.text==y.text)=g4 at hcs
          generalize hg5:decide (x.many=y.many)=g5 at hcs hk2
          generalize hg6:decide (x.attrs=y.attrs)=g6 at hcs hsp
          rcases hcs with rfl|⟨rfl,rfl⟩|⟨rfl,rfl,rfl⟩|⟨rfl,rfl,rfl,rfl⟩|⟨rfl,rfl,rfl,rfl,rfl⟩|⟨rfl,rfl,rfl,rfl,rfl,rfl⟩
          all_goals ((repeat' first|simp (maxSteps:=4000000) only[cC,aK,results8,ntmps8,Kt,aF,List.append_eq,aj,hax,hby,aC,hd,hlt,hlt2,hr,hk1,hk2,hg2,hg3,hg4,Bt,Bf,Lm,au,Ka,Kb,Kc,Kd,Ke,Kf,Kg,Kh,Ki,Kj,Kk,Kl,Km,reduceCtorEq,reduceIte,Kn,Ko,Kp,Kq,Kr,Ks,aH]|exact rfl|refine ao (v:=.any) ?_|(first|(refine ad ?_ (hsp _) ?_)|(refine ai ?_ (fun _=>hsp _) ?_))|refine ao (v:=.any) ?_|refine bm  ZJ  ?_|((first|apply b7|apply cM)<;>intro hb)|refine Ai Y6 ?_|(apply Ai<;>intro hb)|apply Fin.pure|simp only[aB]))
      · have hke:k=a.length:=Y6
        subst hke
        have hr:decide (a=b)=true:=AI (DS hl hsm)
        have hd:decide (a.length<a.length)=false:=aL
        exact xP (a2 hd hr) trivial
  · have e1:(((a.length:Nat):Int) !=((b.length:Nat):Int))=true:=vZ hl
    have hr:decide (a=b)=false:=WA (fun e=>hl (congrArg List.length e))
    refine aG call8 func8 results8 ntmps8 ?_;intro b0 hb0 zN
    exact xP (a2 e1 hr) trivial
set_option maxRecDepth 100000
set_option maxHeartbeats 32000000
open Go Go.RowKit Vm Go.Lib Tryz
def Fo.parts:Fo->List (List Nd)
 | .nil=>[]
 | .cons n k r=>(n::k.flat)::r.parts
def Fo.tops_app:∀(F G:Fo) (p:Nat),(F.app G).tops p=F.tops p++G.tops (p+F.size)
 | .nil,_,_=>rfl
 | .cons n k r,g,p=>by simp only[Fo.app,Fo.tops,Fo.size,r.tops_app,List.cons_append];rw[show p+1+k.size+r.size=p+(k.size+r.size+1) by omega]
def yu {n:Nd}{k:Fo}{d:Nat}(hd:d<=12)(hk:n.kind=1)(h:(Fo.cons n k .nil).good d 0=true)(hl:k.size+1<=512):cQ (n::k.flat)=some ((1+k.size)::k.ends 1) :=
 mR.2 ⟨n,k,hk,rfl,Fo.good_mono hd h,by simpa [Fo.flat_length] using hl,rfl⟩
def FF (l:List At)(f:Nat)(caps:List V)(p:At->Bool)(hf:∀ h∈l,∀ nm,Ev cx f nm (.agg (bi h)::caps) ah.nil (.bool (p h)) [])(hn:l.length<=aN)(hpl:plainL caps=true)(nm:Nat):Ev cx 133 nm [.sl false 3 (l.map bi),.fn f caps] ah.nil (.int .i64 (Ja (l.findIdx? p))) []:=by
 unfold aN at hn
 refine aG call133 func133 results133 ntmps133 ?_;intro b0 hb0 zN
 (have zF:=trivial;repeat' first|refine wS ?_|exact wE|((first|(refine aU (g:=?_) ?_ ?_)|(refine aZ (g:=?_) ?_ ?_));rotate_left 1;(focus (exact wH)))|((first|apply b7|apply cM)<;>intro hb)|refine Ai Y6 ?_|(apply Ai<;>intro hb))
 (have zF:=a3 @aj (kq hpl) (io hpl);refine fu (fun x:Nat=>l.length-x) (fun x=>x<=l.length/\(l.take x).any p=false) (b0+16) (fun x=>[(0,.sl false 3 (l.map bi)),(1,.fn f caps),(7,.int .i64 l.length),(8,.int .i64 x)]) (fun x=>[]) (0) [] ?_ ?_)
 ·exact⟨WB _,by simp⟩
 ·rintro k ⟨hk,hno⟩
  by_cases hlt:k<l.length
  ·obtain⟨h,hh⟩:=js hlt
   have hat:(l.map bi)[k]? = some (bi h):=by rw[WG,hh];rfl
   have hd:=AI hlt
   have hwk:=eX k
   have hfh:=hf h (By hh)
   cases hp:p h with
   | true =>
    have hfd:=oh hno hh hp
    rw[hp]at hfh
    (have zF:=a7 hat @bi.eq_1 hlt hd hwk hfd @iv;repeat' first|refine wS ?_|exact wE|refine ff (g:=f) (caps:=caps) (by simp only[zF,zN,aF,au,aH,seval]<;>exact rfl) (by simp only[zF,zN,aF,au,aH,seval]<;>exact rfl) (hfh _) ?_|((first|(refine aU (g:=?_) ?_ ?_)|(refine aZ (g:=?_) ?_ ?_));rotate_left 1;(focus (exact wH)))|((first|apply b7|apply cM)<;>intro hb)|refine Ai Y6 ?_|(apply Ai<;>intro hb)|apply Fin.pure|simp only[aB])
   | false =>
    have hn':=eK (p:=p) hno hh hp
    rw[hp]at hfh
    (have zF:=a5 hat @bi.eq_1 hlt hd hwk;repeat' first|refine wS ?_|exact wE|refine ff (g:=f) (caps:=caps) (by simp only[zF,zN,aF,au,aH,seval]<;>exact rfl) (by simp only[zF,zN,aF,au,aH,seval]<;>exact rfl) (hfh _) ?_|((first|(refine aU (g:=?_) ?_ ?_)|(refine aZ (g:=?_) ?_ ?_));rotate_left 1;(focus (exact wH)))|((first|apply b7|apply cM)<;>intro hb)|refine Ai Y6 ?_|(apply Ai<;>intro hb))
    all_goals ((have zF:=a4 @aj (kq hpl) (io hpl) hwk;refine c7 (k+1) [] ?_ ?_))
    all_goals (first|(show l.length-(k+1)<l.length-k;omega)|exact⟨hlt,hn'⟩|skip)
  ·have hke:k=l.length:=Y6
   subst hke
   rw[WJ]at hno
   have hfd:=kL hno
   have hd:decide (l.length<l.length)=false:=aL
   (have zF:=a3 hd hfd @iu;repeat' first|refine wS ?_|exact wE|((first|(refine aU (g:=?_) ?_ ?_)|(refine aZ (g:=?_) ?_ ?_));rotate_left 1;(focus (exact wH)))|((first|apply b7|apply cM)<;>intro hb)|refine Ai Y6 ?_|(apply Ai<;>intro hb)|apply Fin.pure|simp only[aB])
def eP (l:List At)(f:Nat)(caps:List V)(p:At->Bool)(hf:∀ h∈l,∀ nm,Ev cx f nm (.agg (bi h)::caps) ah.nil (.bool (p h)) [])(hn:l.length<=aN)(hpl:plainL caps=true)(nm:Nat):Ev cx 77 nm [.sl false 3 (l.map bi),.fn f caps] ah.nil (.bool (l.any p)) []:=by
 have hi:=FF l f caps p hf hn hpl
 cases h:l.findIdx? p with
 | none =>
  have ha:l.any p=false:=uQ h
  rw[h]at hi
  refine aG call77 func77 results77 ntmps77 ?_;intro b0 hb0 zN
  exact xP (a2 ha @iu) hi
 | some n =>
  have ha:l.any p=true:=uS h
  rw[h]at hi
  have hz:decide ((0:Int)<=(n:Int))=true:=bz
  refine aG call77 func77 results77 ntmps77 ?_;intro b0 hb0 zN
  exact xP (a3 ha @iv hz) hi
def FG (l:List Nd)(f:Nat)(caps:List V)(p:Nd->Bool)(hf:∀ h∈l,∀ nm,Ev cx f nm (.agg (aC h)::caps) ah.nil (.bool (p h)) [])(hn:l.length<=aN)(hpl:plainL caps=true)(nm:Nat):Ev cx 105 nm [.sl false 6 (l.map aC),.fn f caps] ah.nil (.int .i64 (Ja (l.findIdx? p))) []:=by
 unfold aN at hn
 refine aG call105 func105 results105 ntmps105 ?_;intro b0 hb0 zN
 (have zF:=trivial;repeat' first|refine wS ?_|exact wE|((first|(refine aU (g:=?_) ?_ ?_)|(refine aZ (g:=?_) ?_ ?_));rotate_left 1;(focus (exact wH)))|((first|apply b7|apply cM)<;>intro hb)|refine Ai Y6 ?_|(apply Ai<;>intro hb))
 (have zF:=a3 @aa (kq hpl) (io hpl);refine fu (fun x:Nat=>l.length-x) (fun x=>x<=l.length/\(l.take x).any p=false) (b0+16) (fun x=>[(0,.sl false 6 (l.map aC)),(1,.fn f caps),(7,.int .i64 l.length),(8,.int .i64 x)]) (fun x=>[]) (0) [] ?_ ?_)
 ·exact⟨WB _,by simp⟩
 ·rintro k ⟨hk,hno⟩
  by_cases hlt:k<l.length
  ·obtain⟨h,hh⟩:=js hlt
   have hat:(l.map aC)[k]? = some (aC h):=by rw[WG,hh];rfl
   have hd:=AI hlt
   have hwk:=eX k
   have hfh:=hf h (By hh)
   cases hp:p h with
   | true =>
    have hfd:=oh hno hh hp
    rw[hp]at hfh
    (have zF:=a7 hat @aC.eq_1 hlt hd hwk hfd @iv;repeat' first|refine wS ?_|exact wE|refine ff (g:=f) (caps:=caps) (by simp only[zF,zN,aF,au,aH,seval]<;>exact rfl) (by simp only[zF,zN,aF,au,aH,seval]<;>exact rfl) (hfh _) ?_|((first|(refine aU (g:=?_) ?_ ?_)|(refine aZ (g:=?_) ?_ ?_));rotate_left 1;(focus (exact wH)))|((first|apply b7|apply cM)<;>intro hb)|refine Ai Y6 ?_|(apply Ai<;>intro hb)|apply Fin.pure|simp only[aB])
   | false =>
    have hn':=eK (p:=p) hno hh hp
    rw[hp]at hfh
    (have zF:=a5 hat @aC.eq_1 hlt hd hwk;repeat' first|refine wS ?_|exact wE|refine ff (g:=f) (caps:=caps) (by simp only[zF,zN,aF,au,aH,seval]<;>exact rfl) (by simp only[zF,zN,aF,au,aH,seval]<;>exact rfl) (hfh _) ?_|((first|(refine aU (g:=?_) ?_ ?_)|(refine aZ (g:=?_) ?_ ?_));rotate_left 1;(focus (exact wH)))|((first|apply b7|apply cM)<;>intro hb)|refine Ai Y6 ?_|(apply Ai<;>intro hb))
    all_goals ((have zF:=a4 @aa (kq hpl) (io hpl) hwk;refine c7 (k+1) [] ?_ ?_))
    all_goals (first|(show l.length-(k+1)<l.length-k;omega)|exact⟨hlt,hn'⟩|skip)
  ·have hke:k=l.length:=Y6
   subst hke
   rw[WJ]at hno
   have hfd:=kL hno
   have hd:decide (l.length<l.length)=false:=aL
   (have zF:=a3 hd hfd @iu;repeat' first|refine wS ?_|exact wE|((first|(refine aU (g:=?_) ?_ ?_)|(refine aZ (g:=?_) ?_ ?_));rotate_left 1;(focus (exact wH)))|((first|apply b7|apply cM)<;>intro hb)|refine Ai Y6 ?_|(apply Ai<;>intro hb)|apply Fin.pure|simp only[aB])
def jq (l:List Nd)(f:Nat)(caps:List V)(p:Nd->Bool)(hf:∀ h∈l,∀ nm,Ev cx f nm (.agg (aC h)::caps) ah.nil (.bool (p h)) [])(hn:l.length<=aN)(hpl:plainL caps=true)(nm:Nat):Ev cx 52 nm [.sl false 6 (l.map aC),.fn f caps] ah.nil (.bool (l.any p)) []:=by
 have hi:=FG l f caps p hf hn hpl
 cases h:l.findIdx? p with
 | none =>
  have ha:l.any p=false:=uQ h
  rw[h]at hi
  refine aG call52 func52 results52 ntmps52 ?_;intro b0 hb0 zN
  exact xP (a2 ha @iu) hi
 | some n =>
  have ha:l.any p=true:=uS h
  rw[h]at hi
  have hz:decide ((0:Int)<=(n:Int))=true:=bz
  refine aG call52 func52 results52 ntmps52 ?_;intro b0 hb0 zN
  exact xP (a3 ha @iv hz) hi
def H0 (a b:At)(nm:Nat):Ev cx 194 nm [.agg (bi b),.rp (bi a)] ah.nil (.bool (a.space==b.space&&a.name==b.name)) []:=by
 refine aG call194 func194 results194 ntmps194 ?_;intro b0 hb0 zN
 exact xP @bi.eq_1 trivial
def LD (l:List At)(hl:l.length<=aN)(hs:∀ a∈l,a.space.length<=aN/\a.name.length<=aN/\a.value.length<=aN)(nm:Nat):Ev cx 167 nm [.sl false 3 (l.map bi)] ah.nil (.bool (pB l)) []:=by
 have hl':=hl
 unfold aN at hl'
 refine aG call167 func167 results167 ntmps167 ?_;intro b0 hb0 zN
 (refine xR trivial trivial ?_)
 (have zF:=@aj;refine fu (fun x:Nat=>l.length-x) (fun x=>x<=l.length/\uY l x) (b0+16) (fun x=>[(0,.sl false 3 (l.map bi)),(6,.sl false 3 (l.map bi)),(7,.int .i64 l.length),(8,.int .i64 x)]) (fun x=>[]) (0) [] ?_ ?_)
 ·exact⟨WB _,fun i a hi=>by omega⟩
 ·rintro k ⟨hk,hn⟩
  by_cases hlt:k<l.length
  ·obtain⟨a,ha⟩:=js hlt
   obtain⟨hs0,hs1,hs2⟩:=hs a (By ha)
   have hat:=iG ha
   have hd:=AI hlt
   have hwk:=eX k
   have hki:(k:Int)<=(l.length:Int):=Y6
   have htk:(l.map bi).take k=(l.take k).map bi:=by rw[YJ]
   have hlen:(l.take k).length<=aN:=by rw[WK];unfold aN;omega
   have hf2:=kc a.name hs1
   have hc2:=dD a.value hs2
   have hc3:=dD a.space hs0
   have hh2:=eP (l.take k) 194 [.rp (bi a)] (fun b=>a.space==b.space&&a.name==b.name) (fun b _ nm=>H0 a b nm) hlen rfl
   have hok:Lf (l.take k) a=(!((l.take k).any fun b=>a.space==b.space&&a.name==b.name)&&bI a.name&&decide (az a.value=0)&&decide (az a.space=0)):=rfl
   have hz2:decide (az a.value=0) = !(az a.value != 0):=by rw[WL];simp
   have hz3:decide (az a.space=0) = !(az a.space != 0):=by rw[WL];simp
   rw[hz2,hz3]at hok
   generalize hb1:((l.take k).any fun b=>a.space==b.space&&a.name==b.name)=b1 at hh2 hok
   generalize hb2:bI a.name=b2 at hf2 hok
   generalize hb3:(az a.value != 0)=b3 at hok
   generalize hb4:(az a.space != 0)=b4 at hok
   cases ho2:Lf (l.take k) a with
   | false =>
    have hr:=se ha ho2
    rw[ho2]at hok
    cases b1<;>cases b2<;>cases b3<;>cases b4
    all_goals (try (exfalso;simp at hok;done))
    all_goals ((have zF:=a3 @aj hat (a9 @bi.eq_1 hd hlt hk hki htk hb3 hb4 hr);have cF:=a3 hf2 hc2 hc3;repeat' first|refine wT ?_|exact wU|refine bl [b0+80] wM wF wF rfl (hh2 _) ?_|refine ao (v:=.any) ?_|refine ao (v:=.any) ?_|((first|apply b7|apply cM)<;>intro hb)|refine Ai Y6 ?_|(apply Ai<;>intro hb)|apply Fin.pure|simp only[aB]))
   | true =>
    have hn':=uZ hn ha ho2
    rw[ho2]at hok
    cases b1<;>cases b2<;>cases b3<;>cases b4
    all_goals (try (exfalso;simp at hok;done))
    all_goals ((have zF:=a3 @aj hat (a9 @bi.eq_1 hd hlt hk hki htk hb3 hb4 hwk);have cF:=a3 hf2 hc2 hc3;repeat' first|refine wS ?_|exact wE|refine bl [b0+80] wM wF wF rfl (hh2 _) ?_|((first|apply b7|apply cM)<;>intro hb)|refine Ai Y6 ?_|(apply Ai<;>intro hb)))
    all_goals ((have zF:=a2 @aj hwk;refine c7 (k+1) [] ?_ ?_))
    all_goals (first|(show l.length-(k+1)<l.length-k;omega)|exact⟨hlt,hn'⟩|skip)
  ·have hke:k=l.length:=Y6
   subst hke
   have hd:decide (l.length<l.length)=false:=aL
   have hr:pB l=decide (l.length<=16):=by
    rw[WL,qN];simp[hn]
   have hi:decide ((l.length:Int)<=16)=decide (l.length<=16):=by rw[WL];simp;omega
   exact xP (a3 hd hr hi) trivial
def Nd.okTo (n:Nd)(k:Nat):Prop:=n.attrs.length<=k/\n.space.length<=k/\n.name.length<=k/\n.text.length<=k /\ ∀ a∈n.attrs,a.space.length<=k/\a.name.length<=k/\a.value.length<=k
def qR (s:ZA):(s==[])=s.isEmpty:=by cases s<;>rfl
def QQ {n:Nd}(h:n.kind=2):kf n=(n.name.isEmpty&&n.space.isEmpty&&((n.attrs.length:Int)==0)&&(n.many==0) && !n.text.isEmpty&&(az n.text==0)):=by
 unfold kf
 rw[if_pos h]
 have h1:((n.attrs.length:Int)==0)=n.attrs.isEmpty:=jO _
 have h2:(n.many==0)=decide (n.many=0):=by rw[WL];simp
 have h3:(az n.text==0)=decide (az n.text=0):=by rw[WL];simp
 rw[h1,h2,h3]
def QP {n:Nd}(h:¬ n.kind=2):kf n=(((n.kind:Int)==1)&&n.text.isEmpty&&bI n.name&&(az n.space==0)&&pB n.attrs):=by
 unfold kf
 rw[if_neg h]
 have h2:((n.kind:Int)==1)=decide (n.kind=1):=by rw[WL];simp;omega
 have h3:(az n.space==0)=decide (az n.space=0):=by rw[WL];simp
 rw[h2,h3]
def To (n:Nd)(h:n.okTo aN)(nm:Nat):Ev cx 132 nm [.agg (aC n)] ah.nil (.bool (kf n)) []:=by
 obtain⟨h1,h2,h3,h4,h5⟩:=h
 have hc:=dD n.text h4
 have hc2:=dD n.space h2
 have hf:=kc n.name h3
 have ha:=LD n.attrs h1 h5
 by_cases hk:n.kind=2
 ·have hkb:((n.kind:Int)==2)=true:=by rw[hk];rfl
  rw[QQ hk]
  refine aG call132 func132 results132 ntmps132 ?_;intro b0 hb0 zN
  exact xP (a3 @aC.eq_1 hkb @qR) hc
 ·have hkb:((n.kind:Int)==2)=false:=If Y6
  rw[QP hk]
  refine aG call132 func132 results132 ntmps132 ?_;intro b0 hb0 zN
  exact xP (a3 @aC.eq_1 hkb @qR) (a3 hc2 hf ha)
def QZ (o:ZC):Int:=match o with|some n=>n|none=>-1
def mh (n:Nat):QZ (some n)=n:=rfl
def oz:QZ none = -1:=rfl
def Nd.i64 (n:Nd):Prop:=-9223372036854775808<=n.many/\n.many<=9223372036854775807
structure WSt where
 k:Nat
 next:ZC
 last:Nat
 en:ZB
def gi (v:List Nd):V.plain (.rp [.sl false 6 (v.map aC)])=true:=by simp[V.plain,plainL,aa]
def Pm (v:List Nd)(w eb:Nat):V:=.fn 131 [.rp [.sl false 6 (v.map aC)],.ptr w 0 0,.ptr eb 0 0]
def Hv (v:List Nd)(hv:v.length<=512)(hok:∀ n∈v,n.okTo aN/\n.i64)(d:Nat)(hd:d<=12)(dz:Bool)(hdz:dz=decide (d=0))(W:Nat->ZB->ZC×ZB)(hW:d≠0->uO v (d-1) W)(w eb e:Nat)(n1:w≠eb)(n2:w≠e)(n3:eb≠e)
    (ih:d≠0 -> ∀(p:Nat) (en:ZB) (M:ah) (nm:Nat),p<v.length->en.length=v.length->M w=some ⟨1,[[Pm v w eb]]⟩->M eb=some ⟨1,[[.own e 0 v.length]]⟩->M e=some ⟨1,en.map bH⟩->(∀ z,(M z).isSome=true->z∈[w,eb,e])->w<nm->eb<nm->e<nm ->
      Ev cx 131 nm [.int .i64 p,.int .i64 ((d-1:Nat):Int),.rp [.sl false 6 (v.map aC)],.ptr w 0 0,.ptr eb 0 0] M (.int .i64 (QZ (W p en).1)) [(w,some ⟨1,[[Pm v w eb]]⟩),(eb,some ⟨1,[[.own e 0 v.length]]⟩),(e,some ⟨1,(W p en).2.map bH⟩)])
    (p:Nat) (en:ZB) (M:ah) (nm:Nat) (hp:p<v.length) (hl:en.length=v.length) (hw:M w=some ⟨1,[[Pm v w eb]]⟩) (heb:M eb=some ⟨1,[[.own e 0 v.length]]⟩) (he:M e=some ⟨1,en.map bH⟩) (ho:∀ z,(M z).isSome=true->z∈[w,eb,e]) (lw:w<nm) (leb:eb<nm) (le:e<nm) :
    Ev cx 131 nm [.int .i64 p,.int .i64 d,.rp [.sl false 6 (v.map aC)],.ptr w 0 0,.ptr eb 0 0] M (.int .i64 (QZ (kS W v dz p en).1)) [(w,some ⟨1,[[Pm v w eb]]⟩),(eb,some ⟨1,[[.own e 0 v.length]]⟩),(e,some ⟨1,(kS W v dz p en).2.map bH⟩)]:=by
  obtain⟨x,hx⟩:∃ x,v[p]? = some x:=⟨_,AT hp⟩
  obtain⟨hxo,hx1,hx2⟩:=hok x (By hx)
  have hat:=dv hx
  have hmx:=To x hxo
  have b1:decide ((p:Int)<0)=false:=aL
  have b2:decide (v.length<=p)=false:=aL
  have hpi:=lV p v.length
  have b4:((d:Int)==0)=dz:=by rw[hdz,WL];simp
  have hkx:okW x dz=(kf x && !decide (x.many<0) && !(((x.kind:Int)==1)&&dz)):=by
    unfold okW
    have h1:decide (0<=x.many) = !decide (x.many<0):=by rw[WL];simp
    have h2:((x.kind:Int)==1)=(x.kind==1):=by rw[WL];simp;omega
    rw[h1,h2]
  have hwalk:kS W v dz p en=if okW x dz=true then il p (cj W v x.many.toNat (some (p+1)) 1 en) else (none,en):=by
    unfold kS;rw[hx]
  have hroom:okW x dz=true->x.many.toNat≠0->d≠0:=by
    rintro h1 h2 rfl
    unfold okW at h1
    simp only[In,WD,XH,Wo,Wb]at h1
    obtain⟨⟨a1,a2⟩,a3⟩:=h1
    rw[hdz]at a3
    simp at a3
    rcases iA a1 with h|h
    · exact a3 h
    · rw[(ji a1 h).2.2.2.1]at h2;exact h2 rfl
  rw[hwalk]
  clear hwalk
  have w1:=eX p
  have m1:=IT n1;have m2:=IT n2;have m3:=IT n3
  have m4:=IT (WU n1);have m5:=IT (WU n2);have m6:=IT (WU n3)
  unfold Pm at hw ⊢
  by_cases hkk:okW x dz=true
  · rw [if_pos hkk]
    have hroom:=hroom hkk
    rw[hkk]at hkx
    generalize hB1:kf x=B1 at hmx hkx
    generalize hB2:decide (x.many<0)=B2 at hkx
    generalize hB3:((x.kind:Int)==1)=B3 at hkx
    have hB:B1=true/\B2=false/\(B3&&dz)=false:=by cases B1<;>cases B2<;>cases B3<;>cases dz<;>simp at hkx ⊢
    obtain⟨rfl,rfl,hB4⟩:=hB
    have h0:0<=x.many:=by simpa using hB2
    obtain⟨m,hm⟩:∃ m:Nat,x.many=(m:Int):=⟨x.many.toNat,by omega⟩
    rw[hm]at hx2 hB2 hroom ⊢
    rw[Int.toNat_natCast]at hroom ⊢
    have hroom:∀ k,k<m->d≠0:=fun k hk=>hroom Y6
    refine aG call131 func131 results131 ntmps131 ?_;intro b0 hb0 zN
    have l1:=aq hb0 hw
    have z0:=aE l1;have z1:=ak l1;have z2:=ay l1;have z3:=ae l1
    have l2:=aq hb0 heb
    have y0:=aE l2;have y1:=ak l2;have y2:=ay l2;have y3:=ae l2
    have l3:=aq hb0 he
    have x0:=aE l3;have x1:=ak l3;have x2:=ay l3;have x3:=ae l3
    (refine xN (a6 hat @aC.eq_1 hm b1 b2 (a9 b4 hB2 hB3 hB4 hpi w1 hw heb he)) hmx ?_)
    (have zF:=a9 @aa @aw (gi v) hw heb he z0 z1 (a9 z2 z3 y0 y1 y2 y3 x0 x1 (a9 x2 x3 m1 m2 m3 m4 m5 m6 @mh));refine fu (fun s:WSt=>m-s.k) (fun s=>s.k<=m/\s.en.length=v.length/\(∀ q,s.next=some q->q<=v.length)/\cj W v m (some (p+1)) 1 en=cj W v (m-s.k) s.next s.last s.en) (b0+16) (fun s=>[(0,.int .i64 p),(1,.int .i64 (d:Int)),(2,.rp [.sl false 6 (v.map aC)]),(3,.ptr w 0 0),(4,.ptr eb 0 0),(8,.int .i64 (QZ s.next)),(9,.int .u8 s.last),(52,.int .i64 m),(53,.int .i64 s.k)]) (fun s=>[(w,⟨1,[[.fn 131 [.rp [.sl false 6 (v.map aC)],.ptr w 0 0,.ptr eb 0 0]]]⟩),(eb,⟨1,[[.own e 0 v.length]]⟩),(e,⟨1,s.en.map bH⟩)]) (⟨0,some (p+1),1,en⟩) [some w,some eb,some e] ?_ ?_)
    · exact⟨WB _,hl,fun q hq=>by cases hq;omega,rfl⟩
    · rintro ⟨k,next,last,en1⟩ ⟨hk,hl1,hq,hinv⟩
      dsimp only at hk hl1 hq hinv ⊢
      rw[hinv]
      by_cases hlt:k<m
      · have hd1:=AW k m
        have hd2:=AI hlt
        obtain⟨c,hc⟩:∃ c,m-k=c+1:=⟨m-k-1,by omega⟩
        have hc2:m-(k+1)=c:=Y6
        rw[hc]at hinv ⊢
        have hwk:=eX k
        cases next with
        | none =>
          have hr:cj W v (c+1) none last en1=(none,en1):=rfl
          rw[hr]
          have q0:decide ((-1:Int)<0)=true:=rfl
          repeat' first|simp only[results131,ntmps131,aF,hd2,oz,il,Bt,Lm,au,aH,seval]
          all_goals ((refine Fin.give [(w,none),(eb,none),(e,none)] [] ?_ ?_ ?_ ?_ ?_ (bc ho (by simp[ba,tgt]))<;>(try simp only[aF,hw,heb,he,gi v,m1,m2,m3,m4,m5,m6,No,aa,aw,hH,au,seval])<;>(try simp only[aB])<;>(try omega)))
        | some q =>
          have hqv:=hq q rfl
          have q0:decide ((q:Int)<0)=false:=aL
          cases hy:v[q]? with
          | none =>
            have hge:v.length<=q:=YG.1 hy
            have q1:decide (v.length<=q)=true:=AI hge
            have hr:cj W v (c+1) (some q) last en1=(none,en1):=by simp[cj,hy]
            rw[hr]
            repeat' first|simp only[results131,ntmps131,aF,hd2,q0,q1,mh,oz,il,Bt,Lm,au,aH,seval]
            all_goals ((refine Fin.give [(w,none),(eb,none),(e,none)] [] ?_ ?_ ?_ ?_ ?_ (bc ho (by simp[ba,tgt]))<;>(try simp only[aF,hw,heb,he,gi v,m1,m2,m3,m4,m5,m6,No,aa,aw,hH,au,seval])<;>(try simp only[aB])<;>(try omega)))
          | some y =>
            have hql:=(AS.1 hy).1
            have q1:decide (v.length<=q)=false:=aL
            have hay:=dv hy
            have hqi:=lV q v.length
            have hbb:(((last:Int)==2)&&((y.kind:Int)==(last:Int)))=(last==2&&y.kind==2):=by
              rw[WL];simp;omega
            have hd0:=hroom k hlt
            have hwd:IntKind.i64.wrap ((d:Int)-1)=((d-1:Nat):Int):=by rw[aX];omega
            cases hB:(last==2&&y.kind==2) with
            | true =>
              rw[hB]at hbb
              simp only[In]at hbb
              obtain⟨q2,q3⟩:=hbb
              have hr:cj W v (c+1) (some q) last en1=(none,en1):=by simp[cj,hy,hB]
              rw[hr]
              repeat' first|simp only[results131,ntmps131,aF,hd2,q0,q1,q2,q3,hay,aC,hql,mh,oz,il,Lm,au,aH,seval]
              all_goals ((refine Fin.give [(w,none),(eb,none),(e,none)] [] ?_ ?_ ?_ ?_ ?_ (bc ho (by simp[ba,tgt]))<;>(try simp only[aF,hw,heb,he,gi v,m1,m2,m3,m4,m5,m6,No,aa,aw,hH,au,seval])<;>(try simp only[aB])<;>(try omega)))
            | false =>
              rw[hB]at hbb
              have hr:cj W v (c+1) (some q) last en1=cj W v c (W q en1).1 y.kind (W q en1).2:=by simp[cj,hy,hB]
              rw[hr]at hinv ⊢
              have hcall:=fun (M':ah) (a1:M' w=some ⟨1,[[Pm v w eb]]⟩) (a2:M' eb=some ⟨1,[[.own e 0 v.length]]⟩) (a3:M' e=some ⟨1,en1.map bH⟩) (a4:∀ z,(M' z).isSome=true->z∈[w,eb,e]) (n:Nat) (k1:w<n) (k2:eb<n) (k3:e<n)=>ih hd0 q en1 M' n hql hl1 a1 a2 a3 a4 k1 k2 k3
              unfold Pm at hcall
              obtain⟨t1,t2⟩:=(hW hd0) q en1 hl1 |>.1
              generalize hB2:((last:Int)==2)=g2 at hbb
              generalize hB3:((y.kind:Int)==(last:Int))=g3 at hbb
              have hcs:(g2=true/\g3=false)\/g2=false:=by cases g2<;>cases g3<;>simp at hbb ⊢
              rcases hcs with ⟨rfl,rfl⟩|rfl
              all_goals (
                repeat' first|simp only[aK,aF,hd2,q0,q1,hB2,hB3,hay,aC,hql,hwd,hwk,m1,m2,m3,m4,m5,m6,mh,Lm,au,aH,seval]|exact rfl|((refine cL (caps:=?_) ?_ ?_ [w,eb,e] (hcall _ ?_ ?_ ?_ ac _ Y6 Y6 Y6) ?_ ?_);rotate_left 1)
                all_goals ((have zF:=a6 @aa @aw (gi v) hwk z0 (a9 z1 z2 z3 y0 y1 y2 y3 x0 (a9 x1 x2 x3 m1 m2 m3 m4 m5 m6));refine c7 (⟨k+1,(W q en1).1,y.kind,(W q en1).2⟩) [some w,some eb,some e] ?_ ?_))
                all_goals (first|(show m-(k+1)<c+1;omega)|exact⟨hlt,t1,fun q' hq'=>by obtain⟨_,_,_,_,_,h4,_⟩:=t2 q' hq';exact h4,by show _=cj _ _ (m-(k+1)) _ _ _;rw[hc2]⟩ ))
      · have hkm:k=m:=Y6
        subst hkm
        have hd1:=pK k k
        have hd2:decide (k<k)=false:=aL
        have hr:cj W v (k-k) next last en1=(next,en1):=by rw[YZ];rfl
        rw[hr]
        cases next with
        | none =>
          have q0:decide ((0:Int) <= -1)=false:=rfl
          repeat' first|simp only[results131,ntmps131,aF,oz,il,au,seval]
          all_goals ((refine Fin.give [(w,none),(eb,none),(e,none)] [] ?_ ?_ ?_ ?_ ?_ (bc ho (by simp[ba,tgt]))<;>(try simp only[aF,hw,heb,he,gi v,m1,m2,m3,m4,m5,m6,No,aa,aw,hH,au,seval])<;>(try simp only[aB])<;>(try omega)))
        | some q =>
          have q0:decide ((0:Int)<=(q:Int))=true:=bz
          have hset:(en1.map bH).set p [.int .i64 q]=(en1.set p q).map bH:=by rw[Y3];rfl
          have hpl:p<en1.length:=Y6
          have hgp:(en1.map bH)[p]? = some (bH (en1[p]'hpl)):=by rw[WG,AT hpl];rfl
          repeat' first|simp only[results131,ntmps131,aF,hset,hgp,bH,hp,m3,m4,m5,m6,mh,il,au,aH,seval]
          all_goals ((refine Fin.give [(w,none),(eb,none),(e,none)] [] ?_ ?_ ?_ ?_ ?_ (bc ho (by simp[ba,tgt]))<;>(try simp only[aF,hw,heb,he,gi v,m1,m2,m3,m4,m5,m6,No,aa,aw,hH,au,seval])<;>(try simp only[aB])<;>(try omega)))
  · rw[if_neg hkk]
    have hkk':okW x dz=false:=by simpa using hkk
    rw[hkk']at hkx
    generalize hB1:kf x=B1 at hmx hkx
    generalize hB2:decide (x.many<0)=B2 at hkx
    generalize hB3:((x.kind:Int)==1)=B3 at hkx
    have hB:B1=false\/(B1=true/\B2=true)\/(B1=true/\B2=false/\B3=true/\dz=true):=by cases B1<;>cases B2<;>cases B3<;>cases dz<;>simp at hkx ⊢
    clear hdz
    rcases hB with rfl|⟨rfl,rfl⟩|⟨rfl,rfl,rfl,rfl⟩
    all_goals (
      refine aG call131 func131 results131 ntmps131 ?_;intro b0 hb0 zN
      have l1:=aq hb0 hw
      have z0:=aE l1;have z1:=ak l1;have z2:=ay l1;have z3:=ae l1
      have l2:=aq hb0 heb
      have y0:=aE l2;have y1:=ak l2;have y2:=ay l2;have y3:=ae l2
      have l3:=aq hb0 he
      have x0:=aE l3;have x1:=ak l3;have x2:=ay l3;have x3:=ae l3
      (refine xN (a4 hat @aC.eq_1 b1 (a9 b2 b4 hB2 hB3 hpi w1 hw heb he)) hmx ?_)
      all_goals ((have zF:=a9 hw heb he @oz (gi v) z0 z1 z2 (a9 z3 y0 y1 y2 y3 x0 x1 x2 (a9 x3 m1 m2 m3 m4 m5 m6 @aa @aw));refine jW [(w,none),(eb,none),(e,none)] [] ho)))
def HR (v:List Nd)(hv:v.length<=512)(hok:∀ n∈v,n.okTo aN/\n.i64)(w eb e:Nat)(n1:w≠eb)(n2:w≠e)(n3:eb≠e):∀(d:Nat),d<=12 -> ∀(p:Nat) (en:ZB) (M:ah) (nm:Nat),p<v.length->en.length=v.length->M w=some ⟨1,[[Pm v w eb]]⟩->M eb=some ⟨1,[[.own e 0 v.length]]⟩->M e=some ⟨1,en.map bH⟩->(∀ z,(M z).isSome=true->z∈[w,eb,e])->w<nm->eb<nm->e<nm ->
   Ev cx 131 nm [.int .i64 p,.int .i64 (d:Int),.rp [.sl false 6 (v.map aC)],.ptr w 0 0,.ptr eb 0 0] M (.int .i64 (QZ (pU v d p en).1)) [(w,some ⟨1,[[Pm v w eb]]⟩),(eb,some ⟨1,[[.own e 0 v.length]]⟩),(e,some ⟨1,(pU v d p en).2.map bH⟩)]
 | 0,hd=>Hv v hv hok 0 hd true rfl _ (fun h=>absurd rfl h) w eb e n1 n2 n3 (fun h=>absurd rfl h)
 | d+1,hd=>Hv v hv hok (d+1) hd false ZH (pU v d) (fun _=>BF v d) w eb e n1 n2 n3 (fun _=>HR v hv hok w eb e n1 n2 n3 d Y6)
def lB:∀ q,(ah.nil q).isSome=true->q∈([]:ZB):=fun q h=>by cases h
def jw (n:Nat):zb cx.P 66 n=⟨1,(List.replicate n 0).map bH⟩:=by
 unfold zb
 rw[show cR cx.P 66=some ([.int .i64 0],8) by kernel_rfl]
 simp[bH]
def va (v:List Nd)(hv:v.length<=aN)(hok:∀ n∈v,n.okTo aN/\n.i64)(r:V)(eff:List (Nat×Option Blk))(nm:Nat)(hr:(cQ v=none/\r = .nils/\eff=[]) \/ ∃ en,cQ v=some en/\r = .own nm 0 v.length/\eff=[(nm,some ⟨1,en.map bH⟩)]) :
  Ev cx 75 nm [.sl false 6 (v.map aC)] ah.nil r eff:=by
 unfold aN at hv
 by_cases h0:v.length=0
 ·have hb:cQ v=none:=by unfold cQ;rw[if_pos (by rw[XY.1 h0];rfl)]
  have hre:r = .nils/\eff=[]:=by
   rcases hr with ⟨_,h⟩|⟨en,h,_⟩
   ·exact h
   ·rw[hb]at h;cases h
  obtain⟨rfl,rfl⟩:=hre
  have q0:((v.length:Int)==0)=true:=by rw[h0];rfl
  refine aG call75 func75 results75 ntmps75 ?_;intro b0 hb0 zN
  (have zF:=a2 q0 @aa;repeat' first|refine wS ?_|exact wE|refine gR [(1,2)] ?_|((first|apply b7|apply cM)<;>intro hb)|refine Ai Y6 ?_|(apply Ai<;>intro hb)|apply Fin.pure|simp only[aB])
 have q0:((v.length:Int)==0)=false:=If Y6
 by_cases h1:512<v.length
 ·have hb:cQ v=none:=by unfold cQ;rw[if_pos (by simp[h1])]
  have hre:r = .nils/\eff=[]:=by
   rcases hr with ⟨_,h⟩|⟨en,h,_⟩
   ·exact h
   ·rw[hb]at h;cases h
  obtain⟨rfl,rfl⟩:=hre
  have q1:decide ((512:Int)<(v.length:Int))=true:=bz
  have q2:decide (512<v.length)=true:=AI h1
  refine aG call75 func75 results75 ntmps75 ?_;intro b0 hb0 zN
  (have zF:=a4 q0 q1 q2 @aa;repeat' first|refine wS ?_|exact wE|refine gR [(1,2)] ?_|((first|apply b7|apply cM)<;>intro hb)|refine Ai Y6 ?_|(apply Ai<;>intro hb)|apply Fin.pure|simp only[aB])
 have q1:decide ((512:Int)<(v.length:Int))=false:=aL
 have q2:decide (512<v.length)=false:=WA h1
 obtain⟨x,hx⟩:∃ x,v[0]? = some x:=⟨_,AT Y6⟩
 have hat:=dv hx
 have hp0:0<v.length:=Y6
 have hpi:(0:Int)<(v.length:Int):=Y6
 by_cases hk:x.kind=1
 ·have q3:((x.kind:Int) != 1)=false:=by rw[hk];rfl
  have hbo:cQ v=IB v.length (pU v 12 0 (List.replicate v.length 0)):=by
   have hc:(v.isEmpty||decide (512<v.length) || !((v[0]?).map Nd.kind==some 1))=false:=by
    rw[q2,hx]
    simp only[Option.map_some,hk,WT,Bt,XD]
    cases v with
    | nil=>simp at h0
    | cons _ _=>rfl
   unfold cQ
   rw[if_neg (by rw[hc];simp)]
  rw[hbo]at hr
  clear hbo
  have hcall:=fun (M':ah) (n:Nat) (w eb e:Nat) (n1:w≠eb) (n2:w≠e) (n3:eb≠e) a1 a2 a3 a4 k1 k2 k3=>HR v Y6 hok w eb e n1 n2 n3 12 Y6 0 (List.replicate v.length 0) M' n hp0 ZH a1 a2 a3 a4 k1 k2 k3
  unfold Pm at hcall
  have hlen:=tn v 12 0 (List.replicate v.length 0)
  rw[Wt]at hlen
  generalize pU v 12 0 (List.replicate v.length 0)=R at hr hcall hlen
  obtain⟨o,en⟩:=R
  simp only at hcall hlen
  by_cases ho:o=some v.length
  ·subst ho
   simp only[IB,if_pos]at hr
   have hre:r = .own nm 0 v.length/\eff=[(nm,some ⟨1,en.map bH⟩)]:=by
    rcases hr with ⟨h,_⟩|⟨en',h,h2⟩
    ·cases h
    ·cases h;exact h2
   obtain⟨rfl,rfl⟩:=hre
   have q4:((v.length:Int) !=(v.length:Int))=false:=by simp
   have q5:=mh v.length
   refine mW rfl call75 func75 rfl mixed (by kernel_rfl) rfl ?_;intro b0 hb0;have zN:=Ai results75 ntmps75
   (have zF:=trivial;repeat' first|refine wS ?_|exact wE|refine gR [(1,2)] ?_|((first|apply b7|apply cM)<;>intro hb)|refine Ai Y6 ?_|(apply Ai<;>intro hb))
   (refine nb qc (b0+16) ([(1,.rp [.sl false 6 (v.map aC)]),(2,.nils)]) ([]) [] ?_ ?_ ?_;(focus (show b0<=_;omega));(focus (refine⟨?_,?_⟩<;>(try simp only[bL,aa,au,aH,aB,seval])<;>(try omega))))
   repeat' first|simp only[cC,aK,results75,ntmps75,aF,q0,q1,q2,q3,q4,q5,hat,aC,hp0,hpi,jw,aa,aw,Wt,Bt,Bf,Lm,au,aH,seval]|exact rfl|refine ao (v:=.any) ?_|((refine cL (caps:=?_) ?_ ?_ [b0+336,b0+304,b0+288] (hcall _ _ (b0+336) (b0+304) (b0+288) Y6 Y6 Y6 ?_ ?_ ?_ ac Y6 Y6 Y6) ?_ ?_);rotate_left 1)|(refine CB (n:=?_) (c:=?_) (kx:=?_) (ky:=?_) ?_ ?_ ?_ ?_ ?_ ?_;rotate_left 4;(iterate 2 (focus (simp only[results75,ntmps75,aF,q0,q1,q2,q3,q4,q5,hat,aC,hp0,hpi,jw,aa,aw,Wt,Bt,Bf,Lm,au,aH,seval]<;>exact rfl)));(iterate 2 (focus (simp only[results75,ntmps75,aF,q0,q1,q2,q3,q4,q5,hat,aC,hp0,hpi,jw,aa,aw,Wt,Bt,Bf,Lm,au,aH,seval]<;>omega)));(focus (simp only[v9,results75,ntmps75,aF,q0,q1,q2,q3,q4,q5,hat,aC,hp0,hpi,jw,aa,aw,Wt,Bt,Bf,Lm,au,aH,seval]<;>omega)))|refine im ?_|refine gY ?_|refine jd (ps:=[(1,2)])  ZJ  (by simp only[XX,W5,W9,results75,ntmps75,aF,q0,q1,q2,q3,q4,q5,hat,aC,hp0,hpi,jw,aa,aw,Wt,Bt,Bf,Lm,au,aH,seval]<;>(try simp)<;>(try omega)) ?_|refine bm  ZJ  ?_|((first|apply b7|apply cM)<;>intro hb)|refine Ai Y6 ?_|(apply Ai<;>intro hb)
   all_goals ((have zF:=a2 hlen @aw;refine jW [(b0+288,some 0)] [] lB))
  ·have hre:r = .nils/\eff=[]:=by
    rcases hr with ⟨_,h⟩|⟨en',h,h2⟩
    ·exact h
    ·cases o with
     | none=>cases h
     | some e =>
      simp only[IB]at h
      split at h
      ·rename_i he;exact absurd (by rw[he]) ho
      ·cases h
   obtain⟨rfl,rfl⟩:=hre
   have q4:(QZ o !=(v.length:Int))=true:=by
    cases o with
    | none=>simp only[QZ,Yq,ne_eq];omega
    | some e =>
     have:e≠v.length:=fun h=>ho (by rw[h])
     simp only[QZ,Yq,ne_eq];omega
   have q5:True:=trivial
   refine mW rfl call75 func75 rfl mixed (by kernel_rfl) rfl ?_;intro b0 hb0;have zN:=Ai results75 ntmps75
   (have zF:=trivial;repeat' first|refine wS ?_|exact wE|refine gR [(1,2)] ?_|((first|apply b7|apply cM)<;>intro hb)|refine Ai Y6 ?_|(apply Ai<;>intro hb))
   (refine nb qc (b0+16) ([(1,.rp [.sl false 6 (v.map aC)]),(2,.nils)]) ([]) [] ?_ ?_ ?_;(focus (show b0<=_;omega));(focus (refine⟨?_,?_⟩<;>(try simp only[bL,aa,au,aH,aB,seval])<;>(try omega))))
   repeat' first|simp only[cC,aK,results75,ntmps75,aF,q0,q1,q2,q3,q4,q5,hat,aC,hp0,hpi,jw,aa,aw,Wt,Bt,Bf,Lm,au,aH,seval]|exact rfl|refine ao (v:=.any) ?_|((refine cL (caps:=?_) ?_ ?_ [b0+336,b0+304,b0+288] (hcall _ _ (b0+336) (b0+304) (b0+288) Y6 Y6 Y6 ?_ ?_ ?_ ac Y6 Y6 Y6) ?_ ?_);rotate_left 1)|(refine CB (n:=?_) (c:=?_) (kx:=?_) (ky:=?_) ?_ ?_ ?_ ?_ ?_ ?_;rotate_left 4;(iterate 2 (focus (simp only[results75,ntmps75,aF,q0,q1,q2,q3,q4,q5,hat,aC,hp0,hpi,jw,aa,aw,Wt,Bt,Bf,Lm,au,aH,seval]<;>exact rfl)));(iterate 2 (focus (simp only[results75,ntmps75,aF,q0,q1,q2,q3,q4,q5,hat,aC,hp0,hpi,jw,aa,aw,Wt,Bt,Bf,Lm,au,aH,seval]<;>omega)));(focus (simp only[v9,results75,ntmps75,aF,q0,q1,q2,q3,q4,q5,hat,aC,hp0,hpi,jw,aa,aw,Wt,Bt,Bf,Lm,au,aH,seval]<;>omega)))|refine im ?_|refine gY ?_|refine jd (ps:=[(1,2)])  ZJ  (by simp only[XX,W5,W9,results75,ntmps75,aF,q0,q1,q2,q3,q4,q5,hat,aC,hp0,hpi,jw,aa,aw,Wt,Bt,Bf,Lm,au,aH,seval]<;>(try simp)<;>(try omega)) ?_|refine bm  ZJ  ?_|((first|apply b7|apply cM)<;>intro hb)|refine Ai Y6 ?_|(apply Ai<;>intro hb)
   all_goals ((apply Fin.pure<;>simp only[Lm,results75,ntmps75,au,aH,seval]))
 ·have hb:cQ v=none:=by
   unfold cQ
   rw[if_pos (by rw[hx];simp[hk])]
  have hre:r = .nils/\eff=[]:=by
   rcases hr with ⟨_,h⟩|⟨en,h,_⟩
   ·exact h
   ·rw[hb]at h;cases h
  obtain⟨rfl,rfl⟩:=hre
  have q3:((x.kind:Int) != 1)=true:=by simp;omega
  refine aG call75 func75 results75 ntmps75 ?_;intro b0 hb0 zN
  (have zF:=a9 q0 q1 q2 q3 hat @aC.eq_1 hp0 hpi @aa;repeat' first|refine wS ?_|exact wE|refine gR [(1,2)] ?_|((first|apply b7|apply cM)<;>intro hb)|refine Ai Y6 ?_|(apply Ai<;>intro hb)|apply Fin.pure|simp only[aB])
def nN (v:List Nd)(hv:v.length<=aN)(hok:∀ n∈v,n.okTo aN/\n.i64)(h:cQ v=none)(nm:Nat):Ev cx 75 nm [.sl false 6 (v.map aC)] ah.nil .nils [] :=
 va v hv hok .nils [] nm (.inl ⟨h,rfl,rfl⟩)
def nO (v:List Nd)(hv:v.length<=aN)(hok:∀ n∈v,n.okTo aN/\n.i64){en:ZB}(h:cQ v=some en)(nm:Nat):Ev cx 75 nm [.sl false 6 (v.map aC)] ah.nil (.own nm 0 v.length) [(nm,some ⟨1,en.map bH⟩)] :=
 va v hv hok _ _ nm (.inr ⟨en,h,rfl,rfl⟩)
def dN (v:List Nd):Int:=if (cQ v).isNone=true then 8 else 0
def Qg {v:List Nd}{en:ZB}(h:cQ v=some en):en.length=v.length/\0<v.length/\v.length<=512 /\ ∀ i e,en[i]? = some e->i<e/\e<=v.length:=by
 obtain⟨n,k,h1,h2,h3,h4,h5⟩:=mR.1 h
 have hl:v.length=k.size+1:=by rw[h2];simp[Fo.flat_length]
 have he:en=(Fo.cons n k .nil).ends 0:=by rw[h5];simp[Fo.ends]
 refine⟨by rw[h5];simp[Fo.ends_length,hl],by omega,h4,fun i e hi=>?_⟩
 rw[he]at hi
 have:=Av _ _ _ _ hi
 simp only[Fo.size]at this
 omega
def sk (v:List Nd)(hv:v.length<=aN)(hok:∀ n∈v,n.okTo aN/\n.i64)(nm:Nat):Ev cx 51 nm [.sl false 6 (v.map aC)] ah.nil (.int .i64 (dN v)) []:=by
 unfold dN
 cases h:cQ v with
 | none =>
  have hb:=nN v hv hok h
  refine aG call51 func51 results51 ntmps51 ?_;intro b0 hb0 zN
  (have zF:=@aa;have cF:=hb;repeat' first|refine wS ?_|exact wE|((first|apply b7|apply cM)<;>intro hb)|refine Ai Y6 ?_|(apply Ai<;>intro hb)|apply Fin.pure|simp only[aB])
 | some en =>
  have hb:=nO v hv hok h
  have h0:decide (v.length=0)=false:=WA (by have:=(Qg h).2.1;omega)
  refine aG call51 func51 results51 ntmps51 ?_;intro b0 hb0 zN
  (have zF:=a3 @aa @aw h0;repeat' first|refine wS ?_|exact wE|refine ag wH (hb _) cX ?_|((first|apply b7|apply cM)<;>intro hb)|refine Ai Y6 ?_|(apply Ai<;>intro hb))
  all_goals (first|(cases hb;done)|((apply Fin.pure<;>simp only[Option.isNone_some,WH,WS,aa,results51,ntmps51,au,aH,seval])))
def Q5 (l:List At):((l.map bi).all fun r=>r.all V.one)=true:=by
 rw[Y2,WI];intro a _;rfl
def Bb (l:List Nd):((l.map aC).all fun r=>r.all V.one)=true:=by
 rw[Y2,WI];intro a _;rfl
def ia {n:Nd}(h:kf n=true):n.attrs.length<=16/\n.text.length<=16384:=by
 rcases iA h with hk|hk
 ·obtain⟨h1,_,_,h4⟩:=zd h hk
  exact⟨(qN.1 h4).1,by rw[h1];simp⟩
 ·obtain⟨_,_,h3,_,_,h6⟩:=ji h hk
  exact⟨by rw[h3];simp,qB h6⟩
def HM (a:At)(nm:Nat):Ev cx 78 nm [.agg (bi a)] ah.nil (.bool (!a.space.isEmpty)) []:=by
 refine aG call78 func78 results78 ntmps78 ?_;intro b0 hb0 zN
 exact xP (a2 @bi.eq_1 @qR) trivial
def uK (P:Nd->Fo->Prop):Fo->Prop
 | .nil=>True
 | .cons n k r=>P n k/\uK P r
def Ud (v:List Nd)(en:ZB)(sp lb pb:Nat):V:=.fn 76 [.rp [.sl false 6 (v.map aC)],.ptr sp 0 0,.ptr lb 0 0,.rp [.sl false 1 (en.map bH)],.ptr pb 0 0]
def yp (v:List Nd)(en:ZB)(sp lb pb:Nat)(n:Nd)(k:Fo):Prop :=
  ∀(p:Nat) (r:List Nd) (er:ZB) (L:List Tk) (s:Bool) (lk:Nat) (M:ah) (nm:Nat),v.drop p=n::(k.flat++r)->en.drop p=(p+1+k.size)::(k.ends (p+1)++er)->L.length+(Fo.cons n k .nil).toks.length<=2000 ->
    sp≠lk->lb≠lk->pb≠lk->M sp=some ⟨1,[[.bool s]]⟩->M lb=some ⟨1,[[.own lk 0 L.length]]⟩->M lk=some ⟨4,L.map aY⟩->M pb=some ⟨1,[[Ud v en sp lb pb]]⟩->(∀ z,(M z).isSome=true->z∈[sp,lb,lk,pb])->sp<nm->lb<nm->lk<nm->pb<nm ->
    Ev cx 76 nm [.int .i64 p,.rp [.sl false 6 (v.map aC)],.ptr sp 0 0,.ptr lb 0 0,.rp [.sl false 1 (en.map bH)],.ptr pb 0 0] M (.tup [])
      [(lk,none),(sp,some ⟨1,[[.bool (s||bj (n::k.flat))]]⟩),(lb,some ⟨1,[[.own nm 0 (L++(Fo.cons n k .nil).toks).length]]⟩),(pb,some ⟨1,[[Ud v en sp lb pb]]⟩),(nm,some ⟨4,(L++(Fo.cons n k .nil).toks).map aY⟩)]
structure TkSt where
 R:Fo
 q:Nat
 L:List Tk
 s:Bool
def uI (l:List Tk)(t:Tk):l.map aY++[aY t]=(l++[t]).map aY:=by simp
def wq {l:List At}{k:Nat}{a:At}(h:l[k]? = some a):(aV (l.take k)).map cZ++[[.str a.name,.str a.value]]=(aV (l.take (k+1))).map cZ:=by
 obtain⟨hk,rfl⟩:=AS.1 h
 unfold aV
 rw[WF hk,WM,WM];rfl
def wr:aV []=[]:=rfl
def mn (l:List At):(aV l).length=l.length:=by simp[aV]
def G6 {en:ZB}{p e:Nat}{r:ZB}(h:en.drop p=e::r):(en.map bH)[p]? = some (bH e)/\p<en.length:=by
 have h1:en[p]? = some e:=by have:=congrArg (·[0]?) h;simpa using this
 exact⟨by rw[WG,h1];rfl,(AS.1 h1).1⟩
def NL (v:List Nd)(hv:v.length<=512)(en:ZB)(sp lb pb:Nat)(d1:sp≠lb)(d2:sp≠pb)(d3:lb≠pb)(n:Nd)(k:Fo)(hn:n.okTo aN)(hk:n.kind=2)(hk0:k = .nil):yp v en sp lb pb n k:=by
 subst hk0
 intro p r er L s lk M nm hvd hed hL e1 e2 e3 hsp hlb hlk hpb ho l1 l2 l3 l4
 obtain⟨hx,_,hp⟩:=fC hvd
 have hat:=dv hx
 have hpi:=lV p v.length
 have hkb:((n.kind:Int)==2)=true:=by rw[hk];rfl
 have hco:=eP n.attrs 78 [] (fun a=>!a.space.isEmpty) (fun a _ nm=>HM a nm) hn.1 rfl
 have htk:(Fo.cons n .nil .nil).toks=[⟨4,[],[],n.text⟩]:=by simp[Fo.toks,hk]
 have hss:(s||bj (n::Fo.nil.flat))=((s || !n.space.isEmpty)||n.attrs.any fun a=>!a.space.isEmpty):=by simp[bj,fH,Fo.flat,YK]
 rw[htk]at hL ⊢
 rw[hss]
 have hLn:L.length<=2000:=by simp at hL;omega
 generalize (n.attrs.any fun a=>!a.space.isEmpty)=B at hco ⊢
 have hsn:=uI L ⟨4,[],[],n.text⟩
 have hll:(L++[(⟨4,[],[],n.text⟩:Tk)]).length=L.length+1:=by simp
 rw[<- hsn,hll]
 refine Ev.last_le (eff:=[(lk,none),(sp,_),(lb,_),(pb,_)]) (k:=⟨4,L.map aY++[[.int .u8 4,.str [],.nils,.str n.text]]⟩) ?_ ⟨rfl,.inl rfl,lu (by rw[show aY ⟨4,[],[],n.text⟩=[.int .u8 4,.str [],.sl false 2 [],.str n.text] from rfl];simp only[cS,dQ,jh,vW,bR,iP,XJ])⟩
 have g1:(nm=sp)=False:=IT Y6;have g2:(nm=lb)=False:=IT Y6;have g3:(nm=pb)=False:=IT Y6
 unfold Ud at hpb ⊢
 simp only[List.cons_append,List.nil_append]
 have n1:=IT d1;have n2:=IT d2;have n3:=IT d3;have n4:=IT e1;have n5:=IT e2;have n6:=IT e3
 have n7:=IT (WU d1);have n8:=IT (WU d2);have n9:=IT (WU d3);have o4:=IT (WU e1);have o5:=IT (WU e2);have o6:=IT (WU e3)
 refine aG call76 func76 results76 ntmps76 ?_;intro b0 hb0 zN
 have k1:=aq hb0 hsp
 have k2:=aq hb0 hlb
 have k3:=aq hb0 hlk
 have k4:=aq hb0 hpb
 have z0:=aE k1;have z1:=ak k1;have z2:=ay k1;have z3:=ae k1
 have y0:=aE k2;have y1:=ak k2;have y2:=ay k2;have y3:=ae k2
 have x0:=aE k3;have x1:=ak k3;have x2:=ay k3;have x3:=ae k3
 have w0:=aE k4;have w1:=ak k4;have w2:=ay k4;have w3:=ae k4
 repeat' first|simp only[results76,ntmps76,aF,hat,aC,hkb,hp,qR,hsp,hlb,hlk,n5,n7,o4,z1,z3,y1,x1,Lo,Lm,au,aH,seval]|(refine ai ?_ (fun _=>hco _) ?_) | refine Ai Y6 ?_
 all_goals ((refine Fin.give [(sp,none),(lb,none),(pb,none),(b0+416,some 0)] [lk] ?_ ?_ ?_ ?_ ?_ (bc ho (by simp[ba,tgt]))<;>(try simp only[aF,hsp,hlb,hpb,g1,g2,g3,aa,aw,ax,aM,Lo,n1,n2,n3,n4,n5,n6,n7,n8,n9,z1,z3,y1,y3,x3,w1,w3,No,hH,au,seval])<;>(try simp only[aB])<;>(try omega)))
def NJ (v:List Nd)(hv:v.length<=512)(en:ZB)(hen:en.length=v.length)(sp lb pb:Nat)(d1:sp≠lb)(d2:sp≠pb)(d3:lb≠pb)(n:Nd)(k:Fo)(hn:n.okTo aN)(ha16:n.attrs.length<=16)(hk:n.kind≠2)(hm:n.many=(k.count:Int))(ih:uK (yp v en sp lb pb) k):yp v en sp lb pb n k:=by
 intro p r er L s lk M nm hvd hed hL e1 e2 e3 hsp hlb hlk hpb ho l1 l2 l3 l4
 obtain⟨hx,hvd1,hp⟩:=fC hvd
 have hat:=dv hx
 have hpi:=lV p v.length
 have hkb:((n.kind:Int)==2)=false:=If Y6
 obtain⟨heat,hpe⟩:=G6 hed
 have hco:=eP n.attrs 78 [] (fun a=>!a.space.isEmpty) (fun a _ nm=>HM a nm) hn.1 rfl
 have hss:(s||bj (n::k.flat))=(((s || !n.space.isEmpty)||n.attrs.any fun a=>!a.space.isEmpty)||bj k.flat):=by simp[bj,fH,YK]
 rw[hss]
 clear hss
 have hLn:L.length<=2000:=Y6
 generalize hs1:(n.attrs.any fun a=>!a.space.isEmpty)=B at hco ⊢
 generalize hs2:((s || !n.space.isEmpty)||B)=S1
 have hw1:=eX p
 have n1:=IT d1;have n2:=IT d2;have n3:=IT d3;have n4:=IT e1;have n5:=IT e2;have n6:=IT e3
 have n7:=IT (WU d1);have n8:=IT (WU d2);have n9:=IT (WU d3);have o4:=IT (WU e1);have o5:=IT (WU e2);have o6:=IT (WU e3)
 obtain⟨RAW,hr0,hr1,hrl⟩:∃ RAW:List (List V),(k.count=0->RAW=(L++(Fo.cons n k .nil).toks).map aY)/\(k.count≠0->RAW=(L++⟨1,n.name,aV n.attrs,[]⟩::k.toks).map aY++[[.int .u8 2,.str n.name,.nils,.str []]])/\iP RAW ((L++(Fo.cons n k .nil).toks).map aY):=by
  by_cases hk0:k.count=0
  ·exact⟨_,fun _=>rfl,fun h=>absurd hk0 h,iz _⟩
  ·refine⟨_,fun h=>absurd h hk0,fun _=>rfl,?_⟩
   have hm0:¬ n.many=0:=by rw[hm];simpa using hk0
   have htk:(Fo.cons n k .nil).toks=⟨1,n.name,aV n.attrs,[]⟩::(k.toks++[⟨2,n.name,[],[]⟩]):=by simp[Fo.toks,hk,hm0]
   rw[htk,show L++⟨1,n.name,aV n.attrs,[]⟩::(k.toks++[⟨2,n.name,[],[]⟩])=(L++⟨1,n.name,aV n.attrs,[]⟩::k.toks)++[⟨2,n.name,[],[]⟩] by simp,<- uI]
   refine lu ?_
   rw[show aY ⟨2,n.name,[],[]⟩=[.int .u8 2,.str n.name,.sl false 2 [],.str []] from rfl]
   simp only[cS,dQ,jh,vW,bR,iP,XJ]
 refine Ev.last_le (eff:=[(lk,none),(sp,_),(lb,_),(pb,_)]) (k:=⟨4,RAW⟩) ?_ ⟨rfl,.inl rfl,hrl⟩
 clear hrl
 simp only[List.cons_append,List.nil_append]
 unfold Ud at hpb ⊢
 refine mW rfl call76 func76 rfl mixed (by kernel_rfl) rfl ?_;intro b0 hb0;have zN:=Ai results76 ntmps76
 have k1:=aq hb0 hsp
 have k2:=aq hb0 hlb
 have k3:=aq hb0 hlk
 have k4:=aq hb0 hpb
 have z0:=aE k1;have z1:=ak k1;have z2:=ay k1;have z3:=ae k1
 have y0:=aE k2;have y1:=ak k2;have y2:=ay k2;have y3:=ae k2
 have x0:=aE k3;have x1:=ak k3;have x2:=ay k3;have x3:=ae k3
 have w0:=aE k4;have w1:=ak k4;have w2:=ay k4;have w3:=ae k4
 repeat' first|simp only[aF,hat,aC,hkb,hp,qR,hs2,hsp,z1,z3,Lo,Lm,au,aH,seval]|refine ai ?_ (fun _=>hco _) ?_|refine eI ?_
 (refine v8 (fun x:Nat=>n.attrs.length-x) (fun x=>x<=n.attrs.length) (b0+16) (fun x=>[(0,.int .i64 p),(3,.ptr lb 0 0),(4,.rp [.sl false 1 (en.map bH)]),(5,.ptr pb 0 0),(2,.ptr sp 0 0),(7,.ptr b0 0 0),(8,.ptr (b0+1) 0 0),(40,.sl false 3 (n.attrs.map bi)),(41,.int .i64 n.attrs.length),(42,.int .i64 x)]) (fun x=>[(b0,⟨6,[aC n]⟩),(b0+1,⟨4,[[.int .u8 3,.str n.name,.own (b0+2) 0 x,.str []]]⟩),(b0+2,⟨2,(aV (n.attrs.take x)).map cZ⟩),(sp,⟨1,[[.bool S1]]⟩),(lb,⟨1,[[.own lk 0 L.length]]⟩),(lk,⟨4,L.map aY⟩),(pb,⟨1,[[.fn 76 [.rp [.sl false 6 (v.map aC)],.ptr sp 0 0,.ptr lb 0 0,.rp [.sl false 1 (en.map bH)],.ptr pb 0 0]]]⟩)]) (0) [some (b0+64),some (b0+384),none,some sp,some lb,some lk,some pb] ?_ ?_ ?_;(focus (refine⟨?_,?_⟩<;>(try simp only[bL,aa,aw,aj,ax,wr,List.take_zero,Lo,am,aC,hsp,hlb,hlk,hpb,n1,n2,n3,n4,n5,n6,n7,n8,n9,o4,o5,o6,z0,z1,z3,y0,y1,y3,x0,x1,x3,w0,w1,w3,No,Wm,au,aB,seval])<;>(try omega))))
 ·exact WB _
 ·intro i hi
  by_cases hlt:i<n.attrs.length
  ·obtain⟨a,ha⟩:=js hlt
   have haa:=iG ha
   have q1:=AW i n.attrs.length
   have q2:=AI hlt
   have hwk:=eX i
   have hpl:((aV (n.attrs.take i)).map cZ).length=i:=by rw[Lm,mn,WK];omega
   have hpl2:(aV (n.attrs.take i)).length=i:=by rw[mn,WK];omega
   have htk:((aV (n.attrs.take i)).map cZ).take i=(aV (n.attrs.take i)).map cZ:=IN Y6
   have hsn:=wq ha
   repeat' first|simp only[aF,haa,bi,hlt,hwk,htk,hsn,hpl,z3,y3,x3,w3,Lm,au,aH,seval] | refine Ai Y6 ?_
   all_goals ((refine pX (i+1) [some b0,some (b0+1),some (b0+224),some sp,some lb,some lk,some pb] ?_ ?_ ?_;(focus (refine⟨?_,?_⟩<;>(try simp only[bL,aC,aa,aw,aA,aj,ax,n1,n2,n3,n4,n5,n6,n7,n8,n9,o4,o5,o6,z0,z1,z2,z3,y0,y1,y2,y3,x0,x1,x2,x3,w0,w1,w2,w3,No,Wm,au,aB,seval])<;>(try omega)))))
   all_goals (first|(show n.attrs.length-(i+1)<n.attrs.length-i;omega)|exact hlt)
  ·have hie:i=n.attrs.length:=Y6
   subst hie
   have q1:=pK n.attrs.length n.attrs.length
   have q2:decide (n.attrs.length<n.attrs.length)=false:=aL
   have hpl:(aV n.attrs).length=n.attrs.length:=mn _
   have htk:((aV n.attrs).map cZ).take n.attrs.length=(aV n.attrs).map cZ:=IN (by rw[Lm,hpl];omega)
   (refine xR (a2 q1 q2) trivial ?_)
   (refine Dp qc (b0+16) ([(0,.int .i64 p),(3,.ptr lb 0 0),(4,.rp [.sl false 1 (en.map bH)]),(5,.ptr pb 0 0),(7,.ptr b0 0 0),(8,.ptr (b0+1) 0 0)]) ([(b0,⟨6,[aC n]⟩),(b0+1,⟨4,[aY ⟨3,n.name,aV n.attrs,[]⟩]⟩),(sp,⟨1,[[.bool S1]]⟩),(lb,⟨1,[[.own lk 0 L.length]]⟩),(lk,⟨4,L.map aY⟩),(pb,⟨1,[[.fn 76 [.rp [.sl false 6 (v.map aC)],.ptr sp 0 0,.ptr lb 0 0,.rp [.sl false 1 (en.map bH)],.ptr pb 0 0]]]⟩)]) [some b0,some (b0+1),some sp,some lb,some lk,some pb] ?_ ?_ ?_;(focus (show b0<=_;omega));(focus (refine⟨?_,?_⟩<;>(try simp only[bL,kD,htk,hpl,aY,aC,aa,aw,aA,aj,ax,am,n1,n2,n3,n4,n5,n6,n7,n8,n9,o4,o5,o6,z0,z1,z2,z3,y0,y1,y2,y3,x0,x1,x2,x3,w0,w1,w2,w3,No,Wm,Lm,au,aB,seval])<;>(try omega))))
   have g1:(nm=sp)=False:=IT Y6;have g2:(nm=lb)=False:=IT Y6;have g3:(nm=pb)=False:=IT Y6
   have h3b:aY ⟨3,n.name,aV n.attrs,[]⟩=[.int .u8 3,.str n.name,.sl false 2 ((aV n.attrs).map cZ),.str []]:=rfl
   have h1b:aY ⟨1,n.name,aV n.attrs,[]⟩=[.int .u8 1,.str n.name,.sl false 2 ((aV n.attrs).map cZ),.str []]:=rfl
   by_cases hk0:k.count=0
   ·have hkz:(n.many==0)=true:=by rw[hm,hk0];rfl
    have hkn:k = .nil:=by
     cases k with
     | nil=>rfl
     | cons _ _ _=>simp[Fo.count]at hk0
    subst hkn
    have hm0:n.many=0:=by rw[hm,hk0];rfl
    have htk:(Fo.cons n .nil .nil).toks=[⟨3,n.name,aV n.attrs,[]⟩]:=by simp[Fo.toks,hk,hm0]
    rw[hr0 hk0,htk]
    have hsn:=uI L ⟨3,n.name,aV n.attrs,[]⟩
    have hll:(L++[(⟨3,n.name,aV n.attrs,[]⟩:Tk)]).length=L.length+1:=by simp
    have hsz:bj Fo.nil.flat=false:=rfl
    rw[<- hsn,hll,hsz,XD,h3b]
    repeat' first|simp only[results76,ntmps76,aF,hkz,aC,n3,n5,n7,o4,o5,o6,z2,z3,y0,y1,y2,y3,x0,x1,x2,x3,w2,w3,Lm,au,aH,seval] | refine Ai Y6 ?_
    all_goals ((refine Fin.give [(sp,none),(lb,none),(pb,none),(b0+112,some 0)] [lk] ?_ ?_ ?_ ?_ ?_ (bc ho (by simp[ba,tgt]))<;>(try simp only[aF,hsp,hlb,hpb,g1,g2,g3,aa,aw,ax,aA,aM,n1,n2,n3,n4,n5,n6,n7,n8,n9,z0,z1,z3,y0,y1,y3,x3,w0,w1,w3,No,hH,au,seval])<;>(try simp only[aB])<;>(try omega)))
   ·have hkz:(n.many==0)=false:=by rw[hm];simp;exact hk0
    have hm0:¬ n.many=0:=by rw[hm];simpa using hk0
    have htk:(Fo.cons n k .nil).toks=⟨1,n.name,aV n.attrs,[]⟩::(k.toks++[⟨2,n.name,[],[]⟩]):=by simp[Fo.toks,hk,hm0]
    rw[htk]at hL ⊢
    have hL3:L.length+k.toks.length+2<=2000:=by simp at hL;omega
    have hfin:L++⟨1,n.name,aV n.attrs,[]⟩::(k.toks++[⟨2,n.name,[],[]⟩])=(L++⟨1,n.name,aV n.attrs,[]⟩::k.toks)++[⟨2,n.name,[],[]⟩]:=by simp
    rw[hr1 hk0,hfin,List.length_append]
    clear hr0 hr1
    have hsn:=uI L ⟨1,n.name,aV n.attrs,[]⟩
    have hll:(L++[(⟨1,n.name,aV n.attrs,[]⟩:Tk)]).length=L.length+1:=by simp
    rw[h1b]at hsn
    have hstp:∀(P:Prop),P->P:=fun _ h=>h
    obtain⟨hev1,hev2⟩:v.drop (p+1)=k.flat++r/\en.drop (p+1)=k.ends (p+1)++er:=by
     refine⟨hvd1,?_⟩
     have:=congrArg (List.drop 1) hed
     rw[List.drop_drop]at this;simpa using this
    repeat' first|simp only[aF,hkz,aC,h3b,hsn,hw1,n3,n5,n7,o4,o5,o6,z2,z3,y0,y1,y2,y3,x0,x1,x2,x3,w2,w3,Lm,au,aH,seval] | refine Ai Y6 ?_
    (refine v8 (fun x:TkSt=>x.R.size) (fun x=>uK (yp v en sp lb pb) x.R/\(∃ r',v.drop x.q=x.R.flat++r')/\(∃ er',en.drop x.q=x.R.ends x.q++er')/\x.q+x.R.size=p+1+k.size/\x.L++x.R.toks=L++⟨1,n.name,aV n.attrs,[]⟩::k.toks/\(x.s||bj x.R.flat)=(S1||bj k.flat)) (b0+16) (fun x=>[(0,.int .i64 p),(3,.ptr lb 0 0),(4,.rp [.sl false 1 (en.map bH)]),(5,.ptr pb 0 0),(7,.ptr b0 0 0),(11,.int .i64 x.q)]) (fun x=>[(b0,⟨6,[aC n]⟩),(sp,⟨1,[[.bool x.s]]⟩),(lb,⟨1,[[.own (b0+1) 0 x.L.length]]⟩),(b0+1,⟨4,x.L.map aY⟩),(pb,⟨1,[[.fn 76 [.rp [.sl false 6 (v.map aC)],.ptr sp 0 0,.ptr lb 0 0,.rp [.sl false 1 (en.map bH)],.ptr pb 0 0]]]⟩)]) (⟨k,p+1,L++[⟨1,n.name,aV n.attrs,[]⟩],S1⟩) [some b0,some sp,some lb,some (b0+144),some pb] ?_ ?_ ?_;(focus (refine⟨?_,?_⟩<;>(try simp only[bL,hll,aC,aa,aw,aj,ax,n1,n2,n3,n4,n5,n6,n7,n8,n9,z0,z1,z2,z3,y0,y1,y2,y3,x2,x3,w0,w1,w2,w3,No,Wm,au,aB,seval])<;>(try omega))))
    ·exact⟨ih,⟨r,hev1⟩,⟨er,hev2⟩,rfl,by simp,rfl⟩
    ·rintro ⟨R,q,Lx,sx⟩ ⟨g1',⟨r',g2'⟩,⟨er',g3'⟩,g4',g5',g6'⟩
     dsimp only at g1' g2' g3' g4' g5' g6' ⊢
     cases R with
     | nil =>
      simp only[Fo.size,Nat.add_zero]at g4'
      subst g4'
      simp only[Fo.toks,WR]at g5'
      have hsz:bj Fo.nil.flat=false:=rfl
      rw[hsz,XD]at g6'
      rw[<- g5',<- g6']
      have q1:decide (((p+1+k.size:Nat):Int)<((p+1+k.size:Nat):Int))=false:=aL
      have q2:decide (p+(1+k.size)<p+(1+k.size))=false:=aL
      have hLx:Lx.length<=2001:=by rw[g5'];simp;omega
      repeat' first|simp only[results76,ntmps76,aF,heat,bH,hpe,aC,n3,n7,z2,z3,y0,y1,y2,y3,w2,w3,Lm,au,aH,seval] | refine Ai Y6 ?_
      all_goals ((refine Fin.give [(sp,none),(lb,none),(pb,none),(b0+192,some 0)] [lk] ?_ ?_ ?_ ?_ ?_ (bc ho (by simp[ba,tgt]))<;>(try simp only[aF,hsp,hlb,hpb,g1,g2,g3,aa,aw,ax,aM,n1,n2,n3,n7,n8,n9,z0,z1,z3,y0,y1,y3,w0,w1,w3,No,hH,au,seval])<;>(try simp only[aB])<;>(try omega)))
     | cons u2 j2 R2 =>
      obtain⟨hp2,hr2⟩:=g1'
      have hd2:v.drop q=u2::(j2.flat++(R2.flat++r')):=by rw[g2'];simp[Fo.flat]
      have he2:en.drop q=(q+1+j2.size)::(j2.ends (q+1)++(R2.ends (q+1+j2.size)++er')):=by rw[g3'];simp[Fo.ends]
      have htk2:(Fo.cons u2 j2 R2).toks=(Fo.cons u2 j2 .nil).toks++R2.toks:=by simp[Fo.toks]
      have hsp2:bj (Fo.cons u2 j2 R2).flat=(bj (u2::j2.flat)||bj R2.flat):=by simp[bj,Fo.flat,YK]
      rw[htk2,<- WV]at g5'
      rw[hsp2,<- YK]at g6'
      simp only[Fo.size]at g4'
      have hlen5:=congrArg List.length g5'
      simp only[List.length_append,List.length_cons]at hlen5
      obtain⟨heat2,hqe⟩:=G6 he2
      have q1:decide ((q:Int)<((p+1+k.size:Nat):Int))=true:=bz
      have q2:decide (q<p+(1+k.size))=true:=bz
      have hcall:=fun (M':ah) a1 a2 a3 a4 a5 (m:Nat) l1 l2 l3 l4=>hp2 q (R2.flat++r') (R2.ends (q+1+j2.size)++er') Lx sx (b0+1) M' m hd2 he2 Y6 Y6 Y6 Y6 a1 a2 a3 a4 a5 l1 l2 l3 l4
      unfold Ud at hcall
      have hd2':v.drop (q+1+j2.size)=R2.flat++r':=by
       have:=oY (v:=v) (p:=q) (a:=u2::j2.flat) (r:=R2.flat++r') (by rw[hd2];simp)
       rw[List.length_cons,Fo.flat_length]at this
       rw[show q+1+j2.size=q+(j2.size+1) by omega];exact this
      have he2':en.drop (q+1+j2.size)=R2.ends (q+1+j2.size)++er':=by
       have:=congrArg (List.drop (1+j2.size)) he2
       rw[List.drop_drop]at this
       rw[show q+1+j2.size=q+(1+j2.size) by omega,this,show 1+j2.size=(j2.ends (q+1)).length+1 by rw[Fo.ends_length];omega,WN,XT]
       rw[show q+((j2.ends (q+1)).length+1)=q+1+j2.size by rw[Fo.ends_length];omega]
      generalize hT:Lx++(Fo.cons u2 j2 .nil).toks=T at hcall g5'
      generalize hS:(sx||bj (u2::j2.flat))=S2 at hcall g6'
      repeat' first|simp only[aK,aF,q2,heat,heat2,bH,hpe,hqe,aC,aD,n1,n2,n3,n7,n8,n9,z0,z1,z3,y0,y1,y3,w0,w1,w3,Lm,au,aH,seval]|exact rfl|((refine cL (caps:=?_) ?_ ?_ [sp,lb,b0+1,pb] (hcall _ ?_ ?_ ?_ ?_ ac _ Y6 Y6 Y6 Y6) ?_ ?_);rotate_left 1)
      all_goals ((refine pX (TkSt.mk R2 (q+1+j2.size) T S2) [some b0,some sp,some lb,some (b0+144),some pb] ?_ ?_ ?_;(focus (refine⟨?_,?_⟩<;>(try simp only[bL,aa,aw,aj,ax,n1,n2,n3,n7,n8,n9,z0,z1,z2,z3,y0,y1,y2,y3,w0,w1,w2,w3,No,Wm,au,aB,seval])<;>(try omega)))))
      all_goals (first|(show R2.size<j2.size+R2.size+1;omega)|exact⟨hr2,⟨r',hd2'⟩,⟨er',he2'⟩,by show q+1+j2.size+R2.size=_;omega,g5',g6'⟩ )
def Bj (v:List Nd)(hv:v.length<=512)(hok:∀ n∈v,n.okTo aN/\n.i64)(en:ZB)(hen:en.length=v.length)(sp lb pb:Nat)(d1:sp≠lb)(d2:sp≠pb)(d3:lb≠pb):∀(F:Fo) (d last:Nat),F.good d last=true->(∀ n∈F.flat,n∈v)->uK (yp v en sp lb pb) F
 | .nil,_,_,_,_=>trivial
 | .cons n k r,d,last,h,hin=>by
  obtain⟨h1,h2,h3,h4,h5,h6⟩:=Fo.good_cons.1 h
  have hno:=hok n (hin n (by simp[Fo.flat]))
  refine⟨?_,Bj v hv hok en hen sp lb pb d1 d2 d3 r d n.kind h6 (fun x hx=>hin x (by simp[Fo.flat,hx]))⟩
  by_cases hk:n.kind=2
  ·exact NL v hv en sp lb pb d1 d2 d3 n k hno.1 hk (Fo.text_leaf h hk)
  ·exact NJ v hv en hen sp lb pb d1 d2 d3 n k hno.1 (ia h1).1 hk h2 (Bj v hv hok en hen sp lb pb d1 d2 d3 k (d-1) 1 h5 (fun x hx=>hin x (by simp[Fo.flat,hx])))
def KT (v:List Nd)(hv:v.length<=aN)(hok:∀ n∈v,n.okTo aN/\n.i64)(h:cQ v=none)(nm:Nat):Ev cx 34 nm [.sl false 6 (v.map aC)] ah.nil (.tup [.nils,.int .i64 8]) []:=by
 have hb:=nN v hv hok h
 refine aG call34 func34 results34 ntmps34 ?_;intro b0 hb0 zN
 exact xP @aa hb
def pR (n:Nd)(k:Fo):Int:=if bj (n::k.flat)=true then 8 else if 512<(Fo.cons n k .nil).toks.length then 4 else 0
def xc (n:Nd)(k:Fo)(hk1:n.kind=1)(hg:(Fo.cons n k .nil).good 12 0=true)(hl:k.size+1<=512)(hok:∀ x∈n::k.flat,x.okTo aN/\x.i64)(r:V)(eff:List (Nat×Option Blk))(nm:Nat)
  (hr:(pR n k≠0/\r = .tup [.nils,.int .i64 (pR n k)]/\eff=[])\/(pR n k=0/\r = .tup [.own nm 0 (Fo.cons n k .nil).toks.length,.int .i64 0]/\eff=[(nm,some ⟨4,(Fo.cons n k .nil).toks.map aY⟩)])) :
  Ev cx 34 nm [.sl false 6 ((n::k.flat).map aC)] ah.nil r eff:=by
 have hb:=nO (n::k.flat) (by simp[Fo.flat_length];unfold aN;omega) hok (yu (IS _) hk1 hg hl)
 have htl:(Fo.cons n k .nil).toks.length<=1100:=by
  rw[Fo.toks_length hg]
  have:=YV (fun n:Nd=>decide (0<n.many)) (Fo.cons n k .nil).flat
  rw[Fo.flat_length]at this
  simp only[Fo.size]at this ⊢
  omega
 have hput:∀(sp lb pb:Nat),sp≠lb->sp≠pb->lb≠pb->yp (n::k.flat) ((1+k.size)::k.ends 1) sp lb pb n k:=fun sp lb pb d1 d2 d3 =>
  (Bj (n::k.flat) (by simp[Fo.flat_length];omega) hok ((1+k.size)::k.ends 1) (by simp[Fo.flat_length,Fo.ends_length]) sp lb pb d1 d2 d3 (.cons n k .nil) 12 0 hg (fun x hx=>by simpa [Fo.flat] using hx)).1
 have hcall:=fun (sp lb pb lk:Nat) (d1:sp≠lb) (d2:sp≠pb) (d3:lb≠pb) (M:ah) (m:Nat) e1 e2 e3 a1 a2 a3 a4 a5 l1 l2 l3 l4=>hput sp lb pb d1 d2 d3 0 [] [] [] false lk M m ZH ZH ZK e1 e2 e3 a1 a2 a3 a4 a5 l1 l2 l3 l4
 clear hput
 simp only[List.nil_append,List.length_nil,Lo,XN]at hcall
 have hne:(((1+k.size)::k.ends 1).map bH).isEmpty=false:=rfl
 unfold pR at hr
 have hev:((1+k.size)::k.ends 1).length=(n::k.flat).length:=by simp[Fo.flat_length,Fo.ends_length]
 generalize hV:n::k.flat=v at hb hcall hr hev ⊢
 generalize hEn:(1+k.size)::k.ends 1=en at hb hcall hne hev
 generalize (Fo.cons n k .nil).toks=T at htl hcall hr
 generalize bj v=S at hcall hr
 have hte:(en.map bH).take v.length=en.map bH:=IN (by rw[Lm,hev];omega)
 have hlv:v.length<=en.length:=Y6
 have htt:(T.map aY).take T.length=T.map aY:=bF _ _
 unfold Ud at hcall
 clear hok hg
 refine mW rfl call34 func34 rfl mixed (by kernel_rfl) rfl ?_;intro b0 hb0;have zN:=Ai results34 ntmps34
 (have zF:=trivial;repeat' first|refine wS ?_|exact wE|((first|apply b7|apply cM)<;>intro hb)|refine Ai Y6 ?_|(apply Ai<;>intro hb))
 (refine kR qc (b0+16) ([(1,.rp [.sl false 6 (v.map aC)]),(2,.ptr b0 0 0)]) ([(b0,⟨1,[[.nils]]⟩)]) [some (b0+16)] ?_ ?_ ?_;(focus (show b0<=_;omega));(focus (refine⟨?_,?_⟩<;>(try simp only[bL,kD,aa,am,aS,au,aH,aB,seval])<;>(try omega))))
 (have zF:=@aa;repeat' first|refine wS ?_|exact wE|refine ag wH (hb _) cX ?_|((first|apply b7|apply cM)<;>intro hb)|refine Ai Y6 ?_|(apply Ai<;>intro hb))
 (refine kR qc (b0+16) ([(1,.rp [.sl false 6 (v.map aC)]),(2,.ptr b0 0 0),(4,.ptr (b0+1) 0 0)]) ([(b0,⟨1,[[.nils]]⟩),(b0+1,⟨1,[[.sl false 1 (en.map bH)]]⟩)]) [some b0,some (b0+48)] ?_ ?_ ?_;(focus (show b0<=_;omega));(focus (refine⟨?_,?_⟩<;>(try simp only[bL,kD,hte,hlv,Yp,aa,aw,am,aS,Lm,au,aH,aB,seval])<;>(try omega))))
 (have zF:=a3 hne @aa @aw;repeat' first|refine wS ?_|exact wE|((first|apply b7|apply cM)<;>intro hb)|refine Ai Y6 ?_|(apply Ai<;>intro hb))
 ·cases hb
 (refine kR qc (b0+16) ([(1,.rp [.sl false 6 (v.map aC)]),(2,.ptr b0 0 0),(4,.rp [.sl false 1 (en.map bH)])]) ([(b0,⟨1,[[.nils]]⟩)]) [some b0] ?_ ?_ ?_;(focus (show b0<=_;omega));(focus (refine⟨?_,?_⟩<;>(try simp only[bL,kD,aa,aw,am,aS,Lm,au,aH,aB,seval])<;>(try omega))))
 (have zF:=a2 @aa @aw;repeat' first|refine wS ?_|exact wE|((first|apply b7|apply cM)<;>intro hb)|refine Ai Y6 ?_|(apply Ai<;>intro hb))
 refine eI ?_
 (have zF:=a2 @aa @aw;repeat' first|refine wS ?_|exact wE|((first|apply b7|apply cM)<;>intro hb)|refine Ai Y6 ?_|(apply Ai<;>intro hb))
 refine eI ?_
 (have zF:=a2 @aa @aw;repeat' first|refine wS ?_|exact wE|((first|apply b7|apply cM)<;>intro hb)|refine Ai Y6 ?_|(apply Ai<;>intro hb))
 (refine nb qc (b0+16) ([(2,.ptr b0 0 0),(5,.ptr (b0+1) 0 0),(6,.ptr (b0+2) 0 0)]) ([(b0,⟨1,[[.own (b0+3) 0 0]]⟩),(b0+1,⟨1,[[.bool false]]⟩),(b0+2,⟨1,[[.fn 76 [.rp [.sl false 6 (v.map aC)],.ptr (b0+1) 0 0,.ptr b0 0 0,.rp [.sl false 1 (en.map bH)],.ptr (b0+2) 0 0]]]⟩),(b0+3,⟨4,[]⟩)]) [some b0,some (b0+16),some (b0+48),none] ?_ ?_ ?_;(focus (show b0<=_;omega));(focus (refine⟨?_,?_⟩<;>(try simp only[bL,aa,aw,am,aS,No,Wm,Wy,Lm,au,aH,aB,seval])<;>(try omega))))
 cases S with
 | true =>
  have hre:r = .tup [.nils,.int .i64 8]/\eff=[]:=by
   rcases hr with ⟨_,h⟩|⟨h,_⟩
   ·exact h
   ·simp at h
  obtain⟨rfl,rfl⟩:=hre
  repeat' first|simp only[cC,aK,results34,ntmps34,aF,aa,aw,ax,aD,au,aH,seval]|exact rfl|refine ao (v:=.any) ?_|((refine cL (caps:=?_) ?_ ?_ [b0+1,b0,b0+3,b0+2] (hcall (b0+1) b0 (b0+2) (b0+3) Y6 Y6 Y6 _ _ Y6 Y6 Y6 ?_ ?_ ?_ ?_ ac Y6 Y6 Y6 Y6) ?_ ?_);rotate_left 1)|((first|apply b7|apply cM)<;>intro hb)|refine Ai Y6 ?_|(apply Ai<;>intro hb)
  all_goals ((apply Fin.pure<;>simp only[aF,aa,results34,ntmps34,au,aH,seval]))
 | false =>
  by_cases h5:512<T.length
  ·have hre:r = .tup [.nils,.int .i64 4]/\eff=[]:=by
    rcases hr with ⟨_,h⟩|⟨h,_⟩
    ·simpa [h5] using h
    ·simp[h5]at h
   obtain⟨rfl,rfl⟩:=hre
   have q1:decide ((512:Int)<(T.length:Int))=true:=bz
   have q2:decide (512<T.length)=true:=AI h5
   repeat' first|simp only[cC,aK,results34,ntmps34,aF,q1,q2,aa,aw,ax,aD,au,aH,seval]|exact rfl|refine ao (v:=.any) ?_|((refine cL (caps:=?_) ?_ ?_ [b0+1,b0,b0+3,b0+2] (hcall (b0+1) b0 (b0+2) (b0+3) Y6 Y6 Y6 _ _ Y6 Y6 Y6 ?_ ?_ ?_ ?_ ac Y6 Y6 Y6 Y6) ?_ ?_);rotate_left 1)|((first|apply b7|apply cM)<;>intro hb)|refine Ai Y6 ?_|(apply Ai<;>intro hb)
   all_goals ((apply Fin.pure<;>simp only[aF,aa,results34,ntmps34,au,aH,seval]))
  ·have hre:r = .tup [.own nm 0 T.length,.int .i64 0]/\eff=[(nm,some ⟨4,T.map aY⟩)]:=by
    rcases hr with ⟨h,_⟩|⟨_,h⟩
    ·simp[h5]at h
    ·exact h
   obtain⟨rfl,rfl⟩:=hre
   have q1:decide ((512:Int)<(T.length:Int))=false:=aL
   have q2:decide (512<T.length)=false:=WA h5
   repeat' first|simp only[cC,aK,results34,ntmps34,aF,q1,q2,aa,aw,ax,aD,au,aH,seval]|exact rfl|refine ao (v:=.any) ?_|((refine cL (caps:=?_) ?_ ?_ [b0+1,b0,b0+3,b0+2] (hcall (b0+1) b0 (b0+2) (b0+3) Y6 Y6 Y6 _ _ Y6 Y6 Y6 ?_ ?_ ?_ ?_ ac Y6 Y6 Y6 Y6) ?_ ?_);rotate_left 1)|((first|apply b7|apply cM)<;>intro hb)|refine Ai Y6 ?_|(apply Ai<;>intro hb)
   all_goals ((have zF:=@ax;refine jW [(b0+32,some 0)] [] lB))
def tR (v:List Nd):V:=.sl false 6 (v.map aC)
def NE (l:List Tk)(hl:l.length<=600)(hs:∀ t∈l,t.okTo 1000000/\t.attrs.length<=30)(nm:Nat) :
    (bU l≠0->Ev cx 24 nm [.sl false 4 (l.map aY)] ah.nil (.tup [.nils,.int .i64 (bU l)]) []) /\
    (bU l=0->Ev cx 24 nm [.sl false 4 (l.map aY)] ah.nil (.tup [.own nm 0 (bJ l).length,.int .i64 0]) [(nm,some ⟨6,(bJ l).map aC⟩)]):=by
  have hlim:∀ t∈l,t.okTo aN:=fun t ht=>by
    obtain⟨⟨h1,h2,h3,h4⟩,_⟩:=hs t ht
    unfold aN
    exact⟨by omega,by omega,by omega,fun a ha=>by have:=h4 a ha;omega⟩
  have hcf:=pH l 46 [] (fun t=>!dy t) (fun t ht nm=>JC t (hlim t ht) nm) (by unfold aN;omega) rfl
  have htkl:(l.map aY).take l.length=l.map aY:=IN ZH
  by_cases h512:512<l.length
  · have he:=wu h512
    have hd:decide ((512:Int)<(l.length:Int))=true:=bz
    refine⟨fun _=>?_,fun h=>by omega⟩
    rw[he]
    refine aG call24 func24 results24 ntmps24 ?_;intro b0 hb0 zN
    repeat' first|simp only[results24,ntmps24,aF,hd,Lm,au,aH,seval]
    all_goals ((apply Fin.pure<;>simp only[au,seval]))
  · have hd:decide ((512:Int)<(l.length:Int))=false:=aL
    cases hany:(l.any fun t=>!dy t) with
    | true =>
      rw[hany]at hcf
      have he:=zm h512 hany
      refine⟨fun _=>?_,fun h=>by omega⟩
      rw[he]
      refine aG call24 func24 results24 ntmps24 ?_;intro b0 hb0 zN
      repeat' first|simp only[results24,ntmps24,aF,hd,Lm,au,aH,seval]|refine ad ?_ (hcf _) ?_
      all_goals ((apply Fin.pure<;>simp only[au,seval]))
    | false =>
      rw[hany]at hcf
      have main:∀(v:V) (eff:List (Nat×Option Blk)),((bU l≠0/\v = .tup [.nils,.int .i64 (bU l)]/\eff=[])\/(bU l=0/\v = .tup [.own nm 0 (bJ l).length,.int .i64 0]/\eff=[(nm,some ⟨6,(bJ l).map aC⟩)]))->Ev cx 24 nm [.sl false 4 (l.map aY)] ah.nil v eff:=by
        intro v eff hve
        refine aG call24 func24 results24 ntmps24 ?_;intro b0 hb0 zN
        repeat' first|simp only[aF,hd,Lm,au,aH,seval]|refine ad ?_ (hcf _) ?_
        (refine Vr (fun x:PSt=>l.length-x.k) (fun x=>x.inv l) (b0+16) (fun x=>[(4,.ptr b0 0 0),(5,.fnb 48 [.ptr b0 0 0]),(6,.fnb 49 [.ptr b0 0 0]),(7,.fnb 50 [.ptr b0 0 0]),(25,.sl false 4 (l.map aY)),(26,.int .i64 l.length),(27,.int .i64 x.k)]) (fun x=>[(b0,⟨3,[gr (b0+1) (b0+2) x.g x.last]⟩),(b0+1,⟨6,x.g.v.map aC⟩),(b0+2,⟨1,(x.g.opn++x.junk).map bH⟩)]) (PSt.mk 0 (Gr.mk [] []) [] 0) [some (b0+128),none,none] ?_ ?_ ?_;(focus (refine⟨?_,?_⟩<;>(try simp only[bL,kD,gr,ax,am,No,Lo,WR,List.length_nil,au,aB,seval])<;>(try omega))))
        · exact⟨WB _,w7,rfl⟩
        · rintro ⟨k,g,junk,last⟩ hinv
          have hinv':=hinv
          obtain⟨hk,hg,hgo⟩:=hinv'
          simp only at hk hg hgo
          by_cases hlt:k<l.length
          · obtain ⟨t,ht⟩:∃ t,l[k]? = some t:=⟨_,AT hlt⟩
            have hat:=gO ht
            have hd1:=AI hlt
            have hwk:=eX k
            obtain⟨hto,h30⟩:=hs t (By ht)
            have htok:dy t=true:=by
              cases hh:dy t with
              | true=>rfl
              | false=>rw[Xa.2 ⟨t,By ht,by simp[hh]⟩]at hany;cases hany
            have hvl:=hg.len
            have herr:∀ e:Int,(stepG g t (last==4)).2=e->e≠0->bU l=e:=fun e h1 h2=>zn h512 hany (Hk hinv ht h1 h2) h2
            have hnext:∀(g':Gr) (junk':ZB),stepG g t (last==4)=(g',0)->PSt.inv l ⟨k+1,g',junk',t.kind⟩:=fun g' junk' h=>C6 hinv ht h junk'
            rcases vS htok with hk1|hk1|hk1|hk1
            · have q4:((t.kind:Int)==4)=false:=If Y6
              have q2:((t.kind:Int)==2)=false:=If Y6
              have hs0:stepG g t (last==4)=(if (g.opn.isEmpty && !g.v.isEmpty)=true then (g,80) else if 12<=g.opn.length then (g,100) else (⟨gX g (eo t),if t.kind=1 then g.opn++[g.v.length] else g.opn⟩,0)):=by unfold stepG;rw[if_neg Y6,if_neg Y6]
              by_cases c1:(g.opn.isEmpty && !g.v.isEmpty)=true
              · have hst:stepG g t (last==4)=(g,80):=by rw[hs0,if_pos c1]
                have he:=herr 80 (by rw[hst]) Y6
                have hsn:=fun (M':ah) (a:M' b0=some ⟨3,[gr (b0+1) (b0+2) g last]⟩) (b:M' (b0+1)=some ⟨6,g.v.map aC⟩) (c:M' (b0+2)=some ⟨1,(g.opn++junk).map bH⟩) (d:∀ w,(M' w).isSome=true->w∈[b0,b0+1,b0+2]) (m:Nat)=>ux g k hg Y6 junk last b0 (b0+1) (b0+2) t 80 (.inl ⟨c1,rfl⟩) M' m Y6 Y6 Y6 a b c d
                rcases hve with ⟨_,rfl,rfl⟩|⟨h0,_⟩
                · rw[he]
                  repeat' first|simp only[aK,results24,ntmps24,aF,aY,gr,hat,hlt,fO,q4,q2,Lm,au,aH,seval]|exact rfl|((refine fe (fi:=?_) ?_ ?_ [b0,b0+1,b0+2] (hsn _ ?_ ?_ ?_ ac _) ?_ ?_);rotate_left 1)
                  all_goals ((apply Fin.pure<;>simp only[aF,au,seval]))
                · omega
              · have c1':(g.opn.isEmpty && !g.v.isEmpty)=false:=by simpa using c1
                by_cases c2:12<=g.opn.length
                · have hst:stepG g t (last==4)=(g,100):=by rw[hs0,if_neg c1,if_pos c2]
                  have he:=herr 100 (by rw[hst]) Y6
                  have hsn:=fun (M':ah) (a:M' b0=some ⟨3,[gr (b0+1) (b0+2) g last]⟩) (b:M' (b0+1)=some ⟨6,g.v.map aC⟩) (c:M' (b0+2)=some ⟨1,(g.opn++junk).map bH⟩) (d:∀ w,(M' w).isSome=true->w∈[b0,b0+1,b0+2]) (m:Nat)=>ux g k hg Y6 junk last b0 (b0+1) (b0+2) t 100 (.inr ⟨c1',c2,rfl⟩) M' m Y6 Y6 Y6 a b c d
                  rcases hve with ⟨_,rfl,rfl⟩|⟨h0,_⟩
                  · rw[he]
                    repeat' first|simp only[aK,results24,ntmps24,aF,aY,gr,hat,hlt,fO,q4,q2,Lm,au,aH,seval]|exact rfl|((refine fe (fi:=?_) ?_ ?_ [b0,b0+1,b0+2] (hsn _ ?_ ?_ ?_ ac _) ?_ ?_);rotate_left 1)
                    all_goals ((apply Fin.pure<;>simp only[aF,au,seval]))
                  · omega
                · have hst:stepG g t (last==4)=(⟨gX g (eo t),g.opn++[g.v.length]⟩,0):=by rw[hs0,if_neg c1,if_neg c2,if_pos hk1]
                  have hal:=eF g (eo t)
                  have ham:=lR g (eo t)
                  have hat3:((bq t.attrs).map bi).take t.attrs.length=(bq t.attrs).map bi:=IN (by simp[bq])
                  have hgl:=iL t.attrs
                  have hsy0:=fun (M':ah) (a:M' b0=some ⟨3,[gr (b0+1) (b0+2) g last]⟩) (b:M' (b0+1)=some ⟨6,g.v.map aC⟩) (c:M' (b0+2)=some ⟨1,(g.opn++junk).map bH⟩) (d:∀ w,(M' w).isSome=true->w∈[b0,b0+1,b0+2]) (m:Nat) (h1:b0<m) (h2:b0+1<m) (h3:b0+2<m)=>Cp g k hg Y6 junk last b0 (b0+1) (b0+2) t Y6 c1' Y6 M' m Y6 Y6 Y6 a b c d h1 h2 h3
                  have hsy:=hsy0
                  simp only[G7,if_pos hk1]at hsy
                  repeat' first|simp only[aK,aF,aY,gr,hat,hlt,fO,q4,q2,Lm,au,aH,seval]|exact rfl|((refine fe (fi:=?_) ?_ ?_ [b0,b0+1,b0+2] (hsy _ ?_ ?_ ?_ ac _ Y6 Y6 Y6) ?_ ?_);rotate_left 1)
                  all_goals ((refine Ey (PSt.mk (k+1) (Gr.mk (gX g (eo t)) (g.opn++[g.v.length])) [] t.kind) [some b0,some (b0+256),some (b0+258)] ?_ ?_ ?_;(focus (refine⟨?_,?_⟩<;>(try simp only[bL,kD,hwk,hal,ham,hat3,hgl,Ub,mf,aj,jF _ _ (aa _),gG _ _ (aa _),bH,WM,Lc,Lo,WR,List.length_append,List.length_cons,List.length_nil,aM,ax,aa,aw,am,No,Lm,au,aB,seval])<;>(try omega)))))
                  all_goals (first|(show l.length-(k+1)<l.length-k;omega)|exact hnext _ _ hst)
            · have q4:((t.kind:Int)==4)=false:=If Y6
              have q2:((t.kind:Int)==2)=false:=If Y6
              have hs0:stepG g t (last==4)=(if (g.opn.isEmpty && !g.v.isEmpty)=true then (g,80) else if 12<=g.opn.length then (g,100) else (⟨gX g (eo t),if t.kind=1 then g.opn++[g.v.length] else g.opn⟩,0)):=by unfold stepG;rw[if_neg Y6,if_neg Y6]
              by_cases c1:(g.opn.isEmpty && !g.v.isEmpty)=true
              · have hst:stepG g t (last==4)=(g,80):=by rw[hs0,if_pos c1]
                have he:=herr 80 (by rw[hst]) Y6
                have hsn:=fun (M':ah) (a:M' b0=some ⟨3,[gr (b0+1) (b0+2) g last]⟩) (b:M' (b0+1)=some ⟨6,g.v.map aC⟩) (c:M' (b0+2)=some ⟨1,(g.opn++junk).map bH⟩) (d:∀ w,(M' w).isSome=true->w∈[b0,b0+1,b0+2]) (m:Nat)=>ux g k hg Y6 junk last b0 (b0+1) (b0+2) t 80 (.inl ⟨c1,rfl⟩) M' m Y6 Y6 Y6 a b c d
                rcases hve with ⟨_,rfl,rfl⟩|⟨h0,_⟩
                · rw[he]
                  repeat' first|simp only[aK,results24,ntmps24,aF,aY,gr,hat,hlt,fO,q4,q2,Lm,au,aH,seval]|exact rfl|((refine fe (fi:=?_) ?_ ?_ [b0,b0+1,b0+2] (hsn _ ?_ ?_ ?_ ac _) ?_ ?_);rotate_left 1)
                  all_goals ((apply Fin.pure<;>simp only[aF,au,seval]))
                · omega
              · have c1':(g.opn.isEmpty && !g.v.isEmpty)=false:=by simpa using c1
                by_cases c2:12<=g.opn.length
                · have hst:stepG g t (last==4)=(g,100):=by rw[hs0,if_neg c1,if_pos c2]
                  have he:=herr 100 (by rw[hst]) Y6
                  have hsn:=fun (M':ah) (a:M' b0=some ⟨3,[gr (b0+1) (b0+2) g last]⟩) (b:M' (b0+1)=some ⟨6,g.v.map aC⟩) (c:M' (b0+2)=some ⟨1,(g.opn++junk).map bH⟩) (d:∀ w,(M' w).isSome=true->w∈[b0,b0+1,b0+2]) (m:Nat)=>ux g k hg Y6 junk last b0 (b0+1) (b0+2) t 100 (.inr ⟨c1',c2,rfl⟩) M' m Y6 Y6 Y6 a b c d
                  rcases hve with ⟨_,rfl,rfl⟩|⟨h0,_⟩
                  · rw[he]
                    repeat' first|simp only[aK,results24,ntmps24,aF,aY,gr,hat,hlt,fO,q4,q2,Lm,au,aH,seval]|exact rfl|((refine fe (fi:=?_) ?_ ?_ [b0,b0+1,b0+2] (hsn _ ?_ ?_ ?_ ac _) ?_ ?_);rotate_left 1)
                    all_goals ((apply Fin.pure<;>simp only[aF,au,seval]))
                  · omega
                · have hst:stepG g t (last==4)=(⟨gX g (eo t),g.opn⟩,0):=by rw[hs0,if_neg c1,if_neg c2,if_neg Y6]
                  have hal:=eF g (eo t)
                  have ham:=lR g (eo t)
                  have hat3:((bq t.attrs).map bi).take t.attrs.length=(bq t.attrs).map bi:=IN (by simp[bq])
                  have hgl:=iL t.attrs
                  have hsy0:=fun (M':ah) (a:M' b0=some ⟨3,[gr (b0+1) (b0+2) g last]⟩) (b:M' (b0+1)=some ⟨6,g.v.map aC⟩) (c:M' (b0+2)=some ⟨1,(g.opn++junk).map bH⟩) (d:∀ w,(M' w).isSome=true->w∈[b0,b0+1,b0+2]) (m:Nat) (h1:b0<m) (h2:b0+1<m) (h3:b0+2<m)=>Cp g k hg Y6 junk last b0 (b0+1) (b0+2) t Y6 c1' Y6 M' m Y6 Y6 Y6 a b c d h1 h2 h3
                  have hsy:=hsy0
                  simp only[G7,if_neg (show ¬ t.kind=1 by omega)]at hsy
                  repeat' first|simp only[aK,aF,aY,gr,hat,hlt,fO,q4,q2,Lm,au,aH,seval]|exact rfl|((refine fe (fi:=?_) ?_ ?_ [b0,b0+1,b0+2] (hsy _ ?_ ?_ ?_ ac _ Y6 Y6 Y6) ?_ ?_);rotate_left 1)
                  all_goals ((refine Ey (PSt.mk (k+1) (Gr.mk (gX g (eo t)) (g.opn)) junk t.kind) [some b0,some (b0+256),some (b0+2)] ?_ ?_ ?_;(focus (refine⟨?_,?_⟩<;>(try simp only[bL,kD,hwk,hal,ham,hat3,hgl,Ub,mf,aj,jF _ _ (aa _),gG _ _ (aa _),WM,Lc,Lo,List.length_append,List.length_cons,List.length_nil,aM,ax,aa,aw,am,No,Lm,au,aB,seval])<;>(try omega)))))
                  all_goals (first|(show l.length-(k+1)<l.length-k;omega)|exact hnext _ _ hst)
            · have q4:((t.kind:Int)==4)=false:=If Y6
              have q2:((t.kind:Int)==2)=true:=by rw[hk1];rfl
              by_cases hln:iO g=some t.name
              · have hst:stepG g t (last==4)=(⟨g.v,g.opn.dropLast⟩,0):=by unfold stepG;rw[if_neg Y6,if_pos hk1,if_pos hln]
                obtain⟨kl,hkl,_⟩:=WC.1 hln
                have hne:=(gK hkl).1
                have hdl:g.opn.dropLast.length=g.opn.length-1:=by simp
                have hjk:g.opn.dropLast++(kl::junk)=g.opn++junk:=by
                  have:g.opn=g.opn.dropLast++[kl]:=by
                    rw[X3 hne]at hkl
                    cases hkl
                    exact(Xo hne).symm
                  conv=>rhs;rw[this]
                  simp
                have hsy:=fun (M':ah) (a:M' b0=some ⟨3,[gr (b0+1) (b0+2) g last]⟩) (b:M' (b0+1)=some ⟨6,g.v.map aC⟩) (c:M' (b0+2)=some ⟨1,(g.opn++junk).map bH⟩) (d:∀ w,(M' w).isSome=true->w∈[b0,b0+1,b0+2]) (m:Nat)=>Oj g k hg Y6 junk last b0 (b0+1) (b0+2) t hln M' m Y6 Y6 Y6 a b c d
                repeat' first|simp only[aK,aF,aY,gr,hat,hlt,q4,q2,Lm,au,aH,seval]|exact rfl|((refine fe (fi:=?_) ?_ ?_ [b0,b0+1,b0+2] (hsy _ ?_ ?_ ?_ ac _) ?_ ?_);rotate_left 1)
                all_goals ((refine Ey (PSt.mk (k+1) (Gr.mk g.v g.opn.dropLast) (kl::junk) t.kind) [some b0,some (b0+1),some (b0+2)] ?_ ?_ ?_;(focus (refine⟨?_,?_⟩<;>(try simp only[bL,kD,hwk,hdl,hjk,ax,aa,aw,am,No,Lm,au,aB,seval])<;>(try omega)))))
                all_goals (first|(show l.length-(k+1)<l.length-k;omega)|exact hnext _ _ hst)
              · have hst:stepG g t (last==4)=(g,80):=by unfold stepG;rw[if_neg Y6,if_pos hk1,if_neg hln]
                have he:=herr 80 (by rw[hst]) Y6
                have hsn:=fun (M':ah) (a:M' b0=some ⟨3,[gr (b0+1) (b0+2) g last]⟩) (b:M' (b0+1)=some ⟨6,g.v.map aC⟩) (c:M' (b0+2)=some ⟨1,(g.opn++junk).map bH⟩) (d:∀ w,(M' w).isSome=true->w∈[b0,b0+1,b0+2]) (m:Nat)=>Rs g k hg Y6 junk last b0 (b0+1) (b0+2) t hln M' m Y6 Y6 Y6 a b c d
                rcases hve with ⟨_,rfl,rfl⟩|⟨h0,_⟩
                · rw[he]
                  repeat' first|simp only[aK,results24,ntmps24,aF,aY,gr,hat,hlt,fO,q4,q2,Lm,au,aH,seval]|exact rfl|((refine fe (fi:=?_) ?_ ?_ [b0,b0+1,b0+2] (hsn _ ?_ ?_ ?_ ac _) ?_ ?_);rotate_left 1)
                  all_goals ((apply Fin.pure<;>simp only[aF,au,seval]))
                · omega
            · have q4:((t.kind:Int)==4)=true:=by rw[hk1];rfl
              have htl:t.text.length<=aN:=by have:=hto.2.2.1;unfold aN;omega
              have hs0:stepG g t (last==4)=(if ((last==4)||(g.opn.isEmpty && !gb t.text))=true then (g,80) else if g.opn.isEmpty=true then (g,0) else (⟨gX g (gN t.text),g.opn⟩,0)):=by unfold stepG;rw[if_pos hk1]
              by_cases c1:mN g t last=true
              · have hst:stepG g t (last==4)=(g,80):=by exact hs0.trans (if_pos c1)
                have he:=herr 80 (by rw[hst]) Y6
                have hsn:=fun (M':ah) (a:M' b0=some ⟨3,[gr (b0+1) (b0+2) g last]⟩) (b:M' (b0+1)=some ⟨6,g.v.map aC⟩) (c:M' (b0+2)=some ⟨1,(g.opn++junk).map bH⟩) (d:∀ w,(M' w).isSome=true->w∈[b0,b0+1,b0+2]) (m:Nat)=>Ej g k hg Y6 junk last b0 (b0+1) (b0+2) t htl 80 (.inl ⟨c1,rfl⟩) M' m Y6 Y6 Y6 a b c d
                rcases hve with ⟨_,rfl,rfl⟩|⟨h0,_⟩
                · rw[he]
                  repeat' first|simp only[aK,results24,ntmps24,aF,aY,gr,hat,hlt,fO,q4,Lm,au,aH,seval]|exact rfl|((refine fe (fi:=?_) ?_ ?_ [b0,b0+1,b0+2] (hsn _ ?_ ?_ ?_ ac _) ?_ ?_);rotate_left 1)
                  all_goals ((apply Fin.pure<;>simp only[aF,au,seval]))
                · omega
              · have c1':mN g t last=false:=by simpa using c1
                by_cases c2:g.opn=[]
                · have hst:stepG g t (last==4)=(g,0):=by exact hs0.trans ((if_neg c1).trans (if_pos (by rw[c2];rfl)))
                  have hsy:=fun (M':ah) (a:M' b0=some ⟨3,[gr (b0+1) (b0+2) g last]⟩) (b:M' (b0+1)=some ⟨6,g.v.map aC⟩) (c:M' (b0+2)=some ⟨1,(g.opn++junk).map bH⟩) (d:∀ w,(M' w).isSome=true->w∈[b0,b0+1,b0+2]) (m:Nat)=>Ej g k hg Y6 junk last b0 (b0+1) (b0+2) t htl 0 (.inr ⟨c1',c2,rfl⟩) M' m Y6 Y6 Y6 a b c d
                  repeat' first|simp only[aK,aF,aY,gr,hat,hlt,fO,q4,Lm,au,aH,seval]|exact rfl|((refine fe (fi:=?_) ?_ ?_ [b0,b0+1,b0+2] (hsy _ ?_ ?_ ?_ ac _) ?_ ?_);rotate_left 1)
                  all_goals ((refine Ey (PSt.mk (k+1) g junk t.kind) [some b0,some (b0+1),some (b0+2)] ?_ ?_ ?_;(focus (refine⟨?_,?_⟩<;>(try simp only[bL,kD,hwk,ax,aa,aw,am,No,Lm,au,aB,seval])<;>(try omega)))))
                  all_goals (first|(show l.length-(k+1)<l.length-k;omega)|exact hnext _ _ hst)
                · have c3:g.opn.isEmpty=false:=by simpa using c2
                  have c4:(last==4)=false:=by unfold mN at c1';simp only[XK]at c1';exact c1'.1
                  have hst:stepG g t (last==4)=(⟨gX g (gN t.text),g.opn⟩,0):=by exact hs0.trans ((if_neg c1).trans (if_neg (by simp[c3])))
                  have hal:=eF g (gN t.text)
                  have ham:=lR g (gN t.text)
                  have hsy:=fun (M':ah) (a:M' b0=some ⟨3,[gr (b0+1) (b0+2) g last]⟩) (b:M' (b0+1)=some ⟨6,g.v.map aC⟩) (c:M' (b0+2)=some ⟨1,(g.opn++junk).map bH⟩) (d:∀ w,(M' w).isSome=true->w∈[b0,b0+1,b0+2]) (m:Nat) (h1:b0<m) (h2:b0+1<m) (h3:b0+2<m)=>Lb g k hg Y6 junk last b0 (b0+1) (b0+2) t c4 c3 M' m Y6 Y6 Y6 a b c d h1 h2 h3
                  repeat' first|simp only[aK,aF,aY,gr,hat,hlt,fO,q4,Lm,au,aH,seval]|exact rfl|((refine fe (fi:=?_) ?_ ?_ [b0,b0+1,b0+2] (hsy _ ?_ ?_ ?_ ac _ Y6 Y6 Y6) ?_ ?_);rotate_left 1)
                  all_goals ((refine Ey (PSt.mk (k+1) (Gr.mk (gX g (gN t.text)) g.opn) junk t.kind) [some b0,some (b0+256),some (b0+2)] ?_ ?_ ?_;(focus (refine⟨?_,?_⟩<;>(try simp only[bL,kD,hwk,hal,ham,wm,jF _ _ (aa _),gG _ _ (aa _),sK,Lo,aM,ax,aa,aw,am,No,Lm,au,aB,seval])<;>(try omega)))))
                  all_goals (first|(show l.length-(k+1)<l.length-k;omega)|exact hnext _ _ hst)
          · have hke:k=l.length:=Y6
            subst hke
            have hd1:decide (l.length<l.length)=false:=aL
            rw[XV,Hf]at hgo
            have hvl:=hg.len
            have hv0:((g.v.length:Int)==0)=g.v.isEmpty:=jO _
            have ho0:decide ((0:Int)<(g.opn.length:Int)) = !g.opn.isEmpty:=by
              cases h:g.opn with
              | nil=>rfl
              | cons a b=>simp
            have htn:=qG g.v
            by_cases hx:g.v.isEmpty=true\/g.opn.isEmpty=false
            · have he:=zp h512 hany hgo hx
              rcases hve with ⟨_,rfl,rfl⟩|⟨h0,_⟩
              · rw[he]
                generalize hA:g.v.isEmpty=bA at hx hv0
                generalize hB:g.opn.isEmpty=bB at hx ho0
                cases bA<;>cases bB
                all_goals (try (exfalso;simp at hx;done))
                all_goals (
                  repeat' first|simp only[results24,ntmps24,aF,gr,hv0,ho0,Bt,Bf,au,aH,seval]
                  all_goals ((apply Fin.pure<;>simp only[aF,au,seval])))
              · omega
            · obtain⟨he,hpt⟩:=Dx h512 hany hgo hx
              rcases hve with ⟨h0,_⟩|⟨_,rfl,rfl⟩
              · omega
              · rw[hpt]
                generalize hA:g.v.isEmpty=bA at hx hv0
                generalize hB:g.opn.isEmpty=bB at hx ho0
                cases bA<;>cases bB
                all_goals (try (exfalso;simp at hx;done))
                all_goals (
                  repeat' first|simp only[results24,ntmps24,aF,gr,hv0,ho0,Bt,au,aH,seval]
                  all_goals ((refine Fin.give [(b0+1,some 0)] [] ?_ ?_ ?_ ?_ ?_ (fun q hq=>by have hqq:=lB q hq;first |(simp only[Ln]at hqq))<;>(try simp only[aF,aa,hH,au,seval])<;>(try simp only[aB])<;>(try omega))))
      exact⟨fun h=>main _ _ (.inl ⟨h,rfl,rfl⟩),fun h=>main _ _ (.inr ⟨h,rfl,rfl⟩)⟩
def eN (L:List Nd)(e:Int):V:=.tup [.sl false 6 (L.map aC),.int .i64 e]
def ND (l:List Tk)(hl:l.length<=600)(hs:∀ t∈l,t.okTo 1000000/\t.attrs.length<=30)(nm:Nat):Ev cx 24 nm [.sl false 4 (l.map aY)] ah.nil (eN (bJ l) (bU l)) []:=by
 obtain⟨h1,h2⟩:=NE l hl hs nm
 by_cases h:bU l=0
 ·have h3:=h2 h
  rw[h]
  have hpl:=aa (bJ l)
  have htk:((bJ l).map aC).take (bJ l).length=(bJ l).map aC:=bF _ _
  refine Ev.freeze h3 ?_ ?_
  ·simp only[hpl,htk,Lm,au]<;>omega
  ·unfold eN
   simp only[htk,au]
 ·have h3:=h1 h
  have hT:bJ l=[]:=by unfold bJ;rw[if_neg h]
  rw[hT]
  refine Ev.res_le h3 ?_
  unfold eN
  simp only[m9,cS,dQ,bR,jh,Lo,XJ]
def gh (s:ZA):List Nd×Int:=if (bW s).2.2≠0 then ([],(bW s).2.2) else (bJ (bW s).1,bU (bW s).1)
def toks_fit {s:ZA}(hs:s.length<=16384)(h:(bW s).2.2=0):(bW s).1.length<=600 /\ ∀ t∈(bW s).1,t.okTo 1000000/\t.attrs.length<=30:=by
 obtain⟨h1,_,h3,_⟩:=(Hn s).1 h
 refine⟨by omega,fun t ht=>⟨Hy (Dg h t ht) Y6,?_⟩⟩
 have:=D3 (h1 t ht)
 omega
def QC {v:List Nd}{o:ZB}{K:Nat}(h:∀ x∈v,x.okTo K):∀ x∈kO v o,x.okTo K:=by
 intro x hx
 unfold kO at hx
 split at hx
 ·rename_i k _
  obtain⟨i,hi⟩:=XR.1 hx
  rw[Xy]at hi
  cases hv:v[i]? with
  | none=>rw[hv]at hi;simp at hi
  | some y =>
   rw[hv]at hi
   have:=h y (By hv)
   split at hi
   ·simp at hi;subst hi;exact this
   ·simp at hi;subst hi;exact this
 ·exact h x hx
def GZ {g:Gr}{K:Nat}(h:∀ x∈g.v,x.okTo K){x:Nd}(hx:x.okTo K):∀ y∈gX g x,y.okTo K:=by
 intro y hy
 rcases Wf.1 hy with hy|hy
 ·exact QC h y hy
 ·simp at hy;subst hy;exact hx
def OM {t:Tk}{K:Nat}(h:t.okTo K):(gN t.text).okTo K:=⟨by simp[gN],by simp[gN],by simp[gN],h.2.2.1,fun a ha=>by simp[gN]at ha⟩
def LZ {t:Tk}{K:Nat}(h:t.okTo K):(eo t).okTo K:=⟨by simp[eo,bq];exact h.1,by simp[eo],h.2.1,by simp[eo],fun a ha=>by
 simp only[eo,bq,Wn]at ha
 obtain⟨b,hb,rfl⟩:=ha
 exact⟨by simp,h.2.2.2 b hb⟩⟩
def Ox {g:Gr}{K:Nat}(h:∀ x∈g.v,x.okTo K){t:Tk}(ht:t.okTo K)(txt:Bool):∀ x∈(stepG g t txt).1.v,x.okTo K:=by
 unfold stepG
 split
 ·split
  ·exact h
  ·split
   ·exact h
   ·exact GZ h (OM ht)
 ·split
  ·split<;>exact h
  ·split
   ·exact h
   ·split
    ·exact h
    ·exact GZ h (LZ ht)
def MC {K:Nat} : ∀(l:List Tk) (g:Gr) (txt:Bool) (n:Nat),(∀ x∈g.v,x.okTo K)->g.Ok n->(∀ t∈l,t.okTo K)->(∀ x∈(xE g txt l).1.v,x.okTo K)/\(xE g txt l).1.Ok (n+l.length)
 | [],g,txt,n,h,hg,_=>⟨h,by simpa [xE] using hg⟩
 | t::r,g,txt,n,h,hg,hl=>by
  have h1:=Ox h (hl t (.head _)) txt
  have h2:=HK hg t txt
  rw[xE]
  split
  ·obtain⟨h3,h4⟩:=MC r (stepG g t txt).1 (t.kind==4) (n+1) h1 h2 (fun u hu=>hl u (.tail _ hu))
   exact⟨h3,by rw[show n+(t::r).length=n+1+r.length by simp;omega];exact h4⟩
  ·refine⟨h1,h2.in_,h2.deep,fun x hx=>?_,?_⟩
   ·have:=h2.many x hx;simp only[List.length_cons];omega
   ·have:=h2.len;simp only[List.length_cons];omega
def zo {l:List Tk}{K:Nat}(hl:l.length<=600)(h:∀ t∈l,t.okTo K):(bJ l).length<=600 /\ ∀ x∈bJ l,x.okTo K/\x.i64:=by
 obtain⟨h1,h2⟩:=MC l ⟨[],[]⟩ false 0 (fun x hx=>by simp at hx) w7 h
 unfold bJ
 split
 ·refine⟨by have:=h2.len;omega,fun x hx=>⟨h1 x hx,?_⟩⟩
  have:=h2.many x hx
  unfold Nd.i64;omega
 ·exact⟨by simp,fun x hx=>by simp at hx⟩
def ws {s:ZA}(hs:s.length<=16384):(gh s).1.length<=600 /\ ∀ x∈(gh s).1,x.okTo 1000000/\x.i64:=by
 unfold gh
 split
 ·exact⟨by simp,fun x hx=>by simp at hx⟩
 ·rename_i h
  obtain⟨f1,f2⟩:=toks_fit hs (by simpa using h)
  exact zo f1 (fun t ht=>(f2 t ht).1)
def fF {n:Nd}{a b:Nat}(h:n.okTo a)(hab:a<=b):n.okTo b:=by
 obtain⟨h1,h2,h3,h4,h5⟩:=h
 exact⟨by omega,by omega,by omega,by omega,fun x hx=>by obtain⟨a1,a2,a3⟩:=h5 x hx;exact⟨by omega,by omega,by omega⟩⟩
end Go.Proofs.YtgboofebldgdjaaGreatDoor
