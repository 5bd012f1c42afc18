/-
 Texts joined: XJa,XJb,XJc,XJd,XJe.
-/
import Derived.Test.YtjonibipieofcaaGreatDoorMc
set_option maxHeartbeats 16000000
set_option maxRecDepth 100000
set_option linter.all false
namespace Go.Proofs.YtjonibipieofcaaGreatDoor
open Go Go.RowKit Vm Go.Lib Tryz
open Vm renaming aI->Ca,aP->Cb
open And renaming intro->Ai
open List renaming length_map->Lm,not_mem_nil->Ln,map_nil->Lo,map_cons->Lc,mem_cons->Lk
open Bool renaming not_false->Bf,not_true->Bt
def Ho (l:List At)(hl:l.length<=aT)(hs:∀ a∈l,a.space.length<=aT/\a.name.length<=aT/\a.value.length<=aT)(nm:Nat):Ev cx 99 nm [.sl false 3 (l.map bf)] ao.nil (.bool (na l)) []:=by
  have hl':=hl
  unfold aT at hl'
  refine aX call99 func99 ?_;intro b0 hb0
  refine wR (a2 results99 ntmps99) trivial ?_
  (refine ew (fun x:Nat=>l.length-x) (fun x=>x<=l.length/\ux l x) (b0+16) (fun x=>[(0,.sl false 3 (l.map bf)),(3,.int .i64 x)]) (fun x=>[]) (0) [] ?_ ?_ ?_;(focus (refine⟨?_,?_⟩<;>(try simp only[aE,ab,aj,ai,aq,seval])<;>(try omega))))
  · exact⟨Nat.zero_le _,fun i a hi=>by omega⟩
  · rintro k ⟨hk,hn⟩
    by_cases hlt:k<l.length
    · obtain ⟨a,ha⟩:∃ a,l[k]? = some a:=⟨_,List.getElem?_eq_getElem hlt⟩
      obtain⟨hs0,hs1,hs2⟩:=hs a (List.mem_of_getElem? ha)
      have hat:=iu ha
      have hd:=decide_eq_true hlt
      have hd2:=sC k l.length
      have hki:=jB k l.length
      have hwk:=eD k
      refine wR (a7 results99 ntmps99 hat hd hd2 hlt hki) trivial ?_
      (refine ew (fun x:Nat=>k-x) (fun x=>x<=k /\ ∀(i:Nat) (b:At),i<x->l[i]? = some b -> ¬(a.space=b.space/\a.name=b.name)) (b0+16) (fun x=>[(0,.sl false 3 (l.map bf)),(3,.int .i64 k),(4,.int .i64 x)]) (fun x=>[]) (0) [] ?_ ?_ ?_;(focus (refine⟨?_,?_⟩<;>(try simp only[aE,ab,aj,ai,aq,seval])<;>(try omega))))
      · exact⟨Nat.zero_le _,fun i b hi=>by omega⟩
      · rintro j ⟨hj,hno⟩
        by_cases hjk:j<k
        · obtain⟨b,hb⟩:∃ b,l[j]? = some b:=⟨_,List.getElem?_eq_getElem (by omega)⟩
          have hbt:=iu hb
          have e1:=decide_eq_true hjk
          have e2:=sC j k
          have e3:j<l.length:=by omega
          have e4:=jB j l.length
          have hwj:=eD j
          by_cases hsp:a.space=b.space
          · have c1:(b.space==a.space)=true:=by rw[hsp];simp
            by_cases hnm:a.name=b.name
            · have c2:(b.name==a.name)=true:=by rw[hnm];simp
              have hr:na l=false:=pd ha (by
                unfold Iy
                have:((l.take k).any fun b=>a.space==b.space&&a.name==b.name)=true:=List.any_eq_true.2 ⟨b,List.mem_of_getElem? (by rw[List.getElem?_take,if_pos hjk];exact hb),by rw[hsp,hnm];simp⟩
                rw[this];rfl)
              exact wP (a6 results99 ntmps99 hat hbt @bf.eq_1 (a9 e1 e2 e3 e4 hlt hki c1 c2 hr)) trivial
            · have c2:(b.name==a.name)=false:=beq_false_of_ne (Ne.symm hnm)
              refine wR (a6 results99 ntmps99 hat hbt @bf.eq_1 (a9 e1 e2 e3 e4 hlt hki hwj c1 c2)) trivial ?_
              all_goals ((refine de (j+1) [] ?_ ?_ ?_;(focus (refine⟨?_,?_⟩<;>(try simp only[aE,ab,hwj,aj,ai,aq,seval])<;>(try omega)))))
              all_goals (first|(show k-(j+1)<k-j;omega)|(exact⟨hjk,fun i x hi hx h=>by
                by_cases e:i=j
                · subst e;rw[hb]at hx;cases hx;exact hnm h.2
                · exact hno i x (by omega) hx h⟩)|skip)
          · have c1:(b.space==a.space)=false:=beq_false_of_ne (Ne.symm hsp)
            refine wR (a5 results99 ntmps99 hat hbt (a9 @bf.eq_1 e1 e2 e3 e4 hlt hki hwj c1)) trivial ?_
            all_goals ((refine de (j+1) [] ?_ ?_ ?_;(focus (refine⟨?_,?_⟩<;>(try simp only[aE,ab,hwj,aj,ai,aq,seval])<;>(try omega)))))
            all_goals (first|(show k-(j+1)<k-j;omega)|(exact⟨hjk,fun i x hi hx h=>by
              by_cases e:i=j
              · subst e;rw[hb]at hx;cases hx;exact hsp h.1
              · exact hno i x (by omega) hx h⟩)|skip)
        · have hje:j=k:=by omega
          subst hje
          have e1:decide (j<j)=false:=bi
          have e2:=nu j j
          have hany:((l.take j).any fun b=>a.space==b.space&&a.name==b.name)=false:=by
            rw[List.any_eq_false]
            intro b hb hc
            obtain⟨i,hi⟩:=List.mem_iff_getElem?.1 hb
            have hij:i<j:=by have:=(List.getElem?_eq_some_iff.1 hi).1;rw[List.length_take]at this;omega
            rw[List.getElem?_take,if_pos hij]at hi
            simp only[Bool.and_eq_true,beq_iff_eq]at hc
            exact hno i b hij hi hc
          have hf:=oR a.name hs1
          have hc:=fN a.value hs2
          have hc2:=fN a.space hs0
          have hok:Iy (l.take j) a=((bU a.name&&decide (aF a.value=0))&&decide (aF a.space=0)):=by unfold Iy;rw[hany];rfl
          generalize h1:bU a.name=b1 at hf hok
          have h3:(aF a.value != 0) = !decide (aF a.value=0):=by rw[Bool.eq_iff_iff];simp
          have h4:(aF a.space != 0) = !decide (aF a.space=0):=by rw[Bool.eq_iff_iff];simp
          generalize decide (aF a.value=0)=b3 at h3 hok
          generalize decide (aF a.space=0)=b4 at h4 hok
          cases ho:Iy (l.take j) a with
          | false =>
            have hr:=pd ha ho
            rw[ho]at hok
            cases b1<;>cases b3<;>cases b4
            all_goals (try (exfalso;simp at hok;done))
            all_goals ((repeat' first|simp only[au,ap,results99,ntmps99,am,hat,bf,e1,e2,hlt,hki,h3,h4,hr,Bt,Bf,Lm,aj,ai,seval]|exact rfl|refine aa (v:=.any) ?_|((first|(refine ah ?_ (hc _) ?_)|(refine ac ?_ (fun _=>hc _) ?_));(focus (simp only[results99,ntmps99,am,hat,bf,e1,e2,hlt,hki,h3,h4,hr,Bt,Bf,Lm,aj,ai,seval]<;>exact rfl)))|((first|(refine ah ?_ (hc2 _) ?_)|(refine ac ?_ (fun _=>hc2 _) ?_));(focus (simp only[results99,ntmps99,am,hat,bf,e1,e2,hlt,hki,h3,h4,hr,Bt,Bf,Lm,aj,ai,seval]<;>exact rfl)))|(first|(refine ah ?_ (hf _) ?_)|(refine ac ?_ (fun _=>hf _) ?_))|(refine aa (v:=.any) ?_)|refine av (by decide +kernel) ?_|((first|apply Ca|apply Cb)<;>intro hb)|refine Ai (by omega) ?_|(apply Ai<;>intro hb)|apply Fin.pure|simp only[aq]))
          | true =>
            have hn':=rD hn ha ho
            rw[ho]at hok
            cases b1<;>cases b3<;>cases b4
            all_goals (try (exfalso;simp at hok;done))
            all_goals (refine wR (a3 results99 ntmps99 (a9 hat @bf.eq_1 e1 e2 hlt hki h3 h4 hwk)) (a3 hf hc hc2) ?_)
            all_goals ((refine de (j+1) [] ?_ ?_ ?_;(focus (refine⟨?_,?_⟩<;>(try simp only[aE,ab,hwk,aj,ai,aq,seval])<;>(try omega)))))
            all_goals (first|(show l.length-(j+1)<l.length-j;omega)|exact⟨hlt,hn'⟩|skip)
    · have hke:k=l.length:=by omega
      subst hke
      have hd:decide (l.length<l.length)=false:=bi
      have hd2:=nu l.length l.length
      have hr:na l=decide (l.length<=16):=by
        rw[Bool.eq_iff_iff,qX,decide_eq_true_eq]
        exact⟨fun h=>h.1,fun h=>⟨h,hn⟩⟩
      have hz:decide ((l.length:Int)<=16)=decide (l.length<=16):=by
        rw[Bool.eq_iff_iff,decide_eq_true_eq,decide_eq_true_eq];omega
      exact wP (a6 results99 ntmps99 hd hd2 hr hz) trivial
def yV (x:Nd)(hx:x.okTo aT)(nm:Nat):Ev cx 48 nm [.agg (aD x)] ao.nil (.bool (gE x)) []:=by
 obtain⟨h0,h1,h2,h3,h4⟩:=hx
 have hf:=oR x.name h2
 have hc1:=fN x.space h1
 have hc2:=fN x.text h3
 have ha:=Ho x.attrs h0 h4
 unfold gE
 have e0:(x.attrs.length==0)=x.attrs.isEmpty:=by cases x.attrs<;>rfl
 have e0i:((x.attrs.length:Int)==0)=x.attrs.isEmpty:=lQ _
 have e1:(aF x.space==0)=decide (aF x.space=0):=by rw[Bool.eq_iff_iff];simp
 have e2:(aF x.text==0)=decide (aF x.text=0):=by rw[Bool.eq_iff_iff];simp
 have e3:(x.name==[])=x.name.isEmpty:=by cases x.name<;>rfl
 have e4:(x.space==[])=x.space.isEmpty:=by cases x.space<;>rfl
 have e5:(x.text==[])=x.text.isEmpty:=by cases x.text<;>rfl
 have e6:(x.text != []) = !x.text.isEmpty:=by cases x.text<;>rfl
 have e7:(x.many==0)=decide (x.many=0):=by rw[Bool.eq_iff_iff];simp
 by_cases hk:x.kind=1
 ·rw[if_neg (by omega)]
  have k1:((x.kind:Int)==1)=true:=by rw[hk];rfl
  have k2:decide (x.kind=1)=true:=decide_eq_true hk
  rw[k2,Bool.true_and]
  rw[show(x.text.isEmpty&&bU x.name&&decide (aF x.space=0)&&na x.attrs)=(((bU x.name&&x.text.isEmpty)&&decide (aF x.space=0))&&na x.attrs) by rw[Bool.and_comm x.text.isEmpty]]
  generalize bU x.name=b1 at hf ⊢
  generalize na x.attrs=b2 at ha ⊢
  generalize x.text.isEmpty=b3 at e5 ⊢
  generalize decide (aF x.space=0)=b4 at e1 ⊢
  cases b1<;>cases b2<;>cases b3<;>cases b4
  all_goals (
   refine aX call48 func48 ?_;intro b0 hb0
   (repeat' first|simp only[au,ap,results48,ntmps48,am,aD,k1,e1,e5,ab,Bool.and_self,Bool.and_false,Bool.false_and,aj,ai,seval]|exact rfl|refine aa (v:=.any) ?_|(first|(refine ah ?_ (hf _) ?_)|(refine ac ?_ (fun _=>hf _) ?_)|(refine ah ?_ (hc1 _) ?_)|(refine ac ?_ (fun _=>hc1 _) ?_)|(refine ah ?_ (ha _) ?_)|(refine ac ?_ (fun _=>ha _) ?_))|(refine aa (v:=.any) ?_)|((first|apply Ca|apply Cb)<;>intro hb)|refine Ai (by omega) ?_|(apply Ai<;>intro hb)|apply Fin.pure|simp only[aq]))
 ·have k1:((x.kind:Int)==1)=false:=beq_false_of_ne (by omega)
  have k2:decide (x.kind=1)=false:=decide_eq_false hk
  by_cases hk2:x.kind=2
  ·rw[if_pos hk2]
   have k3:((x.kind:Int)==2)=true:=by rw[hk2];rfl
   generalize x.name.isEmpty=b1 at e3 ⊢
   generalize x.space.isEmpty=b2 at e4 ⊢
   generalize x.attrs.isEmpty=b3 at e0 e0i ⊢
   generalize decide (x.many=0)=b4 at e7 ⊢
   generalize x.text.isEmpty=b5 at e5 e6 ⊢
   generalize decide (aF x.text=0)=b6 at e2 ⊢
   refine aX call48 func48 ?_;intro b0 hb0
   exact wP (a6 results48 ntmps48 @aD.eq_1 @k1 @k3 (a9 e0 e0i e2 e3 e4 e5 e6 e7 @ab)) hc2
  ·rw[if_neg hk2,k2]
   have k3:((x.kind:Int)==2)=false:=beq_false_of_ne (by omega)
   refine aX call48 func48 ?_;intro b0 hb0
   (repeat' first|simp only[au,ap,results48,ntmps48,am,aD,k1,k3,ab,Bool.and_self,Bool.and_false,Bool.false_and,aj,ai,seval]|exact rfl|refine aa (v:=.any) ?_|(refine aa (v:=.any) ?_)|((first|apply Ca|apply Cb)<;>intro hb)|refine Ai (by omega) ?_|(apply Ai<;>intro hb)|apply Fin.pure|simp only[aq])
def gm (rec:Nat->Option Nat)(v:List Nd):Nat->Nat->Bool->Option Nat
 | 0,next,_=>some next
 | c+1,next,text=>match rec next with
  | none=>none
  | some e=>match v[next]? with
   | none=>none
   | some y=>if (text&&y.kind==2)=true then none else gm rec v c e (y.kind==2)
def okB (v:List Nd)(dz:Bool)(x:Nd):Bool:=gE x&&decide (0<=x.many)&&decide (x.many<=(v.length:Int)) && !(x.kind==1&&dz)
def qw (rec:Nat->Option Nat)(v:List Nd)(dz:Bool)(p:Nat):Option Nat:=match v[p]? with
 | none=>none
 | some x=>if okB v dz x=true then gm rec v x.many.toNat (p+1) false else none
def lc (v:List Nd):Nat->Nat->Option Nat
 | 0=>qw (fun _=>none) v true
 | d+1=>qw (lc v d) v false
def fS {v:List Nd}{p:Nat}{n:Nd}{r:List Nd}(h:v.drop p=n::r):v[p]? = some n/\p<v.length/\v.drop (p+1)=r:=by
 have h1:v[p]? = some n:=by
  have:(v.drop p)[0]? = some n:=by rw[h];rfl
  rwa[List.getElem?_drop,Nat.add_zero]at this
 refine⟨h1,(List.getElem?_eq_some_iff.1 h1).1,?_⟩
 have:(v.drop p).drop 1=r:=by rw[h];rfl
 rwa[List.drop_drop]at this
def ot {v:List Nd}{p:Nat}{F:Fo}{r:List Nd}(h:v.drop p=F.flat++r):F.size<=v.length:=by
 have:=congrArg List.length h
 rw[List.length_drop,List.length_append,Fo.flat_length]at this
 omega
def fe:∀(F:Fo),F.count<=F.size
 | .nil=>Nat.le_refl _
 | .cons n k r=>by have:=fe r;simp only[Fo.count,Fo.size];omega
def ny (v:List Nd):∀(F:Fo) (d last p:Nat) (rest:List Nd) (text:Bool),v.drop p=F.flat++rest->F.good d last=true->(text=true->last=2)->gm (lc v d) v F.count p text=some (p+F.size)
 | .nil,d,last,p,rest,text,_,_,_=>rfl
 | .cons n k r,d,last,p,rest,text,hd,hg,ht=>by
  obtain⟨h1,h2,h3,h4,h5,h6⟩:=Fo.good_cons.1 hg
  have hd':v.drop p=n::(k.flat++(r.flat++rest)):=by rw[hd];simp[Fo.flat]
  obtain⟨a1,a2,a3⟩:=fS hd'
  have hkl:=ot a3
  have hkc:=fe k
  have hm:n.many.toNat=k.count:=by omega
  have hok:okB v (d==0) n=true:=by
   unfold okB
   rw[h1,dh,dh]
   simp only[Bool.and_self,Bool.true_and,Bool.not_eq_true',Bool.and_eq_false_iff,beq_eq_false_iff_ne,ne_eq]
   by_cases hd0:d=0
   ·left;exact fun h=>h4 ⟨h,hd0⟩
   ·right;exact hd0
  have hrec:lc v d p=some (p+1+k.size):=by
   cases d with
   | zero =>
    have hk2:n.kind=2:=by
     rcases gF h1 with e|e
     ·exact absurd ⟨e,rfl⟩ h4
     ·exact e
    have:=Fo.text_leaf hg hk2
    subst this
    unfold lc qw
    rw[a1]
    simp only[beq_self_eq_true]at hok
    simp only[hok,if_true,hm,Fo.count,gm,Fo.size,Nat.add_zero]
   | succ d =>
    unfold lc qw
    rw[a1]
    have hok':okB v false n=true:=hok
    simp only[hok',if_true,hm]
    exact ny v k d 1 (p+1) (r.flat++rest) false a3 h5 (fun h=>by cases h)
  have hdr:v.drop (p+1+k.size)=r.flat++rest:=by
   have:(v.drop (p+1)).drop k.size=r.flat++rest:=by rw[a3,<- Fo.flat_length,List.drop_left]
   rwa[List.drop_drop]at this
  have htk:(text&&n.kind==2)=false:=by
   cases text with
   | false=>rfl
   | true =>
    rw[Bool.true_and,beq_eq_false_iff_ne]
    exact fun h=>h3 ⟨ht rfl,h⟩
  simp only[Fo.count,gm,hrec,a1,htk,Bool.false_eq_true,if_false]
  rw[ny v r d n.kind (p+1+k.size) rest (n.kind==2) hdr h6 (fun h=>by simpa using h)]
  simp only[Fo.size]
  congr 1;omega
def uy {v:List Nd}{n:Nd}{k:Fo}{d p:Nat}{rest:List Nd}(hd:v.drop p=n::(k.flat++rest))(hg:(Fo.cons n k .nil).good d 0=true):lc v d p=some (p+1+k.size):=by
 have h:=ny v (.cons n k .nil) d 0 p rest false (by rw[hd];simp[Fo.flat]) hg (fun h=>by cases h)
 simp only[Fo.count,gm,Fo.size,Nat.add_zero,Nat.zero_add]at h
 cases hb:lc v d p with
 | none=>rw[hb]at h;cases h
 | some e =>
  rw[hb,(fS hd).1]at h
  simp only[Bool.false_and,Bool.false_eq_true,if_false,Option.some.injEq]at h
  rw[h];congr 1;omega
def sI {rec:Nat->Option Nat}{v:List Nd}{d:Nat}(hrec:∀ p e,rec p=some e -> ∃ n k rest,v.drop p=n::(k.flat++rest)/\(Fo.cons n k .nil).good d 0=true/\e=p+1+k.size) :
  ∀(c p:Nat) (text:Bool) (e last:Nat),gm rec v c p text=some e->(last=2->text=true)->p<=v.length -> ∃(F:Fo) (rest:List Nd),v.drop p=F.flat++rest/\F.count=c/\F.good d last=true/\e=p+F.size
 | 0,p,text,e,last,h,_,_=>by
  simp only[gm,Option.some.injEq]at h
  exact⟨.nil,v.drop p,rfl,rfl,rfl,by simp[Fo.size,h]⟩
 | c+1,p,text,e,last,h,hl,hp=>by
  simp only[gm]at h
  cases hr:rec p with
  | none=>rw[hr]at h;cases h
  | some e1 =>
   rw[hr]at h
   obtain⟨n,k,rest,a1,a2,a3⟩:=hrec p e1 hr
   obtain⟨b1,b2,b3⟩:=fS a1
   rw[b1]at h
   simp only at h
   split at h
   ·cases h
   ·rename_i htx
    obtain⟨g1,g2,g3,g4,g5,g6⟩:=Fo.good_cons.1 a2
    have hdr:v.drop e1=rest:=by
     have:(v.drop (p+1)).drop k.size=rest:=by rw[b3,<- Fo.flat_length,List.drop_left]
     rw[List.drop_drop]at this
     rw[a3];exact this
    have he1:e1<=v.length:=by
     have:=congrArg List.length b3
     rw[List.length_drop,List.length_append,Fo.flat_length]at this
     omega
    obtain⟨R,rest2,c1,c2,c3,c4⟩:=sI hrec c e1 (n.kind==2) e n.kind h (fun h=>by simp[h]) he1
    rw[hdr]at c1
    refine⟨.cons n k R,rest2,?_,?_,Fo.good_cons.2 ⟨g1,g2,fun hx=>?_,g4,g5,c3⟩,?_⟩
    ·rw[a1,c1];simp[Fo.flat]
    ·simp only[Fo.count,c2]
    ·exact htx (by rw[hl hx.1,hx.2];rfl)
    ·simp only[Fo.size];omega
def pf {v:List Nd} : ∀ {d p e:Nat},lc v d p=some e -> ∃ n k rest,v.drop p=n::(k.flat++rest)/\(Fo.cons n k .nil).good d 0=true/\e=p+1+k.size
 | 0,p,e,h=>by
  unfold lc qw at h
  cases hx:v[p]? with
  | none=>rw[hx]at h;cases h
  | some x =>
   rw[hx]at h
   simp only at h
   split at h
   ·rename_i hok
    unfold okB at hok
    simp only[Bool.and_true,Bool.and_eq_true,decide_eq_true_eq,Bool.not_eq_true',beq_eq_false_iff_ne]at hok
    obtain⟨⟨⟨h1,h2⟩,h3⟩,h4⟩:=hok
    have hk2:x.kind=2:=by
     rcases gF h1 with e|e
     ·exact absurd e h4
     ·exact e
    have hm:=(gG h1 hk2).2.2.2.1
    rw[hm]at h
    simp only[Int.toNat_zero,gm,Option.some.injEq]at h
    obtain⟨hp,hpe⟩:=List.getElem?_eq_some_iff.1 hx
    refine⟨x,.nil,v.drop (p+1),?_,Fo.good_cons.2 ⟨h1,by rw[hm];rfl,by omega,by omega,rfl,rfl⟩,by simp[Fo.size,h]⟩
    rw[List.drop_eq_getElem_cons hp,hpe];rfl
   ·cases h
 | d+1,p,e,h=>by
  unfold lc qw at h
  cases hx:v[p]? with
  | none=>rw[hx]at h;cases h
  | some x =>
   rw[hx]at h
   simp only at h
   split at h
   ·rename_i hok
    unfold okB at hok
    simp only[Bool.and_false,Bf,Bool.and_true,Bool.and_eq_true,decide_eq_true_eq]at hok
    obtain⟨⟨h1,h2⟩,h3⟩:=hok
    obtain⟨hp,hpe⟩:=List.getElem?_eq_some_iff.1 hx
    obtain⟨F,rest,c1,c2,c3,c4⟩:=sI (d:=d) (fun p e he=>pf he) x.many.toNat (p+1) false e 1 h (fun h=>by cases h) hp
    refine⟨x,F,rest,?_,Fo.good_cons.2 ⟨h1,by omega,by omega,by omega,c3,rfl⟩,c4⟩
    rw[List.drop_eq_getElem_cons hp,hpe,c1]
   ·cases h
def II {v:List Nd}{d p e:Nat}(h:lc v d p=some e):p<e/\e<=v.length:=by
 obtain⟨n,k,rest,h1,_,h3⟩:=pf h
 obtain⟨_,_,a3⟩:=fS h1
 obtain⟨_,hp,_⟩:=fS h1
 have:=congrArg List.length a3
 rw[List.length_drop,List.length_append,Fo.flat_length]at this
 omega
def nA (v:List Nd):Bool:=decide (cT v=0)
def JR (v:List Nd):nA v=(((decide (0<v.length)&&decide (v.length<=512))&&((v[0]?).map Nd.kind==some 1))&&(lc v 12 0==some v.length)):=by
 rw[Bool.eq_iff_iff]
 unfold nA
 simp only[decide_eq_true_eq,Bool.and_eq_true,beq_iff_eq]
 constructor
 ·intro h
  obtain⟨n,k,hk,hv,hg,hl⟩:=ma h
  have hlen:v.length=k.size+1:=by rw[hv];simp[Fo.flat_length]
  have hb:=uy (v:=v) (n:=n) (k:=k) (d:=12) (p:=0) (rest:=[]) (by rw[List.drop_zero,List.append_nil];exact hv) hg
  refine⟨⟨⟨by omega,by omega⟩,by rw[hv];simp[hk]⟩,?_⟩
  rw[hb];congr 1;omega
 ·rintro ⟨⟨⟨h1,h2⟩,h3⟩,h4⟩
  obtain⟨n,k,rest,a1,a2,a3⟩:=pf h4
  rw[List.drop_zero]at a1
  have hr:rest=[]:=by
   have:=congrArg List.length a1
   simp only[List.length_cons,List.length_append,Fo.flat_length]at this
   exact List.eq_nil_of_length_eq_zero (by omega)
  subst hr
  rw[List.append_nil]at a1
  have hk:n.kind=1:=by rw[a1]at h3;simpa using h3
  rw[a1]
  exact uA hk a2 (by rw[a1]at h2;simpa [Fo.flat_length] using h2)
def bF (v:V):(V.gd false v).strip true = .gd false v:=rfl
def nR:Option Nat->Int
 | none=>-1
 | some e=>(e:Int)
structure BhSt where
 i:Nat
 next:Nat
 text:Bool
def yX (v:List Nd)(hv:v.length<=100000)(hok:∀ n∈v,n.okTo aT)(rec:Nat->Option Nat)(L:Nat)(hL:L<=13)(hrec:L<=12 -> ∀ q:Nat,q<=100000 -> ∀ nm,Ev cx 97 nm [.sl false 6 (v.map aD),.int .i64 q,.int .i64 (L+1:Nat)] ao.nil (.int .i64 (nR (rec q))) [])
    (hle:∀ q e,rec q=some e->q<e/\e<=v.length) (p:Nat) (hp:p<=100000) (nm:Nat) :
    Ev cx 97 nm [.sl false 6 (v.map aD),.int .i64 p,.int .i64 L] ao.nil (.int .i64 (nR (qw rec v (decide (12<L)) p))) []:=by
  unfold qw
  cases hx:v[p]? with
  | none =>
    have hge:v.length<=p:=List.getElem?_eq_none_iff.1 hx
    have c1:decide ((v.length:Int)<=(p:Int))=true:=dh
    have c2:decide (v.length<=p)=true:=decide_eq_true hge
    have hat0:(v.map aD)[p]? = none:=by rw[List.getElem?_map,hx];rfl
    simp only[nR]
    refine aX call97 func97 ?_;intro b0 hb0
    (repeat' first|simp only[au,ap,results97,ntmps97,am,c1,c2,hat0,bF,Option.getD_none,List.drop_nil,List.take_nil,List.getElem?_nil,Lm,aj,ai,seval]|exact rfl|refine aa (v:=.any) ?_|(refine aa (v:=.any) ?_)|((first|apply Ca|apply Cb)<;>intro hb)|refine Ai (by omega) ?_|(apply Ai<;>intro hb)|apply Fin.pure|simp only[aq])
  | some x =>
    have hat:=dS hx
    have hpl:=(List.getElem?_eq_some_iff.1 hx).1
    have hpi:=jB p v.length
    have c1:decide ((v.length:Int)<=(p:Int))=false:=bi
    have c2:decide (v.length<=p)=false:=bi
    have hmay:=yV x (hok x (List.mem_of_getElem? hx))
    simp only
    cases hb:okB v (decide (12<L)) x with
    | false =>
      rw[if_neg (by simp)]
      simp only[nR]
      unfold okB at hb
      cases hm:gE x with
      | false =>
        rw[hm]at hmay
        refine aX call97 func97 ?_;intro b0 hb0
        (repeat' first|simp only[au,ap,results97,ntmps97,am,c1,c2,bF,hat,aD,hpl,hpi,Bf,Lm,aj,ai,seval]|exact rfl|refine aa (v:=.any) ?_|(first|(refine ah ?_ (hmay _) ?_)|(refine ac ?_ (fun _=>hmay _) ?_))|(refine aa (v:=.any) ?_)|((first|apply Ca|apply Cb)<;>intro hb)|refine Ai (by omega) ?_|(apply Ai<;>intro hb)|apply Fin.pure|simp only[aq])
      | true =>
        rw[hm]at hmay hb
        by_cases h0:x.many<0
        · have e1:decide (x.many<0)=true:=decide_eq_true h0
          refine aX call97 func97 ?_;intro b0 hb0
          (repeat' first|simp only[au,ap,results97,ntmps97,am,c1,c2,e1,bF,hat,aD,hpl,hpi,Bt,Lm,aj,ai,seval]|exact rfl|refine aa (v:=.any) ?_|(first|(refine ah ?_ (hmay _) ?_)|(refine ac ?_ (fun _=>hmay _) ?_))|(refine aa (v:=.any) ?_)|((first|apply Ca|apply Cb)<;>intro hb)|refine Ai (by omega) ?_|(apply Ai<;>intro hb)|apply Fin.pure|simp only[aq])
        · have e1:decide (x.many<0)=false:=decide_eq_false h0
          by_cases h1:(v.length:Int)<x.many
          · have e2:decide ((v.length:Int)<x.many)=true:=decide_eq_true h1
            refine aX call97 func97 ?_;intro b0 hb0
            (repeat' first|simp only[au,ap,results97,ntmps97,am,c1,c2,e1,e2,bF,hat,aD,hpl,hpi,Bt,Lm,aj,ai,seval]|exact rfl|refine aa (v:=.any) ?_|(first|(refine ah ?_ (hmay _) ?_)|(refine ac ?_ (fun _=>hmay _) ?_))|(refine aa (v:=.any) ?_)|((first|apply Ca|apply Cb)<;>intro hb)|refine Ai (by omega) ?_|(apply Ai<;>intro hb)|apply Fin.pure|simp only[aq])
          · have e2:decide ((v.length:Int)<x.many)=false:=decide_eq_false h1
            rw[decide_eq_true (show 0<=x.many by omega),decide_eq_true (show x.many<=(v.length:Int) by omega)]at hb
            simp only[Bool.and_self,Bool.true_and,Bool.not_eq_false',Bool.and_eq_true,beq_iff_eq,decide_eq_true_eq]at hb
            have e3:((x.kind:Int)==1)=true:=by rw[hb.1];rfl
            have e4:decide ((12:Int)<(L:Int))=true:=dh
            have e5:decide (12<L)=true:=dh
            refine aX call97 func97 ?_;intro b0 hb0
            (repeat' first|simp only[au,ap,results97,ntmps97,am,c1,c2,e1,e2,e3,e4,e5,hat,aD,hpl,hpi,Bt,Lm,aj,ai,seval]|exact rfl|refine aa (v:=.any) ?_|(first|(refine ah ?_ (hmay _) ?_)|(refine ac ?_ (fun _=>hmay _) ?_))|(refine aa (v:=.any) ?_)|((first|apply Ca|apply Cb)<;>intro hb)|refine Ai (by omega) ?_|(apply Ai<;>intro hb)|apply Fin.pure|simp only[aq])
    | true =>
      rw[if_pos rfl]
      unfold okB at hb
      simp only[Bool.and_eq_true,decide_eq_true_eq,Bool.not_eq_true',Bool.and_eq_false_iff,beq_eq_false_iff_ne,decide_eq_false_iff_not]at hb
      obtain⟨⟨⟨hm,h0⟩,h1⟩,h2⟩:=hb
      rw[hm]at hmay
      have e1:decide (x.many<0)=false:=bi
      have e2:decide ((v.length:Int)<x.many)=false:=bi
      obtain⟨c,hc⟩:∃ c:Nat,x.many=(c:Int):=⟨x.many.toNat,by omega⟩
      have hct:x.many.toNat=c:=by omega
      rw[hct]
      have hcL:12<L->c=0:=fun h=>by
        have hk:x.kind≠1:=h2.resolve_right (by omega)
        have hk2:x.kind=2:=by
          rcases gF hm with e|e
          · exact absurd e hk
          · exact e
        have:=(gG hm hk2).2.2.2.1
        omega
      have e3:(((x.kind:Int)==1)&&decide ((12:Int)<(L:Int)))=false:=by
        rw[Bool.and_eq_false_iff]
        rcases h2 with h|h
        · left;exact beq_false_of_ne (by omega)
        · right;exact bi
      have w1:=eD p
      have w2:=eD L
      have hcase:((x.kind:Int)==1)=false\/(((x.kind:Int)==1)=true/\decide ((12:Int)<(L:Int))=false/\decide (12<L)=false):=by
        cases hkb:((x.kind:Int)==1) with
        | false=>exact .inl rfl
        | true =>
          rw[hkb,Bool.true_and]at e3
          have:¬ 12<L:=by have:=of_decide_eq_false e3;omega
          exact .inr ⟨rfl,e3,decide_eq_false this⟩
      have hS:=e3
      clear e3
      have hloop : ∀ (hk1:((x.kind:Int)==1)=false\/(((x.kind:Int)==1)=true/\decide ((12:Int)<(L:Int))=false/\decide (12<L)=false)),Ev cx 97 nm [.sl false 6 (v.map aD),.int .i64 p,.int .i64 L] ao.nil (.int .i64 (nR (gm rec v c (p+1) false))) []:=by
        rintro (k1|⟨k1,k2,k3⟩)
        all_goals
          refine aX call97 func97 ?_;intro b0 hb0
          first
          | (refine wN (a6 results97 ntmps97 c1 c2 e1 (a9 e2 @k1 @k2 @k3 w1 hat @aD.eq_1 hpl hpi)) hmay ?_
             (refine ew (fun s:BhSt=>c-s.i) (fun s=>s.i<=c/\s.next<=v.length/\gm rec v c (p+1) false=gm rec v (c-s.i) s.next s.text) (b0+16) (fun s=>[(0,.sl false 6 (v.map aD)),(1,.int .i64 p),(2,.int .i64 L),(7,.int .i64 s.next),(8,.bool s.text),(9,.int .i64 s.i)]) (fun s=>[]) ((BhSt.mk 0 (p+1) false)) [] ?_ ?_ ?_;(focus (refine⟨?_,?_⟩<;>(try simp only[aE,ae,Lm,aj,ai,aq,seval])<;>(try omega)))))
          | (refine wN (a4 results97 ntmps97 c1 (a9 c2 e1 e2 @k1 w1 hat @aD.eq_1 hpl hpi)) hmay ?_
             (refine ew (fun s:BhSt=>c-s.i) (fun s=>s.i<=c/\s.next<=v.length/\gm rec v c (p+1) false=gm rec v (c-s.i) s.next s.text) (b0+16) (fun s=>[(0,.sl false 6 (v.map aD)),(1,.int .i64 p),(2,.int .i64 L),(7,.int .i64 s.next),(8,.bool s.text),(9,.int .i64 s.i)]) (fun s=>[]) ((BhSt.mk 0 (p+1) false)) [] ?_ ?_ ?_;(focus (refine⟨?_,?_⟩<;>(try simp only[aE,ae,Lm,aj,ai,aq,seval])<;>(try omega)))))
        all_goals first
          | exact⟨Nat.zero_le _,hpl,rfl⟩
          | (rintro ⟨i,next,text⟩ ⟨hi,hn,hinv⟩
             simp only at hi hn hinv ⊢
             rw[hinv]
             by_cases hlt:i<c
             · have hrc:=hrec (by have:=hcL;omega)
               have d1:decide ((i:Int)<x.many)=true:=dh
               have wi:=eD i
               have hsub:c-i=(c-(i+1))+1:=by omega
               have hu:gm rec v (c-i) next text=(match rec next with|none=>none|some e=>match v[next]? with|none=>none|some y=>if (text&&y.kind==2)=true then none else gm rec v (c-(i+1)) e (y.kind==2)):=by rw[hsub];rfl
               rw[hu]
               clear hu hsub
               have hcall:=hrc next (by omega)
               cases hr:rec next with
               | none =>
                 rw[hr]at hcall
                 simp only[nR]at hcall ⊢
                 (repeat' first|simp only[au,ap,results97,ntmps97,am,d1,w2,hat,aD,hpl,hpi,Bt,Lm,aj,ai,seval]|exact rfl|refine aa (v:=.any) ?_|(first|(refine ah ?_ (hcall _) ?_)|(refine ac ?_ (fun _=>hcall _) ?_))|(refine aa (v:=.any) ?_)|((first|apply Ca|apply Cb)<;>intro hb)|refine Ai (by omega) ?_|(apply Ai<;>intro hb)|apply Fin.pure|simp only[aq])
               | some e =>
                 rw[hr]at hcall
                 obtain⟨he1,he2⟩:=hle next e hr
                 obtain⟨y,hy⟩:∃ y,v[next]? = some y:=⟨_,List.getElem?_eq_getElem (by omega)⟩
                 have haty:=dS hy
                 have hnl:next<v.length:=by omega
                 have hni:=jB next v.length
                 have d2:decide ((e:Int)<0)=false:=bi
                 rw[hy]
                 simp only[nR]at hcall ⊢
                 have hk2:(y.kind==2)=((y.kind:Int)==2):=by rw[Bool.eq_iff_iff];simp;omega
                 rw[hk2]
                 cases hkk:((y.kind:Int)==2)<;>cases text
                 all_goals (try simp only[Bool.and_self,Bool.and_false,Bool.false_and,Bool.false_eq_true,if_false,if_true])
                 all_goals first
                   | (refine wN (a6 results97 ntmps97 d1 d2 w2 (a9 wi hkk hat haty @aD.eq_1 hpl hpi hnl hni)) hcall ?_
                      (refine de (BhSt.mk (i+1) e ((y.kind:Int)==2)) [] ?_ ?_ ?_;(focus (refine⟨?_,?_⟩<;>(try simp only[aE,ae,wi,hkk,Lm,aj,ai,aq,seval])<;>(try omega)))))
                   |(exact wP (a6 results97 ntmps97 d1 d2 w2 (a9 wi hkk hat haty @aD.eq_1 hpl hpi hnl hni)) hcall)
                 all_goals first|(show c-(i+1)<c-i;omega)|(exact⟨hlt,he2,by simp only[hkk,hk2]⟩)|skip
             · have hie:i=c:=by omega
               subst hie
               have d1:decide ((i:Int)<x.many)=false:=bi
               have hu:gm rec v (i-i) next text=some next:=by rw[Nat.sub_self];rfl
               rw[hu]
               simp only[nR]
               exact wP (a7 results97 ntmps97 d1 hat @aD.eq_1 hpl hpi) trivial)
      exact hloop hcase
def nI (v:List Nd)(hv:v.length<=100000)(hok:∀ n∈v,n.okTo aT):∀(d:Nat),d<=12 -> ∀(p:Nat),p<=100000 -> ∀(nm:Nat),
  Ev cx 97 nm [.sl false 6 (v.map aD),.int .i64 p,.int .i64 ((13-d:Nat):Int)] ao.nil (.int .i64 (nR (lc v d p))) []
 | 0,_,p,hp,nm=>yX v hv hok (fun _=>none) 13 (by omega) (fun h=>absurd h (by omega)) (fun q e h=>by cases h) p hp nm
 | d+1,hd,p,hp,nm=>by
  have h:=yX v hv hok (lc v d) (13-(d+1)) (by omega) (fun _ q hq nm=>by
   have:=nI v hv hok d (by omega) q hq nm
   rwa[show 13-d=13-(d+1)+1 by omega]at this) (fun q e he=>II he) p hp nm
  rw[decide_eq_false (show ¬ 12<13-(d+1) by omega)]at h
  exact h
def lX (v:List Nd)(hv:v.length<=100000)(hok:∀ n∈v,n.okTo aT)(nm:Nat):Ev cx 47 nm [.sl false 6 (v.map aD)] ao.nil (.bool (nA v)) []:=by
 rw[JR]
 have hb:=nI v hv hok 12 (Nat.le_refl _) 0 (by omega)
 simp only[Int.ofNat_zero,Int.ofNat_one,seval]at hb
 cases hx:v[0]? with
 | none =>
  have h0:v.length=0:=by have:=List.getElem?_eq_none_iff.1 hx;omega
  have h1:v=[]:=List.eq_nil_of_length_eq_zero h0
  subst h1
  refine aX call47 func47 ?_;intro b0 hb0
  (repeat' first|simp only[au,ap,results47,ntmps47,am,bF,Lo,List.length_nil,List.getElem?_nil,Option.getD_none,List.drop_nil,Bool.false_and,aj,ai,seval]|exact rfl|refine aa (v:=.any) ?_|(refine aa (v:=.any) ?_)|((first|apply Ca|apply Cb)<;>intro hb)|refine Ai (by omega) ?_|(apply Ai<;>intro hb)|apply Fin.pure|simp only[aq])
 | some x =>
  have hat:=dS hx
  have h0:=(List.getElem?_eq_some_iff.1 hx).1
  have h0i:(0:Int)<(v.length:Int):=by omega
  have c1:decide ((0:Int)<(v.length:Int))=true:=decide_eq_true h0i
  have c2:decide (0<v.length)=true:=decide_eq_true h0
  have c3:decide ((v.length:Int)<=512)=decide (v.length<=512):=by rw[Bool.eq_iff_iff,decide_eq_true_eq,decide_eq_true_eq];omega
  have c4:((some x).map Nd.kind==some 1)=((x.kind:Int)==1):=by
   rw[Bool.eq_iff_iff];simp;omega
  have c5:(nR (lc v 12 0)==(v.length:Int))=(lc v 12 0==some v.length):=by
   cases lc v 12 0 with
   | none =>
    have:((-1:Int)==(v.length:Int))=false:=beq_false_of_ne (by omega)
    simp only[nR,this];rfl
   | some e=>rw[Bool.eq_iff_iff];simp only[nR,beq_iff_eq,Option.some.injEq];omega
  rw[c2,Bool.true_and,c4,<- c5]
  generalize nR (lc v 12 0)=B at hb ⊢
  clear c2 c4 c5
  by_cases hl:v.length<=512
  ·have c6:decide (v.length<=512)=true:=decide_eq_true hl
   rw[c6]at c3 ⊢
   cases hk:((x.kind:Int)==1)
   all_goals (
    refine aX call47 func47 ?_;intro b0 hb0
    (repeat' first|simp only[au,ap,results47,ntmps47,am,bF,c1,c3,hat,h0,h0i,hk,aD,Lm,Bool.true_and,Bool.false_and,aj,ai,seval]|exact rfl|refine aa (v:=.any) ?_|(first|(refine ah ?_ (hb _) ?_)|(refine ac ?_ (fun _=>hb _) ?_))|(refine aa (v:=.any) ?_)|((first|apply Ca|apply Cb)<;>intro hb)|refine Ai (by omega) ?_|(apply Ai<;>intro hb)|apply Fin.pure|simp only[aq]))
  ·have c6:decide (v.length<=512)=false:=decide_eq_false hl
   rw[c6]at c3 ⊢
   refine aX call47 func47 ?_;intro b0 hb0
   (repeat' first|simp only[au,ap,results47,ntmps47,am,bF,c1,c3,hat,h0,h0i,aD,Lm,Bool.true_and,Bool.false_and,aj,ai,seval]|exact rfl|refine aa (v:=.any) ?_|(refine aa (v:=.any) ?_)|((first|apply Ca|apply Cb)<;>intro hb)|refine Ai (by omega) ?_|(apply Ai<;>intro hb)|apply Fin.pure|simp only[aq])
structure UnSt where
 D:Fo
 R:Fo
 q:Nat
def UnSt.inv (k:Fo)(p:Nat)(x:UnSt):Prop:=x.D.app x.R=k/\x.q=p+1+x.D.size
def D8 {D m r k:Fo}{d:Nat}{x:Nd}{c:Fo}(h:D.app (.cons x c r)=k)(hg:k.good d 1=true)(hd:d<=12):(Fo.cons x c .nil).good 12 0=true:=by
 rw[<- h,Fo.app_good,Bool.and_eq_true]at hg
 obtain⟨h1,h2,h3,h4,h5,h6⟩:=Fo.good_cons.1 hg.2
 exact Fo.good_mono hd (Fo.good_cons.2 ⟨h1,h2,by omega,h4,h5,rfl⟩)
def E0 {D:Fo}{x:Nd}{c:Fo}(p:Nat):(D.tops p).map gn++[gn (p+D.size)]=((D.app (.cons x c .nil)).tops p).map gn:=by
 rw[Fo.tops_app];simp[Fo.tops]
def A9 (v:List Nd)(hv:v.length<=1000)(hok:∀ n∈v,n.okTo aT){n:Nd}{k:Fo}{p d:Nat}{rest:List Nd}(hd:v.drop p=n::(k.flat++rest))(hg:(Fo.cons n k .nil).good d 0=true)(hd12:d<=12)(nm:Nat) :
  Ev cx 143 nm [.sl false 6 (v.map aD),.int .i64 p] ao.nil (.own nm 0 k.count) [(nm,some ⟨1,(k.tops (p+1)).map gn⟩)]:=by
 obtain⟨hx,hpl,hd1⟩:=fS hd
 have hat:=dS hx
 have hpi:=jB p v.length
 obtain⟨g1,g2,g3,g4,g5,g6⟩:=Fo.good_cons.1 hg
 have hkl:=ot hd1
 have hkc:=fe k
 have hks:p+1+k.size<=v.length:=by
  have:=congrArg List.length hd1
  rw[List.length_drop,List.length_append,Fo.flat_length]at this
  omega
 have w1:=eD p
 refine aX call143 func143 ?_;intro b0 hb0;have zF:=Ai results143 ntmps143
 repeat' first|simp only[au,ap,zF,am,w1,aj,ai,seval]|exact rfl|refine aa (v:=.any) ?_|((first|apply Ca|apply Cb)<;>intro hb)|refine Ai (by omega) ?_|(apply Ai<;>intro hb)
 (refine ew (fun x:UnSt=>k.count-x.D.count) (fun x=>x.inv k p) (b0+16) (fun x=>[(0,.sl false 6 (v.map aD)),(1,.int .i64 p),(5,.own b0 0 x.D.count),(6,.int .i64 x.q),(7,.int .i64 x.D.count)]) (fun x=>[(b0,⟨1,(x.D.tops (p+1)).map gn⟩)]) ((UnSt.mk .nil k (p+1))) [none] ?_ ?_ ?_;(focus (refine⟨?_,?_⟩<;>(try simp only[aE,ae,aJ,al,Fo.tops,Fo.count,Fo.size,Lo,List.length_nil,Lm,aj,ai,aq,seval])<;>(try omega))))
 ·exact⟨rfl,rfl⟩
 ·rintro ⟨D,R,q⟩ ⟨hi1,hi2⟩
  simp only at hi1 hi2 ⊢
  have htl:=Fo.tops_length D (p+1)
  have htk:((D.tops (p+1)).map gn).take D.count=(D.tops (p+1)).map gn:=List.take_of_length_le (by rw[Lm,htl];omega)
  cases R with
  | nil =>
   rw[Fo.app_nil]at hi1
   subst hi1
   have d1:decide ((D.count:Int)<n.many)=false:=bi
   ((repeat' first|simp only[au,ap,zF,am,d1,hat,aD,hpl,hpi,htl,htk,aJ,Lm,aj,ai,seval]|exact rfl|refine aa (v:=.any) ?_|((first|apply Ca|apply Cb)<;>intro hb)|refine Ai (by omega) ?_|(apply Ai<;>intro hb));(all_goals (first|(refine Fin.auto (r:=?_) (l:=?_) ?_ ?_ ?_ ?_ ?_ ?_ ?_;rotate_left 1;(simp only[zF,bz,bT,aH,aO,d1,hat,aD,hpl,hpi,htl,htk,aJ,Lm,aj,ai,seval]);(exact rfl);rotate_left 1;(simp only[V.owns,ownsL,List.cons_append,List.nil_append]);(exact rfl);all_goals (try simp only[zF,bz,bT,aH,aO,d1,hat,aD,hpl,hpi,htl,htk,aJ,Lm,qR,aj,ai,seval]);all_goals (try simp only[aq]))|skip)))
  | cons m c r =>
   have hi1':(D.app (.cons m c .nil)).app r=k:=by rw[Fo.app_assoc];exact hi1
   have hkc2:k.count=D.count+(r.count+1):=by rw[<- hi1,Fo.app_count];rfl
   have hks2:k.size=D.size+(c.size+r.size+1):=by rw[<- hi1,Fo.app_size];rfl
   have d1:decide ((D.count:Int)<n.many)=true:=dh
   have w2:IntKind.i64.wrap ((D.count:Int)+1)=((D.count+1:Nat):Int):=bH
   have hdq:v.drop q=m::(c.flat++(r.flat++rest)):=by
    have:(v.drop (p+1)).drop D.size=m::(c.flat++(r.flat++rest)):=by
     rw[hd1,<- hi1,Fo.app_flat,List.append_assoc,<- Fo.flat_length,List.drop_left]
     simp[Fo.flat]
    rw[List.drop_drop]at this
    rw[hi2];exact this
   have hbg:=uy hdq (D8 (m:=.nil) hi1 g5 (by omega))
   have hb:=nI v (by omega) hok 12 (Nat.le_refl _) q (by omega)
   rw[hbg]at hb
   simp only[nR,Int.ofNat_one,seval]at hb
   have hsn:(D.tops (p+1)).map gn++[[V.int .i64 (q:Int)]]=((D.app (.cons m c .nil)).tops (p+1)).map gn:=by
    rw[hi2];exact E0 (D:=D) (x:=m) (c:=c) (p+1)
   have hct:=Fo.app_count D (.cons m c .nil)
   simp only[Fo.count,Nat.zero_add]at hct
   have hsz:=Fo.app_size D (.cons m c .nil)
   simp only[Fo.size,Nat.add_zero]at hsz
   repeat' first|simp only[au,ap,zF,am,d1,hat,aD,hpl,hpi,htl,htk,hsn,aJ,Lm,aj,ai,seval]|exact rfl|refine aa (v:=.any) ?_|(first|(refine ah ?_ (hb _) ?_)|(refine ac ?_ (fun _=>hb _) ?_))|((first|apply Ca|apply Cb)<;>intro hb)|refine Ai (by omega) ?_|(apply Ai<;>intro hb)
   all_goals ((refine de (UnSt.mk (D.app (.cons m c .nil)) r (q+1+c.size)) [some (b0+176)] ?_ ?_ ?_;(focus (refine⟨?_,?_⟩<;>(try simp only[aE,w2,hct,ae,aJ,al,az,Lm,aj,ai,aq,seval])<;>(try omega)))))
   all_goals (first|(show k.count-(D.app (.cons m c .nil)).count<k.count-D.count;omega)|(refine⟨hi1',?_⟩;simp only;omega)|skip)
def gq {α:Type}{p:α->Bool}{l:List α}{k:Nat}{x:α}(h:l[k]? = some x)(hn:(l.take k).any p=false)(hp:p x=false):(l.take (k+1)).any p=false:=by
 obtain⟨hk,rfl⟩:=List.getElem?_eq_some_iff.1 h
 rw[List.take_succ_eq_append_getElem hk,List.any_append,hn];simp[hp]
def fx {α:Type}{p:α->Bool}{l:List α}{k:Nat}{x:α}(h:l[k]? = some x)(hp:p x=true):l.any p=true:=List.any_eq_true.2 ⟨x,List.mem_of_getElem? h,hp⟩
def Ek (v:List Nd)(hv:v.length<=100000)(hok:∀ n∈v,n.okTo aT)(nm:Nat):Ev cx 102 nm [.sl false 6 (v.map aD)] ao.nil (.bool (bV v)) []:=by
  refine aX call102 func102 ?_;intro b0 hb0
  refine wR (a2 results102 ntmps102) trivial ?_
  (refine ew (fun x:Nat=>v.length-x) (fun x=>x<=v.length/\(v.take x).any js=false) (b0+16) (fun x=>[(0,.sl false 6 (v.map aD)),(3,.int .i64 x)]) (fun x=>[]) (0) [] ?_ ?_ ?_;(focus (refine⟨?_,?_⟩<;>(try simp only[aE,ae,Lm,aj,ai,aq,seval])<;>(try omega))))
  · exact⟨Nat.zero_le _,rfl⟩
  · rintro i ⟨hi,hno⟩
    by_cases hlt:i<v.length
    · obtain ⟨x,hx⟩:∃ x,v[i]? = some x:=⟨_,List.getElem?_eq_getElem hlt⟩
      have hat:=dS hx
      have hxl:=(hok x (List.mem_of_getElem? hx)).1
      unfold aT at hxl
      have d1:=sC i v.length
      have d2:=decide_eq_true hlt
      have hii:=jB i v.length
      have wi:=eD i
      by_cases hs:x.space=[]
      · have c1:(x.space==[])=true:=by rw[hs];rfl
        refine wR (a9 results102 ntmps102 d1 d2 hat @aD.eq_1 hlt hii c1) trivial ?_
        (refine ew (fun j:Nat=>x.attrs.length-j) (fun j=>j<=x.attrs.length/\(x.attrs.take j).any (fun a=>!a.space.isEmpty)=false) (b0+16) (fun j=>[(0,.sl false 6 (v.map aD)),(3,.int .i64 i),(4,.int .i64 j)]) (fun j=>[]) (0) [] ?_ ?_ ?_;(focus (refine⟨?_,?_⟩<;>(try simp only[aE,ae,ab,Lm,aj,ai,aq,seval])<;>(try omega))))
        · exact⟨Nat.zero_le _,rfl⟩
        · rintro j ⟨hj,hna⟩
          by_cases hja:j<x.attrs.length
          · obtain⟨a,ha⟩:=ic hja
            have haa:=iu ha
            have f1:=sC j x.attrs.length
            have f2:=decide_eq_true hja
            have hji:=jB j x.attrs.length
            have wj:=eD j
            by_cases hs2:a.space=[]
            · have c2:(a.space==[])=true:=by rw[hs2];rfl
              have hna':=gq ha hna (show(!a.space.isEmpty)=false by rw[hs2];rfl)
              refine wR (a6 results102 ntmps102 f1 f2 hat (a9 haa @aD.eq_1 @bf.eq_1 hlt hii hja hji c2 wj)) trivial ?_
              all_goals ((refine de (j+1) [] ?_ ?_ ?_;(focus (refine⟨?_,?_⟩<;>(try simp only[aE,ae,wj,Lm,aj,ai,aq,seval])<;>(try omega)))))
              all_goals (first|(show x.attrs.length-(j+1)<x.attrs.length-j;omega)|exact⟨hja,hna'⟩|skip)
            · have c2:(a.space==[])=false:=by simpa using hs2
              have hr:bV v=true:=by
                unfold bV
                refine fx hx ?_
                unfold js
                rw[fx ha (by simpa using hs2),Bool.or_true]
              rw[hr]
              exact wP (a5 results102 ntmps102 f1 f2 (a9 hat haa @aD.eq_1 @bf.eq_1 hlt hii hja hji c2)) trivial
          · have hje:j=x.attrs.length:=by omega
            subst hje
            have f1:=nu x.attrs.length x.attrs.length
            have f2:decide (x.attrs.length<x.attrs.length)=false:=bi
            rw[List.take_length]at hna
            have hno':=gq hx hno (show js x=false by unfold js;rw[hna,hs];rfl)
            refine wR (a9 results102 ntmps102 f1 f2 hat @aD.eq_1 hlt hii wi) trivial ?_
            all_goals ((refine de (i+1) [] ?_ ?_ ?_;(focus (refine⟨?_,?_⟩<;>(try simp only[aE,ae,wi,Lm,aj,ai,aq,seval])<;>(try omega)))))
            all_goals (first|(show v.length-(i+1)<v.length-i;omega)|exact⟨hlt,hno'⟩|skip)
      · have c1:(x.space==[])=false:=by simpa using hs
        have hr:bV v=true:=by
          unfold bV
          refine fx hx ?_
          unfold js
          rw[show(!x.space.isEmpty)=true by simpa using hs,Bool.true_or]
        rw[hr]
        exact wP (a9 results102 ntmps102 d1 d2 hat @aD.eq_1 hlt hii c1) trivial
    · have hie:i=v.length:=by omega
      subst hie
      have d1:=nu v.length v.length
      have d2:decide (v.length<v.length)=false:=bi
      rw[List.take_length]at hno
      have hr:bV v=false:=hno
      rw[hr]
      exact wP (a4 results102 ntmps102 d1 d2) trivial
def wG {l:List At}{k:Nat}{a:At}(h:l[k]? = some a):(aW (l.take k)).map fm++[[.str a.name,.str a.value]]=(aW (l.take (k+1))).map fm:=sQ h
def A5 (l:List At)(hl:l.length<=1000)(nm:Nat):Ev cx 142 nm [.sl false 3 (l.map bf)] ao.nil (.own nm 0 l.length) [(nm,some ⟨2,(aW l).map fm⟩)]:=by
 refine aX call142 func142 ?_;intro b0 hb0;have zF:=Ai results142 ntmps142
 repeat' first|simp only[au,ap,zF,am,aj,ai,seval]|exact rfl|refine aa (v:=.any) ?_|refine av (by decide +kernel) ?_|((first|apply Ca|apply Cb)<;>intro hb)|refine Ai (by omega) ?_|(apply Ai<;>intro hb)
 (refine ew (fun x:Nat=>l.length-x) (fun x=>x<=l.length) (b0+16) (fun x=>[(0,.sl false 3 (l.map bf)),(3,.own b0 0 x),(4,.int .i64 x)]) (fun x=>[(b0,⟨2,(aW (l.take x)).map fm⟩)]) (0) [none] ?_ ?_ ?_;(focus (refine⟨?_,?_⟩<;>(try simp only[aE,ab,al,sR,List.take_zero,Lo,Lm,aj,ai,aq,seval])<;>(try omega))))
 ·exact Nat.zero_le _
 ·intro k hk
  by_cases hlt:k<l.length
  ·obtain⟨a,ha⟩:=ic hlt
   have hat:=iu ha
   have hd:=decide_eq_true hlt
   have hd2:=sC k l.length
   have hki:=jB k l.length
   have hwk:=eD k
   have hgl:(aW (l.take k)).length=k:=by rw[jW,List.length_take];omega
   have htl:((aW (l.take k)).map fm).take k=(aW (l.take k)).map fm:=List.take_of_length_le (by rw[Lm,hgl];omega)
   have hgs:=wG ha
   repeat' first|simp only[au,ap,zF,am,ab,hat,bf,hd,hd2,hki,hlt,hgl,htl,hgs,Lm,aj,ai,seval]|exact rfl|refine aa (v:=.any) ?_|refine av (by decide +kernel) ?_|((first|apply Ca|apply Cb)<;>intro hb)|refine Ai (by omega) ?_|(apply Ai<;>intro hb)
   all_goals ((refine de (k+1) [some (b0+288)] ?_ ?_ ?_;(focus (refine⟨?_,?_⟩<;>(try simp only[aE,ab,aC,al,az,hwk,Lm,aj,ai,aq,seval])<;>(try omega)))))
   all_goals (first|(show l.length-(k+1)<l.length-k;omega)|(show k+1<=l.length;omega)|skip)
  ·have hke:k=l.length:=by omega
   subst hke
   have hd:decide (l.length<l.length)=false:=bi
   have hd2:=nu l.length l.length
   ((repeat' first|simp only[au,ap,zF,am,aC,hd,hd2,List.take_length,Lm,aj,ai,seval]|exact rfl|refine aa (v:=.any) ?_|refine av (by decide +kernel) ?_|((first|apply Ca|apply Cb)<;>intro hb)|refine Ai (by omega) ?_|(apply Ai<;>intro hb));(all_goals (first|(refine Fin.auto (r:=?_) (l:=?_) ?_ ?_ ?_ ?_ ?_ ?_ ?_;rotate_left 1;(simp only[zF,bz,bT,aH,aO,aC,hd,hd2,List.take_length,Lm,aj,ai,seval]);(exact rfl);rotate_left 1;(simp only[V.owns,ownsL,List.cons_append,List.nil_append]);(exact rfl);all_goals (try simp only[zF,bz,bT,aH,aO,aC,hd,hd2,List.take_length,Lm,qR,aj,ai,seval]);all_goals (try simp only[aq]))|skip)))
def vi (l:List At)(hl:l.length<=1000)(nm:Nat):Ev cx 142 nm [.sl false 3 (l.map bf)] ao.nil (.sl false 2 ((aW l).map fm)) []:=by
 have hpl:=aC (aW l)
 have hpn:=jW l
 have htk:((aW l).map fm).take l.length=(aW l).map fm:=List.take_of_length_le (by rw[Lm,hpn];omega)
 refine Ev.freeze (A5 l hl nm) ?_ ?_
 ·simp only[au,ap,am,hpl,htk,hpn,Lm,aj,ai,seval]<;>omega
 ·simp only[au,ap,am,hpl,htk,hpn,Lm,aj,ai,seval]
def vj (v:List Nd)(hv:v.length<=1000)(hok:∀ n∈v,n.okTo aT){n:Nd}{k:Fo}{p d:Nat}{rest:List Nd}(hd:v.drop p=n::(k.flat++rest))(hg:(Fo.cons n k .nil).good d 0=true)(hd12:d<=12)(nm:Nat) :
  Ev cx 143 nm [.sl false 6 (v.map aD),.int .i64 p] ao.nil (.sl false 1 ((k.tops (p+1)).map gn)) []:=by
 have hpl:=aJ (k.tops (p+1))
 have hpn:=Fo.tops_length k (p+1)
 have htk:((k.tops (p+1)).map gn).take k.count=(k.tops (p+1)).map gn:=List.take_of_length_le (by rw[Lm,hpn];omega)
 refine Ev.freeze (A9 v hv hok hd hg hd12 nm) ?_ ?_
 ·simp only[au,ap,am,hpl,htk,hpn,Lm,aj,ai,seval]<;>omega
 ·simp only[au,ap,am,hpl,htk,hpn,Lm,aj,ai,seval]
end Go.Proofs.YtjonibipieofcaaGreatDoor
