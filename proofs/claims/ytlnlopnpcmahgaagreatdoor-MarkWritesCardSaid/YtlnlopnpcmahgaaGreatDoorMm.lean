/-
 Texts joined: XJa,XJb,XJc,XJd,XJe.
-/
import Derived.Test.YtlnlopnpcmahgaaGreatDoorQr
import Derived.Test.YtlnlopnpcmahgaaGreatDoorQk
import Derived.Test.YtlnlopnpcmahgaaGreatDoorQs
import Derived.Test.YtlnlopnpcmahgaaGreatDoorR1
import Derived.Test.YtlnlopnpcmahgaaGreatDoorQt
import Derived.Test.YtlnlopnpcmahgaaGreatDoorR2
import Derived.Test.YtlnlopnpcmahgaaGreatDoorMc
import Derived.Test.YtlnlopnpcmahgaaGreatDoorQu
set_option linter.all false
namespace Go.Proofs.YtlnlopnpcmahgaaGreatDoor
open Go Go.RowKit Vm Go.Lib Tryz
open Vm renaming aH->Ca,aL->Cb
open And renaming intro->Ai
open List renaming length_map->Lm,not_mem_nil->Ln,map_nil->Lo,map_cons->Lc,mem_cons->Lk
open Bool renaming not_false->Bf,not_true->Bt
set_option maxRecDepth 100000 in
set_option maxHeartbeats 8000000 in
def D8 (l:List At)(hl:l.length<=aS)(hs:∀ a∈l,a.space.length<=aS/\a.name.length<=aS/\a.value.length<=aS)(nm:Nat):Ev cx 180 nm [.sl false 3 (l.map bh)] am.nil (.bool (lj l)) []:=by
  have hl':=hl
  unfold aS at hl'
  refine aV call180 func180 rfl (by kernel_rfl) rfl ?_;intro b0 hb0;have zF:=Ai results180 ntmps180
  repeat' first|simp only[aj,ag,zF,ap,ai,seval,ah]|exact rfl|refine aa (v:=.any) ?_|refine ao (by decide +kernel) ?_|((first|apply Ca|apply Cb)<;>intro hb)|refine Ai (by omega) ?_|(apply Ai<;>intro hb)
  (refine ay bu (fun x:Nat=>l.length-x) (fun x=>x<=l.length/\r7 l x) (b0+16) (fun x=>[(0,.sl false 3 (l.map bh)),(3,.int .i64 x)]) (fun x=>[]) (0) [] ?_ ?_ ?_ ?_;rotate_left 1;(focus (show b0<=_;omega));(focus (refine⟨?_,?_⟩<;>(try simp only[aM,ae,ai,seval,ah,al])<;>(try omega)));rotate_left 1)
  · exact⟨Nat.zero_le _,fun i a hi=>by omega⟩
  · rintro k ⟨hk,hn⟩
    by_cases hlt:k<l.length
    · obtain ⟨a,ha⟩:∃ a,l[k]? = some a:=⟨_,List.getElem?_eq_getElem hlt⟩
      obtain⟨hs0,hs1,hs2⟩:=hs a (List.mem_of_getElem? ha)
      have hat:=gN ha
      have hd:decide (k<l.length)=true:=decide_eq_true hlt
      have hd2:decide ((k:Int)<(l.length:Int))=true:=cn
      have hki:(k:Int)<(l.length:Int):=by omega
      have hwk:IntKind.i64.wrap ((k:Int)+1)=((k+1:Nat):Int):=aK
      repeat' first|simp only[aj,ag,zF,ap,hat,hd,hd2,hlt,hki,Lm,ai,seval,ah]|exact rfl|refine aa (v:=.any) ?_|refine ao (by decide +kernel) ?_|((first|apply Ca|apply Cb)<;>intro hb)|refine Ai (by omega) ?_|(apply Ai<;>intro hb)
      (refine ay bu (fun x:Nat=>k-x) (fun x=>x<=k /\ ∀(i:Nat) (b:At),i<x->l[i]? = some b -> ¬(a.space=b.space/\a.name=b.name)) (b0+16) (fun x=>[(0,.sl false 3 (l.map bh)),(3,.int .i64 k),(4,.int .i64 x)]) (fun x=>[]) (0) [] ?_ ?_ ?_ ?_;rotate_left 1;(focus (show b0<=_;omega));(focus (refine⟨?_,?_⟩<;>(try simp only[aM,ae,ai,seval,ah,al])<;>(try omega)));rotate_left 1)
      · exact⟨Nat.zero_le _,fun i b hi=>by omega⟩
      · rintro j ⟨hj,hno⟩
        by_cases hjk:j<k
        · obtain⟨b,hb⟩:∃ b,l[j]? = some b:=⟨_,List.getElem?_eq_getElem (by omega)⟩
          have hbt:=gN hb
          have e1:decide (j<k)=true:=decide_eq_true hjk
          have e2:decide ((j:Int)<(k:Int))=true:=cn
          have e3:j<l.length:=by omega
          have e4:(j:Int)<(l.length:Int):=by omega
          have hwj:IntKind.i64.wrap ((j:Int)+1)=((j+1:Nat):Int):=aK
          by_cases hsp:a.space=b.space
          · have c1:(b.space==a.space)=true:=by rw[hsp];simp
            by_cases hnm:a.name=b.name
            · have c2:(b.name==a.name)=true:=by rw[hnm];simp
              have hr:lj l=false:=mY ha (by
                unfold Fi
                have:((l.take k).any fun b=>a.space==b.space&&a.name==b.name)=true:=List.any_eq_true.2 ⟨b,List.mem_of_getElem? (by rw[List.getElem?_take,if_pos hjk];exact hb),by rw[hsp,hnm];simp⟩
                rw[this];rfl)
              (repeat' first|simp only[aj,ag,zF,ap,hat,hbt,bh,e1,e2,e3,e4,hlt,hki,c1,c2,hr,Lm,ai,seval,ah]|exact rfl|refine aa (v:=.any) ?_|refine ao (by decide +kernel) ?_|((first|apply Ca|apply Cb)<;>intro hb)|refine Ai (by omega) ?_|(apply Ai<;>intro hb)|refine Fin.pure ?_ ?_ ?_|simp only[al])
            · have c2:(b.name==a.name)=false:=beq_false_of_ne (Ne.symm hnm)
              repeat' first|simp only[aj,ag,zF,ap,hat,hbt,bh,e1,e2,e3,e4,hlt,hki,hwj,c1,c2,Lm,ai,seval,ah]|exact rfl|refine aa (v:=.any) ?_|refine ao (by decide +kernel) ?_|((first|apply Ca|apply Cb)<;>intro hb)|refine Ai (by omega) ?_|(apply Ai<;>intro hb)
              all_goals ((refine au bu (j+1) [] ?_ ?_ ?_ ?_;rotate_left 2;(focus (show b0<=_;omega));(focus (refine⟨?_,?_⟩<;>(try simp only[aM,ae,hwj,ai,seval,ah,al])<;>(try omega)))))
              all_goals (first|(show k-(j+1)<k-j;omega)|(exact⟨hjk,fun i x hi hx h=>by
                by_cases e:i=j
                · subst e;rw[hb]at hx;cases hx;exact hnm h.2
                · exact hno i x (by omega) hx h⟩)|skip)
          · have c1:(b.space==a.space)=false:=beq_false_of_ne (Ne.symm hsp)
            repeat' first|simp only[aj,ag,zF,ap,hat,hbt,bh,e1,e2,e3,e4,hlt,hki,hwj,c1,Lm,ai,seval,ah]|exact rfl|refine aa (v:=.any) ?_|refine ao (by decide +kernel) ?_|((first|apply Ca|apply Cb)<;>intro hb)|refine Ai (by omega) ?_|(apply Ai<;>intro hb)
            all_goals ((refine au bu (j+1) [] ?_ ?_ ?_ ?_;rotate_left 2;(focus (show b0<=_;omega));(focus (refine⟨?_,?_⟩<;>(try simp only[aM,ae,hwj,ai,seval,ah,al])<;>(try omega)))))
            all_goals (first|(show k-(j+1)<k-j;omega)|(exact⟨hjk,fun i x hi hx h=>by
              by_cases e:i=j
              · subst e;rw[hb]at hx;cases hx;exact hsp h.1
              · exact hno i x (by omega) hx h⟩)|skip)
        · have hje:j=k:=by omega
          subst hje
          have e1:decide (j<j)=false:=aR
          have e2:decide ((j:Int)<(j:Int))=false:=aR
          have hany:((l.take j).any fun b=>a.space==b.space&&a.name==b.name)=false:=by
            rw[List.any_eq_false]
            intro b hb hc
            obtain⟨i,hi⟩:=List.mem_iff_getElem?.1 hb
            have hij:i<j:=by have:=(List.getElem?_eq_some_iff.1 hi).1;rw[List.length_take]at this;omega
            rw[List.getElem?_take,if_pos hij]at hi
            simp only[Bool.and_eq_true,beq_iff_eq]at hc
            exact hno i b hij hi hc
          have hf:=mL a.name hs1
          have hc:=fw a.value hs2
          have hc2:=fw a.space hs0
          have hok:Fi (l.take j) a=((bC a.name&&decide (az a.value=0))&&decide (az a.space=0)):=by unfold Fi;rw[hany];rfl
          generalize h1:bC a.name=b1 at hf hok
          have h3:(az a.value != 0) = !decide (az a.value=0):=by rw[Bool.eq_iff_iff];simp
          have h4:(az a.space != 0) = !decide (az a.space=0):=by rw[Bool.eq_iff_iff];simp
          generalize decide (az a.value=0)=b3 at h3 hok
          generalize decide (az a.space=0)=b4 at h4 hok
          cases ho:Fi (l.take j) a with
          | false =>
            have hr:=mY ha ho
            rw[ho]at hok
            cases b1<;>cases b3<;>cases b4
            all_goals (try (exfalso;simp at hok;done))
            all_goals ((repeat' first|simp only[aj,ag,zF,ap,hat,bh,e1,e2,hlt,hki,h3,h4,hr,Bt,Bf,Lm,ai,seval,ah]|exact rfl|refine aa (v:=.any) ?_|((first|(refine ac ?_ (hc _) ?_)|(refine ab ?_ (fun _=>hc _) ?_));(focus (simp only[zF,ap,hat,bh,e1,e2,hlt,hki,h3,h4,hr,Bt,Bf,Lm,ai,seval,ah]<;>exact rfl)))|((first|(refine ac ?_ (hc2 _) ?_)|(refine ab ?_ (fun _=>hc2 _) ?_));(focus (simp only[zF,ap,hat,bh,e1,e2,hlt,hki,h3,h4,hr,Bt,Bf,Lm,ai,seval,ah]<;>exact rfl)))|(first|(refine ac ?_ (hf _) ?_)|(refine ab ?_ (fun _=>hf _) ?_))|(refine aa (v:=.any) ?_)|refine ao (by decide +kernel) ?_|((first|apply Ca|apply Cb)<;>intro hb)|refine Ai (by omega) ?_|(apply Ai<;>intro hb)|refine Fin.pure ?_ ?_ ?_|simp only[al]))
          | true =>
            have hn':=pB hn ha ho
            rw[ho]at hok
            cases b1<;>cases b3<;>cases b4
            all_goals (try (exfalso;simp at hok;done))
            all_goals (repeat' first|simp only[aj,ag,zF,ap,hat,bh,e1,e2,hlt,hki,h3,h4,hwk,Bt,Bf,Lm,ai,seval,ah]|exact rfl|refine aa (v:=.any) ?_|((first|(refine ac ?_ (hc _) ?_)|(refine ab ?_ (fun _=>hc _) ?_));(focus (simp only[zF,ap,hat,bh,e1,e2,hlt,hki,h3,h4,hwk,Bt,Bf,Lm,ai,seval,ah]<;>exact rfl)))|((first|(refine ac ?_ (hc2 _) ?_)|(refine ab ?_ (fun _=>hc2 _) ?_));(focus (simp only[zF,ap,hat,bh,e1,e2,hlt,hki,h3,h4,hwk,Bt,Bf,Lm,ai,seval,ah]<;>exact rfl)))|(first|(refine ac ?_ (hf _) ?_)|(refine ab ?_ (fun _=>hf _) ?_))|refine ao (by decide +kernel) ?_|((first|apply Ca|apply Cb)<;>intro hb)|refine Ai (by omega) ?_|(apply Ai<;>intro hb))
            all_goals ((refine au bu (j+1) [] ?_ ?_ ?_ ?_;rotate_left 2;(focus (show b0<=_;omega));(focus (refine⟨?_,?_⟩<;>(try simp only[aM,ae,hwk,ai,seval,ah,al])<;>(try omega)))))
            all_goals (first|(show l.length-(j+1)<l.length-j;omega)|exact⟨hlt,hn'⟩|skip)
    · have hke:k=l.length:=by omega
      subst hke
      have hd:decide (l.length<l.length)=false:=aR
      have hd2:decide ((l.length:Int)<(l.length:Int))=false:=aR
      have hr:lj l=decide (l.length<=16):=by
        rw[Bool.eq_iff_iff,o7,decide_eq_true_eq]
        exact⟨fun h=>h.1,fun h=>⟨h,hn⟩⟩
      have hz:decide ((l.length:Int)<=16)=decide (l.length<=16):=by
        rw[Bool.eq_iff_iff,decide_eq_true_eq,decide_eq_true_eq];omega
      (repeat' first|simp only[aj,ag,zF,ap,hd,hd2,hr,hz,Lm,ai,seval,ah]|exact rfl|refine aa (v:=.any) ?_|refine ao (by decide +kernel) ?_|((first|apply Ca|apply Cb)<;>intro hb)|refine Ai (by omega) ?_|(apply Ai<;>intro hb)|refine Fin.pure ?_ ?_ ?_|simp only[al])
set_option maxRecDepth 100000 in
set_option maxHeartbeats 8000000 in
def Ea (x:Nd)(hx:x.okTo aS)(nm:Nat):Ev cx 140 nm [.agg (aG x)] am.nil (.bool (gC x)) []:=by
 obtain⟨h0,h1,h2,h3,h4⟩:=hx
 have hf:=mL x.name h2
 have hc1:=fw x.space h1
 have hc2:=fw x.text h3
 have ha:=D8 x.attrs h0 h4
 unfold gC
 have e0:(x.attrs.length==0)=x.attrs.isEmpty:=by cases x.attrs<;>rfl
 have e0i:((x.attrs.length:Int)==0)=x.attrs.isEmpty:=j5 _
 have e1:(az x.space==0)=decide (az x.space=0):=by rw[Bool.eq_iff_iff];simp
 have e2:(az x.text==0)=decide (az x.text=0):=by rw[Bool.eq_iff_iff];simp
 have e3:(x.name==[])=x.name.isEmpty:=by cases x.name<;>rfl
 have e4:(x.space==[])=x.space.isEmpty:=by cases x.space<;>rfl
 have e5:(x.text==[])=x.text.isEmpty:=by cases x.text<;>rfl
 have e6:(x.text != []) = !x.text.isEmpty:=by cases x.text<;>rfl
 have e7:(x.many==0)=decide (x.many=0):=by rw[Bool.eq_iff_iff];simp
 by_cases hk:x.kind=1
 ·rw[if_neg (by omega)]
  have k1:((x.kind:Int)==1)=true:=by rw[hk];rfl
  have k2:decide (x.kind=1)=true:=decide_eq_true hk
  rw[k2,Bool.true_and]
  rw[show(x.text.isEmpty&&bC x.name&&decide (az x.space=0)&&lj x.attrs)=(((bC x.name&&x.text.isEmpty)&&decide (az x.space=0))&&lj x.attrs) by rw[Bool.and_comm x.text.isEmpty]]
  generalize bC x.name=b1 at hf ⊢
  generalize lj x.attrs=b2 at ha ⊢
  generalize x.text.isEmpty=b3 at e5 ⊢
  generalize decide (az x.space=0)=b4 at e1 ⊢
  cases b1<;>cases b2<;>cases b3<;>cases b4
  all_goals (
   refine aV call140 func140 rfl (by kernel_rfl) rfl ?_;intro b0 hb0
   (repeat' first|simp only[aj,ag,results140,ntmps140,ap,aG,k1,e1,e5,ae,Bool.and_self,Bool.and_false,Bool.false_and,ai,seval,ah]|exact rfl|refine aa (v:=.any) ?_|(first|(refine ac ?_ (hf _) ?_)|(refine ab ?_ (fun _=>hf _) ?_)|(refine ac ?_ (hc1 _) ?_)|(refine ab ?_ (fun _=>hc1 _) ?_)|(refine ac ?_ (ha _) ?_)|(refine ab ?_ (fun _=>ha _) ?_))|(refine aa (v:=.any) ?_)|((first|apply Ca|apply Cb)<;>intro hb)|refine Ai (by omega) ?_|(apply Ai<;>intro hb)|refine Fin.pure ?_ ?_ ?_|simp only[al]))
 ·have k1:((x.kind:Int)==1)=false:=beq_false_of_ne (by omega)
  have k2:decide (x.kind=1)=false:=decide_eq_false hk
  by_cases hk2:x.kind=2
  ·rw[if_pos hk2]
   have k3:((x.kind:Int)==2)=true:=by rw[hk2];rfl
   generalize x.name.isEmpty=b1 at e3 ⊢
   generalize x.space.isEmpty=b2 at e4 ⊢
   generalize x.attrs.isEmpty=b3 at e0 e0i ⊢
   generalize decide (x.many=0)=b4 at e7 ⊢
   generalize x.text.isEmpty=b5 at e5 e6 ⊢
   generalize decide (az x.text=0)=b6 at e2 ⊢
   refine aV call140 func140 rfl (by kernel_rfl) rfl ?_;intro b0 hb0
   (repeat' first|simp only[aj,ag,results140,ntmps140,ap,aG,k1,k3,e0,e0i,e2,e3,e4,e5,e6,e7,ae,Bool.and_self,Bool.and_false,Bool.false_and,Bool.true_and,Lm,ai,seval,ah]|exact rfl|refine aa (v:=.any) ?_|(first|(refine ac ?_ (hc2 _) ?_)|(refine ab ?_ (fun _=>hc2 _) ?_))|((first|apply Ca|apply Cb)<;>intro hb)|refine Ai (by omega) ?_|(apply Ai<;>intro hb)|refine Fin.pure ?_ ?_ ?_|simp only[al])
  ·rw[if_neg hk2,k2]
   have k3:((x.kind:Int)==2)=false:=beq_false_of_ne (by omega)
   refine aV call140 func140 rfl (by kernel_rfl) rfl ?_;intro b0 hb0
   (repeat' first|simp only[aj,ag,results140,ntmps140,ap,aG,k1,k3,ae,Bool.and_self,Bool.and_false,Bool.false_and,ai,seval,ah]|exact rfl|refine aa (v:=.any) ?_|(refine aa (v:=.any) ?_)|((first|apply Ca|apply Cb)<;>intro hb)|refine Ai (by omega) ?_|(apply Ai<;>intro hb)|refine Fin.pure ?_ ?_ ?_|simp only[al])
def fe (rec:Nat->Option Nat)(v:List Nd):Nat->Nat->Bool->Option Nat
 | 0,next,_=>some next
 | c+1,next,text=>match rec next with
  | none=>none
  | some e=>match v[next]? with
   | none=>none
   | some y=>if (text&&y.kind==2)=true then none else fe rec v c e (y.kind==2)
def okB (v:List Nd)(dz:Bool)(x:Nd):Bool:=gC x&&decide (0<=x.many)&&decide (x.many<=(v.length:Int)) && !(x.kind==1&&dz)
def oB (rec:Nat->Option Nat)(v:List Nd)(dz:Bool)(p:Nat):Option Nat:=match v[p]? with
 | none=>none
 | some x=>if okB v dz x=true then fe rec v x.many.toNat (p+1) false else none
def ju (v:List Nd):Nat->Nat->Option Nat
 | 0=>oB (fun _=>none) v true
 | d+1=>oB (ju v d) v false
def eQ {v:List Nd}{p:Nat}{n:Nd}{r:List Nd}(h:v.drop p=n::r):v[p]? = some n/\p<v.length/\v.drop (p+1)=r:=by
 have h1:v[p]? = some n:=by
  have:(v.drop p)[0]? = some n:=by rw[h];rfl
  rwa[List.getElem?_drop,Nat.add_zero]at this
 refine⟨h1,(List.getElem?_eq_some_iff.1 h1).1,?_⟩
 have:(v.drop p).drop 1=r:=by rw[h];rfl
 rwa[List.drop_drop]at this
def mf {v:List Nd}{p:Nat}{F:Fo}{r:List Nd}(h:v.drop p=F.flat++r):F.size<=v.length:=by
 have:=congrArg List.length h
 rw[List.length_drop,List.length_append,Fo.flat_length]at this
 omega
def dX:∀(F:Fo),F.count<=F.size
 | .nil=>Nat.le_refl _
 | .cons n k r=>by have:=dX r;simp only[Fo.count,Fo.size];omega
def lF (v:List Nd):∀(F:Fo) (d last p:Nat) (rest:List Nd) (text:Bool),v.drop p=F.flat++rest->F.good d last=true->(text=true->last=2)->fe (ju v d) v F.count p text=some (p+F.size)
 | .nil,d,last,p,rest,text,_,_,_=>rfl
 | .cons n k r,d,last,p,rest,text,hd,hg,ht=>by
  obtain⟨h1,h2,h3,h4,h5,h6⟩:=Fo.good_cons.1 hg
  have hd':v.drop p=n::(k.flat++(r.flat++rest)):=by rw[hd];simp[Fo.flat]
  obtain⟨a1,a2,a3⟩:=eQ hd'
  have hkl:=mf a3
  have hkc:=dX k
  have hm:n.many.toNat=k.count:=by omega
  have hok:okB v (d==0) n=true:=by
   unfold okB
   rw[h1,cn,cn]
   simp only[Bool.and_self,Bool.true_and,Bool.not_eq_true',Bool.and_eq_false_iff,beq_eq_false_iff_ne,ne_eq]
   by_cases hd0:d=0
   ·left;exact fun h=>h4 ⟨h,hd0⟩
   ·right;exact hd0
  have hrec:ju v d p=some (p+1+k.size):=by
   cases d with
   | zero =>
    have hk2:n.kind=2:=by
     rcases fp h1 with e|e
     ·exact absurd ⟨e,rfl⟩ h4
     ·exact e
    have:=Fo.text_leaf hg hk2
    subst this
    unfold ju oB
    rw[a1]
    simp only[beq_self_eq_true]at hok
    simp only[hok,if_true,hm,Fo.count,fe,Fo.size,Nat.add_zero]
   | succ d =>
    unfold ju oB
    rw[a1]
    have hok':okB v false n=true:=hok
    simp only[hok',if_true,hm]
    exact lF v k d 1 (p+1) (r.flat++rest) false a3 h5 (fun h=>by cases h)
  have hdr:v.drop (p+1+k.size)=r.flat++rest:=by
   have:(v.drop (p+1)).drop k.size=r.flat++rest:=by rw[a3,<- Fo.flat_length,List.drop_left]
   rwa[List.drop_drop]at this
  have htk:(text&&n.kind==2)=false:=by
   cases text with
   | false=>rfl
   | true =>
    rw[Bool.true_and,beq_eq_false_iff_ne]
    exact fun h=>h3 ⟨ht rfl,h⟩
  simp only[Fo.count,fe,hrec,a1,htk,Bool.false_eq_true,if_false]
  rw[lF v r d n.kind (p+1+k.size) rest (n.kind==2) hdr h6 (fun h=>by simpa using h)]
  simp only[Fo.size]
  congr 1;omega
def r8 {v:List Nd}{n:Nd}{k:Fo}{d p:Nat}{rest:List Nd}(hd:v.drop p=n::(k.flat++rest))(hg:(Fo.cons n k .nil).good d 0=true):ju v d p=some (p+1+k.size):=by
 have h:=lF v (.cons n k .nil) d 0 p rest false (by rw[hd];simp[Fo.flat]) hg (fun h=>by cases h)
 simp only[Fo.count,fe,Fo.size,Nat.add_zero,Nat.zero_add]at h
 cases hb:ju v d p with
 | none=>rw[hb]at h;cases h
 | some e =>
  rw[hb,(eQ hd).1]at h
  simp only[Bool.false_and,Bool.false_eq_true,if_false,Option.some.injEq]at h
  rw[h];congr 1;omega
def qu {rec:Nat->Option Nat}{v:List Nd}{d:Nat}(hrec:∀ p e,rec p=some e -> ∃ n k rest,v.drop p=n::(k.flat++rest)/\(Fo.cons n k .nil).good d 0=true/\e=p+1+k.size) :
  ∀(c p:Nat) (text:Bool) (e last:Nat),fe rec v c p text=some e->(last=2->text=true)->p<=v.length -> ∃(F:Fo) (rest:List Nd),v.drop p=F.flat++rest/\F.count=c/\F.good d last=true/\e=p+F.size
 | 0,p,text,e,last,h,_,_=>by
  simp only[fe,Option.some.injEq]at h
  exact⟨.nil,v.drop p,rfl,rfl,rfl,by simp[Fo.size,h]⟩
 | c+1,p,text,e,last,h,hl,hp=>by
  simp only[fe]at h
  cases hr:rec p with
  | none=>rw[hr]at h;cases h
  | some e1 =>
   rw[hr]at h
   obtain⟨n,k,rest,a1,a2,a3⟩:=hrec p e1 hr
   obtain⟨b1,b2,b3⟩:=eQ a1
   rw[b1]at h
   simp only at h
   split at h
   ·cases h
   ·rename_i htx
    obtain⟨g1,g2,g3,g4,g5,g6⟩:=Fo.good_cons.1 a2
    have hdr:v.drop e1=rest:=by
     have:(v.drop (p+1)).drop k.size=rest:=by rw[b3,<- Fo.flat_length,List.drop_left]
     rw[List.drop_drop]at this
     rw[a3];exact this
    have he1:e1<=v.length:=by
     have:=congrArg List.length b3
     rw[List.length_drop,List.length_append,Fo.flat_length]at this
     omega
    obtain⟨R,rest2,c1,c2,c3,c4⟩:=qu hrec c e1 (n.kind==2) e n.kind h (fun h=>by simp[h]) he1
    rw[hdr]at c1
    refine⟨.cons n k R,rest2,?_,?_,Fo.good_cons.2 ⟨g1,g2,fun hx=>?_,g4,g5,c3⟩,?_⟩
    ·rw[a1,c1];simp[Fo.flat]
    ·simp only[Fo.count,c2]
    ·exact htx (by rw[hl hx.1,hx.2];rfl)
    ·simp only[Fo.size];omega
def m7 {v:List Nd} : ∀ {d p e:Nat},ju v d p=some e -> ∃ n k rest,v.drop p=n::(k.flat++rest)/\(Fo.cons n k .nil).good d 0=true/\e=p+1+k.size
 | 0,p,e,h=>by
  unfold ju oB at h
  cases hx:v[p]? with
  | none=>rw[hx]at h;cases h
  | some x =>
   rw[hx]at h
   simp only at h
   split at h
   ·rename_i hok
    unfold okB at hok
    simp only[Bool.and_true,Bool.and_eq_true,decide_eq_true_eq,Bool.not_eq_true',beq_eq_false_iff_ne]at hok
    obtain⟨⟨⟨h1,h2⟩,h3⟩,h4⟩:=hok
    have hk2:x.kind=2:=by
     rcases fp h1 with e|e
     ·exact absurd e h4
     ·exact e
    have hm:=(fq h1 hk2).2.2.2.1
    rw[hm]at h
    simp only[Int.toNat_zero,fe,Option.some.injEq]at h
    obtain⟨hp,hpe⟩:=List.getElem?_eq_some_iff.1 hx
    refine⟨x,.nil,v.drop (p+1),?_,Fo.good_cons.2 ⟨h1,by rw[hm];rfl,by omega,by omega,rfl,rfl⟩,by simp[Fo.size,h]⟩
    rw[List.drop_eq_getElem_cons hp,hpe];rfl
   ·cases h
 | d+1,p,e,h=>by
  unfold ju oB at h
  cases hx:v[p]? with
  | none=>rw[hx]at h;cases h
  | some x =>
   rw[hx]at h
   simp only at h
   split at h
   ·rename_i hok
    unfold okB at hok
    simp only[Bool.and_false,Bf,Bool.and_true,Bool.and_eq_true,decide_eq_true_eq]at hok
    obtain⟨⟨h1,h2⟩,h3⟩:=hok
    obtain⟨hp,hpe⟩:=List.getElem?_eq_some_iff.1 hx
    obtain⟨F,rest,c1,c2,c3,c4⟩:=qu (d:=d) (fun p e he=>m7 he) x.many.toNat (p+1) false e 1 h (fun h=>by cases h) hp
    refine⟨x,F,rest,?_,Fo.good_cons.2 ⟨h1,by omega,by omega,by omega,c3,rfl⟩,c4⟩
    rw[List.drop_eq_getElem_cons hp,hpe,c1]
   ·cases h
def Ft {v:List Nd}{d p e:Nat}(h:ju v d p=some e):p<e/\e<=v.length:=by
 obtain⟨n,k,rest,h1,_,h3⟩:=m7 h
 obtain⟨_,_,a3⟩:=eQ h1
 obtain⟨_,hp,_⟩:=eQ h1
 have:=congrArg List.length a3
 rw[List.length_drop,List.length_append,Fo.flat_length]at this
 omega
def xS (v:List Nd):Bool:=decide (ez v=0)
def GC (v:List Nd):xS v=(((decide (0<v.length)&&decide (v.length<=512))&&((v[0]?).map Nd.kind==some 1))&&(ju v 12 0==some v.length)):=by
 rw[Bool.eq_iff_iff]
 unfold xS
 simp only[decide_eq_true_eq,Bool.and_eq_true,beq_iff_eq]
 constructor
 ·intro h
  obtain⟨n,k,hk,hv,hg,hl⟩:=ko h
  have hlen:v.length=k.size+1:=by rw[hv];simp[Fo.flat_length]
  have hb:=r8 (v:=v) (n:=n) (k:=k) (d:=12) (p:=0) (rest:=[]) (by rw[List.drop_zero,List.append_nil];exact hv) hg
  refine⟨⟨⟨by omega,by omega⟩,by rw[hv];simp[hk]⟩,?_⟩
  rw[hb];congr 1;omega
 ·rintro ⟨⟨⟨h1,h2⟩,h3⟩,h4⟩
  obtain⟨n,k,rest,a1,a2,a3⟩:=m7 h4
  rw[List.drop_zero]at a1
  have hr:rest=[]:=by
   have:=congrArg List.length a1
   simp only[List.length_cons,List.length_append,Fo.flat_length]at this
   exact List.eq_nil_of_length_eq_zero (by omega)
  subst hr
  rw[List.append_nil]at a1
  have hk:n.kind=1:=by rw[a1]at h3;simpa using h3
  rw[a1]
  exact sa hk a2 (by rw[a1]at h2;simpa [Fo.flat_length] using h2)
def bx (v:V):(V.gd false v).strip true = .gd false v:=rfl
def lU:Option Nat->Int
 | none=>-1
 | some e=>(e:Int)
structure BhSt where
 i:Nat
 next:Nat
 text:Bool
set_option maxRecDepth 100000 in
set_option maxHeartbeats 16000000 in
def wc (v:List Nd)(hv:v.length<=100000)(hok:∀ n∈v,n.okTo aS)(rec:Nat->Option Nat)(L:Nat)(hL:L<=13)(hrec:L<=12 -> ∀ q:Nat,q<=100000 -> ∀ nm,Ev cx 93 nm [.sl false 6 (v.map aG),.int .i64 q,.int .i64 (L+1:Nat)] am.nil (.int .i64 (lU (rec q))) [])
    (hle:∀ q e,rec q=some e->q<e/\e<=v.length) (p:Nat) (hp:p<=100000) (nm:Nat) :
    Ev cx 93 nm [.sl false 6 (v.map aG),.int .i64 p,.int .i64 L] am.nil (.int .i64 (lU (oB rec v (decide (12<L)) p))) []:=by
  unfold oB
  cases hx:v[p]? with
  | none =>
    have hge:v.length<=p:=List.getElem?_eq_none_iff.1 hx
    have c1:decide ((v.length:Int)<=(p:Int))=true:=cn
    have c2:decide (v.length<=p)=true:=decide_eq_true hge
    have hat0:(v.map aG)[p]? = none:=by rw[List.getElem?_map,hx];rfl
    simp only[lU]
    refine aV call93 func93 rfl (by kernel_rfl) rfl ?_;intro b0 hb0
    (repeat' first|simp only[aj,ag,results93,ntmps93,ap,c1,c2,hat0,bx,Option.getD_none,List.drop_nil,List.take_nil,List.getElem?_nil,Lm,ai,seval,ah]|exact rfl|refine aa (v:=.any) ?_|(refine aa (v:=.any) ?_)|((first|apply Ca|apply Cb)<;>intro hb)|refine Ai (by omega) ?_|(apply Ai<;>intro hb)|refine Fin.pure ?_ ?_ ?_|simp only[al])
  | some x =>
    have hat:=dG hx
    have hpl:=(List.getElem?_eq_some_iff.1 hx).1
    have hpi:(p:Int)<(v.length:Int):=by omega
    have c1:decide ((v.length:Int)<=(p:Int))=false:=aR
    have c2:decide (v.length<=p)=false:=aR
    have hmay:=Ea x (hok x (List.mem_of_getElem? hx))
    simp only
    cases hb:okB v (decide (12<L)) x with
    | false =>
      rw[if_neg (by simp)]
      simp only[lU]
      unfold okB at hb
      cases hm:gC x with
      | false =>
        rw[hm]at hmay
        refine aV call93 func93 rfl (by kernel_rfl) rfl ?_;intro b0 hb0
        (repeat' first|simp only[aj,ag,results93,ntmps93,ap,c1,c2,bx,hat,aG,hpl,hpi,Bf,Lm,ai,seval,ah]|exact rfl|refine aa (v:=.any) ?_|(first|(refine ac ?_ (hmay _) ?_)|(refine ab ?_ (fun _=>hmay _) ?_))|(refine aa (v:=.any) ?_)|((first|apply Ca|apply Cb)<;>intro hb)|refine Ai (by omega) ?_|(apply Ai<;>intro hb)|refine Fin.pure ?_ ?_ ?_|simp only[al])
      | true =>
        rw[hm]at hmay hb
        by_cases h0:x.many<0
        · have e1:decide (x.many<0)=true:=decide_eq_true h0
          refine aV call93 func93 rfl (by kernel_rfl) rfl ?_;intro b0 hb0
          (repeat' first|simp only[aj,ag,results93,ntmps93,ap,c1,c2,e1,bx,hat,aG,hpl,hpi,Bt,Lm,ai,seval,ah]|exact rfl|refine aa (v:=.any) ?_|(first|(refine ac ?_ (hmay _) ?_)|(refine ab ?_ (fun _=>hmay _) ?_))|(refine aa (v:=.any) ?_)|((first|apply Ca|apply Cb)<;>intro hb)|refine Ai (by omega) ?_|(apply Ai<;>intro hb)|refine Fin.pure ?_ ?_ ?_|simp only[al])
        · have e1:decide (x.many<0)=false:=decide_eq_false h0
          by_cases h1:(v.length:Int)<x.many
          · have e2:decide ((v.length:Int)<x.many)=true:=decide_eq_true h1
            refine aV call93 func93 rfl (by kernel_rfl) rfl ?_;intro b0 hb0
            (repeat' first|simp only[aj,ag,results93,ntmps93,ap,c1,c2,e1,e2,bx,hat,aG,hpl,hpi,Bt,Lm,ai,seval,ah]|exact rfl|refine aa (v:=.any) ?_|(first|(refine ac ?_ (hmay _) ?_)|(refine ab ?_ (fun _=>hmay _) ?_))|(refine aa (v:=.any) ?_)|((first|apply Ca|apply Cb)<;>intro hb)|refine Ai (by omega) ?_|(apply Ai<;>intro hb)|refine Fin.pure ?_ ?_ ?_|simp only[al])
          · have e2:decide ((v.length:Int)<x.many)=false:=decide_eq_false h1
            rw[decide_eq_true (show 0<=x.many by omega),decide_eq_true (show x.many<=(v.length:Int) by omega)]at hb
            simp only[Bool.and_self,Bool.true_and,Bool.not_eq_false',Bool.and_eq_true,beq_iff_eq,decide_eq_true_eq]at hb
            have e3:((x.kind:Int)==1)=true:=by rw[hb.1];rfl
            have e4:decide ((12:Int)<(L:Int))=true:=cn
            have e5:decide (12<L)=true:=cn
            refine aV call93 func93 rfl (by kernel_rfl) rfl ?_;intro b0 hb0
            (repeat' first|simp only[aj,ag,results93,ntmps93,ap,c1,c2,e1,e2,e3,e4,e5,hat,aG,hpl,hpi,Bt,Lm,ai,seval,ah]|exact rfl|refine aa (v:=.any) ?_|(first|(refine ac ?_ (hmay _) ?_)|(refine ab ?_ (fun _=>hmay _) ?_))|(refine aa (v:=.any) ?_)|((first|apply Ca|apply Cb)<;>intro hb)|refine Ai (by omega) ?_|(apply Ai<;>intro hb)|refine Fin.pure ?_ ?_ ?_|simp only[al])
    | true =>
      rw[if_pos rfl]
      unfold okB at hb
      simp only[Bool.and_eq_true,decide_eq_true_eq,Bool.not_eq_true',Bool.and_eq_false_iff,beq_eq_false_iff_ne,decide_eq_false_iff_not]at hb
      obtain⟨⟨⟨hm,h0⟩,h1⟩,h2⟩:=hb
      rw[hm]at hmay
      have e1:decide (x.many<0)=false:=aR
      have e2:decide ((v.length:Int)<x.many)=false:=aR
      obtain⟨c,hc⟩:∃ c:Nat,x.many=(c:Int):=⟨x.many.toNat,by omega⟩
      have hct:x.many.toNat=c:=by omega
      rw[hct]
      have hcL:12<L->c=0:=fun h=>by
        have hk:x.kind≠1:=h2.resolve_right (by omega)
        have hk2:x.kind=2:=by
          rcases fp hm with e|e
          · exact absurd e hk
          · exact e
        have:=(fq hm hk2).2.2.2.1
        omega
      have e3:(((x.kind:Int)==1)&&decide ((12:Int)<(L:Int)))=false:=by
        rw[Bool.and_eq_false_iff]
        rcases h2 with h|h
        · left;exact beq_false_of_ne (by omega)
        · right;exact aR
      have w1:IntKind.i64.wrap ((p:Int)+1)=((p+1:Nat):Int):=aK
      have w2:IntKind.i64.wrap ((L:Int)+1)=((L+1:Nat):Int):=aK
      have hcase:((x.kind:Int)==1)=false\/(((x.kind:Int)==1)=true/\decide ((12:Int)<(L:Int))=false/\decide (12<L)=false):=by
        cases hkb:((x.kind:Int)==1) with
        | false=>exact .inl rfl
        | true =>
          rw[hkb,Bool.true_and]at e3
          have:¬ 12<L:=by have:=of_decide_eq_false e3;omega
          exact .inr ⟨rfl,e3,decide_eq_false this⟩
      have hS:=e3
      clear e3
      have hloop : ∀ (hk1:((x.kind:Int)==1)=false\/(((x.kind:Int)==1)=true/\decide ((12:Int)<(L:Int))=false/\decide (12<L)=false)),Ev cx 93 nm [.sl false 6 (v.map aG),.int .i64 p,.int .i64 L] am.nil (.int .i64 (lU (fe rec v c (p+1) false))) []:=by
        rintro (k1|⟨k1,k2,k3⟩)
        all_goals
          refine aV call93 func93 rfl (by kernel_rfl) rfl ?_;intro b0 hb0
          first
          | (repeat' first|simp only[aj,ag,results93,ntmps93,ap,c1,c2,e1,e2,k1,k2,k3,w1,hat,aG,hpl,hpi,Bt,Lm,ai,seval,ah]|exact rfl|refine aa (v:=.any) ?_|(first|(refine ac ?_ (hmay _) ?_)|(refine ab ?_ (fun _=>hmay _) ?_))|refine Ai (by omega) ?_
             (refine ay bu (fun s:BhSt=>c-s.i) (fun s=>s.i<=c/\s.next<=v.length/\fe rec v c (p+1) false=fe rec v (c-s.i) s.next s.text) (b0+16) (fun s=>[(0,.sl false 6 (v.map aG)),(1,.int .i64 p),(2,.int .i64 L),(7,.int .i64 s.next),(8,.bool s.text),(9,.int .i64 s.i)]) (fun s=>[]) ((BhSt.mk 0 (p+1) false)) [] ?_ ?_ ?_ ?_;rotate_left 1;(focus (show b0<=_;omega));(focus (refine⟨?_,?_⟩<;>(try simp only[aM,ad,Lm,ai,seval,ah,al])<;>(try omega)));rotate_left 1))
          | (repeat' first|simp only[aj,ag,results93,ntmps93,ap,c1,c2,e1,e2,k1,w1,hat,aG,hpl,hpi,Bt,Lm,ai,seval,ah]|exact rfl|refine aa (v:=.any) ?_|(first|(refine ac ?_ (hmay _) ?_)|(refine ab ?_ (fun _=>hmay _) ?_))|refine Ai (by omega) ?_
             (refine ay bu (fun s:BhSt=>c-s.i) (fun s=>s.i<=c/\s.next<=v.length/\fe rec v c (p+1) false=fe rec v (c-s.i) s.next s.text) (b0+16) (fun s=>[(0,.sl false 6 (v.map aG)),(1,.int .i64 p),(2,.int .i64 L),(7,.int .i64 s.next),(8,.bool s.text),(9,.int .i64 s.i)]) (fun s=>[]) ((BhSt.mk 0 (p+1) false)) [] ?_ ?_ ?_ ?_;rotate_left 1;(focus (show b0<=_;omega));(focus (refine⟨?_,?_⟩<;>(try simp only[aM,ad,Lm,ai,seval,ah,al])<;>(try omega)));rotate_left 1))
        all_goals first
          | exact⟨Nat.zero_le _,hpl,rfl⟩
          | (rintro ⟨i,next,text⟩ ⟨hi,hn,hinv⟩
             simp only at hi hn hinv ⊢
             rw[hinv]
             by_cases hlt:i<c
             · have hrc:=hrec (by have:=hcL;omega)
               have d1:decide ((i:Int)<x.many)=true:=cn
               have wi:IntKind.i64.wrap ((i:Int)+1)=((i+1:Nat):Int):=aK
               have hsub:c-i=(c-(i+1))+1:=by omega
               have hu:fe rec v (c-i) next text=(match rec next with|none=>none|some e=>match v[next]? with|none=>none|some y=>if (text&&y.kind==2)=true then none else fe rec v (c-(i+1)) e (y.kind==2)):=by rw[hsub];rfl
               rw[hu]
               clear hu hsub
               have hcall:=hrc next (by omega)
               cases hr:rec next with
               | none =>
                 rw[hr]at hcall
                 simp only[lU]at hcall ⊢
                 (repeat' first|simp only[aj,ag,results93,ntmps93,ap,d1,w2,hat,aG,hpl,hpi,Bt,Lm,ai,seval,ah]|exact rfl|refine aa (v:=.any) ?_|(first|(refine ac ?_ (hcall _) ?_)|(refine ab ?_ (fun _=>hcall _) ?_))|(refine aa (v:=.any) ?_)|((first|apply Ca|apply Cb)<;>intro hb)|refine Ai (by omega) ?_|(apply Ai<;>intro hb)|refine Fin.pure ?_ ?_ ?_|simp only[al])
               | some e =>
                 rw[hr]at hcall
                 obtain⟨he1,he2⟩:=hle next e hr
                 obtain⟨y,hy⟩:∃ y,v[next]? = some y:=⟨_,List.getElem?_eq_getElem (by omega)⟩
                 have haty:=dG hy
                 have hnl:next<v.length:=by omega
                 have hni:(next:Int)<(v.length:Int):=by omega
                 have d2:decide ((e:Int)<0)=false:=aR
                 rw[hy]
                 simp only[lU]at hcall ⊢
                 have hk2:(y.kind==2)=((y.kind:Int)==2):=by rw[Bool.eq_iff_iff];simp;omega
                 rw[hk2]
                 cases hkk:((y.kind:Int)==2)<;>cases text
                 all_goals (try simp only[Bool.and_self,Bool.and_false,Bool.false_and,Bool.false_eq_true,if_false,if_true])
                 all_goals first
                   | (repeat' first|simp only[aj,ag,results93,ntmps93,ap,d1,d2,w2,wi,hkk,hat,haty,aG,hpl,hpi,hnl,hni,Bt,Lm,ai,seval,ah]|exact rfl|refine aa (v:=.any) ?_|(first|(refine ac ?_ (hcall _) ?_)|(refine ab ?_ (fun _=>hcall _) ?_))|refine Ai (by omega) ?_
                      (refine au bu (BhSt.mk (i+1) e ((y.kind:Int)==2)) [] ?_ ?_ ?_ ?_;rotate_left 2;(focus (show b0<=_;omega));(focus (refine⟨?_,?_⟩<;>(try simp only[aM,ad,wi,hkk,Lm,ai,seval,ah,al])<;>(try omega)))))
                   |((repeat' first|simp only[aj,ag,results93,ntmps93,ap,d1,d2,w2,wi,hkk,hat,haty,aG,hpl,hpi,hnl,hni,Bt,Lm,ai,seval,ah]|exact rfl|refine aa (v:=.any) ?_|(first|(refine ac ?_ (hcall _) ?_)|(refine ab ?_ (fun _=>hcall _) ?_))|((first|apply Ca|apply Cb)<;>intro hb)|refine Ai (by omega) ?_|(apply Ai<;>intro hb)|refine Fin.pure ?_ ?_ ?_|simp only[al]))
                 all_goals first|(show c-(i+1)<c-i;omega)|(exact⟨hlt,he2,by simp only[hkk,hk2]⟩)|skip
             · have hie:i=c:=by omega
               subst hie
               have d1:decide ((i:Int)<x.many)=false:=aR
               have hu:fe rec v (i-i) next text=some next:=by rw[Nat.sub_self];rfl
               rw[hu]
               simp only[lU]
               (repeat' first|simp only[aj,ag,results93,ntmps93,ap,d1,hat,aG,hpl,hpi,Lm,ai,seval,ah]|exact rfl|refine aa (v:=.any) ?_|((first|apply Ca|apply Cb)<;>intro hb)|refine Ai (by omega) ?_|(apply Ai<;>intro hb)|refine Fin.pure ?_ ?_ ?_|simp only[al]))
      exact hloop hcase
end Go.Proofs.YtlnlopnpcmahgaaGreatDoor
namespace Go.Proofs.YtlnlopnpcmahgaaGreatDoor
open Nat renaming reduceAdd->Ka,reduceMul->Kb,reduceEqDiff->Kc,reduceLeDiff->Kd,reduceSub->Ke,reduceLT->Kf,reduceBEq->Kr,reduceBNe->Ks,reducePow->Kt
open Int renaming reduceToNat->Kg,reduceLE->Kh,reduceLT->Ki,reduceAdd->Kj,reduceSub->Kk,reduceMul->Kl,reduceNeg->Km,reduceBEq->Kn,reduceBNe->Ko,reduceEq->Kp,reduceNe->Kq
open Go Go.RowKit Vm Go.Lib Tryz
open Vm renaming aH->Ca,aL->Cb
open And renaming intro->Ai
open List renaming length_map->Lm,not_mem_nil->Ln,map_nil->Lo,map_cons->Lc,mem_cons->Lk
open Bool renaming not_false->Bf,not_true->Bt
def lM (v:List Nd)(hv:v.length<=100000)(hok:∀ n∈v,n.okTo aS):∀(d:Nat),d<=12 -> ∀(p:Nat),p<=100000 -> ∀(nm:Nat),
  Ev cx 93 nm [.sl false 6 (v.map aG),.int .i64 p,.int .i64 ((13-d:Nat):Int)] am.nil (.int .i64 (lU (ju v d p))) []
 | 0,_,p,hp,nm=>wc v hv hok (fun _=>none) 13 (by omega) (fun h=>absurd h (by omega)) (fun q e h=>by cases h) p hp nm
 | d+1,hd,p,hp,nm=>by
  have h:=wc v hv hok (ju v d) (13-(d+1)) (by omega) (fun _ q hq nm=>by
   have:=lM v hv hok d (by omega) q hq nm
   rwa[show 13-d=13-(d+1)+1 by omega]at this) (fun q e he=>Ft he) p hp nm
  rw[decide_eq_false (show ¬ 12<13-(d+1) by omega)]at h
  exact h
set_option maxRecDepth 100000 in
set_option maxHeartbeats 8000000 in
def wb (v:List Nd)(hv:v.length<=100000)(hok:∀ n∈v,n.okTo aS)(nm:Nat):Ev cx 52 nm [.sl false 6 (v.map aG)] am.nil (.bool (xS v)) []:=by
 rw[GC]
 have hb:=lM v hv hok 12 (Nat.le_refl _) 0 (by omega)
 simp only[Int.ofNat_zero,Ke,Int.ofNat_one]at hb
 cases hx:v[0]? with
 | none =>
  have h0:v.length=0:=by have:=List.getElem?_eq_none_iff.1 hx;omega
  have h1:v=[]:=List.eq_nil_of_length_eq_zero h0
  subst h1
  refine aV call52 func52 rfl (by kernel_rfl) rfl ?_;intro b0 hb0
  (repeat' first|simp only[aj,ag,results52,ntmps52,ap,bx,Lo,List.length_nil,List.getElem?_nil,Option.getD_none,List.drop_nil,Bool.false_and,ai,seval,ah]|exact rfl|refine aa (v:=.any) ?_|(refine aa (v:=.any) ?_)|((first|apply Ca|apply Cb)<;>intro hb)|refine Ai (by omega) ?_|(apply Ai<;>intro hb)|refine Fin.pure ?_ ?_ ?_|simp only[al])
 | some x =>
  have hat:=dG hx
  have h0:=(List.getElem?_eq_some_iff.1 hx).1
  have h0i:(0:Int)<(v.length:Int):=by omega
  have c1:decide ((0:Int)<(v.length:Int))=true:=decide_eq_true h0i
  have c2:decide (0<v.length)=true:=decide_eq_true h0
  have c3:decide ((v.length:Int)<=512)=decide (v.length<=512):=by rw[Bool.eq_iff_iff,decide_eq_true_eq,decide_eq_true_eq];omega
  have c4:((some x).map Nd.kind==some 1)=((x.kind:Int)==1):=by
   rw[Bool.eq_iff_iff];simp;omega
  have c5:(lU (ju v 12 0)==(v.length:Int))=(ju v 12 0==some v.length):=by
   cases ju v 12 0 with
   | none =>
    have:((-1:Int)==(v.length:Int))=false:=beq_false_of_ne (by omega)
    simp only[lU,this];rfl
   | some e=>rw[Bool.eq_iff_iff];simp only[lU,beq_iff_eq,Option.some.injEq];omega
  rw[c2,Bool.true_and,c4,<- c5]
  generalize lU (ju v 12 0)=B at hb ⊢
  clear c2 c4 c5
  by_cases hl:v.length<=512
  ·have c6:decide (v.length<=512)=true:=decide_eq_true hl
   rw[c6]at c3 ⊢
   cases hk:((x.kind:Int)==1)
   all_goals (
    refine aV call52 func52 rfl (by kernel_rfl) rfl ?_;intro b0 hb0
    (repeat' first|simp only[aj,ag,results52,ntmps52,ap,bx,c1,c3,hat,h0,h0i,hk,aG,Lm,Bool.true_and,Bool.false_and,ai,seval,ah]|exact rfl|refine aa (v:=.any) ?_|(first|(refine ac ?_ (hb _) ?_)|(refine ab ?_ (fun _=>hb _) ?_))|(refine aa (v:=.any) ?_)|((first|apply Ca|apply Cb)<;>intro hb)|refine Ai (by omega) ?_|(apply Ai<;>intro hb)|refine Fin.pure ?_ ?_ ?_|simp only[al]))
  ·have c6:decide (v.length<=512)=false:=decide_eq_false hl
   rw[c6]at c3 ⊢
   refine aV call52 func52 rfl (by kernel_rfl) rfl ?_;intro b0 hb0
   (repeat' first|simp only[aj,ag,results52,ntmps52,ap,bx,c1,c3,hat,h0,h0i,aG,Lm,Bool.true_and,Bool.false_and,ai,seval,ah]|exact rfl|refine aa (v:=.any) ?_|(refine aa (v:=.any) ?_)|((first|apply Ca|apply Cb)<;>intro hb)|refine Ai (by omega) ?_|(apply Ai<;>intro hb)|refine Fin.pure ?_ ?_ ?_|simp only[al])
structure UnSt where
 D:Fo
 R:Fo
 q:Nat
def UnSt.inv (k:Fo)(p:Nat)(x:UnSt):Prop:=x.D.app x.R=k/\x.q=p+1+x.D.size
def Bb {D m r k:Fo}{d:Nat}{x:Nd}{c:Fo}(h:D.app (.cons x c r)=k)(hg:k.good d 1=true)(hd:d<=12):(Fo.cons x c .nil).good 12 0=true:=by
 rw[<- h,Fo.app_good,Bool.and_eq_true]at hg
 obtain⟨h1,h2,h3,h4,h5,h6⟩:=Fo.good_cons.1 hg.2
 exact Fo.good_mono hd (Fo.good_cons.2 ⟨h1,h2,by omega,h4,h5,rfl⟩)
def B5 {D:Fo}{x:Nd}{c:Fo}(p:Nat):(D.tops p).map ff++[ff (p+D.size)]=((D.app (.cons x c .nil)).tops p).map ff:=by
 rw[Fo.tops_app];simp[Fo.tops]
set_option maxRecDepth 100000 in
set_option maxHeartbeats 8000000 in
def yg (v:List Nd)(hv:v.length<=1000)(hok:∀ n∈v,n.okTo aS){n:Nd}{k:Fo}{p d:Nat}{rest:List Nd}(hd:v.drop p=n::(k.flat++rest))(hg:(Fo.cons n k .nil).good d 0=true)(hd12:d<=12)(nm:Nat) :
  Ev cx 95 nm [.sl false 6 (v.map aG),.int .i64 p] am.nil (.own nm 0 k.count) [(nm,some ⟨1,(k.tops (p+1)).map ff⟩)]:=by
 obtain⟨hx,hpl,hd1⟩:=eQ hd
 have hat:=dG hx
 have hpi:(p:Int)<(v.length:Int):=by omega
 obtain⟨g1,g2,g3,g4,g5,g6⟩:=Fo.good_cons.1 hg
 have hkl:=mf hd1
 have hkc:=dX k
 have hks:p+1+k.size<=v.length:=by
  have:=congrArg List.length hd1
  rw[List.length_drop,List.length_append,Fo.flat_length]at this
  omega
 have w1:IntKind.i64.wrap ((p:Int)+1)=((p+1:Nat):Int):=aK
 refine aV call95 func95 rfl (by kernel_rfl) rfl ?_;intro b0 hb0;have zF:=Ai results95 ntmps95
 repeat' first|simp only[aj,ag,zF,ap,w1,ai,seval,ah]|exact rfl|refine aa (v:=.any) ?_|((first|apply Ca|apply Cb)<;>intro hb)|refine Ai (by omega) ?_|(apply Ai<;>intro hb)
 (refine ay bu (fun x:UnSt=>k.count-x.D.count) (fun x=>x.inv k p) (b0+16) (fun x=>[(0,.sl false 6 (v.map aG)),(1,.int .i64 p),(5,.own b0 0 x.D.count),(6,.int .i64 x.q),(7,.int .i64 x.D.count)]) (fun x=>[(b0,⟨1,(x.D.tops (p+1)).map ff⟩)]) ((UnSt.mk .nil k (p+1))) [none] ?_ ?_ ?_ ?_;rotate_left 1;(focus (show b0<=_;omega));(focus (refine⟨?_,?_⟩<;>(try simp only[aM,ad,aC,aB,Fo.tops,Fo.count,Fo.size,Lo,List.length_nil,Lm,ai,seval,ah,al])<;>(try omega)));rotate_left 1)
 ·exact⟨rfl,rfl⟩
 ·rintro ⟨D,R,q⟩ ⟨hi1,hi2⟩
  simp only at hi1 hi2 ⊢
  have htl:=Fo.tops_length D (p+1)
  have htk:((D.tops (p+1)).map ff).take D.count=(D.tops (p+1)).map ff:=List.take_of_length_le (by rw[Lm,htl];omega)
  cases R with
  | nil =>
   rw[Fo.app_nil]at hi1
   subst hi1
   have d1:decide ((D.count:Int)<n.many)=false:=aR
   ((repeat' first|simp only[aj,ag,zF,ap,d1,hat,aG,hpl,hpi,htl,htk,aC,Lm,ai,seval,ah]|exact rfl|refine aa (v:=.any) ?_|((first|apply Ca|apply Cb)<;>intro hb)|refine Ai (by omega) ?_|(apply Ai<;>intro hb));(all_goals (first|(refine Fin.auto (r:=?_) (l:=?_) ?_ ?_ ?_ ?_ ?_ ?_ ?_;rotate_left 1;(simp only[zF,be,bA,aU,bd,d1,hat,aG,hpl,hpi,htl,htk,aC,Lm,ai,seval,ah]);(exact rfl);rotate_left 1;(simp only[V.owns,ownsL,List.cons_append,List.nil_append]);(exact rfl);all_goals (try simp only[zF,be,bA,aU,bd,d1,hat,aG,hpl,hpi,htl,htk,aC,Lm,rT,ai,seval,ah]);all_goals (try simp only[al]))|skip)))
  | cons m c r =>
   have hi1':(D.app (.cons m c .nil)).app r=k:=by rw[Fo.app_assoc];exact hi1
   have hkc2:k.count=D.count+(r.count+1):=by rw[<- hi1,Fo.app_count];rfl
   have hks2:k.size=D.size+(c.size+r.size+1):=by rw[<- hi1,Fo.app_size];rfl
   have d1:decide ((D.count:Int)<n.many)=true:=cn
   have w2:IntKind.i64.wrap ((D.count:Int)+1)=((D.count+1:Nat):Int):=aK
   have hdq:v.drop q=m::(c.flat++(r.flat++rest)):=by
    have:(v.drop (p+1)).drop D.size=m::(c.flat++(r.flat++rest)):=by
     rw[hd1,<- hi1,Fo.app_flat,List.append_assoc,<- Fo.flat_length,List.drop_left]
     simp[Fo.flat]
    rw[List.drop_drop]at this
    rw[hi2];exact this
   have hbg:=r8 hdq (Bb (m:=.nil) hi1 g5 (by omega))
   have hb:=lM v (by omega) hok 12 (Nat.le_refl _) q (by omega)
   rw[hbg]at hb
   simp only[lU,Ke,Int.ofNat_one]at hb
   have hsn:(D.tops (p+1)).map ff++[[V.int .i64 (q:Int)]]=((D.app (.cons m c .nil)).tops (p+1)).map ff:=by
    rw[hi2];exact B5 (D:=D) (x:=m) (c:=c) (p+1)
   have hct:=Fo.app_count D (.cons m c .nil)
   simp only[Fo.count,Nat.zero_add]at hct
   have hsz:=Fo.app_size D (.cons m c .nil)
   simp only[Fo.size,Nat.add_zero]at hsz
   repeat' first|simp only[aj,ag,zF,ap,d1,hat,aG,hpl,hpi,htl,htk,hsn,aC,Lm,ai,seval,ah]|exact rfl|refine aa (v:=.any) ?_|(first|(refine ac ?_ (hb _) ?_)|(refine ab ?_ (fun _=>hb _) ?_))|((first|apply Ca|apply Cb)<;>intro hb)|refine Ai (by omega) ?_|(apply Ai<;>intro hb)
   all_goals ((refine au bu (UnSt.mk (D.app (.cons m c .nil)) r (q+1+c.size)) [some (b0+176)] ?_ ?_ ?_ ?_;rotate_left 2;(focus (show b0<=_;omega));(focus (refine⟨?_,?_⟩<;>(try simp only[aM,w2,hct,ad,aC,aB,aQ,Lm,ai,seval,ah,al])<;>(try omega)))))
   all_goals (first|(show k.count-(D.app (.cons m c .nil)).count<k.count-D.count;omega)|(refine⟨hi1',?_⟩;simp only;omega)|skip)
end Go.Proofs.YtlnlopnpcmahgaaGreatDoor
namespace Go.Proofs.YtlnlopnpcmahgaaGreatDoor
open Go Go.RowKit Vm Go.Lib Tryz
open Vm renaming aH->Ca,aL->Cb
open And renaming intro->Ai
open List renaming length_map->Lm,not_mem_nil->Ln,map_nil->Lo,map_cons->Lc,mem_cons->Lk
open Bool renaming not_false->Bf,not_true->Bt
def fg {α:Type}{p:α->Bool}{l:List α}{k:Nat}{x:α}(h:l[k]? = some x)(hn:(l.take k).any p=false)(hp:p x=false):(l.take (k+1)).any p=false:=by
 obtain⟨hk,rfl⟩:=List.getElem?_eq_some_iff.1 h
 rw[List.take_succ_eq_append_getElem hk,List.any_append,hn];simp[hp]
def ew {α:Type}{p:α->Bool}{l:List α}{k:Nat}{x:α}(h:l[k]? = some x)(hp:p x=true):l.any p=true:=List.any_eq_true.2 ⟨x,List.mem_of_getElem? h,hp⟩
set_option maxRecDepth 100000 in
set_option maxHeartbeats 4000000 in
def Bl (v:List Nd)(hv:v.length<=100000)(hok:∀ n∈v,n.okTo aS)(nm:Nat):Ev cx 53 nm [.sl false 6 (v.map aG)] am.nil (.bool (bD v)) []:=by
  refine aV call53 func53 rfl (by kernel_rfl) rfl ?_;intro b0 hb0;have zF:=Ai results53 ntmps53
  repeat' first|simp only[aj,ag,zF,ap,ai,seval,ah]|exact rfl|refine aa (v:=.any) ?_|((first|apply Ca|apply Cb)<;>intro hb)|refine Ai (by omega) ?_|(apply Ai<;>intro hb)
  (refine ay bu (fun x:Nat=>v.length-x) (fun x=>x<=v.length/\(v.take x).any gZ=false) (b0+16) (fun x=>[(0,.sl false 6 (v.map aG)),(3,.int .i64 x)]) (fun x=>[]) (0) [] ?_ ?_ ?_ ?_;rotate_left 1;(focus (show b0<=_;omega));(focus (refine⟨?_,?_⟩<;>(try simp only[aM,ad,Lm,ai,seval,ah,al])<;>(try omega)));rotate_left 1)
  · exact⟨Nat.zero_le _,rfl⟩
  · rintro i ⟨hi,hno⟩
    by_cases hlt:i<v.length
    · obtain ⟨x,hx⟩:∃ x,v[i]? = some x:=⟨_,List.getElem?_eq_getElem hlt⟩
      have hat:=dG hx
      have hxl:=(hok x (List.mem_of_getElem? hx)).1
      unfold aS at hxl
      have d1:decide ((i:Int)<(v.length:Int))=true:=cn
      have d2:decide (i<v.length)=true:=decide_eq_true hlt
      have hii:(i:Int)<(v.length:Int):=by omega
      have wi:IntKind.i64.wrap ((i:Int)+1)=((i+1:Nat):Int):=aK
      by_cases hs:x.space=[]
      · have c1:(x.space==[])=true:=by rw[hs];rfl
        repeat' first|simp only[aj,ag,zF,ap,d1,d2,hat,aG,hlt,hii,c1,Bt,Bf,Lm,ai,seval,ah]|exact rfl|refine aa (v:=.any) ?_|((first|apply Ca|apply Cb)<;>intro hb)|refine Ai (by omega) ?_|(apply Ai<;>intro hb)
        (refine ay bu (fun j:Nat=>x.attrs.length-j) (fun j=>j<=x.attrs.length/\(x.attrs.take j).any (fun a=>!a.space.isEmpty)=false) (b0+16) (fun j=>[(0,.sl false 6 (v.map aG)),(3,.int .i64 i),(4,.int .i64 j)]) (fun j=>[]) (0) [] ?_ ?_ ?_ ?_;rotate_left 1;(focus (show b0<=_;omega));(focus (refine⟨?_,?_⟩<;>(try simp only[aM,ad,ae,Lm,ai,seval,ah,al])<;>(try omega)));rotate_left 1)
        · exact⟨Nat.zero_le _,rfl⟩
        · rintro j ⟨hj,hna⟩
          by_cases hja:j<x.attrs.length
          · obtain⟨a,ha⟩:∃ a,x.attrs[j]? = some a:=⟨_,List.getElem?_eq_getElem hja⟩
            have haa:=gN ha
            have f1:decide ((j:Int)<(x.attrs.length:Int))=true:=cn
            have f2:decide (j<x.attrs.length)=true:=decide_eq_true hja
            have hji:(j:Int)<(x.attrs.length:Int):=by omega
            have wj:IntKind.i64.wrap ((j:Int)+1)=((j+1:Nat):Int):=aK
            by_cases hs2:a.space=[]
            · have c2:(a.space==[])=true:=by rw[hs2];rfl
              have hna':=fg ha hna (show(!a.space.isEmpty)=false by rw[hs2];rfl)
              repeat' first|simp only[aj,ag,zF,ap,f1,f2,hat,haa,aG,bh,hlt,hii,hja,hji,c2,wj,Bt,Bf,Lm,ai,seval,ah]|exact rfl|refine aa (v:=.any) ?_|((first|apply Ca|apply Cb)<;>intro hb)|refine Ai (by omega) ?_|(apply Ai<;>intro hb)
              all_goals ((refine au bu (j+1) [] ?_ ?_ ?_ ?_;rotate_left 2;(focus (show b0<=_;omega));(focus (refine⟨?_,?_⟩<;>(try simp only[aM,ad,wj,Lm,ai,seval,ah,al])<;>(try omega)))))
              all_goals (first|(show x.attrs.length-(j+1)<x.attrs.length-j;omega)|exact⟨hja,hna'⟩|skip)
            · have c2:(a.space==[])=false:=by simpa using hs2
              have hr:bD v=true:=by
                unfold bD
                refine ew hx ?_
                unfold gZ
                rw[ew ha (by simpa using hs2),Bool.or_true]
              rw[hr]
              (repeat' first|simp only[aj,ag,zF,ap,f1,f2,hat,haa,aG,bh,hlt,hii,hja,hji,c2,Bt,Bf,Lm,ai,seval,ah]|exact rfl|refine aa (v:=.any) ?_|((first|apply Ca|apply Cb)<;>intro hb)|refine Ai (by omega) ?_|(apply Ai<;>intro hb)|refine Fin.pure ?_ ?_ ?_|simp only[al])
          · have hje:j=x.attrs.length:=by omega
            subst hje
            have f1:decide ((x.attrs.length:Int)<(x.attrs.length:Int))=false:=aR
            have f2:decide (x.attrs.length<x.attrs.length)=false:=aR
            rw[List.take_length]at hna
            have hno':=fg hx hno (show gZ x=false by unfold gZ;rw[hna,hs];rfl)
            repeat' first|simp only[aj,ag,zF,ap,f1,f2,hat,aG,hlt,hii,wi,Lm,ai,seval,ah]|exact rfl|refine aa (v:=.any) ?_|((first|apply Ca|apply Cb)<;>intro hb)|refine Ai (by omega) ?_|(apply Ai<;>intro hb)
            all_goals ((refine au bu (i+1) [] ?_ ?_ ?_ ?_;rotate_left 2;(focus (show b0<=_;omega));(focus (refine⟨?_,?_⟩<;>(try simp only[aM,ad,wi,Lm,ai,seval,ah,al])<;>(try omega)))))
            all_goals (first|(show v.length-(i+1)<v.length-i;omega)|exact⟨hlt,hno'⟩|skip)
      · have c1:(x.space==[])=false:=by simpa using hs
        have hr:bD v=true:=by
          unfold bD
          refine ew hx ?_
          unfold gZ
          rw[show(!x.space.isEmpty)=true by simpa using hs,Bool.true_or]
        rw[hr]
        (repeat' first|simp only[aj,ag,zF,ap,d1,d2,hat,aG,hlt,hii,c1,Bt,Bf,Lm,ai,seval,ah]|exact rfl|refine aa (v:=.any) ?_|((first|apply Ca|apply Cb)<;>intro hb)|refine Ai (by omega) ?_|(apply Ai<;>intro hb)|refine Fin.pure ?_ ?_ ?_|simp only[al])
    · have hie:i=v.length:=by omega
      subst hie
      have d1:decide ((v.length:Int)<(v.length:Int))=false:=aR
      have d2:decide (v.length<v.length)=false:=aR
      rw[List.take_length]at hno
      have hr:bD v=false:=hno
      rw[hr]
      (repeat' first|simp only[aj,ag,zF,ap,d1,d2,Lm,ai,seval,ah]|exact rfl|refine aa (v:=.any) ?_|((first|apply Ca|apply Cb)<;>intro hb)|refine Ai (by omega) ?_|(apply Ai<;>intro hb)|refine Fin.pure ?_ ?_ ?_|simp only[al])
def uj {l:List At}{k:Nat}{a:At}(h:l[k]? = some a):(aO (l.take k)).map eh++[[.str a.name,.str a.value]]=(aO (l.take (k+1))).map eh:=qB h
set_option maxRecDepth 100000 in
set_option maxHeartbeats 4000000 in
def yc (l:List At)(hl:l.length<=1000)(nm:Nat):Ev cx 94 nm [.sl false 3 (l.map bh)] am.nil (.own nm 0 l.length) [(nm,some ⟨2,(aO l).map eh⟩)]:=by
 refine aV call94 func94 rfl (by kernel_rfl) rfl ?_;intro b0 hb0;have zF:=Ai results94 ntmps94
 repeat' first|simp only[aj,ag,zF,ap,ai,seval,ah]|exact rfl|refine aa (v:=.any) ?_|refine ao (by decide +kernel) ?_|((first|apply Ca|apply Cb)<;>intro hb)|refine Ai (by omega) ?_|(apply Ai<;>intro hb)
 (refine ay bu (fun x:Nat=>l.length-x) (fun x=>x<=l.length) (b0+16) (fun x=>[(0,.sl false 3 (l.map bh)),(3,.own b0 0 x),(4,.int .i64 x)]) (fun x=>[(b0,⟨2,(aO (l.take x)).map eh⟩)]) (0) [none] ?_ ?_ ?_ ?_;rotate_left 1;(focus (show b0<=_;omega));(focus (refine⟨?_,?_⟩<;>(try simp only[aM,ae,aB,qC,List.take_zero,Lo,Lm,ai,seval,ah,al])<;>(try omega)));rotate_left 1)
 ·exact Nat.zero_le _
 ·intro k hk
  by_cases hlt:k<l.length
  ·obtain⟨a,ha⟩:∃ a,l[k]? = some a:=⟨_,List.getElem?_eq_getElem hlt⟩
   have hat:=gN ha
   have hd:decide (k<l.length)=true:=decide_eq_true hlt
   have hd2:decide ((k:Int)<(l.length:Int))=true:=cn
   have hki:(k:Int)<(l.length:Int):=by omega
   have hwk:IntKind.i64.wrap ((k:Int)+1)=((k+1:Nat):Int):=aK
   have hgl:(aO (l.take k)).length=k:=by rw[iy,List.length_take];omega
   have htl:((aO (l.take k)).map eh).take k=(aO (l.take k)).map eh:=List.take_of_length_le (by rw[Lm,hgl];omega)
   have hgs:=uj ha
   repeat' first|simp only[aj,ag,zF,ap,ae,hat,bh,hd,hd2,hki,hlt,hgl,htl,hgs,Lm,ai,seval,ah]|exact rfl|refine aa (v:=.any) ?_|refine ao (by decide +kernel) ?_|((first|apply Ca|apply Cb)<;>intro hb)|refine Ai (by omega) ?_|(apply Ai<;>intro hb)
   all_goals ((refine au bu (k+1) [some (b0+288)] ?_ ?_ ?_ ?_;rotate_left 2;(focus (show b0<=_;omega));(focus (refine⟨?_,?_⟩<;>(try simp only[aM,ae,ax,aB,aQ,hwk,Lm,ai,seval,ah,al])<;>(try omega)))))
   all_goals (first|(show l.length-(k+1)<l.length-k;omega)|(show k+1<=l.length;omega)|skip)
  ·have hke:k=l.length:=by omega
   subst hke
   have hd:decide (l.length<l.length)=false:=aR
   have hd2:decide ((l.length:Int)<(l.length:Int))=false:=aR
   ((repeat' first|simp only[aj,ag,zF,ap,ax,hd,hd2,List.take_length,Lm,ai,seval,ah]|exact rfl|refine aa (v:=.any) ?_|refine ao (by decide +kernel) ?_|((first|apply Ca|apply Cb)<;>intro hb)|refine Ai (by omega) ?_|(apply Ai<;>intro hb));(all_goals (first|(refine Fin.auto (r:=?_) (l:=?_) ?_ ?_ ?_ ?_ ?_ ?_ ?_;rotate_left 1;(simp only[zF,be,bA,aU,bd,ax,hd,hd2,List.take_length,Lm,ai,seval,ah]);(exact rfl);rotate_left 1;(simp only[V.owns,ownsL,List.cons_append,List.nil_append]);(exact rfl);all_goals (try simp only[zF,be,bA,aU,bd,ax,hd,hd2,List.take_length,Lm,rT,ai,seval,ah]);all_goals (try simp only[al]))|skip)))
def sR (l:List At)(hl:l.length<=1000)(nm:Nat):Ev cx 94 nm [.sl false 3 (l.map bh)] am.nil (.sl false 2 ((aO l).map eh)) []:=by
 have hpl:=ax (aO l)
 have hpn:=iy l
 have htk:((aO l).map eh).take l.length=(aO l).map eh:=List.take_of_length_le (by rw[Lm,hpn];omega)
 refine Ev.freeze (yc l hl nm) ?_ ?_
 ·simp only[aj,ag,ap,hpl,htk,hpn,Lm,ai,seval,ah]<;>omega
 ·simp only[aj,ag,ap,hpl,htk,hpn,Lm,ai,seval,ah]
def sS (v:List Nd)(hv:v.length<=1000)(hok:∀ n∈v,n.okTo aS){n:Nd}{k:Fo}{p d:Nat}{rest:List Nd}(hd:v.drop p=n::(k.flat++rest))(hg:(Fo.cons n k .nil).good d 0=true)(hd12:d<=12)(nm:Nat) :
  Ev cx 95 nm [.sl false 6 (v.map aG),.int .i64 p] am.nil (.sl false 1 ((k.tops (p+1)).map ff)) []:=by
 have hpl:=aC (k.tops (p+1))
 have hpn:=Fo.tops_length k (p+1)
 have htk:((k.tops (p+1)).map ff).take k.count=(k.tops (p+1)).map ff:=List.take_of_length_le (by rw[Lm,hpn];omega)
 refine Ev.freeze (yg v hv hok hd hg hd12 nm) ?_ ?_
 ·simp only[aj,ag,ap,hpl,htk,hpn,Lm,ai,seval,ah]<;>omega
 ·simp only[aj,ag,ap,hpl,htk,hpn,Lm,ai,seval,ah]
end Go.Proofs.YtlnlopnpcmahgaaGreatDoor
