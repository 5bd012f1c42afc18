/-
 Texts joined: XJa,XJb,XJc,XJd,XJe,XJf,XJg,XJh,XJi,XLb,XLr,XEj,XLi,XLk.
-/
import Derived.Test.YtgboofebldgdjaaGreatDoorMa
set_option linter.all false
namespace Go.Proofs.YtgboofebldgdjaaGreatDoor
set_option maxRecDepth 100000
set_option maxHeartbeats 32000000
open Go Go.RowKit Vm Go.Lib Tryz
def NR (l:List At)(hl:l.length<=aN)(hs:∀ a∈l,a.space.length<=aN/\a.name.length<=aN/\a.value.length<=aN)(nm:Nat):Ev cx 164 nm [.sl false 3 (l.map bi)] ah.nil (.bool (pB l)) []:=by
  have hl':=hl
  unfold aN at hl'
  refine aG call164 func164 results164 ntmps164 ?_;intro b0 hb0 zN
  (refine xR trivial trivial ?_)
  (have zF:=@aj;refine fu (fun x:Nat=>l.length-x) (fun x=>x<=l.length/\uY l x) (b0+16) (fun x=>[(0,.sl false 3 (l.map bi)),(3,.int .i64 x)]) (fun x=>[]) (0) [] ?_ ?_)
  · exact⟨WB _,fun i a hi=>by omega⟩
  · rintro k ⟨hk,hn⟩
    by_cases hlt:k<l.length
    · obtain ⟨a,ha⟩:∃ a,l[k]? = some a:=⟨_,AT hlt⟩
      obtain⟨hs0,hs1,hs2⟩:=hs a (By ha)
      have hat:=iG ha
      have hd:=AI hlt
      have hd2:=AW k l.length
      have hki:=lV k l.length
      have hwk:=eX k
      (refine xR (a5 hat hd hd2 hlt hki) trivial ?_)
      (have zF:=@aj;refine fu (fun x:Nat=>k-x) (fun x=>x<=k /\ ∀(i:Nat) (b:At),i<x->l[i]? = some b -> ¬(a.space=b.space/\a.name=b.name)) (b0+16) (fun x=>[(0,.sl false 3 (l.map bi)),(3,.int .i64 k),(4,.int .i64 x)]) (fun x=>[]) (0) [] ?_ ?_)
      · exact⟨WB _,fun i b hi=>by omega⟩
      · rintro j ⟨hj,hno⟩
        by_cases hjk:j<k
        · obtain⟨b,hb⟩:∃ b,l[j]? = some b:=⟨_,AT Y6⟩
          have hbt:=iG hb
          have e1:=AI hjk
          have e2:=AW j k
          have e3:j<l.length:=Y6
          have e4:=lV j l.length
          have hwj:=eX j
          by_cases hsp:a.space=b.space
          · have c1:(b.space==a.space)=true:=by rw[hsp];simp
            by_cases hnm:a.name=b.name
            · have c2:(b.name==a.name)=true:=by rw[hnm];simp
              have hr:pB l=false:=se ha (by
                unfold Lf
                have:((l.take k).any fun b=>a.space==b.space&&a.name==b.name)=true:=Xa.2 ⟨b,By (by rw[XI,if_pos hjk];exact hb),by rw[hsp,hnm];simp⟩
                rw[this];rfl)
              exact xP (a4 hat hbt @bi.eq_1 (a9 e1 e2 e3 e4 hlt hki c1 c2 hr)) trivial
            · have c2:(b.name==a.name)=false:=If (WU hnm)
              (refine xR (a4 hat hbt @bi.eq_1 (a9 e1 e2 e3 e4 hlt hki hwj c1 c2)) trivial ?_)
              all_goals ((have zF:=a2 @aj hwj;refine c7 (j+1) [] ?_ ?_))
              all_goals (first|(show k-(j+1)<k-j;omega)|(exact⟨hjk,fun i x hi hx h=>by
                by_cases e:i=j
                · subst e;rw[hb]at hx;cases hx;exact hnm h.2
                · exact hno i x Y6 hx h⟩)|skip)
          · have c1:(b.space==a.space)=false:=If (WU hsp)
            (refine xR (a3 hat hbt (a9 @bi.eq_1 e1 e2 e3 e4 hlt hki hwj c1)) trivial ?_)
            all_goals ((have zF:=a2 @aj hwj;refine c7 (j+1) [] ?_ ?_))
            all_goals (first|(show k-(j+1)<k-j;omega)|(exact⟨hjk,fun i x hi hx h=>by
              by_cases e:i=j
              · subst e;rw[hb]at hx;cases hx;exact hsp h.1
              · exact hno i x Y6 hx h⟩)|skip)
        · have hje:j=k:=Y6
          subst hje
          have e1:decide (j<j)=false:=aL
          have e2:=pK j j
          have hany:((l.take j).any fun b=>a.space==b.space&&a.name==b.name)=false:=by
            rw[Xz]
            intro b hb hc
            obtain⟨i,hi⟩:=XR.1 hb
            have hij:i<j:=by have:=(AS.1 hi).1;rw[WK]at this;omega
            rw[XI,if_pos hij]at hi
            simp only[In,W3]at hc
            exact hno i b hij hi hc
          have hf:=oF a.name hs1
          have hc:=iB a.value hs2
          have hc2:=iB a.space hs0
          have hok:Lf (l.take j) a=((bI a.name&&decide (az a.value=0))&&decide (az a.space=0)):=by unfold Lf;rw[hany];rfl
          generalize h1:bI a.name=b1 at hf hok
          have h3:(az a.value != 0) = !decide (az a.value=0):=by rw[WL];simp
          have h4:(az a.space != 0) = !decide (az a.space=0):=by rw[WL];simp
          generalize decide (az a.value=0)=b3 at h3 hok
          generalize decide (az a.space=0)=b4 at h4 hok
          cases ho:Lf (l.take j) a with
          | false =>
            have hr:=se ha ho
            rw[ho]at hok
            cases b1<;>cases b3<;>cases b4
            all_goals (try (exfalso;simp at hok;done))
            all_goals ((have zF:=a9 hat @bi.eq_1 e1 e2 hlt hki h3 h4 hr;have cF:=a3 hf hc hc2;repeat' first|refine wS ?_|exact wE|refine ao (v:=.any) ?_|((first|apply b7|apply cM)<;>intro hb)|refine Ai Y6 ?_|(apply Ai<;>intro hb)|apply Fin.pure|simp only[aB]))
          | true =>
            have hn':=uZ hn ha ho
            rw[ho]at hok
            cases b1<;>cases b3<;>cases b4
            all_goals (try (exfalso;simp at hok;done))
            all_goals ((refine xR (a9 hat @bi.eq_1 e1 e2 hlt hki h3 h4 hwk) (a3 hf hc hc2) ?_))
            all_goals ((have zF:=a2 @aj hwk;refine c7 (j+1) [] ?_ ?_))
            all_goals (first|(show l.length-(j+1)<l.length-j;omega)|exact⟨hlt,hn'⟩|skip)
    · have hke:k=l.length:=Y6
      subst hke
      have hd:decide (l.length<l.length)=false:=aL
      have hd2:=pK l.length l.length
      have hr:pB l=decide (l.length<=16):=by
        rw[WL,qN,WD]
        exact⟨fun h=>h.1,fun h=>⟨h,hn⟩⟩
      have hz:decide ((l.length:Int)<=16)=decide (l.length<=16):=by
        rw[WL,WD,WD];omega
      exact xP (a4 hd hd2 hr hz) trivial
def NT (x:Nd)(hx:x.okTo aN)(nm:Nat):Ev cx 121 nm [.agg (aC x)] ah.nil (.bool (kf x)) []:=by
 obtain⟨h0,h1,h2,h3,h4⟩:=hx
 have hf:=oF x.name h2
 have hc1:=iB x.space h1
 have hc2:=iB x.text h3
 have ha:=NR x.attrs h0 h4
 unfold kf
 have e0:(x.attrs.length==0)=x.attrs.isEmpty:=by cases x.attrs<;>rfl
 have e0i:((x.attrs.length:Int)==0)=x.attrs.isEmpty:=jO _
 have e1:(az x.space==0)=decide (az x.space=0):=by rw[WL];simp
 have e2:(az x.text==0)=decide (az x.text=0):=by rw[WL];simp
 have e3:(x.name==[])=x.name.isEmpty:=by cases x.name<;>rfl
 have e4:(x.space==[])=x.space.isEmpty:=by cases x.space<;>rfl
 have e5:(x.text==[])=x.text.isEmpty:=by cases x.text<;>rfl
 have e6:(x.text != []) = !x.text.isEmpty:=by cases x.text<;>rfl
 have e7:(x.many==0)=decide (x.many=0):=by rw[WL];simp
 by_cases hk:x.kind=1
 ·rw[if_neg Y6]
  have k1:((x.kind:Int)==1)=true:=by rw[hk];rfl
  have k2:decide (x.kind=1)=true:=AI hk
  rw[k2,Wq]
  rw[show(x.text.isEmpty&&bI x.name&&decide (az x.space=0)&&pB x.attrs)=(((bI x.name&&x.text.isEmpty)&&decide (az x.space=0))&&pB x.attrs) by rw[Bool.and_comm x.text.isEmpty]]
  generalize bI x.name=b1 at hf ⊢
  generalize pB x.attrs=b2 at ha ⊢
  generalize x.text.isEmpty=b3 at e5 ⊢
  generalize decide (az x.space=0)=b4 at e1 ⊢
  cases b1<;>cases b2<;>cases b3<;>cases b4
  all_goals (
   refine aG call121 func121 results121 ntmps121 ?_;intro b0 hb0 zN
   (have zF:=a5 @aC.eq_1 @k1 e1 e5 @aj;have cF:=a3 hf hc1 ha;repeat' first|refine wS ?_|exact wE|refine ao (v:=.any) ?_|((first|apply b7|apply cM)<;>intro hb)|refine Ai Y6 ?_|(apply Ai<;>intro hb)|apply Fin.pure|simp only[aB]))
 ·have k1:((x.kind:Int)==1)=false:=If Y6
  have k2:decide (x.kind=1)=false:=WA hk
  by_cases hk2:x.kind=2
  ·rw[if_pos hk2]
   have k3:((x.kind:Int)==2)=true:=by rw[hk2];rfl
   generalize x.name.isEmpty=b1 at e3 ⊢
   generalize x.space.isEmpty=b2 at e4 ⊢
   generalize x.attrs.isEmpty=b3 at e0 e0i ⊢
   generalize decide (x.many=0)=b4 at e7 ⊢
   generalize x.text.isEmpty=b5 at e5 e6 ⊢
   generalize decide (az x.text=0)=b6 at e2 ⊢
   refine aG call121 func121 results121 ntmps121 ?_;intro b0 hb0 zN
   exact xP (a4 @aC.eq_1 @k1 @k3 (a9 e0 e0i e2 e3 e4 e5 e6 e7 @aj)) hc2
  ·rw[if_neg hk2,k2]
   have k3:((x.kind:Int)==2)=false:=If Y6
   refine aG call121 func121 results121 ntmps121 ?_;intro b0 hb0 zN
   (have zF:=a4 @aC.eq_1 @k1 @k3 @aj;repeat' first|refine wS ?_|exact wE|refine ao (v:=.any) ?_|((first|apply b7|apply cM)<;>intro hb)|refine Ai Y6 ?_|(apply Ai<;>intro hb)|apply Fin.pure|simp only[aB])
def iZ (rec:Nat->ZC)(v:List Nd):Nat->Nat->Bool->ZC
 | 0,next,_=>some next
 | c+1,next,text=>match rec next with
  | none=>none
  | some e=>match v[next]? with
   | none=>none
   | some y=>if (text&&y.kind==2)=true then none else iZ rec v c e (y.kind==2)
def okB (v:List Nd)(dz:Bool)(x:Nd):Bool:=kf x&&decide (0<=x.many)&&decide (x.many<=(v.length:Int)) && !(x.kind==1&&dz)
def tM (rec:Nat->ZC)(v:List Nd)(dz:Bool)(p:Nat):ZC:=match v[p]? with
 | none=>none
 | some x=>if okB v dz x=true then iZ rec v x.many.toNat (p+1) false else none
def nM (v:List Nd):Nat->Nat->ZC
 | 0=>tM (fun _=>none) v true
 | d+1=>tM (nM v d) v false
def jn {v:List Nd}{p:Nat}{n:Nd}{r:List Nd}(h:v.drop p=n::r):v[p]? = some n/\p<v.length/\v.drop (p+1)=r:=by
 have h1:v[p]? = some n:=by
  have:(v.drop p)[0]? = some n:=by rw[h];rfl
  grind
 refine⟨h1,(AS.1 h1).1,?_⟩
 have:(v.drop p).drop 1=r:=by rw[h];rfl
 grind[List.drop_drop]
def om {v:List Nd}{p:Nat}{F:Fo}{r:List Nd}(h:v.drop p=F.flat++r):F.size<=v.length:=by
 grind[List.length_append,Fo.flat_length]
def fN:∀(F:Fo),F.count<=F.size
 | .nil=>IS _
 | .cons n k r=>by have:=fN r;grind[Fo.count,Fo.size]
def qw (v:List Nd):∀(F:Fo) (d last p:Nat) (rest:List Nd) (text:Bool),v.drop p=F.flat++rest->F.good d last=true->(text=true->last=2)->iZ (nM v d) v F.count p text=some (p+F.size)
 | .nil,d,last,p,rest,text,_,_,_=>rfl
 | .cons n k r,d,last,p,rest,text,hd,hg,ht=>by
  obtain⟨h1,h2,h3,h4,h5,h6⟩:=Fo.good_cons.1 hg
  have hd':v.drop p=n::(k.flat++(r.flat++rest)):=by rw[hd];simp[Fo.flat]
  obtain⟨a1,a2,a3⟩:=jn hd'
  have hkl:=om a3
  have hkc:=fN k
  have hm:n.many.toNat=k.count:=Y6
  have hok:okB v (d==0) n=true:=by
   unfold okB
   rw[h1,bz,bz]
   simp only[No,Wq,XH,Wo,Wb,ne_eq]
   by_cases hd0:d=0
   ·left;exact fun h=>h4 ⟨h,hd0⟩
   ·right;exact hd0
  have hrec:nM v d p=some (p+1+k.size):=by
   cases d with
   | zero =>
    have hk2:n.kind=2:=by
     rcases iA h1 with e|e
     ·exact absurd ⟨e,rfl⟩ h4
     ·exact e
    have:=Fo.text_leaf hg hk2
    subst this
    unfold nM tM
    rw[a1]
    simp only[WT]at hok
    simp only[hok,WQ,hm,Fo.count,iZ,Fo.size,Nat.add_zero]
   | succ d =>
    unfold nM tM
    rw[a1]
    have hok':okB v false n=true:=hok
    simp only[hok',WQ,hm]
    exact qw v k d 1 (p+1) (r.flat++rest) false a3 h5 (fun h=>by cases h)
  have hdr:v.drop (p+1+k.size)=r.flat++rest:=by
   have:(v.drop (p+1)).drop k.size=r.flat++rest:=by rw[a3,<- Fo.flat_length,XT]
   rwa[List.drop_drop]at this
  have htk:(text&&n.kind==2)=false:=by
   cases text with
   | false=>rfl
   | true =>
    rw[Wq,Wb]
    exact fun h=>h3 ⟨ht rfl,h⟩
  simp only[Fo.count,iZ,hrec,a1,htk,WH,WS]
  rw[qw v r d n.kind (p+1+k.size) rest (n.kind==2) hdr h6 (fun h=>by simpa using h)]
  simp only[Fo.size]
  congr 1;omega
def yr {v:List Nd}{n:Nd}{k:Fo}{d p:Nat}{rest:List Nd}(hd:v.drop p=n::(k.flat++rest))(hg:(Fo.cons n k .nil).good d 0=true):nM v d p=some (p+1+k.size):=by
 have h:=qw v (.cons n k .nil) d 0 p rest false (by simp_all[Fo.flat]) hg (fun h=>by cases h)
 simp only[Fo.count,iZ,Fo.size,Nat.add_zero,We]at h
 grind
def v6 {rec:Nat->ZC}{v:List Nd}{d:Nat}(hrec:∀ p e,rec p=some e -> ∃ n k rest,v.drop p=n::(k.flat++rest)/\(Fo.cons n k .nil).good d 0=true/\e=p+1+k.size) :
  ∀(c p:Nat) (text:Bool) (e last:Nat),iZ rec v c p text=some e->(last=2->text=true)->p<=v.length -> ∃(F:Fo) (rest:List Nd),v.drop p=F.flat++rest/\F.count=c/\F.good d last=true/\e=p+F.size
 | 0,p,text,e,last,h,_,_=>by
  simp only[iZ,WO]at h
  exact⟨.nil,v.drop p,rfl,rfl,rfl,by simp[Fo.size,h]⟩
 | c+1,p,text,e,last,h,hl,hp=>by
  simp only[iZ]at h
  cases hr:rec p with
  | none=>simp_all
  | some e1 =>
   rw[hr]at h
   obtain⟨n,k,rest,a1,a2,a3⟩:=hrec p e1 hr
   obtain⟨b1,b2,b3⟩:=jn a1
   rw[b1]at h
   simp only at h
   split at h
   ·cases h
   ·rename_i htx
    obtain⟨g1,g2,g3,g4,g5,g6⟩:=Fo.good_cons.1 a2
    have hdr:v.drop e1=rest:=by
     have:(v.drop (p+1)).drop k.size=rest:=by simp_all[Fo.flat_length]
     rw[List.drop_drop]at this
     simp_all
    have he1:e1<=v.length:=by
     grind[List.length_append,Fo.flat_length]
    obtain⟨R,rest2,c1,c2,c3,c4⟩:=v6 hrec c e1 (n.kind==2) e n.kind h (fun h=>by simp[h]) he1
    rw[hdr]at c1
    refine⟨.cons n k R,rest2,?_,?_,Fo.good_cons.2 ⟨g1,g2,fun hx=>?_,g4,g5,c3⟩,?_⟩
    ·simp_all[Fo.flat]
    ·simp_all[Fo.count]
    ·simp_all
    grind[Fo.size]
def sf {v:List Nd} : ∀ {d p e:Nat},nM v d p=some e -> ∃ n k rest,v.drop p=n::(k.flat++rest)/\(Fo.cons n k .nil).good d 0=true/\e=p+1+k.size
 | 0,p,e,h=>by
  unfold nM tM at h
  cases hx:v[p]? with
  | none=>rw[hx]at h;cases h
  | some x =>
   rw[hx]at h
   simp only at h
   split at h
   ·rename_i hok
    unfold okB at hok
    simp only[Wz,In,WD,XH,Wb]at hok
    obtain⟨⟨⟨h1,h2⟩,h3⟩,h4⟩:=hok
    have hk2:x.kind=2:=by
     rcases iA h1 with e|e
     ·exact absurd e h4
     ·exact e
    have hm:=(ji h1 hk2).2.2.2.1
    rw[hm]at h
    simp only[Int.toNat_zero,iZ,WO]at h
    obtain⟨hp,hpe⟩:=AS.1 hx
    refine⟨x,.nil,v.drop (p+1),?_,Fo.good_cons.2 ⟨h1,by rw[hm];rfl,by omega,by omega,rfl,rfl⟩,by simp[Fo.size,h]⟩
    rw[W1 hp,hpe];rfl
   ·cases h
 | d+1,p,e,h=>by
  unfold nM tM at h
  cases hx:v[p]? with
  | none=>rw[hx]at h;cases h
  | some x =>
   rw[hx]at h
   simp only at h
   split at h
   ·rename_i hok
    unfold okB at hok
    simp only[Wm,Bf,Wz,In,WD]at hok
    obtain⟨⟨h1,h2⟩,h3⟩:=hok
    obtain⟨hp,hpe⟩:=AS.1 hx
    obtain⟨F,rest,c1,c2,c3,c4⟩:=v6 (d:=d) (fun p e he=>sf he) x.many.toNat (p+1) false e 1 h (fun h=>by cases h) hp
    refine⟨x,F,rest,?_,Fo.good_cons.2 ⟨h1,by omega,by omega,by omega,c3,rfl⟩,c4⟩
    rw[W1 hp,hpe,c1]
   ·cases h
def Pv {v:List Nd}{d p e:Nat}(h:nM v d p=some e):p<e/\e<=v.length:=by
 obtain⟨n,k,rest,h1,_,h3⟩:=sf h
 grind[List.length_append,Fo.flat_length]
def A3 (v:List Nd):Bool:=decide (dN v=0)
def QN (v:List Nd):A3 v=(((decide (0<v.length)&&decide (v.length<=512))&&((v[0]?).map Nd.kind==some 1))&&(nM v 12 0==some v.length)):=by
 rw[WL]
 unfold A3
 simp only[WD,In,W3]
 constructor
 ·intro h
  obtain⟨n,k,hk,hv,hg,hl⟩:=lc h
  have hlen:v.length=k.size+1:=by simp_all[Fo.flat_length]
  have hb:=yr (v:=v) (n:=n) (k:=k) (d:=12) (p:=0) (rest:=[]) (by simp_all) hg
  grind
 ·rintro ⟨⟨⟨h1,h2⟩,h3⟩,h4⟩
  obtain⟨n,k,rest,a1,a2,a3⟩:=sf h4
  rw[WP]at a1
  have hr:rest=[]:=by
   have:=congrArg List.length a1
   simp only[List.length_cons,List.length_append,Fo.flat_length]at this
   exact Wp Y6
  subst hr
  rw[WR]at a1
  have hk:n.kind=1:=by simp_all
  rw[a1]
  exact sj hk a2 Y6
def bu (v:V):(V.gd false v).strip true = .gd false v:=rfl
def qQ:ZC->Int
 | none=>-1
 | some e=>(e:Int)
structure BhSt where
 i:Nat
 next:Nat
 text:Bool
def DE (v:List Nd)(hv:v.length<=100000)(hok:∀ n∈v,n.okTo aN)(rec:Nat->ZC)(L:Nat)(hL:L<=13)(hrec:L<=12 -> ∀ q:Nat,q<=100000 -> ∀ nm,Ev cx 67 nm [.sl false 6 (v.map aC),.int .i64 q,.int .i64 (L+1:Nat)] ah.nil (.int .i64 (qQ (rec q))) [])
    (hle:∀ q e,rec q=some e->q<e/\e<=v.length) (p:Nat) (hp:p<=100000) (nm:Nat) :
    Ev cx 67 nm [.sl false 6 (v.map aC),.int .i64 p,.int .i64 L] ah.nil (.int .i64 (qQ (tM rec v (decide (12<L)) p))) []:=by
  unfold tM
  cases hx:v[p]? with
  | none =>
    have hge:v.length<=p:=YG.1 hx
    have c1:decide ((v.length:Int)<=(p:Int))=true:=bz
    have c2:decide (v.length<=p)=true:=AI hge
    have hat0:(v.map aC)[p]? = none:=by rw[WG,hx];rfl
    simp only[qQ]
    refine aG call67 func67 results67 ntmps67 ?_;intro b0 hb0 zN
    (repeat' first|simp only[cC,aK,results67,ntmps67,aF,c1,c2,hat0,bu,Option.getD_none,Yz,List.take_nil,List.getElem?_nil,Lm,au,aH,seval]|exact rfl|refine ao (v:=.any) ?_|refine ao (v:=.any) ?_|((first|apply b7|apply cM)<;>intro hb)|refine Ai Y6 ?_|(apply Ai<;>intro hb)|apply Fin.pure|simp only[aB])
  | some x =>
    have hat:=dv hx
    have hpl:=(AS.1 hx).1
    have hpi:=lV p v.length
    have c1:decide ((v.length:Int)<=(p:Int))=false:=aL
    have c2:decide (v.length<=p)=false:=aL
    have hmay:=NT x (hok x (By hx))
    simp only
    cases hb:okB v (decide (12<L)) x with
    | false =>
      rw[if_neg ZH]
      simp only[qQ]
      unfold okB at hb
      cases hm:kf x with
      | false =>
        rw[hm]at hmay
        refine aG call67 func67 results67 ntmps67 ?_;intro b0 hb0 zN
        (have zF:=a7 c1 c2 @bu hat @aC.eq_1 hpl hpi;have cF:=hmay;repeat' first|refine wS ?_|exact wE|refine ao (v:=.any) ?_|((first|apply b7|apply cM)<;>intro hb)|refine Ai Y6 ?_|(apply Ai<;>intro hb)|apply Fin.pure|simp only[aB])
      | true =>
        rw[hm]at hmay hb
        by_cases h0:x.many<0
        · have e1:decide (x.many<0)=true:=AI h0
          refine aG call67 func67 results67 ntmps67 ?_;intro b0 hb0 zN
          (have zF:=a8 c1 c2 e1 @bu hat @aC.eq_1 hpl hpi;have cF:=hmay;repeat' first|refine wS ?_|exact wE|refine ao (v:=.any) ?_|((first|apply b7|apply cM)<;>intro hb)|refine Ai Y6 ?_|(apply Ai<;>intro hb)|apply Fin.pure|simp only[aB])
        · have e1:decide (x.many<0)=false:=WA h0
          by_cases h1:(v.length:Int)<x.many
          · have e2:decide ((v.length:Int)<x.many)=true:=AI h1
            refine aG call67 func67 results67 ntmps67 ?_;intro b0 hb0 zN
            (have zF:=a9 c1 c2 e1 e2 @bu hat @aC.eq_1 hpl hpi;have cF:=hmay;repeat' first|refine wS ?_|exact wE|refine ao (v:=.any) ?_|((first|apply b7|apply cM)<;>intro hb)|refine Ai Y6 ?_|(apply Ai<;>intro hb)|apply Fin.pure|simp only[aB])
          · have e2:decide ((v.length:Int)<x.many)=false:=WA h1
            rw[AI (show 0<=x.many by omega),AI (show x.many<=(v.length:Int) by omega)]at hb
            simp only[No,Wq,Bool.not_eq_false',In,W3,WD]at hb
            have e3:((x.kind:Int)==1)=true:=by rw[hb.1];rfl
            have e4:decide ((12:Int)<(L:Int))=true:=bz
            have e5:decide (12<L)=true:=bz
            refine aG call67 func67 results67 ntmps67 ?_;intro b0 hb0 zN
            (have zF:=a3 c1 c2 (a9 e1 e2 e3 e4 e5 hat @aC.eq_1 hpl hpi);have cF:=hmay;repeat' first|refine wS ?_|exact wE|refine ao (v:=.any) ?_|((first|apply b7|apply cM)<;>intro hb)|refine Ai Y6 ?_|(apply Ai<;>intro hb)|apply Fin.pure|simp only[aB])
    | true =>
      rw[if_pos rfl]
      unfold okB at hb
      simp only[In,WD,XH,Wo,Wb,XA]at hb
      obtain⟨⟨⟨hm,h0⟩,h1⟩,h2⟩:=hb
      rw[hm]at hmay
      have e1:decide (x.many<0)=false:=aL
      have e2:decide ((v.length:Int)<x.many)=false:=aL
      obtain⟨c,hc⟩:∃ c:Nat,x.many=(c:Int):=⟨x.many.toNat,by omega⟩
      have hct:x.many.toNat=c:=Y6
      rw[hct]
      have hcL:12<L->c=0:=fun h=>by
        have hk:x.kind≠1:=h2.resolve_right Y6
        have hk2:x.kind=2:=by
          rcases iA hm with e|e
          · exact absurd e hk
          · exact e
        have:=(ji hm hk2).2.2.2.1
        omega
      have e3:(((x.kind:Int)==1)&&decide ((12:Int)<(L:Int)))=false:=by
        rw[Wo]
        rcases h2 with h|h
        · left;exact If Y6
        · right;exact aL
      have w1:=eX p
      have w2:=eX L
      have hcase:((x.kind:Int)==1)=false\/(((x.kind:Int)==1)=true/\decide ((12:Int)<(L:Int))=false/\decide (12<L)=false):=by
        cases hkb:((x.kind:Int)==1) with
        | false=>exact .inl rfl
        | true =>
          rw[hkb,Wq]at e3
          have:¬ 12<L:=by have:=of_decide_eq_false e3;omega
          exact .inr ⟨rfl,e3,WA this⟩
      have hS:=e3
      clear e3
      have hloop : ∀ (hk1:((x.kind:Int)==1)=false\/(((x.kind:Int)==1)=true/\decide ((12:Int)<(L:Int))=false/\decide (12<L)=false)),Ev cx 67 nm [.sl false 6 (v.map aC),.int .i64 p,.int .i64 L] ah.nil (.int .i64 (qQ (iZ rec v c (p+1) false))) []:=by
        rintro (k1|⟨k1,k2,k3⟩)
        all_goals
          refine aG call67 func67 results67 ntmps67 ?_;intro b0 hb0 zN
          first
          | ((refine xN (a4 c1 c2 e1 (a9 e2 @k1 @k2 @k3 w1 hat @aC.eq_1 hpl hpi)) hmay ?_)
             (have zF:=@aa;refine fu (fun s:BhSt=>c-s.i) (fun s=>s.i<=c/\s.next<=v.length/\iZ rec v c (p+1) false=iZ rec v (c-s.i) s.next s.text) (b0+16) (fun s=>[(0,.sl false 6 (v.map aC)),(1,.int .i64 p),(2,.int .i64 L),(7,.int .i64 s.next),(8,.bool s.text),(9,.int .i64 s.i)]) (fun s=>[]) ((BhSt.mk 0 (p+1) false)) [] ?_ ?_))
          | ((refine xN (a2 c1 (a9 c2 e1 e2 @k1 w1 hat @aC.eq_1 hpl hpi)) hmay ?_)
             (have zF:=@aa;refine fu (fun s:BhSt=>c-s.i) (fun s=>s.i<=c/\s.next<=v.length/\iZ rec v c (p+1) false=iZ rec v (c-s.i) s.next s.text) (b0+16) (fun s=>[(0,.sl false 6 (v.map aC)),(1,.int .i64 p),(2,.int .i64 L),(7,.int .i64 s.next),(8,.bool s.text),(9,.int .i64 s.i)]) (fun s=>[]) ((BhSt.mk 0 (p+1) false)) [] ?_ ?_))
        all_goals first
          | exact⟨WB _,hpl,rfl⟩
          | (rintro ⟨i,next,text⟩ ⟨hi,hn,hinv⟩
             simp only at hi hn hinv ⊢
             rw[hinv]
             by_cases hlt:i<c
             · have hrc:=hrec (by have:=hcL;omega)
               have d1:decide ((i:Int)<x.many)=true:=bz
               have wi:=eX i
               have hsub:c-i=(c-(i+1))+1:=Y6
               have hu:iZ rec v (c-i) next text=(match rec next with|none=>none|some e=>match v[next]? with|none=>none|some y=>if (text&&y.kind==2)=true then none else iZ rec v (c-(i+1)) e (y.kind==2)):=by rw[hsub];rfl
               rw[hu]
               clear hu hsub
               have hcall:=hrc next Y6
               cases hr:rec next with
               | none =>
                 rw[hr]at hcall
                 simp only[qQ]at hcall ⊢
                 (have zF:=a6 d1 w2 hat @aC.eq_1 hpl hpi;have cF:=hcall;repeat' first|refine wS ?_|exact wE|refine ao (v:=.any) ?_|((first|apply b7|apply cM)<;>intro hb)|refine Ai Y6 ?_|(apply Ai<;>intro hb)|apply Fin.pure|simp only[aB])
               | some e =>
                 rw[hr]at hcall
                 obtain⟨he1,he2⟩:=hle next e hr
                 obtain⟨y,hy⟩:∃ y,v[next]? = some y:=⟨_,AT Y6⟩
                 have haty:=dv hy
                 have hnl:next<v.length:=Y6
                 have hni:=lV next v.length
                 have d2:decide ((e:Int)<0)=false:=aL
                 rw[hy]
                 simp only[qQ]at hcall ⊢
                 have hk2:(y.kind==2)=((y.kind:Int)==2):=by rw[WL];simp;omega
                 rw[hk2]
                 cases hkk:((y.kind:Int)==2)<;>cases text
                 all_goals (try simp only[No,Wm,Wy,WH,WS,WQ])
                 all_goals first
                   | ((refine xN (a4 d1 d2 w2 (a9 wi hkk hat haty @aC.eq_1 hpl hpi hnl hni)) hcall ?_)
                      (have zF:=a3 @aa wi hkk;refine c7 (BhSt.mk (i+1) e ((y.kind:Int)==2)) [] ?_ ?_))
                   |(exact xP (a4 d1 d2 w2 (a9 wi hkk hat haty @aC.eq_1 hpl hpi hnl hni)) hcall)
                 all_goals first|(show c-(i+1)<c-i;omega)|(exact⟨hlt,he2,by simp only[hkk,hk2]⟩)|skip
             · have hie:i=c:=Y6
               subst hie
               have d1:decide ((i:Int)<x.many)=false:=aL
               have hu:iZ rec v (i-i) next text=some next:=by rw[YZ];rfl
               rw[hu]
               simp only[qQ]
               exact xP (a5 d1 hat @aC.eq_1 hpl hpi) trivial)
      exact hloop hcase
def qD (v:List Nd)(hv:v.length<=100000)(hok:∀ n∈v,n.okTo aN):∀(d:Nat),d<=12 -> ∀(p:Nat),p<=100000 -> ∀(nm:Nat),
  Ev cx 67 nm [.sl false 6 (v.map aC),.int .i64 p,.int .i64 ((13-d:Nat):Int)] ah.nil (.int .i64 (qQ (nM v d p))) []
 | 0,_,p,hp,nm=>DE v hv hok (fun _=>none) 13 Y6 (fun h=>absurd h Y6) (fun q e h=>by cases h) p hp nm
 | d+1,hd,p,hp,nm=>by
  have h:=DE v hv hok (nM v d) (13-(d+1)) Y6 (fun _ q hq nm=>by
   have:=qD v hv hok d Y6 q hq nm
   rwa[show 13-d=13-(d+1)+1 by omega]at this) (fun q e he=>Pv he) p hp nm
  rw[WA (show ¬ 12<13-(d+1) by omega)]at h
  exact h
def wC (v:List Nd)(hv:v.length<=100000)(hok:∀ n∈v,n.okTo aN)(nm:Nat):Ev cx 30 nm [.sl false 6 (v.map aC)] ah.nil (.bool (A3 v)) []:=by
 rw[QN]
 have hb:=qD v hv hok 12 (IS _) 0 Y6
 simp only[Int.ofNat_zero,Int.ofNat_one,seval]at hb
 cases hx:v[0]? with
 | none =>
  have h0:v.length=0:=by have:=YG.1 hx;omega
  have h1:v=[]:=Wp h0
  subst h1
  refine aG call30 func30 results30 ntmps30 ?_;intro b0 hb0 zN
  (repeat' first|simp only[cC,aK,results30,ntmps30,aF,bu,Lo,List.length_nil,List.getElem?_nil,Option.getD_none,Yz,Wy,au,aH,seval]|exact rfl|refine ao (v:=.any) ?_|refine ao (v:=.any) ?_|((first|apply b7|apply cM)<;>intro hb)|refine Ai Y6 ?_|(apply Ai<;>intro hb)|apply Fin.pure|simp only[aB])
 | some x =>
  have hat:=dv hx
  have h0:=(AS.1 hx).1
  have h0i:(0:Int)<(v.length:Int):=Y6
  have c1:decide ((0:Int)<(v.length:Int))=true:=AI h0i
  have c2:decide (0<v.length)=true:=AI h0
  have c3:decide ((v.length:Int)<=512)=decide (v.length<=512):=by rw[WL,WD,WD];omega
  have c4:((some x).map Nd.kind==some 1)=((x.kind:Int)==1):=by
   rw[WL];simp;omega
  have c5:(qQ (nM v 12 0)==(v.length:Int))=(nM v 12 0==some v.length):=by
   cases nM v 12 0 with
   | none =>
    have:((-1:Int)==(v.length:Int))=false:=If Y6
    simp only[qQ,this];rfl
   | some e=>rw[WL];simp only[qQ,W3,WO];omega
  rw[c2,Wq,c4,<- c5]
  generalize qQ (nM v 12 0)=B at hb ⊢
  clear c2 c4 c5
  by_cases hl:v.length<=512
  ·have c6:decide (v.length<=512)=true:=AI hl
   rw[c6]at c3 ⊢
   cases hk:((x.kind:Int)==1)
   all_goals (
    refine aG call30 func30 results30 ntmps30 ?_;intro b0 hb0 zN
    (have zF:=a8 @bu c1 c3 hat h0 h0i hk @aC.eq_1;have cF:=hb;repeat' first|refine wS ?_|exact wE|refine ao (v:=.any) ?_|((first|apply b7|apply cM)<;>intro hb)|refine Ai Y6 ?_|(apply Ai<;>intro hb)|apply Fin.pure|simp only[aB]))
  ·have c6:decide (v.length<=512)=false:=WA hl
   rw[c6]at c3 ⊢
   refine aG call30 func30 results30 ntmps30 ?_;intro b0 hb0 zN
   (have zF:=a7 @bu c1 c3 hat h0 h0i @aC.eq_1;repeat' first|refine wS ?_|exact wE|refine ao (v:=.any) ?_|((first|apply b7|apply cM)<;>intro hb)|refine Ai Y6 ?_|(apply Ai<;>intro hb)|apply Fin.pure|simp only[aB])
structure UnSt where
 D:Fo
 R:Fo
 q:Nat
def UnSt.inv (k:Fo)(p:Nat)(x:UnSt):Prop:=x.D.app x.R=k/\x.q=p+1+x.D.size
def JF {D m r k:Fo}{d:Nat}{x:Nd}{c:Fo}(h:D.app (.cons x c r)=k)(hg:k.good d 1=true)(hd:d<=12):(Fo.cons x c .nil).good 12 0=true:=by
 rw[<- h,Fo.app_good,In]at hg
 obtain⟨h1,h2,h3,h4,h5,h6⟩:=Fo.good_cons.1 hg.2
 exact Fo.good_mono hd (Fo.good_cons.2 ⟨h1,h2,by omega,h4,h5,rfl⟩)
def KY {D:Fo}{x:Nd}{c:Fo}(p:Nat):(D.tops p).map bH++[bH (p+D.size)]=((D.app (.cons x c .nil)).tops p).map bH:=by
 rw[Fo.tops_app];simp[Fo.tops]
def Gk (v:List Nd)(hv:v.length<=1000)(hok:∀ n∈v,n.okTo aN){n:Nd}{k:Fo}{p d:Nat}{rest:List Nd}(hd:v.drop p=n::(k.flat++rest))(hg:(Fo.cons n k .nil).good d 0=true)(hd12:d<=12)(nm:Nat) :
  Ev cx 69 nm [.sl false 6 (v.map aC),.int .i64 p] ah.nil (.own nm 0 k.count) [(nm,some ⟨1,(k.tops (p+1)).map bH⟩)]:=by
 obtain⟨hx,hpl,hd1⟩:=jn hd
 have hat:=dv hx
 have hpi:=lV p v.length
 obtain⟨g1,g2,g3,g4,g5,g6⟩:=Fo.good_cons.1 hg
 have hkl:=om hd1
 have hkc:=fN k
 have hks:p+1+k.size<=v.length:=by
  have:=congrArg List.length hd1
  rw[Wd,List.length_append,Fo.flat_length]at this
  omega
 have w1:=eX p
 refine aG call69 func69 results69 ntmps69 ?_;intro b0 hb0 zN
 (refine xR w1 trivial ?_)
 (refine v8 (fun x:UnSt=>k.count-x.D.count) (fun x=>x.inv k p) (b0+16) (fun x=>[(0,.sl false 6 (v.map aC)),(1,.int .i64 p),(5,.own b0 0 x.D.count),(6,.int .i64 x.q),(7,.int .i64 x.D.count)]) (fun x=>[(b0,⟨1,(x.D.tops (p+1)).map bH⟩)]) ((UnSt.mk .nil k (p+1))) [none] ?_ ?_ ?_;(focus (refine⟨?_,?_⟩<;>(try simp only[bL,aa,aw,am,Fo.tops,Fo.count,Fo.size,Lo,List.length_nil,Lm,au,aH,aB,seval])<;>(try omega))))
 ·exact⟨rfl,rfl⟩
 ·rintro ⟨D,R,q⟩ ⟨hi1,hi2⟩
  simp only at hi1 hi2 ⊢
  have htl:=Fo.tops_length D (p+1)
  have htk:((D.tops (p+1)).map bH).take D.count=(D.tops (p+1)).map bH:=IN (by rw[Lm,htl];omega)
  cases R with
  | nil =>
   rw[Fo.app_nil]at hi1
   subst hi1
   have d1:decide ((D.count:Int)<n.many)=false:=aL
   exact xO (a8 d1 hat @aC.eq_1 hpl hpi htl htk @aw) trivial
  | cons m c r =>
   have hi1':(D.app (.cons m c .nil)).app r=k:=by rw[Fo.app_assoc];exact hi1
   have hkc2:k.count=D.count+(r.count+1):=by rw[<- hi1,Fo.app_count];rfl
   have hks2:k.size=D.size+(c.size+r.size+1):=by rw[<- hi1,Fo.app_size];rfl
   have d1:decide ((D.count:Int)<n.many)=true:=bz
   have w2:IntKind.i64.wrap ((D.count:Int)+1)=((D.count+1:Nat):Int):=aX
   have hdq:v.drop q=m::(c.flat++(r.flat++rest)):=by
    have:(v.drop (p+1)).drop D.size=m::(c.flat++(r.flat++rest)):=by
     rw[hd1,<- hi1,Fo.app_flat,WV,<- Fo.flat_length,XT]
     simp[Fo.flat]
    rw[List.drop_drop]at this
    rw[hi2];exact this
   have hbg:=yr hdq (JF (m:=.nil) hi1 g5 Y6)
   have hb:=qD v Y6 hok 12 (IS _) q Y6
   rw[hbg]at hb
   simp only[qQ,Int.ofNat_one,seval]at hb
   have hsn:(D.tops (p+1)).map bH++[[V.int .i64 (q:Int)]]=((D.app (.cons m c .nil)).tops (p+1)).map bH:=by
    rw[hi2];exact KY (D:=D) (x:=m) (c:=c) (p+1)
   have hct:=Fo.app_count D (.cons m c .nil)
   simp only[Fo.count,We]at hct
   have hsz:=Fo.app_size D (.cons m c .nil)
   simp only[Fo.size,Nat.add_zero]at hsz
   (refine xR (a9 d1 hat @aC.eq_1 hpl hpi htl htk hsn @aw) hb ?_)
   all_goals ((have zF:=a6 w2 hct @aa @aw @am @aS;refine c7 (UnSt.mk (D.app (.cons m c .nil)) r (q+1+c.size)) [some (b0+176)] ?_ ?_))
   all_goals (first|(show k.count-(D.app (.cons m c .nil)).count<k.count-D.count;omega)|(refine⟨hi1',?_⟩;simp only;omega)|skip)
def fy {α:Type}{p:α->Bool}{l:List α}{k:Nat}{x:α}(h:l[k]? = some x)(hn:(l.take k).any p=false)(hp:p x=false):(l.take (k+1)).any p=false:=by
 obtain⟨hk,rfl⟩:=AS.1 h
 rw[WF hk,Yw,hn];simp[hp]
def eO {α:Type}{p:α->Bool}{l:List α}{k:Nat}{x:α}(h:l[k]? = some x)(hp:p x=true):l.any p=true:=Xa.2 ⟨x,By h,hp⟩
def JV (v:List Nd)(hv:v.length<=100000)(hok:∀ n∈v,n.okTo aN)(nm:Nat):Ev cx 86 nm [.sl false 6 (v.map aC)] ah.nil (.bool (bj v)) []:=by
  refine aG call86 func86 results86 ntmps86 ?_;intro b0 hb0 zN
  (refine xR trivial trivial ?_)
  (have zF:=@aa;refine fu (fun x:Nat=>v.length-x) (fun x=>x<=v.length/\(v.take x).any fH=false) (b0+16) (fun x=>[(0,.sl false 6 (v.map aC)),(3,.int .i64 x)]) (fun x=>[]) (0) [] ?_ ?_)
  · exact⟨WB _,rfl⟩
  · rintro i ⟨hi,hno⟩
    by_cases hlt:i<v.length
    · obtain ⟨x,hx⟩:∃ x,v[i]? = some x:=⟨_,AT hlt⟩
      have hat:=dv hx
      have hxl:=(hok x (By hx)).1
      unfold aN at hxl
      have d1:=AW i v.length
      have d2:=AI hlt
      have hii:=lV i v.length
      have wi:=eX i
      by_cases hs:x.space=[]
      · have c1:(x.space==[])=true:=by rw[hs];rfl
        (refine xR (a7 d1 d2 hat @aC.eq_1 hlt hii c1) trivial ?_)
        (have zF:=a2 @aa @aj;refine fu (fun j:Nat=>x.attrs.length-j) (fun j=>j<=x.attrs.length/\(x.attrs.take j).any (fun a=>!a.space.isEmpty)=false) (b0+16) (fun j=>[(0,.sl false 6 (v.map aC)),(3,.int .i64 i),(4,.int .i64 j)]) (fun j=>[]) (0) [] ?_ ?_)
        · exact⟨WB _,rfl⟩
        · rintro j ⟨hj,hna⟩
          by_cases hja:j<x.attrs.length
          · obtain⟨a,ha⟩:=js hja
            have haa:=iG ha
            have f1:=AW j x.attrs.length
            have f2:=AI hja
            have hji:=lV j x.attrs.length
            have wj:=eX j
            by_cases hs2:a.space=[]
            · have c2:(a.space==[])=true:=by rw[hs2];rfl
              have hna':=fy ha hna (show(!a.space.isEmpty)=false by rw[hs2];rfl)
              (refine xR (a4 f1 f2 hat (a9 haa @aC.eq_1 @bi.eq_1 hlt hii hja hji c2 wj)) trivial ?_)
              all_goals ((have zF:=a2 @aa wj;refine c7 (j+1) [] ?_ ?_))
              all_goals (first|(show x.attrs.length-(j+1)<x.attrs.length-j;omega)|exact⟨hja,hna'⟩ )
            · have c2:(a.space==[])=false:=by simpa using hs2
              have hr:bj v=true:=by
                unfold bj
                refine eO hx ?_
                unfold fH
                rw[eO ha (by simpa using hs2),XG]
              rw[hr]
              exact xP (a3 f1 f2 (a9 hat haa @aC.eq_1 @bi.eq_1 hlt hii hja hji c2)) trivial
          · have hje:j=x.attrs.length:=Y6
            subst hje
            have f1:=pK x.attrs.length x.attrs.length
            have f2:decide (x.attrs.length<x.attrs.length)=false:=aL
            rw[WJ]at hna
            have hno':=fy hx hno (show fH x=false by unfold fH;rw[hna,hs];rfl)
            (refine xR (a7 f1 f2 hat @aC.eq_1 hlt hii wi) trivial ?_)
            all_goals ((have zF:=a2 @aa wi;refine c7 (i+1) [] ?_ ?_))
            all_goals (first|(show v.length-(i+1)<v.length-i;omega)|exact⟨hlt,hno'⟩ )
      · have c1:(x.space==[])=false:=by simpa using hs
        have hr:bj v=true:=by
          unfold bj
          refine eO hx ?_
          unfold fH
          rw[show(!x.space.isEmpty)=true by simpa using hs,W8]
        rw[hr]
        exact xP (a7 d1 d2 hat @aC.eq_1 hlt hii c1) trivial
    · have hie:i=v.length:=Y6
      subst hie
      have d1:=pK v.length v.length
      have d2:decide (v.length<v.length)=false:=aL
      rw[WJ]at hno
      have hr:bj v=false:=hno
      rw[hr]
      exact xP (a2 d1 d2) trivial
def JW (v:List Nd)(hv:v.length<=100000)(hok:∀ n∈v,n.okTo aN)(nm:Nat):Ev cx 31 nm [.sl false 6 (v.map aC)] ah.nil (.bool (bj v)) []:=by
  refine aG call31 func31 results31 ntmps31 ?_;intro b0 hb0 zN
  (refine xR trivial trivial ?_)
  (have zF:=@aa;refine fu (fun x:Nat=>v.length-x) (fun x=>x<=v.length/\(v.take x).any fH=false) (b0+16) (fun x=>[(0,.sl false 6 (v.map aC)),(3,.int .i64 x)]) (fun x=>[]) (0) [] ?_ ?_)
  · exact⟨WB _,rfl⟩
  · rintro i ⟨hi,hno⟩
    by_cases hlt:i<v.length
    · obtain ⟨x,hx⟩:∃ x,v[i]? = some x:=⟨_,AT hlt⟩
      have hat:=dv hx
      have hxl:=(hok x (By hx)).1
      unfold aN at hxl
      have d1:=AW i v.length
      have d2:=AI hlt
      have hii:=lV i v.length
      have wi:=eX i
      by_cases hs:x.space=[]
      · have c1:(x.space==[])=true:=by rw[hs];rfl
        (refine xR (a7 d1 d2 hat @aC.eq_1 hlt hii c1) trivial ?_)
        (have zF:=a2 @aa @aj;refine fu (fun j:Nat=>x.attrs.length-j) (fun j=>j<=x.attrs.length/\(x.attrs.take j).any (fun a=>!a.space.isEmpty)=false) (b0+16) (fun j=>[(0,.sl false 6 (v.map aC)),(3,.int .i64 i),(4,.int .i64 j)]) (fun j=>[]) (0) [] ?_ ?_)
        · exact⟨WB _,rfl⟩
        · rintro j ⟨hj,hna⟩
          by_cases hja:j<x.attrs.length
          · obtain⟨a,ha⟩:=js hja
            have haa:=iG ha
            have f1:=AW j x.attrs.length
            have f2:=AI hja
            have hji:=lV j x.attrs.length
            have wj:=eX j
            by_cases hs2:a.space=[]
            · have c2:(a.space==[])=true:=by rw[hs2];rfl
              have hna':=fy ha hna (show(!a.space.isEmpty)=false by rw[hs2];rfl)
              (refine xR (a4 f1 f2 hat (a9 haa @aC.eq_1 @bi.eq_1 hlt hii hja hji c2 wj)) trivial ?_)
              all_goals ((have zF:=a2 @aa wj;refine c7 (j+1) [] ?_ ?_))
              all_goals (first|(show x.attrs.length-(j+1)<x.attrs.length-j;omega)|exact⟨hja,hna'⟩ )
            · have c2:(a.space==[])=false:=by simpa using hs2
              have hr:bj v=true:=by
                unfold bj
                refine eO hx ?_
                unfold fH
                rw[eO ha (by simpa using hs2),XG]
              rw[hr]
              exact xP (a3 f1 f2 (a9 hat haa @aC.eq_1 @bi.eq_1 hlt hii hja hji c2)) trivial
          · have hje:j=x.attrs.length:=Y6
            subst hje
            have f1:=pK x.attrs.length x.attrs.length
            have f2:decide (x.attrs.length<x.attrs.length)=false:=aL
            rw[WJ]at hna
            have hno':=fy hx hno (show fH x=false by unfold fH;rw[hna,hs];rfl)
            (refine xR (a7 f1 f2 hat @aC.eq_1 hlt hii wi) trivial ?_)
            all_goals ((have zF:=a2 @aa wi;refine c7 (i+1) [] ?_ ?_))
            all_goals (first|(show v.length-(i+1)<v.length-i;omega)|exact⟨hlt,hno'⟩ )
      · have c1:(x.space==[])=false:=by simpa using hs
        have hr:bj v=true:=by
          unfold bj
          refine eO hx ?_
          unfold fH
          rw[show(!x.space.isEmpty)=true by simpa using hs,W8]
        rw[hr]
        exact xP (a7 d1 d2 hat @aC.eq_1 hlt hii c1) trivial
    · have hie:i=v.length:=Y6
      subst hie
      have d1:=pK v.length v.length
      have d2:decide (v.length<v.length)=false:=aL
      rw[WJ]at hno
      have hr:bj v=false:=hno
      rw[hr]
      exact xP (a2 d1 d2) trivial
def Be {l:List At}{k:Nat}{a:At}(h:l[k]? = some a):(aV (l.take k)).map cZ++[[.str a.name,.str a.value]]=(aV (l.take (k+1))).map cZ:=wq h
def Gg (l:List At)(hl:l.length<=1000)(nm:Nat):Ev cx 138 nm [.sl false 3 (l.map bi)] ah.nil (.own nm 0 l.length) [(nm,some ⟨2,(aV l).map cZ⟩)]:=by
 refine aG call138 func138 results138 ntmps138 ?_;intro b0 hb0 zN
 (refine xR trivial trivial ?_)
 (have zF:=a3 @aj @am @wr;refine fu (fun x:Nat=>l.length-x) (fun x=>x<=l.length) (b0+16) (fun x=>[(0,.sl false 3 (l.map bi)),(3,.own b0 0 x),(4,.int .i64 x)]) (fun x=>[(b0,⟨2,(aV (l.take x)).map cZ⟩)]) (0) [none] ?_ ?_)
 ·exact WB _
 ·intro k hk
  by_cases hlt:k<l.length
  ·obtain⟨a,ha⟩:=js hlt
   have hat:=iG ha
   have hd:=AI hlt
   have hd2:=AW k l.length
   have hki:=lV k l.length
   have hwk:=eX k
   have hgl:(aV (l.take k)).length=k:=by rw[mn,WK];omega
   have htl:((aV (l.take k)).map cZ).take k=(aV (l.take k)).map cZ:=IN (by rw[Lm,hgl];omega)
   have hgs:=Be ha
   (refine xR (a2 @aj (a9 hat @bi.eq_1 hd hd2 hki hlt hgl htl hgs)) trivial ?_)
   all_goals ((have zF:=a5 @aj @aA @am @aS hwk;refine c7 (k+1) [some (b0+288)] ?_ ?_))
   all_goals (first|(show l.length-(k+1)<l.length-k;omega)|(show k+1<=l.length;omega))
  ·have hke:k=l.length:=Y6
   subst hke
   have hd:decide (l.length<l.length)=false:=aL
   have hd2:=pK l.length l.length
   exact xO (a3 @aA hd hd2) trivial
def zx (l:List At)(hl:l.length<=1000)(nm:Nat):Ev cx 138 nm [.sl false 3 (l.map bi)] ah.nil (.sl false 2 ((aV l).map cZ)) []:=by
 have hpl:=aA (aV l)
 have hpn:=mn l
 have htk:((aV l).map cZ).take l.length=(aV l).map cZ:=IN (by rw[Lm,hpn];omega)
 refine Ev.freeze (Gg l hl nm) ?_ ?_
 ·simp only[hpl,htk,hpn,Lm,au]<;>omega
 ·simp only[htk,au]
def sU (v:List Nd)(hv:v.length<=1000)(hok:∀ n∈v,n.okTo aN){n:Nd}{k:Fo}{p d:Nat}{rest:List Nd}(hd:v.drop p=n::(k.flat++rest))(hg:(Fo.cons n k .nil).good d 0=true)(hd12:d<=12)(nm:Nat) :
  Ev cx 69 nm [.sl false 6 (v.map aC),.int .i64 p] ah.nil (.sl false 1 ((k.tops (p+1)).map bH)) []:=by
 have hpl:=aw (k.tops (p+1))
 have hpn:=Fo.tops_length k (p+1)
 have htk:((k.tops (p+1)).map bH).take k.count=(k.tops (p+1)).map bH:=IN (by rw[Lm,hpn];omega)
 refine Ev.freeze (Gk v hv hok hd hg hd12 nm) ?_ ?_
 ·simp only[hpl,htk,hpn,Lm,au]<;>omega
 ·simp only[htk,au]
def qK {P:Nd->Fo->Prop} : ∀ {D:Fo} {m:Nd} {c r:Fo},uK P (D.app (.cons m c r))->P m c
 | .nil,_,_,_,h=>h.1
 | .cons _ _ D,_,_,_,h=>qK (D:=D) h.2
def sR {v:List Nd}{p:Nat}{D k:Fo}{m:Nd}{c r:Fo}{rest:List Nd}(hd1:v.drop (p+1)=k.flat++rest)(h:D.app (.cons m c r)=k):v.drop (p+1+D.size)=m::(c.flat++(r.flat++rest)):=by
 have:(v.drop (p+1)).drop D.size=m::(c.flat++(r.flat++rest)):=by
  rw[hd1,<- h,Fo.app_flat,WV,<- Fo.flat_length,XT]
  simp[Fo.flat]
 rwa[List.drop_drop]at this
def wv {D k:Fo}{m:Nd}{c r:Fo}(h:D.app (.cons m c r)=k)(p:Nat):(k.tops (p+1))[D.count]? = some (p+1+D.size):=by
 rw[<- h,Fo.tops_app]
 simp only[Fo.tops]
 exact Sg (by rw[Fo.tops_length])
def Q7 (l:List Tk):((l.map aY).all fun r=>r.all V.one)=true:=by
 rw[WI]
 intro r hr
 obtain⟨t,_,rfl⟩:=Wn.1 hr
 rfl
def BK (v:List Nd)(n:Nd)(k:Fo):Prop:=∀(p:Nat) (rest:List Nd),v.drop p=n::(k.flat++rest) -> ∀ nm,Ev cx 87 nm [.sl false 6 (v.map aC),.int .i64 p] ah.nil (.sl false 4 ((Fo.cons n k .nil).toks.map aY)) []
def Ev.rows_fz {f:FuncId}{nm:Nat}{args:List V}{z:Nat}{R T:List (List V)}(h:Ev cx f nm args ah.nil (.own nm 0 T.length) [(nm,some ⟨z,R⟩)])(hle:iP R T)(hpl:plainLL T=true):Ev cx f nm args ah.nil (.sl false z T) []:=by
 have h2:=Ev.last_le (eff:=[]) (k':=⟨z,T⟩) h ⟨rfl,.inl rfl,hle⟩
 have htk:T.take T.length=T:=WJ
 refine Ev.freeze h2 ?_ ?_
 ·simp only[hpl,htk,List.nil_append,au]<;>omega
 ·simp only[htk,List.nil_append,au]
def KX (v:List Nd)(n:Nd)(hk:n.kind=2):BK v n .nil:=by
 intro p rest hd nm
 obtain⟨hx,hpl,hd1⟩:=jn hd
 have hat:=dv hx
 have hpi:=lV p v.length
 have k1:((n.kind:Int)==2)=true:=by rw[hk];rfl
 have ht:(Fo.cons n .nil .nil).toks=[⟨4,[],[],n.text⟩]:=by simp[Fo.toks,hk]
 rw[ht]
 refine Ev.rows_fz (R:=[[.int .u8 4,.str [],.nils,.str n.text]]) ?_ ?_ (ax _)
 ·show Ev cx _ nm _ ah.nil (.own nm 0 1) _
  refine aG call87 func87 results87 ntmps87 ?_;intro b0 hb0 zN
  ((repeat' first|simp only[results87,ntmps87,aF,hat,aC,hpl,k1,No,Lm,au,aH,seval]);(all_goals (refine Fin.auto (r:=?_) (l:=?_) ?_ ?_ ?_ ?_ ?_ ?_ ?_;rotate_left 1;(simp only[au,seval]);(exact rfl);rotate_left 1;(simp only[V.owns]);(exact rfl);all_goals (try simp only[plainL,V.plain,No,Bd,au,seval]);all_goals (try simp only[aB]))))
 ·rw[show [(⟨4,[],[],n.text⟩:Tk)].map aY=[[.int .u8 4,.str [],.sl false 2 [],.str n.text]] from rfl]
  simp only[cS,dQ,jh,vW,bR,iP,XJ]
def KW (v:List Nd)(n:Nd)(hk:n.kind≠2)(hm:n.many=0)(ha:n.attrs.length<=1000):BK v n .nil:=by
 intro p rest hd nm
 obtain⟨hx,hpl,hd1⟩:=jn hd
 have hat:=dv hx
 have hpi:=lV p v.length
 have k1:((n.kind:Int)==2)=false:=If Y6
 have k2:(n.many==0)=true:=by rw[hm];rfl
 have hpr:=zx n.attrs ha
 have ht:(Fo.cons n .nil .nil).toks=[⟨3,n.name,aV n.attrs,[]⟩]:=by simp[Fo.toks,hk,hm]
 rw[ht]
 refine Ev.rows_fz (R:=[[.int .u8 3,.str n.name,.sl false 2 ((aV n.attrs).map cZ),.str []]]) ?_ (iz _) (ax _)
 show Ev cx _ nm _ ah.nil (.own nm 0 1) _
 refine aG call87 func87 results87 ntmps87 ?_;intro b0 hb0 zN
 ((repeat' first|simp only[results87,ntmps87,aF,hat,aC,hpl,k1,k2,No,Lm,au,aH,seval]|refine ad ?_ (hpr _) ?_|refine qf [(1,4)] ?_);(all_goals (refine Fin.auto (r:=?_) (l:=?_) ?_ ?_ ?_ ?_ ?_ ?_ ?_;rotate_left 1;(simp only[au,seval]);(exact rfl);rotate_left 1;(simp only[V.owns]);(exact rfl);all_goals (try simp only[aA,plainL,V.plain,No,Bd,au,seval]);all_goals (try simp only[aB]))))
def KV (v:List Nd)(hv:v.length<=1000)(hok:∀ n∈v,n.okTo aN)(n:Nd)(k:Fo)(hk:n.kind≠2)(hm0:n.many≠0)(ha:n.attrs.length<=1000)(d:Nat)(hd12:d<=12)(hg:(Fo.cons n k .nil).good d 0=true)(ih:uK (BK v) k):BK v n k:=by
  intro p rest hd nm
  obtain⟨hx,hpl,hd1⟩:=jn hd
  have hat:=dv hx
  have hpi:=lV p v.length
  obtain⟨g1,g2,g3,g4,g5,g6⟩:=Fo.good_cons.1 hg
  have hkl:=om hd1
  have hkc:=fN k
  have k1:((n.kind:Int)==2)=false:=If Y6
  have k2:(n.many==0)=false:=If hm0
  have hpr:=zx n.attrs ha
  have hun:=sU v hv hok hd hg hd12
  have hTl:=Fo.tops_length k (p+1)
  generalize hTd:k.tops (p+1)=T at hun hTl
  have ht:(Fo.cons n k .nil).toks=(⟨1,n.name,aV n.attrs,[]⟩::k.toks)++[⟨2,n.name,[],[]⟩]:=by simp[Fo.toks,hk,hm0]
  have htl:k.toks.length<=3000:=by
    rw[Fo.toks_length g5]
    have:=YV (fun n:Nd=>decide (0<n.many)) k.flat
    rw[Fo.flat_length]at this
    omega
  have h1b:aY ⟨1,n.name,aV n.attrs,[]⟩=[.int .u8 1,.str n.name,.sl false 2 ((aV n.attrs).map cZ),.str []]:=rfl
  rw[ht]
  refine Ev.rows_fz (R:=(⟨1,n.name,aV n.attrs,[]⟩::k.toks).map aY++[[.int .u8 2,.str n.name,.nils,.str []]]) ?_ ?_ (ax _)
  · rw [show(((⟨1,n.name,aV n.attrs,[]⟩::k.toks)++[(⟨2,n.name,[],[]⟩:Tk)]).map aY).length=(⟨1,n.name,aV n.attrs,[]⟩::k.toks).length+1 by simp]
    obtain⟨Z,hZ⟩:∃ Z,Z=(⟨1,n.name,aV n.attrs,[]⟩::k.toks).map aY++[[.int .u8 2,.str n.name,.nils,.str []]]:=⟨_,rfl⟩
    obtain⟨N,hN⟩:∃ N,N=((⟨1,n.name,aV n.attrs,[]⟩:Tk)::k.toks).length+1:=⟨_,rfl⟩
    rw[<- hZ,<- hN]
    refine aG call87 func87 results87 ntmps87 ?_;intro b0 hb0 zN
    (have zF:=a2 hat (a9 @aC.eq_1 hpl hpi @k1 @k2 @aa @aj @aA @aw);have cF:=a2 hpr hun;repeat' first|refine wS ?_ | refine gR [(1,4)] ?_)
    (refine v8 (fun x:UnSt=>k.count-x.D.count) (fun x=>x.inv k p) (b0+16) (fun x=>[(0,.sl false 6 (v.map aC)),(1,.int .i64 p),(5,.ptr b0 0 0),(6,.own (b0+1) 0 (⟨1,n.name,aV n.attrs,[]⟩::x.D.toks).length),(7,.sl false 1 (T.map bH)),(8,.int .i64 x.D.count)]) (fun x=>[(b0,⟨6,[aC n]⟩),(b0+1,⟨4,(⟨1,n.name,aV n.attrs,[]⟩::x.D.toks).map aY⟩)]) ((UnSt.mk .nil k (p+1))) [some (b0+80),some (b0+304)] ?_ ?_ ?_;(focus (refine⟨?_,?_⟩<;>(try simp only[bL,h1b,aC,aa,aw,aA,aj,Fo.toks,Fo.count,Lc,Lo,List.length_cons,List.length_nil,au,aB,seval])<;>(try omega))))
    · exact⟨rfl,rfl⟩
    · rintro ⟨D,R,q⟩ ⟨hi1,hi2⟩
      simp only at hi1 hi2 ⊢
      obtain⟨L,hL⟩:∃ L,L=(⟨1,n.name,aV n.attrs,[]⟩:Tk)::D.toks:=⟨_,rfl⟩
      rw[<- hL]
      have htk:(L.map aY).take L.length=L.map aY:=bF _ _
      cases R with
      | nil =>
        rw[Fo.app_nil]at hi1
        subst hi1
        have hLl:L.length<=3001:=by rw[hL];simp;omega
        rw[<- hL]at hZ hN
        have hZ':=hZ.symm
        have hZp:plainLL Z=true:=by rw[hZ,aM,ax];rfl
        have hN':L.length+1=N:=hN.symm
        have d1:=pK D.count T.length
        have d2:decide (D.count<T.length)=false:=aL
        ((repeat' first|simp only[results87,ntmps87,aF,d2,htk,hZ',hN',aC,No,Lm,au,aH,seval] | refine Ai Y6 ?_);(all_goals (refine Fin.auto (r:=?_) (l:=?_) ?_ ?_ ?_ ?_ ?_ ?_ ?_;rotate_left 1;(simp only[dB,eG,au,seval]);(exact rfl);rotate_left 1;(simp only[V.owns]);(exact rfl);all_goals (try simp only[cN,dq,hZp,Bd,au,seval]);all_goals (try simp only[aB]))))
      | cons m c r =>
        have hi1':(D.app (.cons m c .nil)).app r=k:=by rw[Fo.app_assoc];exact hi1
        have hkc2:k.count=D.count+(r.count+1):=by rw[<- hi1,Fo.app_count];rfl
        have hks2:k.size=D.size+(c.size+r.size+1):=by rw[<- hi1,Fo.app_size];rfl
        have hdq:=sR hd1 hi1
        rw[<- hi2]at hdq
        have hTq:=wv hi1 p
        rw[hTd,<- hi2]at hTq
        obtain⟨hat1,hil⟩:=FW hTq
        have hili:=lV D.count T.length
        have d1:decide ((D.count:Int)<(T.length:Int))=true:=AI hili
        have d2:decide (D.count<T.length)=true:=AI hil
        have w2:IntKind.i64.wrap ((D.count:Int)+1)=((D.count+1:Nat):Int):=aX
        rw[<- hi1]at ih
        have hrc:=(qK ih) q _ hdq
        have hct:=Fo.app_count D (.cons m c .nil)
        simp only[Fo.count,We]at hct
        have hta:=Fo.toks_app D (.cons m c .nil)
        have hkt:k.toks=D.toks++((Fo.cons m c .nil).toks++r.toks):=by
          rw[<- hi1',Fo.toks_app,hta,WV]
        have hkl2:=congrArg List.length hkt
        simp only[List.length_append]at hkl2
        have hL2:(⟨1,n.name,aV n.attrs,[]⟩:Tk)::(D.app (.cons m c .nil)).toks=L++(Fo.cons m c .nil).toks:=by rw[hta,hL];rfl
        have hLl:L.length<=3001:=by rw[hL];simp;omega
        generalize (Fo.cons m c .nil).toks=X at hrc hta hkl2 hL2
        have hLX:L.map aY++X.map aY=(L++X).map aY:=WM.symm
        have hL2m:aY ⟨1,n.name,aV n.attrs,[]⟩::(D.app (.cons m c .nil)).toks.map aY=(L++X).map aY:=by rw[<- hL2];rfl
        have hL2l:(D.app (.cons m c .nil)).toks.length+1=L.length+X.length:=by have:=congrArg List.length hL2;simpa using this
        (have zF:=a4 d1 d2 htk (a9 hat1 hil hili @Q7 @aC.eq_1 @bH.eq_1 @aa @aw @ax);have cF:=hrc;repeat' first|refine wS ?_ | refine Ai Y6 ?_)
        all_goals ((have zF:=a4 w2 hct hLX (a9 hL2m hL2l @aC.eq_1 @aa @aw @ax @aj @am @aS);refine c7 (UnSt.mk (D.app (.cons m c .nil)) r (q+1+c.size)) [some b0,some (b0+192)] ?_ ?_))
        all_goals (first|(show k.count-(D.app (.cons m c .nil)).count<k.count-D.count;omega)|(refine⟨hi1',?_⟩;simp only[Fo.app_size,Fo.size];omega))
  · rw[WM]
    refine lu ?_
    rw[show [(⟨2,n.name,[],[]⟩:Tk)].map aY=[[.int .u8 2,.str n.name,.sl false 2 [],.str []]] from rfl]
    simp only[cS,dQ,jh,vW,bR,iP,XJ]
def xg (v:List Nd)(hv:v.length<=1000)(hok:∀ n∈v,n.okTo aN):∀(F:Fo) (d last:Nat),d<=12->F.good d last=true->uK (BK v) F
 | .nil,_,_,_,_=>trivial
 | .cons n k r,d,last,hd,hg=>by
  obtain⟨h1,h2,h3,h4,h5,h6⟩:=Fo.good_cons.1 hg
  refine⟨?_,xg v hv hok r d n.kind hd h6⟩
  have ha:=(ia h1).1
  by_cases hk:n.kind=2
  ·have:=Fo.text_leaf hg hk
   subst this
   exact KX v n hk
  ·by_cases hm:n.many=0
   ·have hkn:k = .nil:=by
     cases k with
     | nil=>rfl
     | cons _ _ _=>simp[Fo.count]at h2;omega
    subst hkn
    exact KW v n hk hm Y6
   ·exact KV v hv hok n k hk hm Y6 d hd (Fo.good_cons.2 ⟨h1,h2,by omega,h4,h5,rfl⟩) (xg v hv hok k (d-1) 1 Y6 h5)
def Gi (v:List Nd)(hv:v.length<=1000)(hok:∀ n∈v,n.okTo aN)(nm:Nat):Ev cx 37 nm [.sl false 6 (v.map aC)] ah.nil (ym (cW v).1 (cW v).2) []:=by
 have hm:=wC v Y6 hok
 have hs:=JV v Y6 hok
 unfold ym
 by_cases hc:dN v=0
 ·obtain⟨n,k,hk,hvv,hg,hl⟩:=lc hc
  have hmt:A3 v=true:=AI hc
  rw[hmt]at hm
  unfold cW
  rw[if_neg (by simp[hc])]
  cases hsp:bj v with
  | true =>
   rw[hsp]at hs
   simp only[WQ,Lo]
   refine aG call37 func37 results37 ntmps37 ?_;intro b0 hb0 zN
   exact xP @aa (a2 hm hs)
  | false =>
   rw[hsp]at hs
   have hf:oo v = .cons n k .nil:=by rw[hvv];exact pc hg
   have ht:=(xg v hv hok (.cons n k .nil) 12 0 (IS _) hg).1 0 [] (by rw[WP,WR];exact hvv)
   simp only[Int.ofNat_zero]at ht
   rw[hf]
   simp only[WH,WS]
   have hpl:=ax (Fo.cons n k .nil).toks
   have hle:(Fo.cons n k .nil).toks.length<=3000:=by
    rw[Fo.toks_length hg]
    have:=YV (fun n:Nd=>decide (0<n.many)) (Fo.cons n k .nil).flat
    rw[Fo.flat_length]at this
    simp only[Fo.size]at this ⊢
    omega
   generalize (Fo.cons n k .nil).toks=T at ht hpl hle ⊢
   by_cases h5:512<T.length
   ·have d1:decide ((512:Int)<(T.length:Int))=true:=bz
    have d2:decide (512<T.length)=true:=AI h5
    rw[if_pos h5]
    simp only[Lo]
    refine aG call37 func37 results37 ntmps37 ?_;intro b0 hb0 zN
    exact xP (a4 d1 d2 hpl @aa) (a3 hm hs ht)
   ·have d1:decide ((512:Int)<(T.length:Int))=false:=aL
    have d2:decide (512<T.length)=false:=WA h5
    rw[if_neg h5]
    refine aG call37 func37 results37 ntmps37 ?_;intro b0 hb0 zN
    exact xP (a4 d1 d2 hpl @aa) (a3 hm hs ht)
 ·have hmt:A3 v=false:=WA hc
  rw[hmt]at hm
  unfold cW
  rw[if_pos hc]
  simp only[Lo]
  refine aG call37 func37 results37 ntmps37 ?_;intro b0 hb0 zN
  (have zF:=@aa;have cF:=hm;repeat' first|refine wS ?_|exact wE|refine ao (v:=.any) ?_|((first|apply b7|apply cM)<;>intro hb)|refine Ai Y6 ?_|(apply Ai<;>intro hb)|apply Fin.pure|simp only[aB])
def nj (s:ZA):ZA×Bool:=match df 58 s with
 | none=>([],s==[120,109,108,110,115])
 | some (a,b)=>(b,a==[120,109,108,110,115])
def zG (s:ZA):(nj s).2=(dp s).isSome/\((nj s).2=true->dp s=some (nj s).1):=by
 unfold nj
 cases hc:df 58 s with
 | none =>
  have hn:=eA.1 hc
  simp only
  by_cases h:s=[120,109,108,110,115]
  ·subst h;exact⟨rfl,fun _=>rfl⟩
  ·have h1:(s==[120,109,108,110,115])=false:=by simpa using h
   rw[h1,EY hn h]
   exact⟨rfl,fun h=>by cases h⟩
 | some p =>
  obtain⟨a,b⟩:=p
  obtain⟨e,hn⟩:=eB hc
  simp only
  by_cases h:a=[120,109,108,110,115]
  ·subst h
   have:dp s=some b:=by rw[e];exact LX b
   rw[this]
   exact⟨rfl,fun _=>rfl⟩
  ·have h1:(a==[120,109,108,110,115])=false:=by simpa using h
   have hd:dp s=none:=by
    refine yG (fun h2=>?_) (fun h2=>?_)
    ·rw[h2]at e
     have:(58:UInt8)∈([120,109,108,110,115]:ZA):=by rw[e];simp
     simp at this
    ·-- the first colon stands behind xmlns
     apply h
     have h3:s=[120,109,108,110,115,58]++s.drop 6:=by rw[<- h2,List.take_append_drop]
     have h4:=oW (d:=58) (a:=[120,109,108,110,115]) (b:=s.drop 6) ZI
     have h5:s=[120,109,108,110,115]++58::s.drop 6:=by rw[h3];simp
     rw[<- h5,hc]at h4
     cases h4;rfl
   rw[h1,hd]
   exact⟨rfl,fun h=>by cases h⟩
def DD (s:ZA)(hs:s.length<=aN)(nm:Nat):Ev cx 123 nm [.str s] ah.nil (.tup [.str (nj s).1,.bool (nj s).2]) []:=by
 have hp:=pq s hs
 unfold dH at hp
 unfold nj
 cases hc:df 58 s with
 | none =>
  rw[hc]at hp
  refine aG call123 func123 results123 ntmps123 ?_;intro b0 hb0 zN
  exact xP trivial hp
 | some p =>
  obtain⟨a,b⟩:=p
  rw[hc]at hp
  refine aG call123 func123 results123 ntmps123 ?_;intro b0 hb0 zN
  exact xP trivial hp
def right_eq (p v:ZA):Dk p v=if (p==[120,109,108])=true then v==jm else (((p != [120,109,108,110,115])&&(v != jm))&&(v != lO))&&((p==[])||(v != [])):=by
 unfold Dk dY
 by_cases h1:p=[120,109,108,110,115]
 ·subst h1;rfl
 ·have c1:(p==[120,109,108,110,115])=false:=by simpa using h1
  have c2:(p != [120,109,108,110,115])=true:=by simpa using h1
  rw[c1,c2]
  simp only[WH,WS,Wq]
  split
  ·rfl
  ·cases h2:(v==jm)<;>cases h3:(v==lO)<;>simp[h2,h3,bne]
def JU (p v:ZA)(nm:Nat):Ev cx 124 nm [.str p,.str v] ah.nil (.bool (Dk p v)) []:=by
 rw[right_eq]
 unfold jm lO
 cases h1:(p==[120,109,108]) with
 | true =>
  simp only[WQ]
  refine aG call124 func124 results124 ntmps124 ?_;intro b0 hb0 zN
  exact xP h1 trivial
 | false =>
  simp only[WH,WS]
  cases h2:(p==[120,109,108,110,115])<;>cases h3:(v==[104,116,116,112,58,47,47,119,119,119,46,119,51,46,111,114,103,47,88,77,76,47,49,57,57,56,47,110,97,109,101,115,112,97,99,101])<;>cases h4:(v==[104,116,116,112,58,47,47,119,119,119,46,119,51,46,111,114,103,47,50,48,48,48,47,120,109,108,110,115,47])<;>cases h5:(p==[])<;>cases h6:(v==[])
  all_goals (
   refine aG call124 func124 results124 ntmps124 ?_;intro b0 hb0 zN
   (repeat' first|simp only[cC,aK,results124,ntmps124,aF,h1,h2,h3,h4,h5,h6,bu,bne,Bt,Bf,No,Wm,Wy,Bool.or_self,XG,W8,au,aH,seval]|exact rfl|refine ao (v:=.any) ?_|((first|apply b7|apply cM)<;>intro hb)|refine Ai Y6 ?_|(apply Ai<;>intro hb)|apply Fin.pure|simp only[aB]))
def nA (l:List At)(p:ZA):Option ZA:=(l.find? fun a=>dp a.name==some p).map At.value
def pI:List Nd->ZA->ZA×Bool
 | [],p=>if (p==[120,109,108])=true then (jm,true) else ([],p==[])
 | n::r,p=>match nA n.attrs p with
  | some v=>(v,true)
  | none=>pI r p
def EX {l:List At}{k:Nat}{a:At}{p:ZA}(ha:l[k]? = some a)(hno:(l.take k).any (fun a=>dp a.name==some p)=false)(h:dp a.name=some p):nA l p=some a.value:=by
 have hs:l=l.take k++a::l.drop (k+1):=by
  obtain⟨hk,he⟩:=AS.1 ha
  rw[<- he,<- W1 hk,List.take_append_drop]
 have hf:(l.take k).find? (fun a=>dp a.name==some p)=none:=by
  rw[List.find?_eq_none]
  intro x hx hc
  exact absurd (Xa.2 ⟨x,hx,hc⟩) (by rw[hno];simp)
 unfold nA
 have:l.find? (fun a=>dp a.name==some p)=some a:=by
  rw[hs,List.find?_append,hf,Option.none_or,List.find?_cons_of_pos (by simp[h])]
 rw[this];rfl
def vi {l:List At}{p:ZA}(hno:l.any (fun a=>dp a.name==some p)=false):nA l p=none:=by
 unfold nA
 rw[List.find?_eq_none.2 fun x hx hc=>absurd (Xa.2 ⟨x,hx,hc⟩) (by rw[hno];simp)]
 rfl
def Oc {path:List Nd}{j:Nat}{x:Nd}(h:path[j]? = some x):(path.take (j+1)).reverse=x::(path.take j).reverse:=by
 obtain⟨hk,rfl⟩:=AS.1 h
 rw[WF hk,YH];rfl
def rO (path:List Nd)(p:ZA)(hp:path.length<=1000)(hok:∀ n∈path,n.okTo aN)(nm:Nat):Ev cx 122 nm [.sl false 6 (path.map aC),.str p] ah.nil (.tup [.str (pI path.reverse p).1,.bool (pI path.reverse p).2]) []:=by
  have w0:IntKind.i64.wrap ((path.length:Int)-1)=(path.length:Int)-1:=aX
  refine aG call122 func122 results122 ntmps122 ?_;intro b0 hb0 zN
  (refine xR w0 trivial ?_)
  (have zF:=@aa;refine fu (fun x:Nat=>x) (fun x=>x<=path.length/\pI path.reverse p=pI (path.take x).reverse p) (b0+16) (fun x=>[(0,.sl false 6 (path.map aC)),(1,.str p),(6,.int .i64 ((x:Int)-1))]) (fun x=>[]) (path.length) [] ?_ ?_)
  · exact⟨IS _,by rw[WJ]⟩
  · rintro x ⟨hx,hinv⟩
    rw[hinv]
    cases x with
    | zero =>
      have d1:decide ((0:Int)<=((0:Nat):Int)-1)=false:=aL
      have d2:decide ((0:Int)<=0-1)=false:=aL
      have d3:decide ((0:Int) <= -1)=false:=aL
      simp only[List.take_zero,List.reverse_nil,pI]
      unfold jm
      cases hxm:(p==[120,109,108]) with
      | true =>
        simp only[WQ]
        exact xP (a4 d1 d2 d3 hxm) trivial
      | false =>
        simp only[WH,WS]
        exact xP (a4 d1 d2 d3 hxm) trivial
    | succ j =>
      obtain⟨n,hn⟩:∃ n,path[j]? = some n:=⟨_,AT Y6⟩
      have hat:=dv hn
      have hjl:j<path.length:=Y6
      have hji:=lV j path.length
      have hnl:=hok n (By hn)
      have hnl0:=hnl.1
      unfold aN at hnl0
      have e0:(((j+1:Nat):Int)-1)=(j:Int):=Y6
      have d1:decide ((0:Int)<=(j:Int))=true:=bz
      have w1:IntKind.i64.wrap ((j:Int)-1)=(j:Int)-1:=aX
      rw[Oc hn]
      (refine xR (a5 e0 d1 hat hjl hji) trivial ?_)
      (have zF:=a2 @aa e0;refine fu (fun i:Nat=>n.attrs.length-i) (fun i=>i<=n.attrs.length/\(n.attrs.take i).any (fun a=>dp a.name==some p)=false) (b0+16) (fun i=>[(0,.sl false 6 (path.map aC)),(1,.str p),(6,.int .i64 j),(7,.int .i64 i)]) (fun i=>[]) (0) [] ?_ ?_)
      · exact⟨WB _,rfl⟩
      · rintro i ⟨hi,hno⟩
        by_cases hlt:i<n.attrs.length
        · obtain⟨a,ha⟩:=js hlt
          have haa:=iG ha
          have hii:=lV i n.attrs.length
          have f1:decide ((i:Int)<(n.attrs.length:Int))=true:=AI hii
          have f2:=AI hlt
          have wi:=eX i
          have hde:=DD a.name (hnl.2.2.2.2 a (By ha)).2.1
          obtain⟨r1,r2⟩:=zG a.name
          by_cases hyes:dp a.name=some p
          · have q1:(nj a.name).2=true:=by rw[r1,hyes];rfl
            have q2:(nj a.name).1=p:=by have:=r2 q1;rw[hyes]at this;exact(Ww this).symm
            rw[q1,q2]at hde
            have hr:=EX ha hno hyes
            simp only[pI,hr]
            have qp:(p==p)=true:=by simp
            exact xP (a3 hat haa (a9 @aC.eq_1 @bi.eq_1 hjl hji hlt hii f1 f2 qp)) hde
          · have hno':=fy ha hno (show(dp a.name==some p)=false by simpa using hyes)
            have q1:(nj a.name).2=false\/((nj a.name).2=true/\((nj a.name).1==p)=false):=by
              cases h:(nj a.name).2 with
              | false=>exact .inl rfl
              | true =>
                refine .inr ⟨rfl,?_⟩
                have:=r2 h
                rw[Wb]
                exact fun e=>hyes (by rw[this,e])
            generalize (nj a.name).1=P1 at hde q1
            generalize (nj a.name).2=P2 at hde q1
            rcases q1 with q1|⟨q1,q2⟩
            · subst q1
              (refine xR (a4 hat haa @aC.eq_1 (a9 @bi.eq_1 hjl hji hlt hii f1 f2 wi @bu)) hde ?_)
              all_goals ((have zF:=a2 @aa wi;refine c7 (i+1) [] ?_ ?_))
              all_goals (first|(show n.attrs.length-(i+1)<n.attrs.length-i;omega)|exact⟨hlt,hno'⟩|skip)
            · subst q1
              (refine xR (a5 hat haa @aC.eq_1 @bi.eq_1 (a9 hjl hji hlt hii f1 f2 wi q2 @bu)) hde ?_)
              all_goals ((have zF:=a2 @aa wi;refine c7 (i+1) [] ?_ ?_))
              all_goals (first|(show n.attrs.length-(i+1)<n.attrs.length-i;omega)|exact⟨hlt,hno'⟩|skip)
        · have hie:i=n.attrs.length:=Y6
          subst hie
          have f1:=pK n.attrs.length n.attrs.length
          have f2:decide (n.attrs.length<n.attrs.length)=false:=aL
          rw[WJ]at hno
          simp only[pI,vi hno]at hinv ⊢
          (refine xR (a7 hat @aC.eq_1 hjl hji f1 f2 w1) trivial ?_)
          all_goals ((have zF:=a2 @aa w1;refine c7 (j) [] ?_ ?_))
          all_goals (first|(show j<j+1;omega)|(exact⟨by omega,rfl⟩)|skip)
def JO (l:List Pr)(hl:l.length<=aN)(hs:∀ a∈l,a.name.length<=aN/\a.value.length<=aN)(nm:Nat):Ev cx 63 nm [.sl false 2 (l.map cZ)] ah.nil (.bool (gC l)) []:=by
 have hl':=hl
 unfold aN at hl'
 refine aG call63 func63 results63 ntmps63 ?_;intro b0 hb0 zN
 (refine xR trivial trivial ?_)
 (have zF:=@aA;refine fu (fun x:Nat=>l.length-x) (fun x=>x<=l.length/\jp l x) (b0+16) (fun x=>[(0,.sl false 2 (l.map cZ)),(3,.int .i64 x)]) (fun x=>[]) (0) [] ?_ ?_)
 ·exact⟨WB _,fun i a hi=>by omega⟩
 ·rintro k ⟨hk,hn⟩
  by_cases hlt:k<l.length
  ·obtain⟨a,ha⟩:=js hlt
   obtain⟨hs1,hs2⟩:=hs a (By ha)
   have hat:=wx ha
   have hd:=AI hlt
   have hwk:=eX k
   have hki:(k:Int)<=(l.length:Int):=Y6
   have htk:(l.map cZ).take k=(l.take k).map cZ:=by rw[YJ]
   have hlen:(l.take k).length<=aN:=by rw[WK];omega
   have hf:=oF a.name hs1
   have hh:=MG (l.take k) a.name hlen
   have hc:=iB a.value hs2
   have hok:Pl (l.take k) a=(!((l.take k).any fun b=>a.name==b.name)&&bI a.name&&decide (az a.value=0)):=rfl
   generalize h1:bI a.name=b1 at hf hok
   generalize h2:((l.take k).any fun b=>a.name==b.name)=b2 at hh hok
   have h3:(az a.value != 0) = !decide (az a.value=0):=by
    rw[WL];simp
   generalize decide (az a.value=0)=b3 at h3 hok
   cases ho:Pl (l.take k) a with
   | false =>
    have hr:=tx ha ho
    rw[ho]at hok
    cases b1<;>cases b2<;>cases b3
    all_goals (try (exfalso;simp at hok;done))
    all_goals ((have zF:=a9 hat @cZ.eq_1 hd hlt hk hki htk h3 hr;have cF:=a3 hf hh hc;repeat' first|refine wS ?_|exact wE|refine ao (v:=.any) ?_|((first|apply b7|apply cM)<;>intro hb)|refine Ai Y6 ?_|(apply Ai<;>intro hb)|apply Fin.pure|simp only[aB]))
   | true =>
    have hn':=qO hn ha ho
    rw[ho]at hok
    cases b1<;>cases b2<;>cases b3
    all_goals (try (exfalso;simp at hok;done))
    all_goals ((refine xR (a9 hat @cZ.eq_1 hd hlt hk hki htk h3 hwk) (a3 hf hh hc) ?_))
    all_goals ((have zF:=a2 @aA hwk;refine c7 (k+1) [] ?_ ?_))
    all_goals (first|(show l.length-(k+1)<l.length-k;omega)|exact⟨hlt,hn'⟩|skip)
  ·have hke:k=l.length:=Y6
   subst hke
   have hd:decide (l.length<l.length)=false:=aL
   have hr:gC l=decide (l.length<=16):=by
    rw[WL,gq,WD]
    exact⟨fun h=>h.1,fun h=>⟨h,hn⟩⟩
   have hz:decide ((l.length:Int)<=16)=decide (l.length<=16):=by
    rw[WL,WD,WD];omega
   exact xP (a3 hd hr hz) trivial
def rMayT_ev (t:Tk)(h:t.okTo aN)(nm:Nat):Ev cx 28 nm [.agg (aY t)] ah.nil (.bool (dy t)) []:=by
 obtain⟨hl,hnl,htl,hal⟩:=h
 have hee:((t.attrs.length:Int)==0)=t.attrs.isEmpty:=jO _
 have hne:=iw t.name
 have hxe:=iw t.text
 have hxb:(t.text != []) = !t.text.isEmpty:=congrArg not hxe
 have hz:decide (az t.text=0)=(az t.text==0):=by rw[WL];simp
 have hfull:=oF t.name hnl
 have hchk:=iB t.text htl
 have hat:=JO t.attrs hl hal
 have hk:dy t=(if t.kind=1\/t.kind=3 then bI t.name&&gC t.attrs&&t.text.isEmpty
  else if t.kind=2 then bI t.name&&t.attrs.isEmpty&&t.text.isEmpty
  else if t.kind=4 then t.name.isEmpty&&t.attrs.isEmpty && !t.text.isEmpty&&(az t.text==0)
  else false):=by rw[<- hz];rfl
 generalize he:t.attrs.isEmpty=e at hk hee
 generalize hn:t.name.isEmpty=n at hk hne
 generalize hx:t.text.isEmpty=x at hk hxe hxb
 generalize hf:bI t.name=f at hk hfull
 generalize hg:gC t.attrs=g at hk hat
 generalize hy:(az t.text==0)=z at hk
 rw[hk]
 rcases kP t.kind with ⟨q1,q3,q2,q4,hkd⟩|⟨q1,q3,q2,q4,hkd⟩|⟨q1,q3,q2,q4,hkd⟩|⟨q1,q3,q2,q4,hkd⟩|⟨q1,q3,q2,q4,hk1,hk3,hk2,hk4⟩
 ·rw[if_pos (.inl hkd)]
  cases f<;>cases g<;>(
   refine aG call28 func28 results28 ntmps28 ?_;intro b0 hb0 zN
   (have zF:=a7 @aA @aY.eq_1 hxe q1 q2 q3 q4;have cF:=a2 hfull hat;repeat' first|refine wS ?_|exact wE|refine ao (v:=.any) ?_|((first|apply b7|apply cM)<;>intro hb)|refine Ai Y6 ?_|(apply Ai<;>intro hb)|apply Fin.pure|simp only[aB]))
 ·rw[if_pos (.inr hkd)]
  cases f<;>cases g<;>(
   refine aG call28 func28 results28 ntmps28 ?_;intro b0 hb0 zN
   (have zF:=a7 @aA @aY.eq_1 hxe q1 q2 q3 q4;have cF:=a2 hfull hat;repeat' first|refine wS ?_|exact wE|refine ao (v:=.any) ?_|((first|apply b7|apply cM)<;>intro hb)|refine Ai Y6 ?_|(apply Ai<;>intro hb)|apply Fin.pure|simp only[aB]))
 ·rw[if_neg Y6,if_pos hkd]
  cases f<;>cases e<;>(
   refine aG call28 func28 results28 ntmps28 ?_;intro b0 hb0 zN
   (have zF:=a8 @aA @aY.eq_1 hxe hee q1 q2 q3 q4;have cF:=hfull;repeat' first|refine wS ?_|exact wE|refine ao (v:=.any) ?_|((first|apply b7|apply cM)<;>intro hb)|refine Ai Y6 ?_|(apply Ai<;>intro hb)|apply Fin.pure|simp only[aB]))
 ·rw[if_neg Y6,if_neg Y6,if_pos hkd]
  cases n<;>cases e<;>cases x<;>cases z<;>(
   refine aG call28 func28 results28 ntmps28 ?_;intro b0 hb0 zN
   (have zF:=a3 @aA @aY.eq_1 (a9 hxe hxb hne hee hy q1 q2 q3 q4);have cF:=hchk;repeat' first|refine wS ?_|exact wE|refine ao (v:=.any) ?_|((first|apply b7|apply cM)<;>intro hb)|refine Ai Y6 ?_|(apply Ai<;>intro hb)|apply Fin.pure|simp only[aB]))
 ·rw[if_neg Y6,if_neg hk2,if_neg hk4]
  refine aG call28 func28 results28 ntmps28 ?_;intro b0 hb0 zN
  exact xP (a6 @aA @aY.eq_1 q1 q2 q3 q4) trivial
def DH (c:UInt8)(q:Bool)(nm:Nat):Ev cx 171 nm [.int .u8 c.toNat,.bool q] ah.nil (.str (nW q c)) []:=by
 have h1:((c.toNat:Int)==38)=decide (c=38):=aW c 38
 have h2:((c.toNat:Int)==60)=decide (c=60):=aW c 60
 have h3:((c.toNat:Int)==62)=decide (c=62):=aW c 62
 have h4:((c.toNat:Int)==13)=decide (c=13):=aW c 13
 have h5:((c.toNat:Int)==34)=decide (c=34):=aW c 34
 have h6:((c.toNat:Int)==9)=decide (c=9):=aW c 9
 have h7:((c.toNat:Int)==10)=decide (c=10):=aW c 10
 refine aG call171 func171 results171 ntmps171 ?_;intro b0 hb0 zN
 (repeat' first|simp only[cC,aK,results171,ntmps171,aF,h1,h2,h3,h4,h5,h6,h7,au,aH,seval]|exact rfl|refine ao (v:=.any) ?_|(refine dV (v:=?_) (bs:=[c]) ?_ ?_ ?_ ?_ ?_ ?_ ?_;rotate_left 1;(iterate 2 (focus (simp only[results171,ntmps171,aF,h1,h2,h3,h4,h5,h6,h7,au,aH,seval];done)));(focus (simp only[results171,ntmps171,aF,h1,h2,h3,h4,h5,h6,h7,au,aH,seval]<;>exact rfl));(focus (exact rfl));(focus (simp only[aK,results171,ntmps171,aF,h1,h2,h3,h4,h5,h6,h7,au,aH,seval];done));(focus (simp only[results171,ntmps171,aF,h1,h2,h3,h4,h5,h6,h7,au,aH,seval]<;>exact rfl)))|refine im ?_|refine gY ?_|((first|apply b7|apply cM)<;>intro hb)|refine Ai Y6 ?_|(apply Ai<;>intro hb)|apply Fin.pure|simp only[aB])
 all_goals (simp only[WD,XA]at *;simp[nW, *])
def tS (s:ZA)(q:Bool)(hs:s.length<=1000000)(nm:Nat):Ev cx 139 nm [.str s,.bool q] ah.nil (.str (bZ q s)) []:=by
 have hw:=bP q s
 refine aG call139 func139 results139 ntmps139 ?_;intro b0 hb0 zN
 (refine xR trivial trivial ?_)
 (have zF:=a2 @cg @vx;refine fu (fun x:Nat=>s.length-x) (fun x=>x<=s.length) (b0+16) (fun x=>[(0,.str s),(1,.bool q),(5,.own b0 0 (bZ q (s.take x)).length),(6,.int .i64 x)]) (fun x=>[(b0,@Blk.mk 1 ((bZ q (s.take x)).map av) (.typed 5))]) (0) [none] ?_ ?_)
 ·exact WB _
 ·intro k hk
  by_cases hlt:k<s.length
  ·obtain⟨c,hc⟩:=js hlt
   have hd:=AI hlt
   have hwk:=eX k
   have hnx:=yM q hc
   have hw1:=bP q (s.take k)
   have hw2:=ln q c
   have hw3:(s.take k).length=k:=by rw[WK];omega
   have hmp:(bZ q (s.take k)).map av++(nW q c).map av=(bZ q (s.take (k+1))).map av:=by rw[hnx,WM]
   have hnl:(bZ q (s.take k)).length+(nW q c).length=(bZ q (s.take (k+1))).length:=by rw[hnx,List.length_append]
   repeat' first|simp only[cC,aK,results139,ntmps139,aF,hc,hd,hlt,hwk,Option.bind_some,Eo,WQ,cJ,gT,Lm,IN,IS,hmp,au,aH,seval]|exact rfl|refine ao (v:=.any) ?_|(first|(refine ad ?_ (DH c q _) ?_)|(refine ai ?_ (fun _=>DH c q _) ?_))|((first|apply b7|apply cM)<;>intro hb)|refine Ai Y6 ?_|(apply Ai<;>intro hb)
   ((have zF:=a6 @aP @aI hwk hnl @Eo @cJ;refine c7 (k+1) [some (b0+176)] ?_ ?_))
   all_goals (first|(show s.length-(k+1)<s.length-k;omega)|(show k+1<=s.length;omega)|skip)
  ·have hke:k=s.length:=Y6
   subst hke
   have hd:decide (s.length<s.length)=false:=aL
   (have zF:=a2 hd @List.take_of_length_le.{0};repeat' first|refine wS ?_|exact wE|(refine dV (v:=?_) (bs:=bZ q s) ?_ ?_ ?_ ?_ ?_ ?_ ?_;rotate_left 1;(iterate 2 (focus (exact wD)));(focus (exact wH));(focus (exact rfl));(focus (exact wM));(focus (exact wH)))|refine im ?_|refine gY ?_|((first|apply b7|apply cM)<;>intro hb)|refine Ai Y6 ?_|(apply Ai<;>intro hb)|apply Fin.pure|simp only[aB])
def wI (t:Tk)(h:t.okTo 1000000)(h30:t.attrs.length<=30)(k3:Bool)(q2:((t.kind:Int)==2)=false)(q4:((t.kind:Int)==4)=false)(q3:((t.kind:Int)==3)=k3)(nm:Nat):Ev cx 88 nm [.agg (aY t)] ah.nil (.str (if k3 then pG t t.attrs.length++[47,62] else pG t t.attrs.length++[62])) []:=by
 have hwl:=fun k=>xA t k h h30
 obtain⟨hl,hnl,htl,hal⟩:=h
 have hw0:=xB t
 refine aG call88 func88 results88 ntmps88 ?_;intro b0 hb0 zN
 (have zF:=a3 @aY.eq_1 q2 q4;repeat' first|refine wS ?_|exact wE|refine gR [(2,15),(4,15),(6,15)] ?_|((first|apply b7|apply cM)<;>intro hb)|refine Ai Y6 ?_|(apply Ai<;>intro hb))
 (have zF:=a4 @aA @ks @aY.eq_1 hw0;refine fu (fun x:Nat=>t.attrs.length-x) (fun x=>x<=t.attrs.length) (b0+16) (fun x=>[(1,.ptr b0 0 0),(3,.str (pG t x)),(4,.int .i64 x)]) (fun x=>[(b0,⟨4,[aY t]⟩)]) (0) [some b0] ?_ ?_)
 ·exact WB _
 ·intro k hk
  by_cases hlt:k<t.attrs.length
  ·obtain⟨a,ha⟩:=js hlt
   obtain⟨hs1,hs2⟩:=hal a (By ha)
   have hat0:=wx ha
   have hd:=AI hlt
   have hwk:=eX k
   have hpv:=tS a.value true hs2
   have hnx:=Ek ha
   have hz:=hwl k
   have hew:=bP true a.value
   have l1:(a.name++[61,34]).length=a.name.length+2:=by simp
   have l2:(a.name++[61,34]++bZ true a.value).length=a.name.length+2+(bZ true a.value).length:=by simp;omega
   have l3:(a.name++[61,34]++bZ true a.value++[34]).length=a.name.length+3+(bZ true a.value).length:=by simp;omega
   (have zF:=a2 @aA (a9 @aY.eq_1 hat0 @cZ.eq_1 hd hlt hnx l1 l2 l3);have cF:=hpv;repeat' first|refine wS ?_|exact wE|refine gR [(2,15),(4,15),(6,15)] ?_|((first|apply b7|apply cM)<;>intro hb)|refine Ai Y6 ?_|(apply Ai<;>intro hb))
   all_goals ((have zF:=a5 @aA @ks @aY.eq_1 hwk hnx;refine c7 (k+1) [some b0] ?_ ?_))
   all_goals (first|(show t.attrs.length-(k+1)<t.attrs.length-k;omega)|(show k+1<=t.attrs.length;omega)|skip)
  ·have hke:k=t.attrs.length:=Y6
   subst hke
   have hd:decide (t.attrs.length<t.attrs.length)=false:=aL
   have hz:=hwl t.attrs.length
   cases k3<;>((have zF:=a4 @aA @aY.eq_1 hd q3;repeat' first|refine wS ?_|exact wE|refine gR [(2,15),(4,15),(6,15)] ?_|((first|apply b7|apply cM)<;>intro hb)|refine Ai Y6 ?_|(apply Ai<;>intro hb)|apply Fin.pure|simp only[aB]))
def Bm (t:Tk)(h:t.okTo 1000000)(h30:t.attrs.length<=30)(nm:Nat):Ev cx 88 nm [.agg (aY t)] ah.nil (.str (fk t)) []:=by
 rcases kP t.kind with ⟨q1,q3,q2,q4,hkd⟩|⟨q1,q3,q2,q4,hkd⟩|⟨q1,q3,q2,q4,hkd⟩|⟨q1,q3,q2,q4,hkd⟩|⟨q1,q3,q2,q4,hk1,hk3,hk2,hk4⟩
 ·have hw:fk t=pG t t.attrs.length++[62]:=by unfold fk;rw[if_neg Y6,if_neg Y6,if_neg Y6,r9]
  rw[hw]
  exact wI t h h30 false q2 q4 q3 nm
 ·have hw:fk t=pG t t.attrs.length++[47,62]:=by unfold fk;rw[if_neg Y6,if_neg Y6,if_pos hkd,r9]
  rw[hw]
  exact wI t h h30 true q2 q4 q3 nm
 ·obtain⟨hl,hnl,htl,hal⟩:=h
  have hw:fk t=60::47::(t.name++[62]):=by unfold fk;rw[if_neg Y6,if_pos hkd];simp
  rw[hw]
  refine aG call88 func88 results88 ntmps88 ?_;intro b0 hb0 zN
  (have zF:=a6 @aA @aY.eq_1 q1 q2 q3 q4;repeat' first|refine wS ?_|exact wE|refine gR [(2,15),(4,15),(6,15)] ?_|((first|apply b7|apply cM)<;>intro hb)|refine Ai Y6 ?_|(apply Ai<;>intro hb)|apply Fin.pure|simp only[aB])
 ·obtain⟨hl,hnl,htl,hal⟩:=h
  have hw:fk t=bZ false t.text:=by unfold fk;rw[if_pos hkd]
  rw[hw]
  refine aG call88 func88 results88 ntmps88 ?_;intro b0 hb0 zN
  (have zF:=a6 @aA @aY.eq_1 q1 q2 q3 q4;have cF:=tS t.text false htl;repeat' first|refine wS ?_|exact wE|refine gR [(2,15),(4,15),(6,15)] ?_|((first|apply b7|apply cM)<;>intro hb)|refine Ai Y6 ?_|(apply Ai<;>intro hb)|apply Fin.pure|simp only[aB])
 ·have hw:fk t=pG t t.attrs.length++[62]:=by unfold fk;rw[if_neg hk4,if_neg hk2,if_neg hk3,r9]
  rw[hw]
  exact wI t h h30 false q2 q4 q3 nm
def NQ (l:List Tk)(hl:l.length<=600)(hs:∀ t∈l,t.okTo 1000000/\t.attrs.length<=30)(nm:Nat):Ev cx 38 nm [.sl false 4 (l.map aY)] ah.nil (.tup [.str (ov l),.int .i64 (gJ l)]) []:=by
  have hlim:∀ t∈l,t.okTo aN:=fun t ht=>by
    obtain⟨⟨h1,h2,h3,h4⟩,_⟩:=hs t ht
    unfold aN
    exact⟨by omega,by omega,by omega,fun a ha=>by have:=h4 a ha;omega⟩
  refine aG call38 func38 results38 ntmps38 ?_;intro b0 hb0 zN
  (refine xR trivial trivial ?_)
  (have zF:=@ax;refine fu (fun x:Nat=>l.length-x) (fun x=>x<=l.length/\((l.take x).any fun t=>!dy t)=false) (b0+16) (fun x=>[(0,.sl false 4 (l.map aY)),(4,.str []),(5,.int .i64 x)]) (fun x=>[]) (0) [] ?_ ?_)
  · exact⟨WB _,by simp⟩
  · rintro k ⟨hk,hno⟩
    by_cases hlt:k<l.length
    · obtain⟨t,ht⟩:=js hlt
      have hat:=gO ht
      have hd:=AI hlt
      have hwk:=eX k
      have hmy:=rMayT_ev t (hlim t (By ht))
      cases hp:dy t with
      | false =>
        rw[hp]at hmy
        have he:=yX (Lr (p:=fun t=>!dy t) ht (by simp[hp]))
        have hj:=jN he Y6
        exact xP (a7 @aA hat @aY.eq_1 hd hlt he hj) hmy
      | true =>
        rw[hp]at hmy
        have hno':=eK (p:=fun t=>!dy t) hno ht (by simp[hp])
        (refine xR (a5 @aA hat @aY.eq_1 hd hlt) hmy ?_)
        all_goals ((have zF:=a2 @ax hwk;refine c7 (k+1) [] ?_ ?_))
        all_goals (first|(show l.length-(k+1)<l.length-k;omega)|exact⟨hlt,hno'⟩|skip)
    · have hke:k=l.length:=Y6
      subst hke
      rw[WJ]at hno
      have hd:decide (l.length<l.length)=false:=aL
      (refine xR hd trivial ?_)
      (have zF:=@ax;refine fu (fun x:Nat=>l.length-x) (fun x=>1<=x/\(x<=l.length\/x=1)/\nw l x) (b0+16) (fun x=>[(0,.sl false 4 (l.map aY)),(4,.str []),(6,.int .i64 x)]) (fun x=>[]) (1) [] ?_ ?_)
      · exact⟨IS _,.inr rfl,fun i a b hi=>by omega⟩
      · rintro k ⟨hk1,hk2,hadj⟩
        by_cases hlt:k<l.length
        · obtain⟨m,rfl⟩:∃ m,k=m+1:=⟨k-1,by omega⟩
          obtain⟨t,ht⟩:∃ t,l[m+1]? = some t:=⟨_,AT hlt⟩
          have hlt0:m<l.length:=Y6
          obtain⟨p,hp⟩:∃ p,l[m]? = some p:=⟨_,AT hlt0⟩
          have hat:=gO ht
          have hpt:=gO hp
          have hd1:decide (m+1<l.length)=true:=AI hlt
          have hwk:IntKind.i64.wrap (((m+1:Nat):Int)+1)=((m+1+1:Nat):Int):=aX
          have hwm:IntKind.i64.wrap (((m+1:Nat):Int)-1)=((m:Nat):Int):=by rw[aX];omega
          have hcs:(((p.kind:Int)==4)=false/\nw l (m+1+1))\/(((p.kind:Int)==4)=true/\((t.kind:Int)==4)=false/\nw l (m+1+1))\/(((p.kind:Int)==4)=true/\((t.kind:Int)==4)=true/\gJ l=8):=by
            by_cases c1:p.kind=4
            · by_cases c2:t.kind=4
              · right;right
                exact⟨by rw[c1];rfl,by rw[c2];rfl,yW (BN hp ht c1 c2)⟩
              · right;left
                refine⟨by rw[c1];rfl,If Y6,mO hadj (fun a b ha hb _ h=>?_)⟩
                rw[ht]at hb;cases hb;exact c2 h.2
            · left
              refine⟨If Y6,mO hadj (fun a b ha hb _ h=>?_)⟩
              rw[YO,hp]at ha;cases ha;exact c1 h.1
          rcases hcs with ⟨c1,hg⟩|⟨c1,c2,hg⟩|⟨c1,c2,he⟩
          · (refine xR (a9 @aA hat hpt @aY.eq_1 hd1 hlt hlt0 hwm c1) trivial ?_)
            all_goals ((have zF:=a2 @ax hwk;refine c7 (m+1+1) [] ?_ ?_))
            all_goals (first|(show l.length-(m+1+1)<l.length-(m+1);omega)|exact⟨by omega,.inl hlt,hg⟩|skip)
          · (refine xR (a2 @aA (a9 hat hpt @aY.eq_1 hd1 hlt hlt0 hwm c1 c2)) trivial ?_)
            all_goals ((have zF:=a2 @ax hwk;refine c7 (m+1+1) [] ?_ ?_))
            all_goals (first|(show l.length-(m+1+1)<l.length-(m+1);omega)|exact⟨by omega,.inl hlt,hg⟩|skip)
          · have hj:=jN he Y6
            exact xP (a4 @aA hat hpt (a9 @aY.eq_1 hd1 hlt hlt0 hwm c1 c2 he hj)) trivial
        · have hd1:decide (k<l.length)=false:=WA hlt
          have hadj':lS l=false:=oT.2 (fun i a b hi ha hb=>hadj i a b Y6 ha hb)
          by_cases h512:512<l.length
          · have he:=m7 hno hadj' (.inl h512)
            have hj:=jN he Y6
            have hd2:decide ((512:Int)<(l.length:Int))=true:=bz
            exact xP (a4 hd1 hd2 he hj) trivial
          · have hd2:decide ((512:Int)<(l.length:Int))=false:=aL
            have htl:=rZ hs Y6
            (refine xR (a2 hd1 hd2) trivial ?_)
            (have zF:=a2 @ax @zV;refine fu (fun x:Nat=>l.length-x) (fun x=>x<=l.length) (b0+16) (fun x=>[(0,.sl false 4 (l.map aY)),(4,.str (cP (l.take x))),(7,.int .i64 x)]) (fun x=>[]) (0) [] ?_ ?_)
            · exact WB _
            · intro j hj
              by_cases hlt3:j<l.length
              · obtain⟨t,ht⟩:=js hlt3
                have hat:=gO ht
                have hd3:=AI hlt3
                have hwj:=eX j
                have hwr:=Bm t (hs t (By ht)).1 (hs t (By ht)).2
                have hnx:=xe ht
                have b1:=htl j
                have b2:=htl (j+1)
                rw[hnx,List.length_append]at b2
                (refine xR (a6 @aA hat @aY.eq_1 hd3 hlt3 hnx.symm) hwr ?_)
                all_goals ((have zF:=a3 @ax hwj hnx.symm;refine c7 (j+1) [] ?_ ?_))
                all_goals (first|(show l.length-(j+1)<l.length-j;omega)|(show j+1<=l.length;omega)|skip)
              · have hje:j=l.length:=Y6
                subst hje
                have hd3:decide (l.length<l.length)=false:=aL
                by_cases hbig:16384<(cP l).length
                · have he:=m7 hno hadj' (.inr hbig)
                  have hj:=jN he Y6
                  have hd4:decide ((16384:Int)<((cP l).length:Int))=true:=bz
                  exact xP (a4 hd3 hd4 he hj) trivial
                · have he:=C7 hno hadj' Y6
                  have hj:=C8 he
                  have hd4:decide ((16384:Int)<((cP l).length:Int))=false:=aL
                  exact xP (a4 hd3 hd4 he hj) trivial
end Go.Proofs.YtgboofebldgdjaaGreatDoor
