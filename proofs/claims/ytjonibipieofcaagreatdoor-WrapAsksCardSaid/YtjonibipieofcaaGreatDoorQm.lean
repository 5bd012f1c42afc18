/-
 Texts joined: XPa,XPb,XNp.
-/
import Derived.Test.YtjonibipieofcaaGreatDoorQl
set_option linter.all false
namespace Go.Proofs.YtjonibipieofcaaGreatDoor
set_option maxRecDepth 100000
set_option maxHeartbeats 32000000
open Go Go.RowKit Go.Lib
def rc {a b:List UInt8}(ha:(dp a).isSome=true)(hb:(dp b).isSome=true):(dp (a++b)).isSome=true:=by
 obtain⟨x,hx⟩:=Option.isSome_iff_exists.1 ha
 obtain⟨y,hy⟩:=Option.isSome_iff_exists.1 hb
 rw[rR hx hy];rfl
def uN:∀ {s:List UInt8},(∀ c∈s,c≠9/\c≠10/\c≠13)->s.map uM=s
 | [],_=>rfl
 | c::s,h=>by
  have h1:=h c (by simp)
  rw[List.map_cons,uN fun x hx=>h x (by simp[hx])]
  congr 1
  unfold uM ph
  by_cases h32:c=32
  ·subst h32;rfl
  ·simp[h32,h1.1,h1.2.1,h1.2.2]
def C0 (k:Nat):List UInt8:=if k=3 then [47,62] else [62]
def ze {n:List UInt8}{P:List Pr->List UInt8->Tk->List UInt8->Prop}
  (h1:∀ l s k t,pv (da s)=some (k,t)->P l s ⟨k,n,l,[]⟩ t)
  (h2:∀ l s a r u v,pv (da s)=none->(da s).length<s.length->kS (da s)=some (a,r)->(l.any fun b=>a.name==b.name)=false->l8 n (l++[a]) r=some (u,v)->P (l++[a]) r u v->P l s u v) :
  ∀(m:Nat) (l:List Pr) (s:List UInt8) (u:Tk) (v:List UInt8),s.length<=m->l8 n l s=some (u,v)->P l s u v:=by
 intro m
 induction m with
 | zero =>
  intro l s u v hm h
  obtain rfl:=List.length_eq_zero_iff.1 (Nat.le_zero.1 hm)
  rw[rn (by rfl) (by simp[da])]at h;cases h
 | succ m ih =>
  intro l s u v hm h
  cases he:pv (da s) with
  | some p =>
   obtain⟨k,t⟩:=p
   rw[Cq he]at h
   cases h
   exact h1 _ _ _ _ he
  | none =>
   cases ha:kS (da s) with
   | none=>rw[Cp he ha]at h;cases h
   | some p =>
    obtain⟨a,r⟩:=p
    cases hd:l.any fun b=>a.name==b.name with
    | true=>rw[vr he ha hd]at h;cases h
    | false =>
     by_cases hg:(da s).length<s.length
     ·rw[zf he hg ha hd]at h
      have hl:=qY ha
      have:=gR s
      exact h2 l s a r u v he hg ha hd h (ih _ _ _ _ (by omega) h)
     ·rw[rn he hg]at h;cases h
def G6 {s r:List UInt8}{t:Tk}(h:qQ s=some (t,r))(h4:t.kind=4):jt 60 s=none/\dD (qB s)=some t.text/\r=mZ s/\t=⟨4,[],[],t.text⟩:=by
 unfold qQ at h
 split at h
 ·rename_i u hu
  exfalso
  unfold HV at h
  split at h
  ·obtain⟨⟨n,r1⟩,h1,h2⟩:=Option.bind_eq_some_iff.1 h
   obtain⟨r2,h3,e⟩:=Option.map_eq_some_iff.1 h2
   cases e
   cases h4
  ·obtain⟨⟨n,r1⟩,h1,h2⟩:=Option.bind_eq_some_iff.1 h
   have:t.kind=1\/t.kind=3:=by
    refine ze (n:=n) (P:=fun l s u v=>u.kind=1\/u.kind=3) ?_ (fun _ _ _ _ _ _ _ _ _ _ _ ih=>ih) _ [] r1 t r (Nat.le_refl _) h2
    intro l s k t he
    unfold pv at he
    split at he
    ·cases he;exact .inl rfl
    ·cases he;exact .inr rfl
    ·cases he
   omega
 ·rename_i hu
  obtain⟨x,h1,h2⟩:=Option.map_eq_some_iff.1 h
  cases h2
  exact⟨hu,h1,rfl,rfl⟩
def Bx (s:List UInt8):∀ c,(mZ s).head? = some c->c=60:=by
 intro c hc
 have:=List.head?_dropWhile_not kY s
 unfold mZ at hc
 rw[hc]at this
 simpa [kY] using this
def ve {a:List UInt8}{x:List UInt8}(h:kw a=some x):x.length<=a.length+2/\(dp x).isSome=true:=by
 have hp:∀(o:Option Nat) (k:Nat),2<=k->pM o=some x->x.length<=k+2/\(dp x).isSome=true:=by
  intro o k hk ho
  unfold pM at ho
  obtain⟨n,_,hn⟩:=Option.bind_eq_some_iff.1 ho
  split at hn
  ·rename_i hm
   cases hn
   have:=(cq (n:Int)).2
   have hd:=fW [(n:Int)] (by simp[hm])
   simp only[enc,List.flatMap_cons,List.flatMap_nil,List.append_nil]at hd
   exact⟨by omega,by rw[hd];rfl⟩
  ·cases hn
 unfold kw at h
 repeat' split at h
 ·rename_i e;cases h;subst e;exact⟨by decide,by decide⟩
 ·rename_i e;cases h;subst e;exact⟨by decide,by decide⟩
 ·rename_i e;cases h;subst e;exact⟨by decide,by decide⟩
 ·rename_i e;cases h;subst e;exact⟨by decide,by decide⟩
 ·rename_i e;cases h;subst e;exact⟨by decide,by decide⟩
 ·rename_i e1 e2
  refine hp _ _ ?_ h
  cases a with
  | nil=>cases e1
  | cons c a =>
   cases a with
   | nil=>cases e2
   | cons d a=>simp
 ·rename_i e1 e2
  refine hp _ _ ?_ h
  cases a with
  | nil=>cases e1
  | cons c a =>
   cases a with
   | nil=>simp[pM,NL]at h
   | cons d a=>simp
 ·cases h
def kC:∀(n:Nat) (s x:List UInt8),s.length<=n->dD s=some x->x.length<=s.length
 | n,[],x,_,h=>by rw[pQ]at h;cases h;simp
 | 0,c::r,x,hn,_=>by simp at hn
 | n+1,c::r,x,hn,h=>by
  have hl:r.length<=n:=by simpa using hn
  by_cases h1:c=60
  ·subst h1;rw[sY]at h;cases h
  by_cases h2:c=38
  ·subst h2
   cases hc:fA 59 r with
   | none=>rw[nJ hc]at h;cases h
   | some p =>
    obtain⟨u,v⟩:=p
    have hlen:=congrArg List.length (iF hc).1
    cases hm:kw u with
    | none=>rw[pP hc hm]at h;cases h
    | some y =>
     rw[pR hc hm]at h
     obtain⟨w,hw,rfl⟩:=Option.map_eq_some_iff.1 h
     simp only[List.length_append,List.length_cons]at hlen
     have h3:=kC n v w (by omega) hw
     have h4:=(ve hm).1
     simp only[List.length_append,List.length_cons];omega
  ·rw[jq h1 h2]at h
   obtain⟨w,hw,rfl⟩:=Option.map_eq_some_iff.1 h
   have:=kC n r w hl hw
   simp only[List.length_cons];omega
def sX:∀ {p:List UInt8} (r:List UInt8),(∀ c∈p,128<=c.toNat)->dD (p++r)=(dD r).map (p ++ ·)
 | [],r,_=>by
  rw[List.nil_append]
  cases dD r<;>simp
 | c::p,r,h=>by
  have h0:=h c (by simp)
  rw[List.cons_append,jq (by rintro rfl;simp at h0) (by rintro rfl;simp at h0),sX r fun x hx=>h x (by simp[hx])]
  cases dD r<;>simp
def vk:∀(n:Nat) (s x:List UInt8),s.length<=n->(dp s).isSome=true->dD s=some x->(dp x).isSome=true:=by
  intro n
  induction n with
  | zero =>
    intro s x hn _ h
    obtain rfl:=List.length_eq_zero_iff.1 (Nat.le_zero.1 hn)
    rw[pQ]at h;cases h;rfl
  | succ n ih =>
    intro s x hn hd h
    obtain⟨zs,hz⟩:=Option.isSome_iff_exists.1 hd
    obtain⟨hm,rfl⟩:=(mj s zs).1 hz
    cases zs with
    | nil=>rw[show enc []=[] from rfl,pQ]at h;cases h;rfl
    | cons z zs =>
      simp only[List.all_cons,Bool.and_eq_true]at hm
      have e:enc (z::zs)=encodeRune z++enc zs:=by simp[enc]
      have hl:=(cq z).1
      rw[e]at h hn hd
      rw[List.length_append]at hn
      have hdz:(dp (enc zs)).isSome=true:=by rw[fW zs hm.2];rfl
      have hd1:(dp (encodeRune z)).isSome=true:=by
        have:=fW [z] (by simp[hm.1])
        simp only[enc,List.flatMap_cons,List.flatMap_nil,List.append_nil]at this
        rw[this];rfl
      have hr:=(pK hm.1).1
      by_cases hz128:z<128
      · rw [vT hr hz128]at h hd1 hd hn
        rw[List.singleton_append]at h hd
        generalize z.toNat.toUInt8=c at h hd1 hd hn
        simp only[List.length_cons,List.length_nil]at hn
        by_cases h1:c=60
        · subst h1;rw[sY]at h;cases h
        by_cases h2:c=38
        · subst h2
          cases hc:fA 59 (enc zs) with
          | none=>rw[nJ hc]at h;cases h
          | some p =>
            obtain⟨u,v⟩:=p
            have hce:=(iF hc).1
            have hlen:=congrArg List.length hce
            simp only[List.length_append,List.length_cons]at hlen
            cases hmm:kw u with
            | none=>rw[pP hc hmm]at h;cases h
            | some y =>
              rw[pR hc hmm]at h
              obtain⟨w,hw,rfl⟩:=Option.map_eq_some_iff.1 h
              have hv:=(dB (d:=59) (by decide) hdz hce).2
              exact rc (ve hmm).2 (ih v w (by omega) hv hw)
        · rw[jq h1 h2]at h
          obtain⟨w,hw,rfl⟩:=Option.map_eq_some_iff.1 h
          exact rc (a:=[c]) hd1 (ih _ w (by omega) hdz hw)
      · rw[sX _ (sb (by omega))]at h
        obtain⟨w,hw,rfl⟩:=Option.map_eq_some_iff.1 h
        exact rc hd1 (ih _ w (by omega) hdz hw)
def Da {s:List UInt8}(h:(dp s).isSome=true):(dp (s.map uM)).isSome=true:=by
 obtain⟨zs,hz⟩:=Option.isSome_iff_exists.1 h
 obtain⟨hm,rfl⟩:=(mj s zs).1 hz
 clear hz h
 induction zs with
 | nil=>rfl
 | cons z zs ih =>
  simp only[List.all_cons,Bool.and_eq_true]at hm
  have e:enc (z::zs)=encodeRune z++enc zs:=by simp[enc]
  rw[e,List.map_append]
  refine rc ?_ (ih hm.2)
  have hr:=(pK hm.1).1
  by_cases hz:z<128
  ·rw[vT hr hz,List.map_cons,List.map_nil]
   unfold uM
   split
   ·decide
   ·have:=fW [z] (by simp[hm.1])
    simp only[enc,List.flatMap_cons,List.flatMap_nil,List.append_nil,vT hr hz]at this
    rw[this];rfl
  ·have:(encodeRune z).map uM=encodeRune z:=uN fun c hc=>by
    have:=sb (z:=z) (by omega) c hc
    refine⟨?_,?_,?_⟩<;>(rintro rfl;simp at this)
   rw[this]
   have:=fW [z] (by simp[hm.1])
   simp only[enc,List.flatMap_cons,List.flatMap_nil,List.append_nil]at this
   rw[this];rfl
def E3 {s v r:List UInt8}(h:(dp s).isSome=true)(hl:s.length<=16384)(hv:p0 s=some (v,r)):aF v=0/\(bI true v).length+6*r.length+12<=6*s.length:=by
 obtain⟨a,h1,h2⟩:=nM hv
 obtain⟨q,hq,rfl,_⟩:=nH h1
 have hq128:q.toNat<128:=by rcases hq with rfl|rfl<;>decide
 have d1:=(dB hq128 (a:=[]) h rfl).2
 have d2:=(dB hq128 d1 rfl).1
 unfold H4 at h2
 have d3:=vk _ _ _ (Nat.le_refl _) (Da d2) h2
 have l3:=kC _ _ _ (Nat.le_refl _) h2
 have:=(bG true v).2
 simp only[List.length_map,List.length_cons,List.length_append]at l3 hl ⊢
 exact⟨fE.2 ⟨by omega,d3⟩,by omega⟩
def Fp {s r:List UInt8}{a:Pr}(h:(dp s).isSome=true)(hl:s.length<=16384)(ha:kS s=some (a,r)):bU a.name=true/\aF a.value=0/\(ls a).length+6*r.length<=6*s.length:=by
 obtain⟨r1,t,h1,h2,h3⟩:=pe ha
 obtain⟨e,_,hf,_⟩:=mu h1
 have d1:=ja (oI h h1)
 rw[h2]at d1
 have d2:=ja (dB (d:=61) (by decide) (a:=[]) d1 rfl).2
 have l1:=congrArg List.length e
 have l2:=gR r1
 have l3:=gR t
 rw[h2]at l2
 simp only[List.length_append,List.length_cons]at l1 l2
 obtain⟨g1,g2⟩:=E3 d2 (by omega) h3
 refine⟨hf,g1,?_⟩
 simp only[ls,List.length_append,List.length_cons,List.length_nil]
 omega
def HU {n:List UInt8}(hn:bU n=true){l:List Pr}{s v:List UInt8}{u:Tk}(h:l8 n l s=some (u,v))(hd:(dp s).isSome=true)(hl:s.length<=16384)(hok:gK l l.length):u.name=n/\u.text=[]/\(u.kind=1\/u.kind=3)/\gK u.attrs u.attrs.length/\(dp v).isSome=true/\(dK u.attrs).length+(C0 u.kind).length+6*v.length<=(dK l).length+6*s.length:=by
 refine ze (n:=n) (P:=fun l s u v=>(dp s).isSome=true->s.length<=16384->gK l l.length->u.name=n/\u.text=[]/\(u.kind=1\/u.kind=3)/\gK u.attrs u.attrs.length/\(dp v).isSome=true/\(dK u.attrs).length+(C0 u.kind).length+6*v.length<=(dK l).length+6*s.length) ?_ ?_ _ l s u v (Nat.le_refl _) h hd hl hok
 ·intro l s k t he hd hl hok
  have hs:=ja hd
  have hsl:=gR s
  unfold pv at he
  split at he
  ·rename_i e
   cases he
   rw[e]at hs hsl
   refine⟨rfl,rfl,.inl rfl,hok,(dB (d:=62) (by decide) (a:=[]) hs rfl).2,?_⟩
   simp only[List.length_cons]at hsl
   simp[C0];omega
  ·rename_i e
   cases he
   rw[e]at hs hsl
   have h1:=(dB (d:=47) (by decide) (a:=[]) hs rfl).2
   refine⟨rfl,rfl,.inr rfl,hok,(dB (d:=62) (by decide) (a:=[]) h1 rfl).2,?_⟩
   simp only[List.length_cons]at hsl
   simp[C0];omega
  ·cases he
 ·intro l s a r u v he hg ha hd2 _ ih hd hl hok
  have hs:=ja hd
  obtain⟨g1,g2,g3⟩:=Fp hs (by omega) ha
  have hlt:=qY ha
  have hr:=Fm hs ha
  obtain⟨k1,k2,k3,k4,k5,k6⟩:=ih hr (by omega) (by
   intro i b hi hb
   by_cases hil:i<l.length
   ·rw[List.getElem?_append_left hil]at hb
    rw[List.take_append_of_le_length (by omega)]
    exact hok i b hil hb
   ·have:i=l.length:=by simp at hi;omega
    subst this
    rw[List.getElem?_append_right (by omega)]at hb
    simp at hb;subst hb
    rw[List.take_append_of_le_length (by omega),List.take_length]
    unfold Iz
    simp[hd2,g1,g2])
  refine⟨k1,k2,k3,k4,k5,?_⟩
  have:(dK (l++[a])).length=(dK l).length+(ls a).length:=by simp[dK]
  omega
def J9 {s r:List UInt8}{t:Tk}(hne:s≠[])(h:qQ s=some (t,r))(hd:(dp s).isSome=true)(hl:s.length<=16384)(h16:t.attrs.length<=16):eQ t=true/\(dp r).isSome=true/\(t.kind=4 -> ∀ c,r.head? = some c->c=60)/\(t.kind=4->jt 60 s=none)/\(dR t).length+6*r.length<=6*s.length:=by
  by_cases h4:t.kind=4
  · obtain ⟨g1,g2,rfl,g4⟩:=G6 h h4
    have e:s=qB s++mZ s:=(List.takeWhile_append_dropWhile).symm
    have le:=congrArg List.length e
    rw[List.length_append]at le
    obtain⟨d1,d2⟩:=HY hd
    have l1:=kC _ _ _ (Nat.le_refl _) g2
    have l2:=(bG false t.text).2
    have d3:=vk _ _ _ (Nat.le_refl _) d1 g2
    have hx:t.text≠[]:=by
      intro hx
      have hT:qB s≠[]:=by
        cases s with
        | nil=>exact absurd rfl hne
        | cons c s =>
          have hc:kY c=true:=by
            rw[kc]at g1
            split at g1
            · cases g1
            · rename_i e;simp[kY,e]
          unfold qB
          rw[List.takeWhile_cons,if_pos hc];simp
      rw[hx]at g2
      cases hT':qB s with
      | nil=>exact hT hT'
      | cons c w =>
        rw[hT']at g2
        by_cases c60:c=60
        · subst c60;rw[sY]at g2;cases g2
        by_cases c38:c=38
        · subst c38
          cases hc:fA 59 w with
          | none=>rw[nJ hc]at g2;cases g2
          | some p =>
            obtain⟨u,v⟩:=p
            cases hm:kw u with
            | none=>rw[pP hc hm]at g2;cases g2
            | some y =>
              rw[pR hc hm]at g2
              obtain⟨z,_,hz⟩:=Option.map_eq_some_iff.1 g2
              have:=(List.append_eq_nil_iff.1 hz).1
              subst this
              unfold kw at hm
              repeat' split at hm
              all_goals (first|cases hm;done|skip)
              all_goals (
                unfold pM at hm
                obtain⟨n,_,hn⟩:=Option.bind_eq_some_iff.1 hm
                split at hn
                · have:=(cq (n:Int)).1
                  simp only[Option.some.injEq]at hn
                  rw[hn]at this
                  simp at this
                · cases hn)
        · rw[jq c60 c38]at g2
          obtain⟨z,_,hz⟩:=Option.map_eq_some_iff.1 g2
          cases hz
    refine⟨?_,d2,fun _=>Bx s,fun _=>g1,?_⟩
    · rw[g4]
      unfold eQ
      rw[if_neg (show ¬((4:Nat)=1\/(4:Nat)=3) by decide),if_neg (show ¬(4:Nat)=2 by decide),if_pos rfl]
      have:aF t.text=0:=fE.2 ⟨by omega,d3⟩
      have hxe:t.text.isEmpty=false:=by rw[List.isEmpty_eq_false_iff];exact hx
      simp[this,hxe]
    · have:dR t=bI false t.text:=by unfold dR;rw[if_pos h4]
      rw[this]
      omega
  · have hh:∃ u,jt 60 s=some u:=by
      cases ha:jt 60 s with
      | some u=>exact⟨u,rfl⟩
      | none =>
        exfalso
        unfold qQ at h
        rw[ha]at h
        obtain⟨x,_,hx⟩:=Option.map_eq_some_iff.1 h
        cases hx
        exact h4 rfl
    obtain⟨u,hu⟩:=hh
    have hs:=fw hu
    subst hs
    have du:=(dB (d:=60) (by decide) (a:=[]) hd rfl).2
    simp only[List.length_cons]at hl
    unfold qQ at h
    rw[hu]at h
    simp only at h
    unfold HV at h
    split at h
    · rename_i w hw
      obtain rfl:=fw hw
      have dw:=(dB (d:=47) (by decide) (a:=[]) du rfl).2
      obtain⟨⟨n,r1⟩,h1,h2⟩:=Option.bind_eq_some_iff.1 h
      obtain⟨r2,h3,e⟩:=Option.map_eq_some_iff.1 h2
      cases e
      obtain⟨e1,_,hf,_⟩:=mu h1
      have l1:=congrArg List.length e1
      have l2:=gR r1
      have d1:=ja (oI dw h1)
      rw[fw h3]at l2 d1
      simp only[List.length_append,List.length_cons]at l1 l2
      refine⟨?_,(dB (d:=62) (by decide) (a:=[]) d1 rfl).2,fun h=>absurd h h4,fun h=>absurd h h4,?_⟩
      · unfold eQ
        rw[if_neg (show ¬((2:Nat)=1\/(2:Nat)=3) by decide),if_pos rfl]
        simp[hf]
      · have:dR ⟨2,n,[],[]⟩=[60,47]++n++[62]:=by unfold dR;rw[if_neg (show ¬(2:Nat)=4 by decide),if_pos rfl]
        rw[this]
        simp only[List.length_append,List.length_cons,List.length_nil]
        omega
    · rename_i hw
      obtain⟨⟨n,r1⟩,h1,h2⟩:=Option.bind_eq_some_iff.1 h
      obtain⟨e1,_,hf,_⟩:=mu h1
      have l1:=congrArg List.length e1
      simp only[List.length_append]at l1
      have d1:=oI du h1
      obtain⟨k1,k2,k3,k4,k5,k6⟩:=HU hf h2 d1 (by show r1.length<=16384;omega) (by intro i a hi;simp at hi)
      refine⟨?_,k5,fun h=>absurd h h4,fun h=>absurd h h4,?_⟩
      · unfold eQ
        rw[if_pos k3,k1,k2,hf,eS.2 ⟨h16,k4⟩]
        rfl
      · have:dR t=[60]++t.name++dK t.attrs++C0 t.kind:=by
          unfold dR C0
          rw[if_neg h4,if_neg (by rcases k3 with h|h<;>rw[h]<;>decide)]
        rw[this,k1]
        have:dK []=[]:=rfl
        rw[this]at k6
        simp only[List.length_append,List.length_cons,List.length_nil]at k6 ⊢
        omega
def xe:∀ {l:List Tk} {t:Tk},jE l=false->(∀ u,l.getLast? = some u -> ¬(u.kind=4/\t.kind=4))->jE (l++[t])=false
 | [],t,_,_=>rfl
 | [a],t,_,h=>by
  have:=h a rfl
  simp only[List.singleton_append,jE,Bool.or_false]
  simp only[Bool.and_eq_false_iff,beq_eq_false_iff_ne]
  by_cases e:a.kind=4
  ·right;exact fun e2=>this ⟨e,e2⟩
  ·left;exact e
 | a::b::l,t,h,h2=>by
  simp only[List.cons_append,jE,Bool.or_eq_false_iff]at h ⊢
  exact⟨h.1,xe (l:=b::l) h.2 (fun u hu=>h2 u (by rw[List.getLast?_cons_cons];exact hu))⟩
def GF (n:Nat):∀(m:Nat) (acc:List Tk) (s:List UInt8),s.length<=m->s.length<=n->(dp s).isSome=true->s.length<=16384->(∀ t∈acc,eQ t=true)->jE acc=false->acc.length<=512->(∀ t,acc.getLast? = some t->t.kind=4 -> ∀ c,s.head? = some c->c=60) ->
  ((iU n acc s).2.2=0->(∀ t∈(iU n acc s).1,eQ t=true)/\jE (iU n acc s).1=false/\(iU n acc s).1.length<=512/\(iU n acc s).1.length<=acc.length+s.length/\(iU n acc s).2.1=0/\(cj (iU n acc s).1).length<=(cj acc).length+6*s.length) /\
  ((iU n acc s).2.2≠0->(iU n acc s).1=[]/\(iU n acc s).2.1<n):=by
 intro m
 induction m with
 | zero =>
  intro acc s hm _ _ _ h1 h2 h3 _
  obtain rfl:=List.length_eq_zero_iff.1 (Nat.le_zero.1 hm)
  rw[yI]
  exact⟨fun _=>⟨h1,h2,h3,by simp,rfl,by simp⟩,fun h=>absurd rfl h⟩
 | succ m ih =>
  intro acc s hm hn hd hl h1 h2 h3 h4
  by_cases hs:s=[]
  ·subst hs
   rw[yI]
   exact⟨fun _=>⟨h1,h2,h3,by simp,rfl,by simp⟩,fun h=>absurd rfl h⟩
  ·have hpos:=List.length_pos_iff.2 hs
   by_cases hmany:512<=acc.length
   ·rw[DK hs hmany]
    exact⟨fun h=>absurd (show(4:Int)=0 from h) (by decide),fun _=>⟨rfl,by show n-s.length<n;omega⟩⟩
   ·cases ho:qQ s with
    | none =>
     rw[GE hs (by omega) ho]
     exact⟨fun h=>absurd (show(80:Int)=0 from h) (by decide),fun _=>⟨rfl,by show n-s.length<n;omega⟩⟩
    | some p =>
     obtain⟨t,r⟩:=p
     by_cases ha:16<t.attrs.length
     ·rw[AH hs (by omega) ho ha]
      exact⟨fun h=>absurd (show(4:Int)=0 from h) (by decide),fun _=>⟨rfl,by show n-s.length<n;omega⟩⟩
     ·have hlt:=G7 hs ho
      obtain⟨k1,k2,k3,k4,k5⟩:=J9 hs ho hd hl (by omega)
      rw[JO hs (by omega) ho (by omega)]
      obtain⟨g1,g2⟩:=ih (acc++[t]) r (by omega) (by omega) k2 (by omega) (by
       intro u hu
       rcases List.mem_append.1 hu with hu|hu
       ·exact h1 u hu
       ·simp at hu;subst hu;exact k1) (xe h2 (by
       rintro u hu ⟨e1,e2⟩
       have h60:=h4 u hu e1
       have hn:=k4 e2
       cases s with
       | nil=>exact hs rfl
       | cons c s =>
        have:=h60 c rfl
        subst this
        rw[kc,if_pos rfl]at hn
        cases hn)) (by simp;omega) (by
       intro u hu hk
       simp at hu;subst hu
       exact k3 hk)
      refine⟨fun h=>?_,g2⟩
      obtain⟨e1,e2,e3,e4,e5,e6⟩:=g1 h
      have:(cj (acc++[t])).length=(cj acc).length+(dR t).length:=by simp[cj]
      simp only[List.length_append,List.length_cons,List.length_nil]at e4
      exact⟨e1,e2,e3,by omega,e5,by omega⟩
def B5 (s:List UInt8):((lg s).2.2=0->(∀ t∈(lg s).1,eQ t=true)/\jE (lg s).1=false/\(lg s).1.length<=512/\(lg s).1.length<=s.length/\(lg s).2.1=0/\(cj (lg s).1).length<=6*s.length)/\((lg s).2.2≠0->(lg s).1=[]/\(lg s).2.1<=s.length/\((lg s).2.2=80->(lg s).2.1<s.length)):=by
 unfold lg
 by_cases hp:aF s=0
 ·rw[if_neg (by simp[hp])]
  obtain⟨hl,hd⟩:=fE.1 hp
  obtain⟨h1,h2⟩:=GF s.length s.length [] s (Nat.le_refl _) (Nat.le_refl _) hd hl (by simp) rfl (by simp) (by simp)
  refine⟨fun h=>?_,fun h=>?_⟩
  ·obtain⟨e1,e2,e3,e4,e5,e6⟩:=h1 h
   exact⟨e1,e2,e3,by simpa using e4,e5,by simpa [cj] using e6⟩
  ·obtain⟨e1,e2⟩:=h2 h
   exact⟨e1,by omega,fun _=>e2⟩
 ·rw[if_pos (by simpa using hp)]
  refine⟨fun h=>absurd h (by simpa using hp),fun _=>⟨rfl,by simp,fun h=>?_⟩⟩
  exfalso
  have h:aF s=80:=h
  unfold aF at h
  split at h
  ·cases h
  ·split at h<;>cases h
set_option maxRecDepth 100000
set_option maxHeartbeats 32000000
open Go Go.RowKit Vm Go.Lib Tryz
open Vm renaming aI->Ca,aP->Cb
open And renaming intro->Ai
open List renaming length_map->Lm,not_mem_nil->Ln,map_nil->Lo,map_cons->Lc,mem_cons->Lk
open Bool renaming not_false->Bf,not_true->Bt
end Go.Proofs.YtjonibipieofcaaGreatDoor
