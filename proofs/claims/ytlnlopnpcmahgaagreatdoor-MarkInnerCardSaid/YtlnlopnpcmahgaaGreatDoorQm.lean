/-
 Texts joined: XPa,XPb,XNp.
-/
import Derived.Test.YtlnlopnpcmahgaaGreatDoorQl
set_option linter.all false
namespace Go.Proofs.YtlnlopnpcmahgaaGreatDoor
set_option maxRecDepth 100000
set_option maxHeartbeats 32000000
open Go Go.RowKit Go.Lib
def sA {a b:List UInt8}(ha:(dW a).isSome=true)(hb:(dW b).isSome=true):(dW (a++b)).isSome=true:=by
 obtain⟨x,hx⟩:=Option.isSome_iff_exists.1 ha
 obtain⟨y,hy⟩:=Option.isSome_iff_exists.1 hb
 rw[tC hx hy];rfl
def wc:∀ {s:List UInt8},(∀ c∈s,c≠9/\c≠10/\c≠13)->s.map cH=s
 | [],_=>rfl
 | c::s,h=>by
  have h1:=h c (by simp)
  rw[List.map_cons,wc fun x hx=>h x (by simp[hx])]
  congr 1
  unfold cH iR
  by_cases h32:c=32
  ·subst h32;rfl
  ·simp[h32,h1.1,h1.2.1,h1.2.2]
def FL (k:Nat):List UInt8:=if k=3 then [47,62] else [62]
def yc {l:List Tk}(h:eP l=0):(∀ t∈l,ed t=true)/\iZ l=false/\l.length<=512/\(bk l).length<=16384/\kf l=bk l:=by
 have h':=h
 unfold eP at h
 split at h
 ·cases h
 ·rename_i h1
  split at h
  ·cases h
  ·rename_i h2
   simp only[not_or,Bool.not_eq_true,List.any_eq_false,Bool.not_eq_true',Bool.not_eq_false']at h1
   refine⟨fun t ht=>by simpa using h1.1 t ht,h1.2,by omega,by omega,?_⟩
   unfold kf;rw[if_pos h']
def uP {n:List UInt8}{P:List Pr->List UInt8->Tk->List UInt8->Prop}
  (h1:∀ l s k t,lA (be s)=some (k,t)->P l s ⟨k,n,l,[]⟩ t)
  (h2:∀ l s a r u v,lA (be s)=none->(be s).length<s.length->gS (be s)=some (a,r)->(l.any fun b=>a.name==b.name)=false->jT n (l++[a]) r=some (u,v)->P (l++[a]) r u v->P l s u v) :
  ∀(m:Nat) (l:List Pr) (s:List UInt8) (u:Tk) (v:List UInt8),s.length<=m->jT n l s=some (u,v)->P l s u v:=by
 intro m
 induction m with
 | zero =>
  intro l s u v hm h
  obtain rfl:=List.length_eq_zero_iff.1 (Nat.le_zero.1 hm)
  rw[lX (by rfl) (by simp[be])]at h;cases h
 | succ m ih =>
  intro l s u v hm h
  cases he:lA (be s) with
  | some p =>
   obtain⟨k,t⟩:=p
   rw[lW he]at h
   cases h
   exact h1 _ _ _ _ he
  | none =>
   cases ha:gS (be s) with
   | none=>rw[sO he ha]at h;cases h
   | some p =>
    obtain⟨a,r⟩:=p
    cases hd:l.any fun b=>a.name==b.name with
    | true=>rw[nV he ha hd]at h;cases h
    | false =>
     by_cases hg:(be s).length<s.length
     ·rw[nt he hg ha hd]at h
      have hl:=ln ha
      have:=dB s
      exact h2 l s a r u v he hg ha hd h (ih _ _ _ _ (by omega) h)
     ·rw[lX he hg]at h;cases h
def KC {s r:List UInt8}{t:Tk}(h:jP s=some (t,r))(h4:t.kind=4):bZ 60 s=none/\bY (cP s)=some t.text/\r=gP s/\t=⟨4,[],[],t.text⟩:=by
 unfold jP at h
 split at h
 ·rename_i u hu
  exfalso
  unfold uQ at h
  split at h
  ·obtain⟨⟨n,r1⟩,h1,h2⟩:=Option.bind_eq_some_iff.1 h
   obtain⟨r2,h3,e⟩:=Option.map_eq_some_iff.1 h2
   cases e
   cases h4
  ·obtain⟨⟨n,r1⟩,h1,h2⟩:=Option.bind_eq_some_iff.1 h
   have:t.kind=1\/t.kind=3:=by
    refine uP (n:=n) (P:=fun l s u v=>u.kind=1\/u.kind=3) ?_ (fun _ _ _ _ _ _ _ _ _ _ _ ih=>ih) _ [] r1 t r (Nat.le_refl _) h2
    intro l s k t he
    unfold lA at he
    split at he
    ·cases he;exact .inl rfl
    ·cases he;exact .inr rfl
    ·cases he
   omega
 ·rename_i hu
  obtain⟨x,h1,h2⟩:=Option.map_eq_some_iff.1 h
  cases h2
  exact⟨hu,h1,rfl,rfl⟩
def oC {p:UInt8->Bool} : ∀ {s:List UInt8} {c:UInt8},c∈s.takeWhile p->p c=true
 | [],c,h=>by simp at h
 | d::s,c,h=>by
  rw[List.takeWhile_cons]at h
  by_cases hd:p d=true
  ·rw[if_pos hd]at h
   rcases List.mem_cons.1 h with rfl|h
   ·exact hd
   ·exact oC h
  ·rw[if_neg hd]at h;simp at h
def uS (s:List UInt8):∀ c,(gP s).head? = some c->c=60:=by
 intro c hc
 have:=List.head?_dropWhile_not ku s
 unfold gP at hc
 rw[hc]at this
 simpa [ku] using this
def wI {a:List UInt8}{x:List UInt8}(h:cI a=some x):x.length<=a.length+2/\(dW x).isSome=true:=by
 have hp:∀(o:Option Nat) (k:Nat),2<=k->fe o=some x->x.length<=k+2/\(dW x).isSome=true:=by
  intro o k hk ho
  unfold fe at ho
  obtain⟨n,_,hn⟩:=Option.bind_eq_some_iff.1 ho
  split at hn
  ·rename_i hm
   cases hn
   have:=(bj (n:Int)).2
   have hd:=fV [(n:Int)] (by simp[hm])
   simp only[enc,List.flatMap_cons,List.flatMap_nil,List.append_nil]at hd
   exact⟨by omega,by rw[hd];rfl⟩
  ·cases hn
 unfold cI at h
 repeat' split at h
 ·rename_i e;cases h;subst e;exact⟨by decide,by decide⟩
 ·rename_i e;cases h;subst e;exact⟨by decide,by decide⟩
 ·rename_i e;cases h;subst e;exact⟨by decide,by decide⟩
 ·rename_i e;cases h;subst e;exact⟨by decide,by decide⟩
 ·rename_i e;cases h;subst e;exact⟨by decide,by decide⟩
 ·rename_i e1 e2
  refine hp _ _ ?_ h
  cases a with
  | nil=>cases e1
  | cons c a =>
   cases a with
   | nil=>cases e2
   | cons d a=>simp
 ·rename_i e1 e2
  refine hp _ _ ?_ h
  cases a with
  | nil=>cases e1
  | cons c a =>
   cases a with
   | nil=>simp[fe,oM]at h
   | cons d a=>simp
 ·cases h
def lR:∀(n:Nat) (s x:List UInt8),s.length<=n->bY s=some x->x.length<=s.length
 | n,[],x,_,h=>by rw[kZ]at h;cases h;simp
 | 0,c::r,x,hn,_=>by simp at hn
 | n+1,c::r,x,hn,h=>by
  have hl:r.length<=n:=by simpa using hn
  by_cases h1:c=60
  ·subst h1;rw[nj]at h;cases h
  by_cases h2:c=38
  ·subst h2
   cases hc:ep 59 r with
   | none=>rw[jR hc]at h;cases h
   | some p =>
    obtain⟨u,v⟩:=p
    have hlen:=congrArg List.length (fb hc).1
    cases hm:cI u with
    | none=>rw[kY hc hm]at h;cases h
    | some y =>
     rw[k7 hc hm]at h
     obtain⟨w,hw,rfl⟩:=Option.map_eq_some_iff.1 h
     simp only[List.length_append,List.length_cons]at hlen
     have h3:=lR n v w (by omega) hw
     have h4:=(wI hm).1
     simp only[List.length_append,List.length_cons];omega
  ·rw[gA h1 h2]at h
   obtain⟨w,hw,rfl⟩:=Option.map_eq_some_iff.1 h
   have:=lR n r w hl hw
   simp only[List.length_cons];omega
def uC:∀ {p:List UInt8} (r:List UInt8),(∀ c∈p,128<=c.toNat)->bY (p++r)=(bY r).map (p ++ ·)
 | [],r,_=>by
  rw[List.nil_append]
  cases bY r<;>simp
 | c::p,r,h=>by
  have h0:=h c (by simp)
  rw[List.cons_append,gA (by rintro rfl;simp at h0) (by rintro rfl;simp at h0),uC r fun x hx=>h x (by simp[hx])]
  cases bY r<;>simp
def wM:∀(n:Nat) (s x:List UInt8),s.length<=n->(dW s).isSome=true->bY s=some x->(dW x).isSome=true:=by
  intro n
  induction n with
  | zero =>
    intro s x hn _ h
    obtain rfl:=List.length_eq_zero_iff.1 (Nat.le_zero.1 hn)
    rw[kZ]at h;cases h;rfl
  | succ n ih =>
    intro s x hn hd h
    obtain⟨zs,hz⟩:=Option.isSome_iff_exists.1 hd
    obtain⟨hm,rfl⟩:=(lu s zs).1 hz
    cases zs with
    | nil=>rw[show enc []=[] from rfl,kZ]at h;cases h;rfl
    | cons z zs =>
      simp only[List.all_cons,Bool.and_eq_true]at hm
      have e:enc (z::zs)=encodeRune z++enc zs:=by simp[enc]
      have hl:=(bj z).1
      rw[e]at h hn hd
      rw[List.length_append]at hn
      have hdz:(dW (enc zs)).isSome=true:=by rw[fV zs hm.2];rfl
      have hd1:(dW (encodeRune z)).isSome=true:=by
        have:=fV [z] (by simp[hm.1])
        simp only[enc,List.flatMap_cons,List.flatMap_nil,List.append_nil]at this
        rw[this];rfl
      have hr:=(fF hm.1).1
      by_cases hz128:z<128
      · rw [xG hr hz128]at h hd1 hd hn
        rw[List.singleton_append]at h hd
        generalize z.toNat.toUInt8=c at h hd1 hd hn
        simp only[List.length_cons,List.length_nil]at hn
        by_cases h1:c=60
        · subst h1;rw[nj]at h;cases h
        by_cases h2:c=38
        · subst h2
          cases hc:ep 59 (enc zs) with
          | none=>rw[jR hc]at h;cases h
          | some p =>
            obtain⟨u,v⟩:=p
            have hce:=(fb hc).1
            have hlen:=congrArg List.length hce
            simp only[List.length_append,List.length_cons]at hlen
            cases hmm:cI u with
            | none=>rw[kY hc hmm]at h;cases h
            | some y =>
              rw[k7 hc hmm]at h
              obtain⟨w,hw,rfl⟩:=Option.map_eq_some_iff.1 h
              have hv:=(bX (d:=59) (by decide) hdz hce).2
              exact sA (wI hmm).2 (ih v w (by omega) hv hw)
        · rw[gA h1 h2]at h
          obtain⟨w,hw,rfl⟩:=Option.map_eq_some_iff.1 h
          exact sA (a:=[c]) hd1 (ih _ w (by omega) hdz hw)
      · rw[uC _ (pG (by omega))]at h
        obtain⟨w,hw,rfl⟩:=Option.map_eq_some_iff.1 h
        exact sA hd1 (ih _ w (by omega) hdz hw)
def FV {s:List UInt8}(h:(dW s).isSome=true):(dW (s.map cH)).isSome=true:=by
 obtain⟨zs,hz⟩:=Option.isSome_iff_exists.1 h
 obtain⟨hm,rfl⟩:=(lu s zs).1 hz
 clear hz h
 induction zs with
 | nil=>rfl
 | cons z zs ih =>
  simp only[List.all_cons,Bool.and_eq_true]at hm
  have e:enc (z::zs)=encodeRune z++enc zs:=by simp[enc]
  rw[e,List.map_append]
  refine sA ?_ (ih hm.2)
  have hr:=(fF hm.1).1
  by_cases hz:z<128
  ·rw[xG hr hz,List.map_cons,List.map_nil]
   unfold cH
   split
   ·decide
   ·have:=fV [z] (by simp[hm.1])
    simp only[enc,List.flatMap_cons,List.flatMap_nil,List.append_nil,xG hr hz]at this
    rw[this];rfl
  ·have:(encodeRune z).map cH=encodeRune z:=wc fun c hc=>by
    have:=pG (z:=z) (by omega) c hc
    refine⟨?_,?_,?_⟩<;>(rintro rfl;simp at this)
   rw[this]
   have:=fV [z] (by simp[hm.1])
   simp only[enc,List.flatMap_cons,List.flatMap_nil,List.append_nil]at this
   rw[this];rfl
def HR {s v r:List UInt8}(h:(dW s).isSome=true)(hl:s.length<=16384)(hv:iU s=some (v,r)):aN v=0/\(cE true v).length+6*r.length+12<=6*s.length:=by
 obtain⟨a,h1,h2⟩:=l7 hv
 obtain⟨q,hq,rfl,_⟩:=lP h1
 have hq128:q.toNat<128:=by rcases hq with rfl|rfl<;>decide
 have d1:=(bX hq128 (a:=[]) h rfl).2
 have d2:=(bX hq128 d1 rfl).1
 unfold Ba at h2
 have d3:=wM _ _ _ (Nat.le_refl _) (FV d2) h2
 have l3:=lR _ _ _ (Nat.le_refl _) h2
 have:=(co true v).2
 simp only[List.length_map,List.length_cons,List.length_append]at l3 hl ⊢
 exact⟨c6.2 ⟨by omega,d3⟩,by omega⟩
def Ih {s r:List UInt8}{a:Pr}(h:(dW s).isSome=true)(hl:s.length<=16384)(ha:gS s=some (a,r)):cN a.name=true/\aN a.value=0/\(mr a).length+6*r.length<=6*s.length:=by
 obtain⟨r1,t,h1,h2,h3⟩:=nB ha
 obtain⟨e,_,hf,_⟩:=fX h1
 have d1:=dN (iK h h1)
 rw[h2]at d1
 have d2:=dN (bX (d:=61) (by decide) (a:=[]) d1 rfl).2
 have l1:=congrArg List.length e
 have l2:=dB r1
 have l3:=dB t
 rw[h2]at l2
 simp only[List.length_append,List.length_cons]at l1 l2
 obtain⟨g1,g2⟩:=HR d2 (by omega) h3
 refine⟨hf,g1,?_⟩
 simp only[mr,List.length_append,List.length_cons,List.length_nil]
 omega
def Lv {n:List UInt8}(hn:cN n=true){l:List Pr}{s v:List UInt8}{u:Tk}(h:jT n l s=some (u,v))(hd:(dW s).isSome=true)(hl:s.length<=16384)(hok:ja l l.length):u.name=n/\u.text=[]/\(u.kind=1\/u.kind=3)/\ja u.attrs u.attrs.length/\(dW v).isSome=true/\(ef u.attrs).length+(FL u.kind).length+6*v.length<=(ef l).length+6*s.length:=by
 refine uP (n:=n) (P:=fun l s u v=>(dW s).isSome=true->s.length<=16384->ja l l.length->u.name=n/\u.text=[]/\(u.kind=1\/u.kind=3)/\ja u.attrs u.attrs.length/\(dW v).isSome=true/\(ef u.attrs).length+(FL u.kind).length+6*v.length<=(ef l).length+6*s.length) ?_ ?_ _ l s u v (Nat.le_refl _) h hd hl hok
 ·intro l s k t he hd hl hok
  have hs:=dN hd
  have hsl:=dB s
  unfold lA at he
  split at he
  ·rename_i e
   cases he
   rw[e]at hs hsl
   refine⟨rfl,rfl,.inl rfl,hok,(bX (d:=62) (by decide) (a:=[]) hs rfl).2,?_⟩
   simp only[List.length_cons]at hsl
   simp[FL];omega
  ·rename_i e
   cases he
   rw[e]at hs hsl
   have h1:=(bX (d:=47) (by decide) (a:=[]) hs rfl).2
   refine⟨rfl,rfl,.inr rfl,hok,(bX (d:=62) (by decide) (a:=[]) h1 rfl).2,?_⟩
   simp only[List.length_cons]at hsl
   simp[FL];omega
  ·cases he
 ·intro l s a r u v he hg ha hd2 _ ih hd hl hok
  have hs:=dN hd
  obtain⟨g1,g2,g3⟩:=Ih hs (by omega) ha
  have hlt:=ln ha
  have hr:=tc hs ha
  obtain⟨k1,k2,k3,k4,k5,k6⟩:=ih hr (by omega) (by
   intro i b hi hb
   by_cases hil:i<l.length
   ·rw[List.getElem?_append_left hil]at hb
    rw[List.take_append_of_le_length (by omega)]
    exact hok i b hil hb
   ·have:i=l.length:=by simp at hi;omega
    subst this
    rw[List.getElem?_append_right (by omega)]at hb
    simp at hb;subst hb
    rw[List.take_append_of_le_length (by omega),List.take_length]
    unfold O2
    simp[hd2,g1,g2])
  refine⟨k1,k2,k3,k4,k5,?_⟩
  have:(ef (l++[a])).length=(ef l).length+(mr a).length:=by simp[ef]
  omega
def yo {s r:List UInt8}{t:Tk}(hne:s≠[])(h:jP s=some (t,r))(hd:(dW s).isSome=true)(hl:s.length<=16384)(h16:t.attrs.length<=16):ed t=true/\(dW r).isSome=true/\(t.kind=4 -> ∀ c,r.head? = some c->c=60)/\(t.kind=4->bZ 60 s=none)/\(fJ t).length+6*r.length<=6*s.length:=by
  by_cases h4:t.kind=4
  · obtain ⟨g1,g2,rfl,g4⟩:=KC h h4
    have e:s=cP s++gP s:=(List.takeWhile_append_dropWhile).symm
    have le:=congrArg List.length e
    rw[List.length_append]at le
    obtain⟨d1,d2⟩:=uT hd
    have l1:=lR _ _ _ (Nat.le_refl _) g2
    have l2:=(co false t.text).2
    have d3:=wM _ _ _ (Nat.le_refl _) d1 g2
    have hx:t.text≠[]:=by
      intro hx
      have hT:cP s≠[]:=by
        cases s with
        | nil=>exact absurd rfl hne
        | cons c s =>
          have hc:ku c=true:=by
            rw[jv]at g1
            split at g1
            · cases g1
            · rename_i e;simp[ku,e]
          unfold cP
          rw[List.takeWhile_cons,if_pos hc];simp
      rw[hx]at g2
      cases hT':cP s with
      | nil=>exact hT hT'
      | cons c w =>
        rw[hT']at g2
        by_cases c60:c=60
        · subst c60;rw[nj]at g2;cases g2
        by_cases c38:c=38
        · subst c38
          cases hc:ep 59 w with
          | none=>rw[jR hc]at g2;cases g2
          | some p =>
            obtain⟨u,v⟩:=p
            cases hm:cI u with
            | none=>rw[kY hc hm]at g2;cases g2
            | some y =>
              rw[k7 hc hm]at g2
              obtain⟨z,_,hz⟩:=Option.map_eq_some_iff.1 g2
              have:=(List.append_eq_nil_iff.1 hz).1
              subst this
              unfold cI at hm
              repeat' split at hm
              all_goals (first|cases hm;done|skip)
              all_goals (
                unfold fe at hm
                obtain⟨n,_,hn⟩:=Option.bind_eq_some_iff.1 hm
                split at hn
                · have:=(bj (n:Int)).1
                  simp only[Option.some.injEq]at hn
                  rw[hn]at this
                  simp at this
                · cases hn)
        · rw[gA c60 c38]at g2
          obtain⟨z,_,hz⟩:=Option.map_eq_some_iff.1 g2
          cases hz
    refine⟨?_,d2,fun _=>uS s,fun _=>g1,?_⟩
    · rw[g4]
      unfold ed
      rw[if_neg (show ¬((4:Nat)=1\/(4:Nat)=3) by decide),if_neg (show ¬(4:Nat)=2 by decide),if_pos rfl]
      have:aN t.text=0:=c6.2 ⟨by omega,d3⟩
      have hxe:t.text.isEmpty=false:=by rw[List.isEmpty_eq_false_iff];exact hx
      simp[this,hxe]
    · have:fJ t=cE false t.text:=by unfold fJ;rw[if_pos h4]
      rw[this]
      omega
  · have hh:∃ u,bZ 60 s=some u:=by
      cases ha:bZ 60 s with
      | some u=>exact⟨u,rfl⟩
      | none =>
        exfalso
        unfold jP at h
        rw[ha]at h
        obtain⟨x,_,hx⟩:=Option.map_eq_some_iff.1 h
        cases hx
        exact h4 rfl
    obtain⟨u,hu⟩:=hh
    have hs:=b6 hu
    subst hs
    have du:=(bX (d:=60) (by decide) (a:=[]) hd rfl).2
    simp only[List.length_cons]at hl
    unfold jP at h
    rw[hu]at h
    simp only at h
    unfold uQ at h
    split at h
    · rename_i w hw
      obtain rfl:=b6 hw
      have dw:=(bX (d:=47) (by decide) (a:=[]) du rfl).2
      obtain⟨⟨n,r1⟩,h1,h2⟩:=Option.bind_eq_some_iff.1 h
      obtain⟨r2,h3,e⟩:=Option.map_eq_some_iff.1 h2
      cases e
      obtain⟨e1,_,hf,_⟩:=fX h1
      have l1:=congrArg List.length e1
      have l2:=dB r1
      have d1:=dN (iK dw h1)
      rw[b6 h3]at l2 d1
      simp only[List.length_append,List.length_cons]at l1 l2
      refine⟨?_,(bX (d:=62) (by decide) (a:=[]) d1 rfl).2,fun h=>absurd h h4,fun h=>absurd h h4,?_⟩
      · unfold ed
        rw[if_neg (show ¬((2:Nat)=1\/(2:Nat)=3) by decide),if_pos rfl]
        simp[hf]
      · have:fJ ⟨2,n,[],[]⟩=[60,47]++n++[62]:=by unfold fJ;rw[if_neg (show ¬(2:Nat)=4 by decide),if_pos rfl]
        rw[this]
        simp only[List.length_append,List.length_cons,List.length_nil]
        omega
    · rename_i hw
      obtain⟨⟨n,r1⟩,h1,h2⟩:=Option.bind_eq_some_iff.1 h
      obtain⟨e1,_,hf,_⟩:=fX h1
      have l1:=congrArg List.length e1
      simp only[List.length_append]at l1
      have d1:=iK du h1
      obtain⟨k1,k2,k3,k4,k5,k6⟩:=Lv hf h2 d1 (by show r1.length<=16384;omega) (by intro i a hi;simp at hi)
      refine⟨?_,k5,fun h=>absurd h h4,fun h=>absurd h h4,?_⟩
      · unfold ed
        rw[if_pos k3,k1,k2,hf,gh.2 ⟨h16,k4⟩]
        rfl
      · have:fJ t=[60]++t.name++ef t.attrs++FL t.kind:=by
          unfold fJ FL
          rw[if_neg h4,if_neg (by rcases k3 with h|h<;>rw[h]<;>decide)]
        rw[this,k1]
        have:ef []=[]:=rfl
        rw[this]at k6
        simp only[List.length_append,List.length_cons,List.length_nil]at k6 ⊢
        omega
def yX:∀ {l:List Tk} {t:Tk},iZ l=false->(∀ u,l.getLast? = some u -> ¬(u.kind=4/\t.kind=4))->iZ (l++[t])=false
 | [],t,_,_=>rfl
 | [a],t,_,h=>by
  have:=h a rfl
  simp only[List.singleton_append,iZ,Bool.or_false]
  simp only[Bool.and_eq_false_iff,beq_eq_false_iff_ne]
  by_cases e:a.kind=4
  ·right;exact fun e2=>this ⟨e,e2⟩
  ·left;exact e
 | a::b::l,t,h,h2=>by
  simp only[List.cons_append,iZ,Bool.or_eq_false_iff]at h ⊢
  exact⟨h.1,yX (l:=b::l) h.2 (fun u hu=>h2 u (by rw[List.getLast?_cons_cons];exact hu))⟩
def JK (n:Nat):∀(m:Nat) (acc:List Tk) (s:List UInt8),s.length<=m->s.length<=n->(dW s).isSome=true->s.length<=16384->(∀ t∈acc,ed t=true)->iZ acc=false->acc.length<=512->(∀ t,acc.getLast? = some t->t.kind=4 -> ∀ c,s.head? = some c->c=60) ->
  ((hU n acc s).2.2=0->(∀ t∈(hU n acc s).1,ed t=true)/\iZ (hU n acc s).1=false/\(hU n acc s).1.length<=512/\(hU n acc s).1.length<=acc.length+s.length/\(hU n acc s).2.1=0/\(bk (hU n acc s).1).length<=(bk acc).length+6*s.length) /\
  ((hU n acc s).2.2≠0->(hU n acc s).1=[]/\(hU n acc s).2.1<n):=by
 intro m
 induction m with
 | zero =>
  intro acc s hm _ _ _ h1 h2 h3 _
  obtain rfl:=List.length_eq_zero_iff.1 (Nat.le_zero.1 hm)
  rw[nb]
  exact⟨fun _=>⟨h1,h2,h3,by simp,rfl,by simp⟩,fun h=>absurd rfl h⟩
 | succ m ih =>
  intro acc s hm hn hd hl h1 h2 h3 h4
  by_cases hs:s=[]
  ·subst hs
   rw[nb]
   exact⟨fun _=>⟨h1,h2,h3,by simp,rfl,by simp⟩,fun h=>absurd rfl h⟩
  ·have hpos:=List.length_pos_iff.2 hs
   by_cases hmany:512<=acc.length
   ·rw[rf hs hmany]
    exact⟨fun h=>absurd (show(4:Int)=0 from h) (by decide),fun _=>⟨rfl,by show n-s.length<n;omega⟩⟩
   ·cases ho:jP s with
    | none =>
     rw[ui hs (by omega) ho]
     exact⟨fun h=>absurd (show(80:Int)=0 from h) (by decide),fun _=>⟨rfl,by show n-s.length<n;omega⟩⟩
    | some p =>
     obtain⟨t,r⟩:=p
     by_cases ha:16<t.attrs.length
     ·rw[o0 hs (by omega) ho ha]
      exact⟨fun h=>absurd (show(4:Int)=0 from h) (by decide),fun _=>⟨rfl,by show n-s.length<n;omega⟩⟩
     ·have hlt:=yn hs ho
      obtain⟨k1,k2,k3,k4,k5⟩:=yo hs ho hd hl (by omega)
      rw[sH hs (by omega) ho (by omega)]
      obtain⟨g1,g2⟩:=ih (acc++[t]) r (by omega) (by omega) k2 (by omega) (by
       intro u hu
       rcases List.mem_append.1 hu with hu|hu
       ·exact h1 u hu
       ·simp at hu;subst hu;exact k1) (yX h2 (by
       rintro u hu ⟨e1,e2⟩
       have h60:=h4 u hu e1
       have hn:=k4 e2
       cases s with
       | nil=>exact hs rfl
       | cons c s =>
        have:=h60 c rfl
        subst this
        rw[jv,if_pos rfl]at hn
        cases hn)) (by simp;omega) (by
       intro u hu hk
       simp at hu;subst hu
       exact k3 hk)
      refine⟨fun h=>?_,g2⟩
      obtain⟨e1,e2,e3,e4,e5,e6⟩:=g1 h
      have:(bk (acc++[t])).length=(bk acc).length+(fJ t).length:=by simp[bk]
      simp only[List.length_append,List.length_cons,List.length_nil]at e4
      exact⟨e1,e2,e3,by omega,e5,by omega⟩
def EB (s:List UInt8):((dS s).2.2=0->(∀ t∈(dS s).1,ed t=true)/\iZ (dS s).1=false/\(dS s).1.length<=512/\(dS s).1.length<=s.length/\(dS s).2.1=0/\(bk (dS s).1).length<=6*s.length)/\((dS s).2.2≠0->(dS s).1=[]/\(dS s).2.1<=s.length/\((dS s).2.2=80->(dS s).2.1<s.length)):=by
 unfold dS
 by_cases hp:aN s=0
 ·rw[if_neg (by simp[hp])]
  obtain⟨hl,hd⟩:=c6.1 hp
  obtain⟨h1,h2⟩:=JK s.length s.length [] s (Nat.le_refl _) (Nat.le_refl _) hd hl (by simp) rfl (by simp) (by simp)
  refine⟨fun h=>?_,fun h=>?_⟩
  ·obtain⟨e1,e2,e3,e4,e5,e6⟩:=h1 h
   exact⟨e1,e2,e3,by simpa using e4,e5,by simpa [bk] using e6⟩
  ·obtain⟨e1,e2⟩:=h2 h
   exact⟨e1,by omega,fun _=>e2⟩
 ·rw[if_pos (by simpa using hp)]
  refine⟨fun h=>absurd h (by simpa using hp),fun _=>⟨rfl,by simp,fun h=>?_⟩⟩
  exfalso
  have h:aN s=80:=h
  unfold aN at h
  split at h
  ·cases h
  ·split at h<;>cases h
end Go.Proofs.YtlnlopnpcmahgaaGreatDoor
namespace Go.Proofs.YtlnlopnpcmahgaaGreatDoor
set_option maxRecDepth 100000
set_option maxHeartbeats 32000000
open Go Go.RowKit Vm Go.Lib Tryz
open Vm renaming aW->Ca,bf->Cb
open And renaming intro->Ai
open List renaming length_map->Lm,not_mem_nil->Ln,map_nil->Lo,map_cons->Lc,mem_cons->Lk
open Bool renaming not_false->Bf,not_true->Bt
def KV (s n r0:List UInt8)(hs:s.length<=16384)(hd:(dW s).isSome=true)(h1:bZ 47 s=none)(h2:fy s=some (n,r0))(h3:jT n [] r0=none)(q:Nat)(M:am)(nm:Nat)(hq:M q=some (bV s))(ho:∀ z,(M z).isSome=true->z∈[q])(hqn:q<nm) :
    yT cx 146 nm [.ptr q 0 0] M C3:=by
  have p1:=da s [47] false (by omega) (by decide) (by rw[e9,h1];rfl)
  simp only[Bool.false_eq_true,if_false]at p1
  have hn:=ld s n r0 (by omega) h2
  obtain⟨_,_,_,l2⟩:=fX h2
  have hd0:=iK hd h2
  unfold bV at hq hn
  refine jz rfl bM rfl call146 func146 rfl mixed (by kernel_rfl) rfl ?_;intro b0 hb0;have zF:=Ai results146 ntmps146
  have lq:=aB hb0 hq
  have z0:=aD lq
  repeat' first|simp only[zF,al,hq,z0,ai,seval,ah]|exact rfl|((first|(refine ac ?_ [q] (p1 q _ _ ?_ aj (by omega)) ?_ ?_)|(refine ac ?_ [q] (hn q _ _ ?_ aj (by omega)) ?_ ?_));iterate 3 (focus (simp only[ag,zF,al,hq,z0,ai,seval,ah]<;>exact rfl)))|((first|apply Ca|apply Cb)<;>intro hb)|refine Ai (by omega) ?_|(apply Ai<;>intro hb)
  (refine aQ bM (fun x:TSt=>x.rest.length) (fun x=>jT n x.l x.rest=none/\(dW x.rest).isSome=true/\x.rest.length+x.l.length<=16384) (b0+16) (fun x=>[(0,.ptr q 0 0),(2,.ptr b0 0 0)]) (fun x=>[(q,⟨1,[[.str x.rest]]⟩),(b0,⟨4,[[.int .u8 0,.str n,.own (b0+1) 0 x.l.length,.str []]]⟩),(b0+1,⟨2,x.l.map c7⟩)]) (⟨[],r0⟩) [some q,some b0,none] ?_ ?_ ?_ ?_;rotate_left 1;(focus (show b0<=_;omega));(focus (refine⟨?_,?_⟩<;>(try simp only[aX,ER,hq,z0,aJ,Lo,List.length_nil,ai,seval,ah,ap])<;>(try omega)));rotate_left 1)
  · exact⟨h3,hd0,by show r0.length+0<=16384;omega⟩
  · rintro ⟨xl,xr⟩ ⟨g1,g2,g3⟩
    dsimp only at g1 g2 g3 ⊢
    have gl:=dB xr
    have hsk:=kr xr (by unfold bc;omega)
    unfold bV at hsk
    have hnl:(xl.map c7).length=xl.length:=Lm _
    by_cases e62:preB (be xr) [62]=true
    · obtain⟨t,ht,hen⟩:=Ef e62
      rw[lW hen]at g1
      cases g1
    · have e62':preB (be xr) [62]=false:=by simpa using e62
      have p62:=da (be xr) [62] false (by omega) (by decide) e62'
      simp only[Bool.false_eq_true,if_false]at p62
      by_cases e47:preB (be xr) [47,62]=true
      · obtain⟨t,ht,hen⟩:=v9 e47
        rw[lW hen]at g1
        cases g1
      · have e47':preB (be xr) [47,62]=false:=by simpa using e47
        have hen:=zB e62' e47'
        have p63:=da (be xr) [47,62] false (by omega) (by decide) e47'
        simp only[Bool.false_eq_true,if_false]at p63
        by_cases hgap:(be xr).length<xr.length
        · have hgd:decide ((be xr).length<xr.length)=true:=decide_eq_true hgap
          rw[hgd]at hsk
          cases k1:fy (be xr) with
          | none =>
            have hn1:=ry (be xr) (by omega) k1
            unfold bV at hn1
            repeat' first|simp only[zF,al,ay,hq,z0,aF,aG,ax,aA,av,bg,Bt,Bf,Lm,ai,seval,ah]|exact rfl|((first|(refine ac ?_ [q] (hsk q _ _ ?_ aj (by omega)) ?_ ?_)|(refine ac ?_ [q] (p62 q _ _ ?_ aj (by omega)) ?_ ?_));iterate 3 (focus (simp only[ag,zF,al,ay,hq,z0,aF,aG,ax,aA,av,bg,Bt,Bf,Lm,ai,seval,ah]<;>exact rfl)))|((refine ac ?_ [q] (p63 q _ _ ?_ aj (by omega)) ?_ ?_);iterate 3 (focus (simp only[ag,zF,al,ay,hq,z0,aF,aG,ax,aA,av,bg,Bt,Bf,Lm,ai,seval,ah]<;>exact rfl)))|((first|apply Ca|apply Cb)<;>intro hb)|refine Ai (by omega) ?_|(apply Ai<;>intro hb)
            refine cW rfl [q] (hn1 q _ _ ?_ aj (by omega)) ?_
            · simp only[ag,al,hq,z0,ai,seval,ah]<;>exact rfl
            · simp only[aF,aG,ax,aA,av,bg,C3]
          | some p =>
            obtain⟨m,r1⟩:=p
            have d0:=iK (dN g2) k1
            obtain⟨_,_,_,m1⟩:=fX k1
            have m2:=dB r1
            have hn1:=ld (be xr) m r1 (by omega) k1
            have hsk1:=kr r1 (by unfold bc;omega)
            unfold bV at hn1 hsk1
            cases k2:bZ 61 (be r1) with
            | none =>
              have p61:=da (be r1) [61] false (by omega) (by decide) (by rw[e9,k2];rfl)
              simp only[Bool.false_eq_true,if_false]at p61
              repeat' first|simp only[zF,al,ay,hq,z0,aF,aG,ax,aA,av,bg,c7,Bt,Bf,Lm,ai,seval,ah]|exact rfl|((first|(refine ac ?_ [q] (hsk q _ _ ?_ aj (by omega)) ?_ ?_)|(refine ac ?_ [q] (p62 q _ _ ?_ aj (by omega)) ?_ ?_)|(refine ac ?_ [q] (hn1 q _ _ ?_ aj (by omega)) ?_ ?_));iterate 3 (focus (simp only[ag,zF,al,ay,hq,z0,aF,aG,ax,aA,av,bg,c7,Bt,Bf,Lm,ai,seval,ah]<;>exact rfl)))|((first|(refine ac ?_ [q] (p63 q _ _ ?_ aj (by omega)) ?_ ?_)|(refine ac ?_ [q] (hsk1 q _ _ ?_ aj (by omega)) ?_ ?_));iterate 3 (focus (simp only[ag,zF,al,ay,hq,z0,aF,aG,ax,aA,av,bg,c7,Bt,Bf,Lm,ai,seval,ah]<;>exact rfl)))|((refine ac ?_ [q] (p61 q _ _ ?_ aj (by omega)) ?_ ?_);iterate 3 (focus (simp only[ag,zF,al,ay,hq,z0,aF,aG,ax,aA,av,bg,c7,Bt,Bf,Lm,ai,seval,ah]<;>exact rfl)))|(refine cW rfl [q] (ia q _ _) ?_)|(refine aa (v:=.any) ?_)|((first|apply Ca|apply Cb)<;>intro hb)|refine Ai (by omega) ?_|(apply Ai<;>intro hb)
            | some t =>
              have k2':=b6 k2
              have d1:=dN d0
              rw[k2']at d1
              have d2:=dN (bX (d:=61) (by decide) (a:=[]) d1 rfl).2
              have m3:=dB t
              rw[k2']at m2
              simp only[List.length_cons]at m2
              have hsk2:=kr t (by unfold bc;omega)
              rw[k2']at hsk1
              have p61:=da (61::t) [61] true (by simp;omega) (by decide) (by rw[dR];rfl)
              simp only[if_true,List.drop_succ_cons,List.drop_zero,List.length_cons,List.length_nil]at p61
              have htw:=Bb xl ⟨m,[]⟩ (by unfold bc;omega)
              unfold bV at hsk2
              cases hany:(xl.any fun b=>m==b.name) with
              | true =>
                simp only[hany,c7]at htw
                repeat' first|simp only[zF,al,ay,hq,z0,aF,aG,ax,aA,av,bg,c7,Bt,Bf,Lm,ai,seval,ah]|exact rfl|((refine j6 (xs:=?_) [b0+1,b0+384] ?_ (fun _=>?_) (fun _=>?_) rfl ((fun _=>htw _)) ?_);rotate_left 1;iterate 3 (focus (simp only[ak,ag,zF,al,ay,hq,z0,aF,aG,ax,aA,av,bg,c7,Bt,Bf,Lm,ai,seval,ah]<;>(first|exact rfl|omega))))|((first|(refine ac ?_ [q] (hsk q _ _ ?_ aj (by omega)) ?_ ?_)|(refine ac ?_ [q] (p62 q _ _ ?_ aj (by omega)) ?_ ?_)|(refine ac ?_ [q] (hn1 q _ _ ?_ aj (by omega)) ?_ ?_));iterate 3 (focus (simp only[ag,zF,al,ay,hq,z0,aF,aG,ax,aA,av,bg,c7,Bt,Bf,Lm,ai,seval,ah]<;>exact rfl)))|((first|(refine ac ?_ [q] (p63 q _ _ ?_ aj (by omega)) ?_ ?_)|(refine ac ?_ [q] (hsk1 q _ _ ?_ aj (by omega)) ?_ ?_));iterate 3 (focus (simp only[ag,zF,al,ay,hq,z0,aF,aG,ax,aA,av,bg,c7,Bt,Bf,Lm,ai,seval,ah]<;>exact rfl)))|((refine ac ?_ [q] (p61 q _ _ ?_ aj (by omega)) ?_ ?_);iterate 3 (focus (simp only[ag,zF,al,ay,hq,z0,aF,aG,ax,aA,av,bg,c7,Bt,Bf,Lm,ai,seval,ah]<;>exact rfl)))|(refine cW rfl [q] (ia q _ _) ?_)|((first|apply Ca|apply Cb)<;>intro hb)|refine Ai (by omega) ?_|(apply Ai<;>intro hb)
              | false =>
                simp only[hany,c7]at htw
                cases k3:iU (be t) with
                | none =>
                  have hva:=Dl (be t) (by omega) d2 k3
                  unfold bV at hva
                  repeat' first|simp only[zF,al,ay,hq,z0,aF,aG,ax,aA,av,bg,c7,Bt,Bf,Lm,ai,seval,ah]|exact rfl|((refine j6 (xs:=?_) [b0+1,b0+384] ?_ (fun _=>?_) (fun _=>?_) rfl ((fun _=>htw _)) ?_);rotate_left 1;iterate 3 (focus (simp only[ak,ag,zF,al,ay,hq,z0,aF,aG,ax,aA,av,bg,c7,Bt,Bf,Lm,ai,seval,ah]<;>(first|exact rfl|omega))))|((first|(refine ac ?_ [q] (hsk q _ _ ?_ aj (by omega)) ?_ ?_)|(refine ac ?_ [q] (p62 q _ _ ?_ aj (by omega)) ?_ ?_)|(refine ac ?_ [q] (hn1 q _ _ ?_ aj (by omega)) ?_ ?_));iterate 3 (focus (simp only[ag,zF,al,ay,hq,z0,aF,aG,ax,aA,av,bg,c7,Bt,Bf,Lm,ai,seval,ah]<;>exact rfl)))|((first|(refine ac ?_ [q] (p63 q _ _ ?_ aj (by omega)) ?_ ?_)|(refine ac ?_ [q] (hsk1 q _ _ ?_ aj (by omega)) ?_ ?_));iterate 3 (focus (simp only[ag,zF,al,ay,hq,z0,aF,aG,ax,aA,av,bg,c7,Bt,Bf,Lm,ai,seval,ah]<;>exact rfl)))|((first|(refine ac ?_ [q] (p61 q _ _ ?_ aj (by omega)) ?_ ?_)|(refine ac ?_ [q] (hsk2 q _ _ ?_ aj (by omega)) ?_ ?_));iterate 3 (focus (simp only[ag,zF,al,ay,hq,z0,aF,aG,ax,aA,av,bg,c7,Bt,Bf,Lm,ai,seval,ah]<;>exact rfl)))|((first|apply Ca|apply Cb)<;>intro hb)|refine Ai (by omega) ?_|(apply Ai<;>intro hb)
                  refine cW rfl [q] (hva q _ _ ?_ aj (by omega)) ?_
                  · simp only[ag,al,hq,z0,ai,seval,ah]<;>exact rfl
                  · simp only[aF,aG,ax,aA,av,bg,C3]
                | some p3 =>
                  obtain⟨v,r'⟩:=p3
                  have hat:gS (be xr)=some (⟨m,v⟩,r'):=by
                    unfold gS
                    rw[k1]
                    simp only[Option.bind_some,k2,k3,Option.map_some]
                  rw[nt hen hgap hat hany]at g1
                  have hlt:=ln hat
                  have g2':=tc (dN g2) hat
                  have hva:=wL (be t) v r' (by omega) d2 k3
                  unfold bV at hva
                  repeat' first|simp only[zF,al,ay,hq,z0,c7,Bt,Bf,Lm,ai,seval,ah]|exact rfl|((refine j6 (xs:=?_) [b0+1,b0+384] ?_ (fun _=>?_) (fun _=>?_) rfl ((fun _=>htw _)) ?_);rotate_left 1;iterate 3 (focus (simp only[ak,ag,zF,al,ay,hq,z0,c7,Bt,Bf,Lm,ai,seval,ah]<;>(first|exact rfl|omega))))|((first|(refine ac ?_ [q] (hsk q _ _ ?_ aj (by omega)) ?_ ?_)|(refine ac ?_ [q] (p62 q _ _ ?_ aj (by omega)) ?_ ?_)|(refine ac ?_ [q] (hn1 q _ _ ?_ aj (by omega)) ?_ ?_)|(refine ac ?_ [q] (hva q _ _ ?_ aj (by omega)) ?_ ?_));iterate 3 (focus (simp only[ag,zF,al,ay,hq,z0,c7,Bt,Bf,Lm,ai,seval,ah]<;>exact rfl)))|((first|(refine ac ?_ [q] (p63 q _ _ ?_ aj (by omega)) ?_ ?_)|(refine ac ?_ [q] (hsk1 q _ _ ?_ aj (by omega)) ?_ ?_));iterate 3 (focus (simp only[ag,zF,al,ay,hq,z0,c7,Bt,Bf,Lm,ai,seval,ah]<;>exact rfl)))|((first|(refine ac ?_ [q] (p61 q _ _ ?_ aj (by omega)) ?_ ?_)|(refine ac ?_ [q] (hsk2 q _ _ ?_ aj (by omega)) ?_ ?_));iterate 3 (focus (simp only[ag,zF,al,ay,hq,z0,c7,Bt,Bf,Lm,ai,seval,ah]<;>exact rfl)))|((first|apply Ca|apply Cb)<;>intro hb)|refine Ai (by omega) ?_|(apply Ai<;>intro hb)
                  have hnx:xl.map c7++[[.str m,.str v]]=(xl++[(⟨m,v⟩:Pr)]).map c7:=by simp[c7]
                  have hnn:(xl++[(⟨m,v⟩:Pr)]).length=xl.length+1:=by simp
                  rw[hnx]
                  all_goals ((refine aC bM (⟨xl++[(⟨m,v⟩:Pr)],r'⟩) [some q,some b0,some (b0+848)] ?_ ?_ ?_ ?_;rotate_left 2;(focus (show b0<=_;omega));(focus (refine⟨?_,?_⟩<;>(try simp only[aX,ER,ay,hq,z0,hnn,Lm,ai,seval,ah,ap])<;>(try omega)))))
                  all_goals (first|exact⟨g1,g2',by show r'.length+(xl++[(⟨m,v⟩:Pr)]).length<=16384;omega⟩|(show r'.length<xr.length;omega)|skip)
        · have hgd:decide ((be xr).length<xr.length)=false:=decide_eq_false hgap
          rw[hgd]at hsk
          repeat' first|simp only[zF,al,ay,hq,z0,aF,aG,ax,aA,av,bg,Bt,Bf,Lm,ai,seval,ah]|exact rfl|((first|(refine ac ?_ [q] (hsk q _ _ ?_ aj (by omega)) ?_ ?_)|(refine ac ?_ [q] (p62 q _ _ ?_ aj (by omega)) ?_ ?_));iterate 3 (focus (simp only[ag,zF,al,ay,hq,z0,aF,aG,ax,aA,av,bg,Bt,Bf,Lm,ai,seval,ah]<;>exact rfl)))|((refine ac ?_ [q] (p63 q _ _ ?_ aj (by omega)) ?_ ?_);iterate 3 (focus (simp only[ag,zF,al,ay,hq,z0,aF,aG,ax,aA,av,bg,Bt,Bf,Lm,ai,seval,ah]<;>exact rfl)))|(refine cW rfl [q] (ia q _ _) ?_)|((first|apply Ca|apply Cb)<;>intro hb)|refine Ai (by omega) ?_|(apply Ai<;>intro hb)
end Go.Proofs.YtlnlopnpcmahgaaGreatDoor
