/-
 Texts joined: XPa,XPb,XNp.
-/
import Derived.Test.YtidmkaalhmeflaaGreatDoorQl
namespace Go.Proofs.YtidmkaalhmeflaaGreatDoor
set_option maxRecDepth 100000
set_option maxHeartbeats 32000000
set_option linter.unusedSimpArgs false
set_option linter.unusedVariables false
open Go Go.RowKit Go.Lib
theorem rm {a b:List UInt8}(ha:(dZ a).isSome=true)(hb:(dZ b).isSome=true):(dZ (a++b)).isSome=true:=by
 obtain⟨x,hx⟩:=Option.isSome_iff_exists.1 ha
 obtain⟨y,hy⟩:=Option.isSome_iff_exists.1 hb
 rw[si hx hy];rfl
theorem vj:∀ {s:List UInt8},(∀ c∈s,c≠9∧c≠10∧c≠13)→s.map ct=s
 | [],_=>rfl
 | c::s,h=>by
  have h1:=h c (by simp)
  rw[List.map_cons,vj fun x hx=>h x (by simp[hx])]
  congr 1
  unfold ct iw
  by_cases h32:c=32
  ·subst h32;rfl
  ·simp[h32,h1.1,h1.2.1,h1.2.2]
def Df (k:Nat):List UInt8:=if k=3 then [47,62] else [62]
theorem tE {n:List UInt8}{P:List Pr→List UInt8→Tk→List UInt8→Prop}
  (h1:∀ l s k t,kW (bd s)=some (k,t)→P l s ⟨k,n,l,[]⟩ t)
  (h2:∀ l s a r u v,kW (bd s)=none→(bd s).length<s.length→gB (bd s)=some (a,r)→(l.any fun b=>a.name==b.name)=false→iU n (l++[a]) r=some (u,v)→P (l++[a]) r u v→P l s u v) :
  ∀(m:Nat) (l:List Pr) (s:List UInt8) (u:Tk) (v:List UInt8),s.length≤m→iU n l s=some (u,v)→P l s u v:=by
 intro m
 induction m with
 | zero =>
  intro l s u v hm h
  obtain rfl:=List.length_eq_zero_iff.1 (Nat.le_zero.1 hm)
  rw[kN (by rfl) (by simp[bd])]at h;cases h
 | succ m ih =>
  intro l s u v hm h
  cases he:kW (bd s) with
  | some p =>
   obtain⟨k,t⟩:=p
   rw[kT he]at h
   cases h
   exact h1 _ _ _ _ he
  | none =>
   cases ha:gB (bd s) with
   | none=>rw[rE he ha]at h;cases h
   | some p =>
    obtain⟨a,r⟩:=p
    cases hd:l.any fun b=>a.name==b.name with
    | true=>rw[mf he ha hd]at h;cases h
    | false =>
     by_cases hg:(bd s).length<s.length
     ·rw[lE he hg ha hd]at h
      have hl:=ks ha
      have:=c5 s
      exact h2 l s a r u v he hg ha hd h (ih _ _ _ _ (by omega) h)
     ·rw[kN he hg]at h;cases h
theorem F4 {s r:List UInt8}{t:Tk}(h:jj s=some (t,r))(h4:t.kind=4):bY 60 s=none∧bV (cD s)=some t.text∧r=fZ s∧t=⟨4,[],[],t.text⟩:=by
 unfold jj at h
 split at h
 ·rename_i u hu
  exfalso
  unfold sM at h
  split at h
  ·obtain⟨⟨n,r1⟩,h1,h2⟩:=Option.bind_eq_some_iff.1 h
   obtain⟨r2,h3,e⟩:=Option.map_eq_some_iff.1 h2
   cases e
   cases h4
  ·obtain⟨⟨n,r1⟩,h1,h2⟩:=Option.bind_eq_some_iff.1 h
   have:t.kind=1∨t.kind=3:=by
    refine tE (n:=n) (P:=fun l s u v=>u.kind=1∨u.kind=3) ?_ (fun _ _ _ _ _ _ _ _ _ _ _ ih=>ih) _ [] r1 t r (Nat.le_refl _) h2
    intro l s k t he
    unfold kW at he
    split at he
    ·cases he;exact .inl rfl
    ·cases he;exact .inr rfl
    ·cases he
   omega
 ·rename_i hu
  obtain⟨x,h1,h2⟩:=Option.map_eq_some_iff.1 h
  cases h2
  exact⟨hu,h1,rfl,rfl⟩
theorem mZ {p:UInt8→Bool} : ∀ {s:List UInt8} {c:UInt8},c∈s.takeWhile p→p c=true
 | [],c,h=>by simp at h
 | d::s,c,h=>by
  rw[List.takeWhile_cons]at h
  by_cases hd:p d=true
  ·rw[if_pos hd]at h
   rcases List.mem_cons.1 h with rfl|h
   ·exact hd
   ·exact mZ h
  ·rw[if_neg hd]at h;simp at h
theorem rV (s:List UInt8):∀ c,(fZ s).head? = some c→c=60:=by
 intro c hc
 have:=List.head?_dropWhile_not jr s
 unfold fZ at hc
 rw[hc]at this
 simpa [jr] using this
theorem vK {a:List UInt8}{x:List UInt8}(h:cp a=some x):x.length≤a.length+2∧(dZ x).isSome=true:=by
 have hp:∀(o:Option Nat) (k:Nat),2≤k→eJ o=some x→x.length≤k+2∧(dZ x).isSome=true:=by
  intro o k hk ho
  unfold eJ at ho
  obtain⟨n,_,hn⟩:=Option.bind_eq_some_iff.1 ho
  split at hn
  ·rename_i hm
   cases hn
   have:=(bv (n:Int)).2
   have hd:=gX [(n:Int)] (by simp[hm])
   simp only[enc,List.flatMap_cons,List.flatMap_nil,List.append_nil]at hd
   exact⟨by omega,by rw[hd];rfl⟩
  ·cases hn
 unfold cp at h
 repeat' split at h
 ·rename_i e;cases h;subst e;exact⟨by decide,by decide⟩
 ·rename_i e;cases h;subst e;exact⟨by decide,by decide⟩
 ·rename_i e;cases h;subst e;exact⟨by decide,by decide⟩
 ·rename_i e;cases h;subst e;exact⟨by decide,by decide⟩
 ·rename_i e;cases h;subst e;exact⟨by decide,by decide⟩
 ·rename_i e1 e2
  refine hp _ _ ?_ h
  cases a with
  | nil=>cases e1
  | cons c a =>
   cases a with
   | nil=>cases e2
   | cons d a=>simp
 ·rename_i e1 e2
  refine hp _ _ ?_ h
  cases a with
  | nil=>cases e1
  | cons c a =>
   cases a with
   | nil=>simp[eJ,nx]at h
   | cons d a=>simp
 ·cases h
theorem kH:∀(n:Nat) (s x:List UInt8),s.length≤n→bV s=some x→x.length≤s.length
 | n,[],x,_,h=>by rw[jZ]at h;cases h;simp
 | 0,c::r,x,hn,_=>by simp at hn
 | n+1,c::r,x,hn,h=>by
  have hl:r.length≤n:=by simpa using hn
  by_cases h1:c=60
  ·subst h1;rw[ls]at h;cases h
  by_cases h2:c=38
  ·subst h2
   cases hc:dP 59 r with
   | none=>rw[jk hc]at h;cases h
   | some p =>
    obtain⟨u,v⟩:=p
    have hlen:=congrArg List.length (eG hc).1
    cases hm:cp u with
    | none=>rw[j7 hc hm]at h;cases h
    | some y =>
     rw[jP hc hm]at h
     obtain⟨w,hw,rfl⟩:=Option.map_eq_some_iff.1 h
     simp only[List.length_append,List.length_cons]at hlen
     have h3:=kH n v w (by omega) hw
     have h4:=(vK hm).1
     simp only[List.length_append,List.length_cons];omega
  ·rw[fP h1 h2]at h
   obtain⟨w,hw,rfl⟩:=Option.map_eq_some_iff.1 h
   have:=kH n r w hl hw
   simp only[List.length_cons];omega
theorem tp:∀ {p:List UInt8} (r:List UInt8),(∀ c∈p,128≤c.toNat)→bV (p++r)=(bV r).map (p ++ ·)
 | [],r,_=>by
  rw[List.nil_append]
  cases bV r<;>simp
 | c::p,r,h=>by
  have h0:=h c (by simp)
  rw[List.cons_append,fP (by rintro rfl;simp at h0) (by rintro rfl;simp at h0),tp r fun x hx=>h x (by simp[hx])]
  cases bV r<;>simp
theorem u3:∀(n:Nat) (s x:List UInt8),s.length≤n→(dZ s).isSome=true→bV s=some x→(dZ x).isSome=true:=by
  intro n
  induction n with
  | zero =>
    intro s x hn _ h
    obtain rfl:=List.length_eq_zero_iff.1 (Nat.le_zero.1 hn)
    rw[jZ]at h;cases h;rfl
  | succ n ih =>
    intro s x hn hd h
    obtain⟨zs,hz⟩:=Option.isSome_iff_exists.1 hd
    obtain⟨hm,rfl⟩:=(oG s zs).1 hz
    cases zs with
    | nil=>rw[show enc []=[] from rfl,jZ]at h;cases h;rfl
    | cons z zs =>
      simp only[List.all_cons,Bool.and_eq_true]at hm
      have e:enc (z::zs)=encodeRune z++enc zs:=by simp[enc]
      have hl:=(bv z).1
      rw[e]at h hn hd
      rw[List.length_append]at hn
      have hdz:(dZ (enc zs)).isSome=true:=by rw[gX zs hm.2];rfl
      have hd1:(dZ (encodeRune z)).isSome=true:=by
        have:=gX [z] (by simp[hm.1])
        simp only[enc,List.flatMap_cons,List.flatMap_nil,List.append_nil]at this
        rw[this];rfl
      have hr:=(fq hm.1).1
      by_cases hz128:z<128
      · rw [wm hr hz128]at h hd1 hd hn
        rw[List.singleton_append]at h hd
        generalize z.toNat.toUInt8=c at h hd1 hd hn
        simp only[List.length_cons,List.length_nil]at hn
        by_cases h1:c=60
        · subst h1;rw[ls]at h;cases h
        by_cases h2:c=38
        · subst h2
          cases hc:dP 59 (enc zs) with
          | none=>rw[jk hc]at h;cases h
          | some p =>
            obtain⟨u,v⟩:=p
            have hce:=(eG hc).1
            have hlen:=congrArg List.length hce
            simp only[List.length_append,List.length_cons]at hlen
            cases hmm:cp u with
            | none=>rw[j7 hc hmm]at h;cases h
            | some y =>
              rw[jP hc hmm]at h
              obtain⟨w,hw,rfl⟩:=Option.map_eq_some_iff.1 h
              have hv:=(bS (d:=59) (by decide) hdz hce).2
              exact rm (vK hmm).2 (ih v w (by omega) hv hw)
        · rw[fP h1 h2]at h
          obtain⟨w,hw,rfl⟩:=Option.map_eq_some_iff.1 h
          exact rm (a:=[c]) hd1 (ih _ w (by omega) hdz hw)
      · rw[tp _ (oo (by omega))]at h
        obtain⟨w,hw,rfl⟩:=Option.map_eq_some_iff.1 h
        exact rm hd1 (ih _ w (by omega) hdz hw)
theorem Dy {s:List UInt8}(h:(dZ s).isSome=true):(dZ (s.map ct)).isSome=true:=by
 obtain⟨zs,hz⟩:=Option.isSome_iff_exists.1 h
 obtain⟨hm,rfl⟩:=(oG s zs).1 hz
 clear hz h
 induction zs with
 | nil=>rfl
 | cons z zs ih =>
  simp only[List.all_cons,Bool.and_eq_true]at hm
  have e:enc (z::zs)=encodeRune z++enc zs:=by simp[enc]
  rw[e,List.map_append]
  refine rm ?_ (ih hm.2)
  have hr:=(fq hm.1).1
  by_cases hz:z<128
  ·rw[wm hr hz,List.map_cons,List.map_nil]
   unfold ct
   split
   ·decide
   ·have:=gX [z] (by simp[hm.1])
    simp only[enc,List.flatMap_cons,List.flatMap_nil,List.append_nil,wm hr hz]at this
    rw[this];rfl
  ·have:(encodeRune z).map ct=encodeRune z:=vj fun c hc=>by
    have:=oo (z:=z) (by omega) c hc
    refine⟨?_,?_,?_⟩<;>(rintro rfl;simp at this)
   rw[this]
   have:=gX [z] (by simp[hm.1])
   simp only[enc,List.flatMap_cons,List.flatMap_nil,List.append_nil]at this
   rw[this];rfl
theorem DW {s v r:List UInt8}(h:(dZ s).isSome=true)(hl:s.length≤16384)(hv:iu s=some (v,r)):aQ v=0∧(yl true v).length+6*r.length+12≤6*s.length:=by
 obtain⟨a,h1,h2⟩:=kM hv
 obtain⟨q,hq,rfl,_⟩:=kQ h1
 have hq128:q.toNat<128:=by rcases hq with rfl|rfl<;>decide
 have d1:=(bS hq128 (a:=[]) h rfl).2
 have d2:=(bS hq128 d1 rfl).1
 unfold yu at h2
 have d3:=u3 _ _ _ (Nat.le_refl _) (Dy d2) h2
 have l3:=kH _ _ _ (Nat.le_refl _) h2
 have:=(ju true v).2
 simp only[List.length_map,List.length_cons,List.length_append]at l3 hl ⊢
 exact⟨eR.2 ⟨by omega,d3⟩,by omega⟩
theorem Gf {s r:List UInt8}{a:Pr}(h:(dZ s).isSome=true)(hl:s.length≤16384)(ha:gB s=some (a,r)):b8 a.name=true∧aQ a.value=0∧(uf a).length+6*r.length≤6*s.length:=by
 obtain⟨r1,t,h1,h2,h3⟩:=mG ha
 obtain⟨e,_,hf,_⟩:=fH h1
 have d1:=dy (im h h1)
 rw[h2]at d1
 have d2:=dy (bS (d:=61) (by decide) (a:=[]) d1 rfl).2
 have l1:=congrArg List.length e
 have l2:=c5 r1
 have l3:=c5 t
 rw[h2]at l2
 simp only[List.length_append,List.length_cons]at l1 l2
 obtain⟨g1,g2⟩:=DW d2 (by omega) h3
 refine⟨hf,g1,?_⟩
 simp only[uf,List.length_append,List.length_cons,List.length_nil]
 omega
theorem HW {n:List UInt8}(hn:b8 n=true){l:List Pr}{s v:List UInt8}{u:Tk}(h:iU n l s=some (u,v))(hd:(dZ s).isSome=true)(hl:s.length≤16384)(hok:iH l l.length):u.name=n∧u.text=[]∧(u.kind=1∨u.kind=3)∧iH u.attrs u.attrs.length∧(dZ v).isSome=true∧(iv u.attrs).length+(Df u.kind).length+6*v.length≤(iv l).length+6*s.length:=by
 refine tE (n:=n) (P:=fun l s u v=>(dZ s).isSome=true→s.length≤16384→iH l l.length→u.name=n∧u.text=[]∧(u.kind=1∨u.kind=3)∧iH u.attrs u.attrs.length∧(dZ v).isSome=true∧(iv u.attrs).length+(Df u.kind).length+6*v.length≤(iv l).length+6*s.length) ?_ ?_ _ l s u v (Nat.le_refl _) h hd hl hok
 ·intro l s k t he hd hl hok
  have hs:=dy hd
  have hsl:=c5 s
  unfold kW at he
  split at he
  ·rename_i e
   cases he
   rw[e]at hs hsl
   refine⟨rfl,rfl,.inl rfl,hok,(bS (d:=62) (by decide) (a:=[]) hs rfl).2,?_⟩
   simp only[List.length_cons]at hsl
   simp[Df];omega
  ·rename_i e
   cases he
   rw[e]at hs hsl
   have h1:=(bS (d:=47) (by decide) (a:=[]) hs rfl).2
   refine⟨rfl,rfl,.inr rfl,hok,(bS (d:=62) (by decide) (a:=[]) h1 rfl).2,?_⟩
   simp only[List.length_cons]at hsl
   simp[Df];omega
  ·cases he
 ·intro l s a r u v he hg ha hd2 _ ih hd hl hok
  have hs:=dy hd
  obtain⟨g1,g2,g3⟩:=Gf hs (by omega) ha
  have hlt:=ks ha
  have hr:=su hs ha
  obtain⟨k1,k2,k3,k4,k5,k6⟩:=ih hr (by omega) (by
   intro i b hi hb
   by_cases hil:i<l.length
   ·rw[List.getElem?_append_left hil]at hb
    rw[List.take_append_of_le_length (by omega)]
    exact hok i b hil hb
   ·have:i=l.length:=by simp at hi;omega
    subst this
    rw[List.getElem?_append_right (by omega)]at hb
    simp at hb;subst hb
    rw[List.take_append_of_le_length (by omega),List.take_length]
    unfold Nn
    simp[hd2,g1,g2])
  refine⟨k1,k2,k3,k4,k5,?_⟩
  have:(iv (l++[a])).length=(iv l).length+(uf a).length:=by simp[iv]
  omega
theorem v4 {s r:List UInt8}{t:Tk}(hne:s≠[])(h:jj s=some (t,r))(hd:(dZ s).isSome=true)(hl:s.length≤16384)(h16:t.attrs.length≤16):gI t=true∧(dZ r).isSome=true∧(t.kind=4 → ∀ c,r.head? = some c→c=60)∧(t.kind=4→bY 60 s=none)∧(pO t).length+6*r.length≤6*s.length:=by
  by_cases h4:t.kind=4
  · obtain ⟨g1,g2,rfl,g4⟩:=F4 h h4
    have e:s=cD s++fZ s:=(List.takeWhile_append_dropWhile).symm
    have le:=congrArg List.length e
    rw[List.length_append]at le
    obtain⟨d1,d2⟩:=sk hd
    have l1:=kH _ _ _ (Nat.le_refl _) g2
    have l2:=(ju false t.text).2
    have d3:=u3 _ _ _ (Nat.le_refl _) d1 g2
    have hx:t.text≠[]:=by
      intro hx
      have hT:cD s≠[]:=by
        cases s with
        | nil=>exact absurd rfl hne
        | cons c s =>
          have hc:jr c=true:=by
            rw[iS]at g1
            split at g1
            · cases g1
            · rename_i e;simp[jr,e]
          unfold cD
          rw[List.takeWhile_cons,if_pos hc];simp
      rw[hx]at g2
      cases hT':cD s with
      | nil=>exact hT hT'
      | cons c w =>
        rw[hT']at g2
        by_cases c60:c=60
        · subst c60;rw[ls]at g2;cases g2
        by_cases c38:c=38
        · subst c38
          cases hc:dP 59 w with
          | none=>rw[jk hc]at g2;cases g2
          | some p =>
            obtain⟨u,v⟩:=p
            cases hm:cp u with
            | none=>rw[j7 hc hm]at g2;cases g2
            | some y =>
              rw[jP hc hm]at g2
              obtain⟨z,_,hz⟩:=Option.map_eq_some_iff.1 g2
              have:=(List.append_eq_nil_iff.1 hz).1
              subst this
              unfold cp at hm
              repeat' split at hm
              all_goals (first|cases hm;done|skip)
              all_goals (
                unfold eJ at hm
                obtain⟨n,_,hn⟩:=Option.bind_eq_some_iff.1 hm
                split at hn
                · have:=(bv (n:Int)).1
                  simp only[Option.some.injEq]at hn
                  rw[hn]at this
                  simp at this
                · cases hn)
        · rw[fP c60 c38]at g2
          obtain⟨z,_,hz⟩:=Option.map_eq_some_iff.1 g2
          cases hz
    refine⟨?_,d2,fun _=>rV s,fun _=>g1,?_⟩
    · rw[g4]
      unfold gI
      rw[if_neg (show ¬((4:Nat)=1∨(4:Nat)=3) by decide),if_neg (show ¬(4:Nat)=2 by decide),if_pos rfl]
      have:aQ t.text=0:=eR.2 ⟨by omega,d3⟩
      have hxe:t.text.isEmpty=false:=by rw[List.isEmpty_eq_false_iff];exact hx
      simp[this,hxe]
    · have:pO t=yl false t.text:=by unfold pO;rw[if_pos h4]
      rw[this]
      omega
  · have hh:∃ u,bY 60 s=some u:=by
      cases ha:bY 60 s with
      | some u=>exact⟨u,rfl⟩
      | none =>
        exfalso
        unfold jj at h
        rw[ha]at h
        obtain⟨x,_,hx⟩:=Option.map_eq_some_iff.1 h
        cases hx
        exact h4 rfl
    obtain⟨u,hu⟩:=hh
    have hs:=bX hu
    subst hs
    have du:=(bS (d:=60) (by decide) (a:=[]) hd rfl).2
    simp only[List.length_cons]at hl
    unfold jj at h
    rw[hu]at h
    simp only at h
    unfold sM at h
    split at h
    · rename_i w hw
      obtain rfl:=bX hw
      have dw:=(bS (d:=47) (by decide) (a:=[]) du rfl).2
      obtain⟨⟨n,r1⟩,h1,h2⟩:=Option.bind_eq_some_iff.1 h
      obtain⟨r2,h3,e⟩:=Option.map_eq_some_iff.1 h2
      cases e
      obtain⟨e1,_,hf,_⟩:=fH h1
      have l1:=congrArg List.length e1
      have l2:=c5 r1
      have d1:=dy (im dw h1)
      rw[bX h3]at l2 d1
      simp only[List.length_append,List.length_cons]at l1 l2
      refine⟨?_,(bS (d:=62) (by decide) (a:=[]) d1 rfl).2,fun h=>absurd h h4,fun h=>absurd h h4,?_⟩
      · unfold gI
        rw[if_neg (show ¬((2:Nat)=1∨(2:Nat)=3) by decide),if_pos rfl]
        simp[hf]
      · have:pO ⟨2,n,[],[]⟩=[60,47]++n++[62]:=by unfold pO;rw[if_neg (show ¬(2:Nat)=4 by decide),if_pos rfl]
        rw[this]
        simp only[List.length_append,List.length_cons,List.length_nil]
        omega
    · rename_i hw
      obtain⟨⟨n,r1⟩,h1,h2⟩:=Option.bind_eq_some_iff.1 h
      obtain⟨e1,_,hf,_⟩:=fH h1
      have l1:=congrArg List.length e1
      simp only[List.length_append]at l1
      have d1:=im du h1
      obtain⟨k1,k2,k3,k4,k5,k6⟩:=HW hf h2 d1 (by show r1.length≤16384;omega) (by intro i a hi;simp at hi)
      refine⟨?_,k5,fun h=>absurd h h4,fun h=>absurd h h4,?_⟩
      · unfold gI
        rw[if_pos k3,k1,k2,hf,iM.2 ⟨h16,k4⟩]
        rfl
      · have:pO t=[60]++t.name++iv t.attrs++Df t.kind:=by
          unfold pO Df
          rw[if_neg h4,if_neg (by rcases k3 with h|h<;>rw[h]<;>decide)]
        rw[this,k1]
        have:iv []=[]:=rfl
        rw[this]at k6
        simp only[List.length_append,List.length_cons,List.length_nil]at k6 ⊢
        omega
theorem xX:∀ {l:List Tk} {t:Tk},zl l=false→(∀ u,l.getLast? = some u → ¬(u.kind=4∧t.kind=4))→zl (l++[t])=false
 | [],t,_,_=>rfl
 | [a],t,_,h=>by
  have:=h a rfl
  simp only[List.singleton_append,zl,Bool.or_false]
  simp only[Bool.and_eq_false_iff,beq_eq_false_iff_ne]
  by_cases e:a.kind=4
  ·right;exact fun e2=>this ⟨e,e2⟩
  ·left;exact e
 | a::b::l,t,h,h2=>by
  simp only[List.cons_append,zl,Bool.or_eq_false_iff]at h ⊢
  exact⟨h.1,xX (l:=b::l) h.2 (fun u hu=>h2 u (by rw[List.getLast?_cons_cons];exact hu))⟩
theorem Hn (n:Nat):∀(m:Nat) (acc:List Tk) (s:List UInt8),s.length≤m→s.length≤n→(dZ s).isSome=true→s.length≤16384→(∀ t∈acc,gI t=true)→zl acc=false→acc.length≤512→(∀ t,acc.getLast? = some t→t.kind=4 → ∀ c,s.head? = some c→c=60) →
  ((gL n acc s).2.2=0→(∀ t∈(gL n acc s).1,gI t=true)∧zl (gL n acc s).1=false∧(gL n acc s).1.length≤512∧(gL n acc s).1.length≤acc.length+s.length∧(gL n acc s).2.1=0∧(ov (gL n acc s).1).length≤(ov acc).length+6*s.length) ∧
  ((gL n acc s).2.2≠0→(gL n acc s).1=[]∧(gL n acc s).2.1<n):=by
 intro m
 induction m with
 | zero =>
  intro acc s hm _ _ _ h1 h2 h3 _
  obtain rfl:=List.length_eq_zero_iff.1 (Nat.le_zero.1 hm)
  rw[l7]
  exact⟨fun _=>⟨h1,h2,h3,by simp,rfl,by simp⟩,fun h=>absurd rfl h⟩
 | succ m ih =>
  intro acc s hm hn hd hl h1 h2 h3 h4
  by_cases hs:s=[]
  ·subst hs
   rw[l7]
   exact⟨fun _=>⟨h1,h2,h3,by simp,rfl,by simp⟩,fun h=>absurd rfl h⟩
  ·have hpos:=List.length_pos_iff.2 hs
   by_cases hmany:512≤acc.length
   ·rw[qf hs hmany]
    exact⟨fun h=>absurd (show(4:Int)=0 from h) (by decide),fun _=>⟨rfl,by show n-s.length<n;omega⟩⟩
   ·cases ho:jj s with
    | none =>
     rw[s9 hs (by omega) ho]
     exact⟨fun h=>absurd (show(80:Int)=0 from h) (by decide),fun _=>⟨rfl,by show n-s.length<n;omega⟩⟩
    | some p =>
     obtain⟨t,r⟩:=p
     by_cases ha:16<t.attrs.length
     ·rw[nN hs (by omega) ho ha]
      exact⟨fun h=>absurd (show(4:Int)=0 from h) (by decide),fun _=>⟨rfl,by show n-s.length<n;omega⟩⟩
     ·have hlt:=wG hs ho
      obtain⟨k1,k2,k3,k4,k5⟩:=v4 hs ho hd hl (by omega)
      rw[ri hs (by omega) ho (by omega)]
      obtain⟨g1,g2⟩:=ih (acc++[t]) r (by omega) (by omega) k2 (by omega) (by
       intro u hu
       rcases List.mem_append.1 hu with hu|hu
       ·exact h1 u hu
       ·simp at hu;subst hu;exact k1) (xX h2 (by
       rintro u hu ⟨e1,e2⟩
       have h60:=h4 u hu e1
       have hn:=k4 e2
       cases s with
       | nil=>exact hs rfl
       | cons c s =>
        have:=h60 c rfl
        subst this
        rw[iS,if_pos rfl]at hn
        cases hn)) (by simp;omega) (by
       intro u hu hk
       simp at hu;subst hu
       exact k3 hk)
      refine⟨fun h=>?_,g2⟩
      obtain⟨e1,e2,e3,e4,e5,e6⟩:=g1 h
      have:(ov (acc++[t])).length=(ov acc).length+(pO t).length:=by simp[ov]
      simp only[List.length_append,List.length_cons,List.length_nil]at e4
      exact⟨e1,e2,e3,by omega,e5,by omega⟩
theorem wb (s:List UInt8):((eO s).2.2=0→(∀ t∈(eO s).1,gI t=true)∧zl (eO s).1=false∧(eO s).1.length≤512∧(eO s).1.length≤s.length∧(eO s).2.1=0∧(ov (eO s).1).length≤6*s.length)∧((eO s).2.2≠0→(eO s).1=[]∧(eO s).2.1≤s.length∧((eO s).2.2=80→(eO s).2.1<s.length)):=by
 unfold eO
 by_cases hp:aQ s=0
 ·rw[if_neg (by simp[hp])]
  obtain⟨hl,hd⟩:=eR.1 hp
  obtain⟨h1,h2⟩:=Hn s.length s.length [] s (Nat.le_refl _) (Nat.le_refl _) hd hl (by simp) rfl (by simp) (by simp)
  refine⟨fun h=>?_,fun h=>?_⟩
  ·obtain⟨e1,e2,e3,e4,e5,e6⟩:=h1 h
   exact⟨e1,e2,e3,by simpa using e4,e5,by simpa [ov] using e6⟩
  ·obtain⟨e1,e2⟩:=h2 h
   exact⟨e1,by omega,fun _=>e2⟩
 ·rw[if_pos (by simpa using hp)]
  refine⟨fun h=>absurd h (by simpa using hp),fun _=>⟨rfl,by simp,fun h=>?_⟩⟩
  exfalso
  have h:aQ s=80:=h
  unfold aQ at h
  split at h
  ·cases h
  ·split at h<;>cases h
end Go.Proofs.YtidmkaalhmeflaaGreatDoor
namespace Go.Proofs.YtidmkaalhmeflaaGreatDoor
set_option maxRecDepth 100000
set_option maxHeartbeats 32000000
set_option linter.unusedSimpArgs false
set_option linter.unusedVariables false
open Go Go.RowKit Vm Go.Lib Tryz
open Vm renaming aZ→Ca,bj→Cb
open And renaming intro→Ai
open List renaming length_map→Lm,not_mem_nil→Ln,map_nil→Lo,map_cons→Lc,mem_cons→Lk
open Bool renaming not_false→Bf,not_true→Bt
theorem FK (s n r0:List UInt8)(hs:s.length≤16384)(hd:(dZ s).isSome=true)(h1:bY 47 s=none)(h2:eQ s=some (n,r0))(h3:iU n [] r0=none)(q:Nat)(M:aq)(nm:Nat)(hq:M q=some (bQ s))(ho:∀ z,(M z).isSome=true→z∈[q])(hqn:q<nm) :
    xI cx 187 nm [.ptr q 0 0] M z5:=by
  have p1:=cN s [47] false (by omega) (by decide) (by rw[eD,h1];rfl)
  simp only[Bool.false_eq_true,if_false]at p1
  have hn:=j5 s n r0 (by omega) h2
  obtain⟨_,_,_,l2⟩:=fH h2
  have hd0:=im hd h2
  unfold bQ at hq hn
  refine iY rfl co rfl (fun cargs w=>call187 cargs w) func187 rfl mixed (by kernel_rfl) rfl ?_;intro b0 hb0
  have lq:q<b0:=ax hb0 (by rw[hq];rfl)
  have z0:=aT lq;have z1:=aw lq;have z2:=aK lq;have z3:=ao lq
  repeat' first|simp only[results187,ntmps187,am,hq,z0,z1,z2,z3,ai,seval,ah]|exact rfl|((first|(refine ag ?_ [q] (p1 q _ _ ?_ ap (by omega)) ?_ ?_)|(refine ag ?_ [q] (hn q _ _ ?_ ap (by omega)) ?_ ?_));iterate 3 (focus (simp only[aj,results187,ntmps187,am,hq,z0,z1,z2,z3,ai,seval,ah]<;>exact rfl)))|((first|apply Ca|apply Cb)<;>intro hb)|refine Ai (by omega) ?_|(apply Ai<;>intro hb)
  (refine aU co (fun x:TSt=>x.rest.length) (fun x=>iU n x.l x.rest=none∧(dZ x.rest).isSome=true∧x.rest.length+x.l.length≤16384) (b0+16) (fun x=>[(0,.ptr q 0 0),(2,.ptr b0 0 0)]) (fun x=>[(q,⟨1,[[.str x.rest]]⟩),(b0,⟨4,[[.int .u8 0,.str n,.own (b0+1) 0 x.l.length,.str []]]⟩),(b0+1,⟨2,x.l.map dj⟩)]) (⟨[],r0⟩) [some q,some b0,none] ?_ ?_ ?_ ?_;rotate_left 1;(focus (show b0≤_;omega));(focus (refine⟨?_,?_⟩<;>(try simp only[bk,Cw,hq,z0,z1,z2,z3,aV,Lo,List.length_nil,ai,seval,ah,au])<;>(try omega)));rotate_left 1)
  · exact⟨h3,hd0,by show r0.length+0≤16384;omega⟩
  · rintro ⟨xl,xr⟩ ⟨g1,g2,g3⟩
    dsimp only at g1 g2 g3 ⊢
    have gl:=c5 xr
    have hsk:=jp xr (by unfold bh;omega)
    unfold bQ at hsk
    have hnl:(xl.map dj).length=xl.length:=Lm _
    by_cases e62:preB (bd xr) [62]=true
    · obtain⟨t,ht,hen⟩:=Ck e62
      rw[kT hen]at g1
      cases g1
    · have e62':preB (bd xr) [62]=false:=by simpa using e62
      have p62:=cN (bd xr) [62] false (by omega) (by decide) e62'
      simp only[Bool.false_eq_true,if_false]at p62
      by_cases e47:preB (bd xr) [47,62]=true
      · obtain⟨t,ht,hen⟩:=vH e47
        rw[kT hen]at g1
        cases g1
      · have e47':preB (bd xr) [47,62]=false:=by simpa using e47
        have hen:=zF e62' e47'
        have p63:=cN (bd xr) [47,62] false (by omega) (by decide) e47'
        simp only[Bool.false_eq_true,if_false]at p63
        by_cases hgap:(bd xr).length<xr.length
        · have hgd:decide ((bd xr).length<xr.length)=true:=decide_eq_true hgap
          rw[hgd]at hsk
          cases k1:eQ (bd xr) with
          | none =>
            have hn1:=pm (bd xr) (by omega) k1
            unfold bQ at hn1
            repeat' first|simp only[results187,ntmps187,am,aL,hq,z0,z1,z2,z3,aG,aH,aB,aD,az,bg,Bt,Bf,Lm,ai,seval,ah]|exact rfl|((first|(refine ag ?_ [q] (hsk q _ _ ?_ ap (by omega)) ?_ ?_)|(refine ag ?_ [q] (p62 q _ _ ?_ ap (by omega)) ?_ ?_));iterate 3 (focus (simp only[aj,results187,ntmps187,am,aL,hq,z0,z1,z2,z3,aG,aH,aB,aD,az,bg,Bt,Bf,Lm,ai,seval,ah]<;>exact rfl)))|((refine ag ?_ [q] (p63 q _ _ ?_ ap (by omega)) ?_ ?_);iterate 3 (focus (simp only[aj,results187,ntmps187,am,aL,hq,z0,z1,z2,z3,aG,aH,aB,aD,az,bg,Bt,Bf,Lm,ai,seval,ah]<;>exact rfl)))|((first|apply Ca|apply Cb)<;>intro hb)|refine Ai (by omega) ?_|(apply Ai<;>intro hb)
            refine cH rfl [q] (hn1 q _ _ ?_ ap (by omega)) ?_
            · simp only[aj,am,hq,z0,z1,z2,z3,ai,seval,ah]<;>exact rfl
            · simp only[aG,aH,aB,aD,az,bg,z5]
          | some p =>
            obtain⟨m,r1⟩:=p
            have d0:=im (dy g2) k1
            obtain⟨_,_,_,m1⟩:=fH k1
            have m2:=c5 r1
            have hn1:=j5 (bd xr) m r1 (by omega) k1
            have hsk1:=jp r1 (by unfold bh;omega)
            unfold bQ at hn1 hsk1
            cases k2:bY 61 (bd r1) with
            | none =>
              have p61:=cN (bd r1) [61] false (by omega) (by decide) (by rw[eD,k2];rfl)
              simp only[Bool.false_eq_true,if_false]at p61
              repeat' first|simp only[results187,ntmps187,am,aL,hq,z0,z1,z2,z3,aG,aH,aB,aD,az,bg,dj,Bt,Bf,Lm,ai,seval,ah]|exact rfl|((first|(refine ag ?_ [q] (hsk q _ _ ?_ ap (by omega)) ?_ ?_)|(refine ag ?_ [q] (p62 q _ _ ?_ ap (by omega)) ?_ ?_)|(refine ag ?_ [q] (hn1 q _ _ ?_ ap (by omega)) ?_ ?_));iterate 3 (focus (simp only[aj,results187,ntmps187,am,aL,hq,z0,z1,z2,z3,aG,aH,aB,aD,az,bg,dj,Bt,Bf,Lm,ai,seval,ah]<;>exact rfl)))|((first|(refine ag ?_ [q] (p63 q _ _ ?_ ap (by omega)) ?_ ?_)|(refine ag ?_ [q] (hsk1 q _ _ ?_ ap (by omega)) ?_ ?_));iterate 3 (focus (simp only[aj,results187,ntmps187,am,aL,hq,z0,z1,z2,z3,aG,aH,aB,aD,az,bg,dj,Bt,Bf,Lm,ai,seval,ah]<;>exact rfl)))|((refine ag ?_ [q] (p61 q _ _ ?_ ap (by omega)) ?_ ?_);iterate 3 (focus (simp only[aj,results187,ntmps187,am,aL,hq,z0,z1,z2,z3,aG,aH,aB,aD,az,bg,dj,Bt,Bf,Lm,ai,seval,ah]<;>exact rfl)))|(refine cH rfl [q] (gK q _ _) ?_)|(refine aa (v:=.any) ?_)|((first|apply Ca|apply Cb)<;>intro hb)|refine Ai (by omega) ?_|(apply Ai<;>intro hb)
            | some t =>
              have k2':=bX k2
              have d1:=dy d0
              rw[k2']at d1
              have d2:=dy (bS (d:=61) (by decide) (a:=[]) d1 rfl).2
              have m3:=c5 t
              rw[k2']at m2
              simp only[List.length_cons]at m2
              have hsk2:=jp t (by unfold bh;omega)
              rw[k2']at hsk1
              have p61:=cN (61::t) [61] true (by simp;omega) (by decide) (by rw[dE];rfl)
              simp only[if_true,List.drop_succ_cons,List.drop_zero,List.length_cons,List.length_nil]at p61
              have htw:=zO xl ⟨m,[]⟩ (by unfold bh;omega)
              unfold bQ at hsk2
              cases hany:(xl.any fun b=>m==b.name) with
              | true =>
                simp only[hany,dj]at htw
                repeat' first|simp only[results187,ntmps187,am,aL,hq,z0,z1,z2,z3,aG,aH,aB,aD,az,bg,dj,Bt,Bf,Lm,ai,seval,ah]|exact rfl|((refine jt (xs:=?_) [b0+1,b0+384] ?_ (fun _=>?_) (fun _=>?_) rfl ((fun _=>htw _)) ?_);rotate_left 1;iterate 3 (focus (simp only[al,aj,results187,ntmps187,am,aL,hq,z0,z1,z2,z3,aG,aH,aB,aD,az,bg,dj,Bt,Bf,Lm,ai,seval,ah]<;>(first|exact rfl|omega))))|((first|(refine ag ?_ [q] (hsk q _ _ ?_ ap (by omega)) ?_ ?_)|(refine ag ?_ [q] (p62 q _ _ ?_ ap (by omega)) ?_ ?_)|(refine ag ?_ [q] (hn1 q _ _ ?_ ap (by omega)) ?_ ?_));iterate 3 (focus (simp only[aj,results187,ntmps187,am,aL,hq,z0,z1,z2,z3,aG,aH,aB,aD,az,bg,dj,Bt,Bf,Lm,ai,seval,ah]<;>exact rfl)))|((first|(refine ag ?_ [q] (p63 q _ _ ?_ ap (by omega)) ?_ ?_)|(refine ag ?_ [q] (hsk1 q _ _ ?_ ap (by omega)) ?_ ?_));iterate 3 (focus (simp only[aj,results187,ntmps187,am,aL,hq,z0,z1,z2,z3,aG,aH,aB,aD,az,bg,dj,Bt,Bf,Lm,ai,seval,ah]<;>exact rfl)))|((refine ag ?_ [q] (p61 q _ _ ?_ ap (by omega)) ?_ ?_);iterate 3 (focus (simp only[aj,results187,ntmps187,am,aL,hq,z0,z1,z2,z3,aG,aH,aB,aD,az,bg,dj,Bt,Bf,Lm,ai,seval,ah]<;>exact rfl)))|(refine cH rfl [q] (gK q _ _) ?_)|((first|apply Ca|apply Cb)<;>intro hb)|refine Ai (by omega) ?_|(apply Ai<;>intro hb)
              | false =>
                simp only[hany,dj]at htw
                cases k3:iu (bd t) with
                | none =>
                  have hva:=Ah (bd t) (by omega) d2 k3
                  unfold bQ at hva
                  repeat' first|simp only[results187,ntmps187,am,aL,hq,z0,z1,z2,z3,aG,aH,aB,aD,az,bg,dj,Bt,Bf,Lm,ai,seval,ah]|exact rfl|((refine jt (xs:=?_) [b0+1,b0+384] ?_ (fun _=>?_) (fun _=>?_) rfl ((fun _=>htw _)) ?_);rotate_left 1;iterate 3 (focus (simp only[al,aj,results187,ntmps187,am,aL,hq,z0,z1,z2,z3,aG,aH,aB,aD,az,bg,dj,Bt,Bf,Lm,ai,seval,ah]<;>(first|exact rfl|omega))))|((first|(refine ag ?_ [q] (hsk q _ _ ?_ ap (by omega)) ?_ ?_)|(refine ag ?_ [q] (p62 q _ _ ?_ ap (by omega)) ?_ ?_)|(refine ag ?_ [q] (hn1 q _ _ ?_ ap (by omega)) ?_ ?_));iterate 3 (focus (simp only[aj,results187,ntmps187,am,aL,hq,z0,z1,z2,z3,aG,aH,aB,aD,az,bg,dj,Bt,Bf,Lm,ai,seval,ah]<;>exact rfl)))|((first|(refine ag ?_ [q] (p63 q _ _ ?_ ap (by omega)) ?_ ?_)|(refine ag ?_ [q] (hsk1 q _ _ ?_ ap (by omega)) ?_ ?_));iterate 3 (focus (simp only[aj,results187,ntmps187,am,aL,hq,z0,z1,z2,z3,aG,aH,aB,aD,az,bg,dj,Bt,Bf,Lm,ai,seval,ah]<;>exact rfl)))|((first|(refine ag ?_ [q] (p61 q _ _ ?_ ap (by omega)) ?_ ?_)|(refine ag ?_ [q] (hsk2 q _ _ ?_ ap (by omega)) ?_ ?_));iterate 3 (focus (simp only[aj,results187,ntmps187,am,aL,hq,z0,z1,z2,z3,aG,aH,aB,aD,az,bg,dj,Bt,Bf,Lm,ai,seval,ah]<;>exact rfl)))|((first|apply Ca|apply Cb)<;>intro hb)|refine Ai (by omega) ?_|(apply Ai<;>intro hb)
                  refine cH rfl [q] (hva q _ _ ?_ ap (by omega)) ?_
                  · simp only[aj,am,hq,z0,z1,z2,z3,ai,seval,ah]<;>exact rfl
                  · simp only[aG,aH,aB,aD,az,bg,z5]
                | some p3 =>
                  obtain⟨v,r'⟩:=p3
                  have hat:gB (bd xr)=some (⟨m,v⟩,r'):=by
                    unfold gB
                    rw[k1]
                    simp only[Option.bind_some,k2,k3,Option.map_some]
                  rw[lE hen hgap hat hany]at g1
                  have hlt:=ks hat
                  have g2':=su (dy g2) hat
                  have hva:=vx (bd t) v r' (by omega) d2 k3
                  unfold bQ at hva
                  repeat' first|simp only[results187,ntmps187,am,aL,hq,z0,z1,z2,z3,dj,Bt,Bf,Lm,ai,seval,ah]|exact rfl|((refine jt (xs:=?_) [b0+1,b0+384] ?_ (fun _=>?_) (fun _=>?_) rfl ((fun _=>htw _)) ?_);rotate_left 1;iterate 3 (focus (simp only[al,aj,results187,ntmps187,am,aL,hq,z0,z1,z2,z3,dj,Bt,Bf,Lm,ai,seval,ah]<;>(first|exact rfl|omega))))|((first|(refine ag ?_ [q] (hsk q _ _ ?_ ap (by omega)) ?_ ?_)|(refine ag ?_ [q] (p62 q _ _ ?_ ap (by omega)) ?_ ?_)|(refine ag ?_ [q] (hn1 q _ _ ?_ ap (by omega)) ?_ ?_)|(refine ag ?_ [q] (hva q _ _ ?_ ap (by omega)) ?_ ?_));iterate 3 (focus (simp only[aj,results187,ntmps187,am,aL,hq,z0,z1,z2,z3,dj,Bt,Bf,Lm,ai,seval,ah]<;>exact rfl)))|((first|(refine ag ?_ [q] (p63 q _ _ ?_ ap (by omega)) ?_ ?_)|(refine ag ?_ [q] (hsk1 q _ _ ?_ ap (by omega)) ?_ ?_));iterate 3 (focus (simp only[aj,results187,ntmps187,am,aL,hq,z0,z1,z2,z3,dj,Bt,Bf,Lm,ai,seval,ah]<;>exact rfl)))|((first|(refine ag ?_ [q] (p61 q _ _ ?_ ap (by omega)) ?_ ?_)|(refine ag ?_ [q] (hsk2 q _ _ ?_ ap (by omega)) ?_ ?_));iterate 3 (focus (simp only[aj,results187,ntmps187,am,aL,hq,z0,z1,z2,z3,dj,Bt,Bf,Lm,ai,seval,ah]<;>exact rfl)))|((first|apply Ca|apply Cb)<;>intro hb)|refine Ai (by omega) ?_|(apply Ai<;>intro hb)
                  have hnx:xl.map dj++[[.str m,.str v]]=(xl++[(⟨m,v⟩:Pr)]).map dj:=by simp[dj]
                  have hnn:(xl++[(⟨m,v⟩:Pr)]).length=xl.length+1:=by simp
                  rw[hnx]
                  all_goals ((refine aJ co (⟨xl++[(⟨m,v⟩:Pr)],r'⟩) [some q,some b0,some (b0+848)] ?_ ?_ ?_ ?_;rotate_left 2;(focus (show b0≤_;omega));(focus (refine⟨?_,?_⟩<;>(try simp only[bk,Cw,aL,hq,z0,z1,z2,z3,hnn,Lm,ai,seval,ah,au])<;>(try omega)))))
                  all_goals (first|exact⟨g1,g2',by show r'.length+(xl++[(⟨m,v⟩:Pr)]).length≤16384;omega⟩|(show r'.length<xr.length;omega)|skip)
        · have hgd:decide ((bd xr).length<xr.length)=false:=decide_eq_false hgap
          rw[hgd]at hsk
          repeat' first|simp only[results187,ntmps187,am,aL,hq,z0,z1,z2,z3,aG,aH,aB,aD,az,bg,Bt,Bf,Lm,ai,seval,ah]|exact rfl|((first|(refine ag ?_ [q] (hsk q _ _ ?_ ap (by omega)) ?_ ?_)|(refine ag ?_ [q] (p62 q _ _ ?_ ap (by omega)) ?_ ?_));iterate 3 (focus (simp only[aj,results187,ntmps187,am,aL,hq,z0,z1,z2,z3,aG,aH,aB,aD,az,bg,Bt,Bf,Lm,ai,seval,ah]<;>exact rfl)))|((refine ag ?_ [q] (p63 q _ _ ?_ ap (by omega)) ?_ ?_);iterate 3 (focus (simp only[aj,results187,ntmps187,am,aL,hq,z0,z1,z2,z3,aG,aH,aB,aD,az,bg,Bt,Bf,Lm,ai,seval,ah]<;>exact rfl)))|(refine cH rfl [q] (gK q _ _) ?_)|((first|apply Ca|apply Cb)<;>intro hb)|refine Ai (by omega) ?_|(apply Ai<;>intro hb)
end Go.Proofs.YtidmkaalhmeflaaGreatDoor
