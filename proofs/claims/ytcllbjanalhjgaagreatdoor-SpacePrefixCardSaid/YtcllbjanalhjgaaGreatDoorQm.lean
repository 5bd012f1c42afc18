/-
 Texts joined: XPa,XPb,XNp.
-/
import Derived.Test.YtcllbjanalhjgaaGreatDoorQl
namespace Go.Proofs.YtcllbjanalhjgaaGreatDoor
set_option maxRecDepth 100000
set_option maxHeartbeats 32000000
set_option linter.unusedSimpArgs false
set_option linter.unusedVariables false
open Go Go.RowKit Go.Lib
theorem qq {a b:List UInt8}(ha:(dN a).isSome=true)(hb:(dN b).isSome=true):(dN (a++b)).isSome=true:=by
 obtain⟨x,hx⟩:=Option.isSome_iff_exists.1 ha
 obtain⟨y,hy⟩:=Option.isSome_iff_exists.1 hb
 rw[ro hx hy];rfl
theorem uj:∀ {s:List UInt8},(∀ c∈s,c≠9∧c≠10∧c≠13)→s.map b7=s
 | [],_=>rfl
 | c::s,h=>by
  have h1:=h c (by simp)
  rw[List.map_cons,uj fun x hx=>h x (by simp[hx])]
  congr 1
  unfold b7 gX
  by_cases h32:c=32
  ·subst h32;rfl
  ·simp[h32,h1.1,h1.2.1,h1.2.2]
def CL (k:Nat):List UInt8:=if k=3 then [47,62] else [62]
theorem sH {n:List UInt8}{P:List Pr→List UInt8→Tk→List UInt8→Prop}
  (h1:∀ l s k t,j5 (aZ s)=some (k,t)→P l s ⟨k,n,l,[]⟩ t)
  (h2:∀ l s a r u v,j5 (aZ s)=none→(aZ s).length<s.length→fU (aZ s)=some (a,r)→(l.any fun b=>a.name==b.name)=false→iR n (l++[a]) r=some (u,v)→P (l++[a]) r u v→P l s u v) :
  ∀(m:Nat) (l:List Pr) (s:List UInt8) (u:Tk) (v:List UInt8),s.length≤m→iR n l s=some (u,v)→P l s u v:=by
 intro m
 induction m with
 | zero =>
  intro l s u v hm h
  obtain rfl:=List.length_eq_zero_iff.1 (Nat.le_zero.1 hm)
  rw[kB (by rfl) (by simp[aZ])]at h;cases h
 | succ m ih =>
  intro l s u v hm h
  cases he:j5 (aZ s) with
  | some p =>
   obtain⟨k,t⟩:=p
   rw[kA he]at h
   cases h
   exact h1 _ _ _ _ he
  | none =>
   cases ha:fU (aZ s) with
   | none=>rw[qK he ha]at h;cases h
   | some p =>
    obtain⟨a,r⟩:=p
    cases hd:l.any fun b=>a.name==b.name with
    | true=>rw[mf he ha hd]at h;cases h
    | false =>
     by_cases hg:(aZ s).length<s.length
     ·rw[lJ he hg ha hd]at h
      have hl:=jX ha
      have:=cX s
      exact h2 l s a r u v he hg ha hd h (ih _ _ _ _ (by omega) h)
     ·rw[kB he hg]at h;cases h
theorem GC {s r:List UInt8}{t:Tk}(h:iL s=some (t,r))(h4:t.kind=4):bS 60 s=none∧bR (cq s)=some t.text∧r=fS s∧t=⟨4,[],[],t.text⟩:=by
 unfold iL at h
 split at h
 ·rename_i u hu
  exfalso
  unfold sI at h
  split at h
  ·obtain⟨⟨n,r1⟩,h1,h2⟩:=Option.bind_eq_some_iff.1 h
   obtain⟨r2,h3,e⟩:=Option.map_eq_some_iff.1 h2
   cases e
   cases h4
  ·obtain⟨⟨n,r1⟩,h1,h2⟩:=Option.bind_eq_some_iff.1 h
   have:t.kind=1∨t.kind=3:=by
    refine sH (n:=n) (P:=fun l s u v=>u.kind=1∨u.kind=3) ?_ (fun _ _ _ _ _ _ _ _ _ _ _ ih=>ih) _ [] r1 t r (Nat.le_refl _) h2
    intro l s k t he
    unfold j5 at he
    split at he
    ·cases he;exact .inl rfl
    ·cases he;exact .inr rfl
    ·cases he
   omega
 ·rename_i hu
  obtain⟨x,h1,h2⟩:=Option.map_eq_some_iff.1 h
  cases h2
  exact⟨hu,h1,rfl,rfl⟩
theorem mD {p:UInt8→Bool} : ∀ {s:List UInt8} {c:UInt8},c∈s.takeWhile p→p c=true
 | [],c,h=>by simp at h
 | d::s,c,h=>by
  rw[List.takeWhile_cons]at h
  by_cases hd:p d=true
  ·rw[if_pos hd]at h
   rcases List.mem_cons.1 h with rfl|h
   ·exact hd
   ·exact mD h
  ·rw[if_neg hd]at h;simp at h
theorem sJ (s:List UInt8):∀ c,(fS s).head? = some c→c=60:=by
 intro c hc
 have:=List.head?_dropWhile_not jp s
 unfold fS at hc
 rw[hc]at this
 simpa [jp] using this
theorem uK {a:List UInt8}{x:List UInt8}(h:ce a=some x):x.length≤a.length+2∧(dN x).isSome=true:=by
 have hp:∀(o:Option Nat) (k:Nat),2≤k→ew o=some x→x.length≤k+2∧(dN x).isSome=true:=by
  intro o k hk ho
  unfold ew at ho
  obtain⟨n,_,hn⟩:=Option.bind_eq_some_iff.1 ho
  split at hn
  ·rename_i hm
   cases hn
   have:=(bt (n:Int)).2
   have hd:=gw [(n:Int)] (by simp[hm])
   simp only[enc,List.flatMap_cons,List.flatMap_nil,List.append_nil]at hd
   exact⟨by omega,by rw[hd];rfl⟩
  ·cases hn
 unfold ce at h
 repeat' split at h
 ·rename_i e;cases h;subst e;exact⟨by decide,by decide⟩
 ·rename_i e;cases h;subst e;exact⟨by decide,by decide⟩
 ·rename_i e;cases h;subst e;exact⟨by decide,by decide⟩
 ·rename_i e;cases h;subst e;exact⟨by decide,by decide⟩
 ·rename_i e;cases h;subst e;exact⟨by decide,by decide⟩
 ·rename_i e1 e2
  refine hp _ _ ?_ h
  cases a with
  | nil=>cases e1
  | cons c a =>
   cases a with
   | nil=>cases e2
   | cons d a=>simp
 ·rename_i e1 e2
  refine hp _ _ ?_ h
  cases a with
  | nil=>cases e1
  | cons c a =>
   cases a with
   | nil=>simp[ew,mO]at h
   | cons d a=>simp
 ·cases h
theorem ku:∀(n:Nat) (s x:List UInt8),s.length≤n→bR s=some x→x.length≤s.length
 | n,[],x,_,h=>by rw[jN]at h;cases h;simp
 | 0,c::r,x,hn,_=>by simp at hn
 | n+1,c::r,x,hn,h=>by
  have hl:r.length≤n:=by simpa using hn
  by_cases h1:c=60
  ·subst h1;rw[lF]at h;cases h
  by_cases h2:c=38
  ·subst h2
   cases hc:dH 59 r with
   | none=>rw[iO hc]at h;cases h
   | some p =>
    obtain⟨u,v⟩:=p
    have hlen:=congrArg List.length (ek hc).1
    cases hm:ce u with
    | none=>rw[jM hc hm]at h;cases h
    | some y =>
     rw[jO hc hm]at h
     obtain⟨w,hw,rfl⟩:=Option.map_eq_some_iff.1 h
     simp only[List.length_append,List.length_cons]at hlen
     have h3:=ku n v w (by omega) hw
     have h4:=(uK hm).1
     simp only[List.length_append,List.length_cons];omega
  ·rw[fG h1 h2]at h
   obtain⟨w,hw,rfl⟩:=Option.map_eq_some_iff.1 h
   have:=ku n r w hl hw
   simp only[List.length_cons];omega
theorem sw:∀ {p:List UInt8} (r:List UInt8),(∀ c∈p,128≤c.toNat)→bR (p++r)=(bR r).map (p ++ ·)
 | [],r,_=>by
  rw[List.nil_append]
  cases bR r<;>simp
 | c::p,r,h=>by
  have h0:=h c (by simp)
  rw[List.cons_append,fG (by rintro rfl;simp at h0) (by rintro rfl;simp at h0),sw r fun x hx=>h x (by simp[hx])]
  cases bR r<;>simp
theorem uN:∀(n:Nat) (s x:List UInt8),s.length≤n→(dN s).isSome=true→bR s=some x→(dN x).isSome=true:=by
  intro n
  induction n with
  | zero =>
    intro s x hn _ h
    obtain rfl:=List.length_eq_zero_iff.1 (Nat.le_zero.1 hn)
    rw[jN]at h;cases h;rfl
  | succ n ih =>
    intro s x hn hd h
    obtain⟨zs,hz⟩:=Option.isSome_iff_exists.1 hd
    obtain⟨hm,rfl⟩:=(nE s zs).1 hz
    cases zs with
    | nil=>rw[show enc []=[] from rfl,jN]at h;cases h;rfl
    | cons z zs =>
      simp only[List.all_cons,Bool.and_eq_true]at hm
      have e:enc (z::zs)=encodeRune z++enc zs:=by simp[enc]
      have hl:=(bt z).1
      rw[e]at h hn hd
      rw[List.length_append]at hn
      have hdz:(dN (enc zs)).isSome=true:=by rw[gw zs hm.2];rfl
      have hd1:(dN (encodeRune z)).isSome=true:=by
        have:=gw [z] (by simp[hm.1])
        simp only[enc,List.flatMap_cons,List.flatMap_nil,List.append_nil]at this
        rw[this];rfl
      have hr:=(eX hm.1).1
      by_cases hz128:z<128
      · rw [vp hr hz128]at h hd1 hd hn
        rw[List.singleton_append]at h hd
        generalize z.toNat.toUInt8=c at h hd1 hd hn
        simp only[List.length_cons,List.length_nil]at hn
        by_cases h1:c=60
        · subst h1;rw[lF]at h;cases h
        by_cases h2:c=38
        · subst h2
          cases hc:dH 59 (enc zs) with
          | none=>rw[iO hc]at h;cases h
          | some p =>
            obtain⟨u,v⟩:=p
            have hce:=(ek hc).1
            have hlen:=congrArg List.length hce
            simp only[List.length_append,List.length_cons]at hlen
            cases hmm:ce u with
            | none=>rw[jM hc hmm]at h;cases h
            | some y =>
              rw[jO hc hmm]at h
              obtain⟨w,hw,rfl⟩:=Option.map_eq_some_iff.1 h
              have hv:=(bQ (d:=59) (by decide) hdz hce).2
              exact qq (uK hmm).2 (ih v w (by omega) hv hw)
        · rw[fG h1 h2]at h
          obtain⟨w,hw,rfl⟩:=Option.map_eq_some_iff.1 h
          exact qq (a:=[c]) hd1 (ih _ w (by omega) hdz hw)
      · rw[sw _ (nH (by omega))]at h
        obtain⟨w,hw,rfl⟩:=Option.map_eq_some_iff.1 h
        exact qq hd1 (ih _ w (by omega) hdz hw)
theorem CR {s:List UInt8}(h:(dN s).isSome=true):(dN (s.map b7)).isSome=true:=by
 obtain⟨zs,hz⟩:=Option.isSome_iff_exists.1 h
 obtain⟨hm,rfl⟩:=(nE s zs).1 hz
 clear hz h
 induction zs with
 | nil=>rfl
 | cons z zs ih =>
  simp only[List.all_cons,Bool.and_eq_true]at hm
  have e:enc (z::zs)=encodeRune z++enc zs:=by simp[enc]
  rw[e,List.map_append]
  refine qq ?_ (ih hm.2)
  have hr:=(eX hm.1).1
  by_cases hz:z<128
  ·rw[vp hr hz,List.map_cons,List.map_nil]
   unfold b7
   split
   ·decide
   ·have:=gw [z] (by simp[hm.1])
    simp only[enc,List.flatMap_cons,List.flatMap_nil,List.append_nil,vp hr hz]at this
    rw[this];rfl
  ·have:(encodeRune z).map b7=encodeRune z:=uj fun c hc=>by
    have:=nH (z:=z) (by omega) c hc
    refine⟨?_,?_,?_⟩<;>(rintro rfl;simp at this)
   rw[this]
   have:=gw [z] (by simp[hm.1])
   simp only[enc,List.flatMap_cons,List.flatMap_nil,List.append_nil]at this
   rw[this];rfl
theorem EG {s v r:List UInt8}(h:(dN s).isSome=true)(hl:s.length≤16384)(hv:gZ s=some (v,r)):aO v=0∧(xc true v).length+6*r.length+12≤6*s.length:=by
 obtain⟨a,h1,h2⟩:=kD hv
 obtain⟨q,hq,rfl,_⟩:=kr h1
 have hq128:q.toNat<128:=by rcases hq with rfl|rfl<;>decide
 have d1:=(bQ hq128 (a:=[]) h rfl).2
 have d2:=(bQ hq128 d1 rfl).1
 unfold yO at h2
 have d3:=uN _ _ _ (Nat.le_refl _) (CR d2) h2
 have l3:=ku _ _ _ (Nat.le_refl _) h2
 have:=(je true v).2
 simp only[List.length_map,List.length_cons,List.length_append]at l3 hl ⊢
 exact⟨eP.2 ⟨by omega,d3⟩,by omega⟩
theorem EW {s r:List UInt8}{a:Pr}(h:(dN s).isSome=true)(hl:s.length≤16384)(ha:fU s=some (a,r)):b8 a.name=true∧aO a.value=0∧(qV a).length+6*r.length≤6*s.length:=by
 obtain⟨r1,t,h1,h2,h3⟩:=lR ha
 obtain⟨e,_,hf,_⟩:=fp h1
 have d1:=dm (gT h h1)
 rw[h2]at d1
 have d2:=dm (bQ (d:=61) (by decide) (a:=[]) d1 rfl).2
 have l1:=congrArg List.length e
 have l2:=cX r1
 have l3:=cX t
 rw[h2]at l2
 simp only[List.length_append,List.length_cons]at l1 l2
 obtain⟨g1,g2⟩:=EG d2 (by omega) h3
 refine⟨hf,g1,?_⟩
 simp only[qV,List.length_append,List.length_cons,List.length_nil]
 omega
theorem He {n:List UInt8}(hn:b8 n=true){l:List Pr}{s v:List UInt8}{u:Tk}(h:iR n l s=some (u,v))(hd:(dN s).isSome=true)(hl:s.length≤16384)(hok:hO l l.length):u.name=n∧u.text=[]∧(u.kind=1∨u.kind=3)∧hO u.attrs u.attrs.length∧(dN v).isSome=true∧(gW u.attrs).length+(CL u.kind).length+6*v.length≤(gW l).length+6*s.length:=by
 refine sH (n:=n) (P:=fun l s u v=>(dN s).isSome=true→s.length≤16384→hO l l.length→u.name=n∧u.text=[]∧(u.kind=1∨u.kind=3)∧hO u.attrs u.attrs.length∧(dN v).isSome=true∧(gW u.attrs).length+(CL u.kind).length+6*v.length≤(gW l).length+6*s.length) ?_ ?_ _ l s u v (Nat.le_refl _) h hd hl hok
 ·intro l s k t he hd hl hok
  have hs:=dm hd
  have hsl:=cX s
  unfold j5 at he
  split at he
  ·rename_i e
   cases he
   rw[e]at hs hsl
   refine⟨rfl,rfl,.inl rfl,hok,(bQ (d:=62) (by decide) (a:=[]) hs rfl).2,?_⟩
   simp only[List.length_cons]at hsl
   simp[CL];omega
  ·rename_i e
   cases he
   rw[e]at hs hsl
   have h1:=(bQ (d:=47) (by decide) (a:=[]) hs rfl).2
   refine⟨rfl,rfl,.inr rfl,hok,(bQ (d:=62) (by decide) (a:=[]) h1 rfl).2,?_⟩
   simp only[List.length_cons]at hsl
   simp[CL];omega
  ·cases he
 ·intro l s a r u v he hg ha hd2 _ ih hd hl hok
  have hs:=dm hd
  obtain⟨g1,g2,g3⟩:=EW hs (by omega) ha
  have hlt:=jX ha
  have hr:=qW hs ha
  obtain⟨k1,k2,k3,k4,k5,k6⟩:=ih hr (by omega) (by
   intro i b hi hb
   by_cases hil:i<l.length
   ·rw[List.getElem?_append_left hil]at hb
    rw[List.take_append_of_le_length (by omega)]
    exact hok i b hil hb
   ·have:i=l.length:=by simp at hi;omega
    subst this
    rw[List.getElem?_append_right (by omega)]at hb
    simp at hb;subst hb
    rw[List.take_append_of_le_length (by omega),List.take_length]
    unfold LI
    simp[hd2,g1,g2])
  refine⟨k1,k2,k3,k4,k5,?_⟩
  have:(gW (l++[a])).length=(gW l).length+(qV a).length:=by simp[gW]
  omega
theorem v9 {s r:List UInt8}{t:Tk}(hne:s≠[])(h:iL s=some (t,r))(hd:(dN s).isSome=true)(hl:s.length≤16384)(h16:t.attrs.length≤16):gn t=true∧(dN r).isSome=true∧(t.kind=4 → ∀ c,r.head? = some c→c=60)∧(t.kind=4→bS 60 s=none)∧(pA t).length+6*r.length≤6*s.length:=by
  by_cases h4:t.kind=4
  · obtain ⟨g1,g2,rfl,g4⟩:=GC h h4
    have e:s=cq s++fS s:=(List.takeWhile_append_dropWhile).symm
    have le:=congrArg List.length e
    rw[List.length_append]at le
    obtain⟨d1,d2⟩:=sK hd
    have l1:=ku _ _ _ (Nat.le_refl _) g2
    have l2:=(je false t.text).2
    have d3:=uN _ _ _ (Nat.le_refl _) d1 g2
    have hx:t.text≠[]:=by
      intro hx
      have hT:cq s≠[]:=by
        cases s with
        | nil=>exact absurd rfl hne
        | cons c s =>
          have hc:jp c=true:=by
            rw[iv]at g1
            split at g1
            · cases g1
            · rename_i e;simp[jp,e]
          unfold cq
          rw[List.takeWhile_cons,if_pos hc];simp
      rw[hx]at g2
      cases hT':cq s with
      | nil=>exact hT hT'
      | cons c w =>
        rw[hT']at g2
        by_cases c60:c=60
        · subst c60;rw[lF]at g2;cases g2
        by_cases c38:c=38
        · subst c38
          cases hc:dH 59 w with
          | none=>rw[iO hc]at g2;cases g2
          | some p =>
            obtain⟨u,v⟩:=p
            cases hm:ce u with
            | none=>rw[jM hc hm]at g2;cases g2
            | some y =>
              rw[jO hc hm]at g2
              obtain⟨z,_,hz⟩:=Option.map_eq_some_iff.1 g2
              have:=(List.append_eq_nil_iff.1 hz).1
              subst this
              unfold ce at hm
              repeat' split at hm
              all_goals (first|cases hm;done|skip)
              all_goals (
                unfold ew at hm
                obtain⟨n,_,hn⟩:=Option.bind_eq_some_iff.1 hm
                split at hn
                · have:=(bt (n:Int)).1
                  simp only[Option.some.injEq]at hn
                  rw[hn]at this
                  simp at this
                · cases hn)
        · rw[fG c60 c38]at g2
          obtain⟨z,_,hz⟩:=Option.map_eq_some_iff.1 g2
          cases hz
    refine⟨?_,d2,fun _=>sJ s,fun _=>g1,?_⟩
    · rw[g4]
      unfold gn
      rw[if_neg (show ¬((4:Nat)=1∨(4:Nat)=3) by decide),if_neg (show ¬(4:Nat)=2 by decide),if_pos rfl]
      have:aO t.text=0:=eP.2 ⟨by omega,d3⟩
      have hxe:t.text.isEmpty=false:=by rw[List.isEmpty_eq_false_iff];exact hx
      simp[this,hxe]
    · have:pA t=xc false t.text:=by unfold pA;rw[if_pos h4]
      rw[this]
      omega
  · have hh:∃ u,bS 60 s=some u:=by
      cases ha:bS 60 s with
      | some u=>exact⟨u,rfl⟩
      | none =>
        exfalso
        unfold iL at h
        rw[ha]at h
        obtain⟨x,_,hx⟩:=Option.map_eq_some_iff.1 h
        cases hx
        exact h4 rfl
    obtain⟨u,hu⟩:=hh
    have hs:=bU hu
    subst hs
    have du:=(bQ (d:=60) (by decide) (a:=[]) hd rfl).2
    simp only[List.length_cons]at hl
    unfold iL at h
    rw[hu]at h
    simp only at h
    unfold sI at h
    split at h
    · rename_i w hw
      obtain rfl:=bU hw
      have dw:=(bQ (d:=47) (by decide) (a:=[]) du rfl).2
      obtain⟨⟨n,r1⟩,h1,h2⟩:=Option.bind_eq_some_iff.1 h
      obtain⟨r2,h3,e⟩:=Option.map_eq_some_iff.1 h2
      cases e
      obtain⟨e1,_,hf,_⟩:=fp h1
      have l1:=congrArg List.length e1
      have l2:=cX r1
      have d1:=dm (gT dw h1)
      rw[bU h3]at l2 d1
      simp only[List.length_append,List.length_cons]at l1 l2
      refine⟨?_,(bQ (d:=62) (by decide) (a:=[]) d1 rfl).2,fun h=>absurd h h4,fun h=>absurd h h4,?_⟩
      · unfold gn
        rw[if_neg (show ¬((2:Nat)=1∨(2:Nat)=3) by decide),if_pos rfl]
        simp[hf]
      · have:pA ⟨2,n,[],[]⟩=[60,47]++n++[62]:=by unfold pA;rw[if_neg (show ¬(2:Nat)=4 by decide),if_pos rfl]
        rw[this]
        simp only[List.length_append,List.length_cons,List.length_nil]
        omega
    · rename_i hw
      obtain⟨⟨n,r1⟩,h1,h2⟩:=Option.bind_eq_some_iff.1 h
      obtain⟨e1,_,hf,_⟩:=fp h1
      have l1:=congrArg List.length e1
      simp only[List.length_append]at l1
      have d1:=gT du h1
      obtain⟨k1,k2,k3,k4,k5,k6⟩:=He hf h2 d1 (by show r1.length≤16384;omega) (by intro i a hi;simp at hi)
      refine⟨?_,k5,fun h=>absurd h h4,fun h=>absurd h h4,?_⟩
      · unfold gn
        rw[if_pos k3,k1,k2,hf,ik.2 ⟨h16,k4⟩]
        rfl
      · have:pA t=[60]++t.name++gW t.attrs++CL t.kind:=by
          unfold pA CL
          rw[if_neg h4,if_neg (by rcases k3 with h|h<;>rw[h]<;>decide)]
        rw[this,k1]
        have:gW []=[]:=rfl
        rw[this]at k6
        simp only[List.length_append,List.length_cons,List.length_nil]at k6 ⊢
        omega
theorem wH:∀ {l:List Tk} {t:Tk},wG l=false→(∀ u,l.getLast? = some u → ¬(u.kind=4∧t.kind=4))→wG (l++[t])=false
 | [],t,_,_=>rfl
 | [a],t,_,h=>by
  have:=h a rfl
  simp only[List.singleton_append,wG,Bool.or_false]
  simp only[Bool.and_eq_false_iff,beq_eq_false_iff_ne]
  by_cases e:a.kind=4
  ·right;exact fun e2=>this ⟨e,e2⟩
  ·left;exact e
 | a::b::l,t,h,h2=>by
  simp only[List.cons_append,wG,Bool.or_eq_false_iff]at h ⊢
  exact⟨h.1,wH (l:=b::l) h.2 (fun u hu=>h2 u (by rw[List.getLast?_cons_cons];exact hu))⟩
theorem F4 (n:Nat):∀(m:Nat) (acc:List Tk) (s:List UInt8),s.length≤m→s.length≤n→(dN s).isSome=true→s.length≤16384→(∀ t∈acc,gn t=true)→wG acc=false→acc.length≤512→(∀ t,acc.getLast? = some t→t.kind=4 → ∀ c,s.head? = some c→c=60) →
  ((gf n acc s).2.2=0→(∀ t∈(gf n acc s).1,gn t=true)∧wG (gf n acc s).1=false∧(gf n acc s).1.length≤512∧(gf n acc s).1.length≤acc.length+s.length∧(gf n acc s).2.1=0∧(oz (gf n acc s).1).length≤(oz acc).length+6*s.length) ∧
  ((gf n acc s).2.2≠0→(gf n acc s).1=[]∧(gf n acc s).2.1<n):=by
 intro m
 induction m with
 | zero =>
  intro acc s hm _ _ _ h1 h2 h3 _
  obtain rfl:=List.length_eq_zero_iff.1 (Nat.le_zero.1 hm)
  rw[lA]
  exact⟨fun _=>⟨h1,h2,h3,by simp,rfl,by simp⟩,fun h=>absurd rfl h⟩
 | succ m ih =>
  intro acc s hm hn hd hl h1 h2 h3 h4
  by_cases hs:s=[]
  ·subst hs
   rw[lA]
   exact⟨fun _=>⟨h1,h2,h3,by simp,rfl,by simp⟩,fun h=>absurd rfl h⟩
  ·have hpos:=List.length_pos_iff.2 hs
   by_cases hmany:512≤acc.length
   ·rw[pd hs hmany]
    exact⟨fun h=>absurd (show(4:Int)=0 from h) (by decide),fun _=>⟨rfl,by show n-s.length<n;omega⟩⟩
   ·cases ho:iL s with
    | none =>
     rw[sa hs (by omega) ho]
     exact⟨fun h=>absurd (show(80:Int)=0 from h) (by decide),fun _=>⟨rfl,by show n-s.length<n;omega⟩⟩
    | some p =>
     obtain⟨t,r⟩:=p
     by_cases ha:16<t.attrs.length
     ·rw[nb hs (by omega) ho ha]
      exact⟨fun h=>absurd (show(4:Int)=0 from h) (by decide),fun _=>⟨rfl,by show n-s.length<n;omega⟩⟩
     ·have hlt:=v8 hs ho
      obtain⟨k1,k2,k3,k4,k5⟩:=v9 hs ho hd hl (by omega)
      rw[qy hs (by omega) ho (by omega)]
      obtain⟨g1,g2⟩:=ih (acc++[t]) r (by omega) (by omega) k2 (by omega) (by
       intro u hu
       rcases List.mem_append.1 hu with hu|hu
       ·exact h1 u hu
       ·simp at hu;subst hu;exact k1) (wH h2 (by
       rintro u hu ⟨e1,e2⟩
       have h60:=h4 u hu e1
       have hn:=k4 e2
       cases s with
       | nil=>exact hs rfl
       | cons c s =>
        have:=h60 c rfl
        subst this
        rw[iv,if_pos rfl]at hn
        cases hn)) (by simp;omega) (by
       intro u hu hk
       simp at hu;subst hu
       exact k3 hk)
      refine⟨fun h=>?_,g2⟩
      obtain⟨e1,e2,e3,e4,e5,e6⟩:=g1 h
      have:(oz (acc++[t])).length=(oz acc).length+(pA t).length:=by simp[oz]
      simp only[List.length_append,List.length_cons,List.length_nil]at e4
      exact⟨e1,e2,e3,by omega,e5,by omega⟩
theorem vV (s:List UInt8):((eB s).2.2=0→(∀ t∈(eB s).1,gn t=true)∧wG (eB s).1=false∧(eB s).1.length≤512∧(eB s).1.length≤s.length∧(eB s).2.1=0∧(oz (eB s).1).length≤6*s.length)∧((eB s).2.2≠0→(eB s).1=[]∧(eB s).2.1≤s.length∧((eB s).2.2=80→(eB s).2.1<s.length)):=by
 unfold eB
 by_cases hp:aO s=0
 ·rw[if_neg (by simp[hp])]
  obtain⟨hl,hd⟩:=eP.1 hp
  obtain⟨h1,h2⟩:=F4 s.length s.length [] s (Nat.le_refl _) (Nat.le_refl _) hd hl (by simp) rfl (by simp) (by simp)
  refine⟨fun h=>?_,fun h=>?_⟩
  ·obtain⟨e1,e2,e3,e4,e5,e6⟩:=h1 h
   exact⟨e1,e2,e3,by simpa using e4,e5,by simpa [oz] using e6⟩
  ·obtain⟨e1,e2⟩:=h2 h
   exact⟨e1,by omega,fun _=>e2⟩
 ·rw[if_pos (by simpa using hp)]
  refine⟨fun h=>absurd h (by simpa using hp),fun _=>⟨rfl,by simp,fun h=>?_⟩⟩
  exfalso
  have h:aO s=80:=h
  unfold aO at h
  split at h
  ·cases h
  ·split at h<;>cases h
end Go.Proofs.YtcllbjanalhjgaaGreatDoor
namespace Go.Proofs.YtcllbjanalhjgaaGreatDoor
set_option maxRecDepth 100000
set_option maxHeartbeats 32000000
set_option linter.unusedSimpArgs false
set_option linter.unusedVariables false
open Go Go.RowKit Vm Go.Lib Tryz
open Vm renaming be→Ca,bo→Cb
open And renaming intro→Ai
open List renaming length_map→Lm,not_mem_nil→Ln,map_nil→Lo,map_cons→Lc,mem_cons→Lk
open Bool renaming not_false→Bf,not_true→Bt
theorem GP (s n r0:List UInt8)(hs:s.length≤16384)(hd:(dN s).isSome=true)(h1:bS 47 s=none)(h2:eL s=some (n,r0))(h3:iR n [] r0=none)(q:Nat)(M:ao)(nm:Nat)(hq:M q=some (bO s))(ho:∀ z,(M z).isSome=true→z∈[q])(hqn:q<nm) :
    wB cx 122 nm [.ptr q 0 0] M Au:=by
  have p1:=cH s [47] false (by omega) (by decide) (by rw[eh,h1];rfl)
  simp only[Bool.false_eq_true,if_false]at p1
  have hn:=jR s n r0 (by omega) h2
  obtain⟨_,_,_,l2⟩:=fp h2
  have hd0:=gT hd h2
  unfold bO at hq hn
  refine iz rfl cm rfl (fun cargs w=>call122 cargs w) func122 rfl mixed (by kernel_rfl) rfl ?_;intro b0 hb0
  have lq:q<b0:=av hb0 (by rw[hq];rfl)
  have z0:=aS lq;have z1:=aq lq;have z2:=aI lq;have z3:=aj lq
  repeat' first|simp only[results122,ntmps122,ap,hq,z0,z1,z2,z3,ag,seval,ae]|exact rfl|((first|(refine ad ?_ [q] (p1 q _ _ ?_ ak (by omega)) ?_ ?_)|(refine ad ?_ [q] (hn q _ _ ?_ ak (by omega)) ?_ ?_));iterate 3 (focus (simp only[ah,results122,ntmps122,ap,hq,z0,z1,z2,z3,ag,seval,ae]<;>exact rfl)))|((first|apply Ca|apply Cb)<;>intro hb)|refine Ai (by omega) ?_|(apply Ai<;>intro hb)
  (refine aV cm (fun x:TSt=>x.rest.length) (fun x=>iR n x.l x.rest=none∧(dN x.rest).isSome=true∧x.rest.length+x.l.length≤16384) (b0+16) (fun x=>[(0,.ptr q 0 0),(2,.ptr b0 0 0)]) (fun x=>[(q,⟨1,[[.str x.rest]]⟩),(b0,⟨4,[[.int .u8 0,.str n,.own (b0+1) 0 x.l.length,.str []]]⟩),(b0+1,⟨2,x.l.map da⟩)]) (⟨[],r0⟩) [some q,some b0,none] ?_ ?_ ?_ ?_;rotate_left 1;(focus (show b0≤_;omega));(focus (refine⟨?_,?_⟩<;>(try simp only[bj,BU,hq,z0,z1,z2,z3,aU,Lo,List.length_nil,ag,seval,ae,au])<;>(try omega)));rotate_left 1)
  · exact⟨h3,hd0,by show r0.length+0≤16384;omega⟩
  · rintro ⟨xl,xr⟩ ⟨g1,g2,g3⟩
    dsimp only at g1 g2 g3 ⊢
    have gl:=cX xr
    have hsk:=jn xr (by unfold bk;omega)
    unfold bO at hsk
    have hnl:(xl.map da).length=xl.length:=Lm _
    by_cases e62:preB (aZ xr) [62]=true
    · obtain⟨t,ht,hen⟩:=Bq e62
      rw[kA hen]at g1
      cases g1
    · have e62':preB (aZ xr) [62]=false:=by simpa using e62
      have p62:=cH (aZ xr) [62] false (by omega) (by decide) e62'
      simp only[Bool.false_eq_true,if_false]at p62
      by_cases e47:preB (aZ xr) [47,62]=true
      · obtain⟨t,ht,hen⟩:=uf e47
        rw[kA hen]at g1
        cases g1
      · have e47':preB (aZ xr) [47,62]=false:=by simpa using e47
        have hen:=w9 e62' e47'
        have p63:=cH (aZ xr) [47,62] false (by omega) (by decide) e47'
        simp only[Bool.false_eq_true,if_false]at p63
        by_cases hgap:(aZ xr).length<xr.length
        · have hgd:decide ((aZ xr).length<xr.length)=true:=decide_eq_true hgap
          rw[hgd]at hsk
          cases k1:eL (aZ xr) with
          | none =>
            have hn1:=pu (aZ xr) (by omega) k1
            unfold bO at hn1
            repeat' first|simp only[results122,ntmps122,ap,aK,hq,z0,z1,z2,z3,aE,aF,az,aB,ax,bd,Bt,Bf,Lm,ag,seval,ae]|exact rfl|((first|(refine ad ?_ [q] (hsk q _ _ ?_ ak (by omega)) ?_ ?_)|(refine ad ?_ [q] (p62 q _ _ ?_ ak (by omega)) ?_ ?_));iterate 3 (focus (simp only[ah,results122,ntmps122,ap,aK,hq,z0,z1,z2,z3,aE,aF,az,aB,ax,bd,Bt,Bf,Lm,ag,seval,ae]<;>exact rfl)))|((refine ad ?_ [q] (p63 q _ _ ?_ ak (by omega)) ?_ ?_);iterate 3 (focus (simp only[ah,results122,ntmps122,ap,aK,hq,z0,z1,z2,z3,aE,aF,az,aB,ax,bd,Bt,Bf,Lm,ag,seval,ae]<;>exact rfl)))|((first|apply Ca|apply Cb)<;>intro hb)|refine Ai (by omega) ?_|(apply Ai<;>intro hb)
            refine cB rfl [q] (hn1 q _ _ ?_ ak (by omega)) ?_
            · simp only[ah,ap,hq,z0,z1,z2,z3,ag,seval,ae]<;>exact rfl
            · simp only[aE,aF,az,aB,ax,bd,Au]
          | some p =>
            obtain⟨m,r1⟩:=p
            have d0:=gT (dm g2) k1
            obtain⟨_,_,_,m1⟩:=fp k1
            have m2:=cX r1
            have hn1:=jR (aZ xr) m r1 (by omega) k1
            have hsk1:=jn r1 (by unfold bk;omega)
            unfold bO at hn1 hsk1
            cases k2:bS 61 (aZ r1) with
            | none =>
              have p61:=cH (aZ r1) [61] false (by omega) (by decide) (by rw[eh,k2];rfl)
              simp only[Bool.false_eq_true,if_false]at p61
              repeat' first|simp only[results122,ntmps122,ap,aK,hq,z0,z1,z2,z3,aE,aF,az,aB,ax,bd,da,Bt,Bf,Lm,ag,seval,ae]|exact rfl|((first|(refine ad ?_ [q] (hsk q _ _ ?_ ak (by omega)) ?_ ?_)|(refine ad ?_ [q] (p62 q _ _ ?_ ak (by omega)) ?_ ?_)|(refine ad ?_ [q] (hn1 q _ _ ?_ ak (by omega)) ?_ ?_));iterate 3 (focus (simp only[ah,results122,ntmps122,ap,aK,hq,z0,z1,z2,z3,aE,aF,az,aB,ax,bd,da,Bt,Bf,Lm,ag,seval,ae]<;>exact rfl)))|((first|(refine ad ?_ [q] (p63 q _ _ ?_ ak (by omega)) ?_ ?_)|(refine ad ?_ [q] (hsk1 q _ _ ?_ ak (by omega)) ?_ ?_));iterate 3 (focus (simp only[ah,results122,ntmps122,ap,aK,hq,z0,z1,z2,z3,aE,aF,az,aB,ax,bd,da,Bt,Bf,Lm,ag,seval,ae]<;>exact rfl)))|((refine ad ?_ [q] (p61 q _ _ ?_ ak (by omega)) ?_ ?_);iterate 3 (focus (simp only[ah,results122,ntmps122,ap,aK,hq,z0,z1,z2,z3,aE,aF,az,aB,ax,bd,da,Bt,Bf,Lm,ag,seval,ae]<;>exact rfl)))|(refine cB rfl [q] (gh q _ _) ?_)|(refine aa (v:=.any) ?_)|((first|apply Ca|apply Cb)<;>intro hb)|refine Ai (by omega) ?_|(apply Ai<;>intro hb)
            | some t =>
              have k2':=bU k2
              have d1:=dm d0
              rw[k2']at d1
              have d2:=dm (bQ (d:=61) (by decide) (a:=[]) d1 rfl).2
              have m3:=cX t
              rw[k2']at m2
              simp only[List.length_cons]at m2
              have hsk2:=jn t (by unfold bk;omega)
              rw[k2']at hsk1
              have p61:=cH (61::t) [61] true (by simp;omega) (by decide) (by rw[dp];rfl)
              simp only[if_true,List.drop_succ_cons,List.drop_zero,List.length_cons,List.length_nil]at p61
              have htw:=yP xl ⟨m,[]⟩ (by unfold bk;omega)
              unfold bO at hsk2
              cases hany:(xl.any fun b=>m==b.name) with
              | true =>
                simp only[hany,da]at htw
                repeat' first|simp only[results122,ntmps122,ap,aK,hq,z0,z1,z2,z3,aE,aF,az,aB,ax,bd,da,Bt,Bf,Lm,ag,seval,ae]|exact rfl|((refine ja (xs:=?_) [b0+1,b0+384] ?_ (fun _=>?_) (fun _=>?_) rfl ((fun _=>htw _)) ?_);rotate_left 1;iterate 3 (focus (simp only[am,ah,results122,ntmps122,ap,aK,hq,z0,z1,z2,z3,aE,aF,az,aB,ax,bd,da,Bt,Bf,Lm,ag,seval,ae]<;>(first|exact rfl|omega))))|((first|(refine ad ?_ [q] (hsk q _ _ ?_ ak (by omega)) ?_ ?_)|(refine ad ?_ [q] (p62 q _ _ ?_ ak (by omega)) ?_ ?_)|(refine ad ?_ [q] (hn1 q _ _ ?_ ak (by omega)) ?_ ?_));iterate 3 (focus (simp only[ah,results122,ntmps122,ap,aK,hq,z0,z1,z2,z3,aE,aF,az,aB,ax,bd,da,Bt,Bf,Lm,ag,seval,ae]<;>exact rfl)))|((first|(refine ad ?_ [q] (p63 q _ _ ?_ ak (by omega)) ?_ ?_)|(refine ad ?_ [q] (hsk1 q _ _ ?_ ak (by omega)) ?_ ?_));iterate 3 (focus (simp only[ah,results122,ntmps122,ap,aK,hq,z0,z1,z2,z3,aE,aF,az,aB,ax,bd,da,Bt,Bf,Lm,ag,seval,ae]<;>exact rfl)))|((refine ad ?_ [q] (p61 q _ _ ?_ ak (by omega)) ?_ ?_);iterate 3 (focus (simp only[ah,results122,ntmps122,ap,aK,hq,z0,z1,z2,z3,aE,aF,az,aB,ax,bd,da,Bt,Bf,Lm,ag,seval,ae]<;>exact rfl)))|(refine cB rfl [q] (gh q _ _) ?_)|((first|apply Ca|apply Cb)<;>intro hb)|refine Ai (by omega) ?_|(apply Ai<;>intro hb)
              | false =>
                simp only[hany,da]at htw
                cases k3:gZ (aZ t) with
                | none =>
                  have hva:=AF (aZ t) (by omega) d2 k3
                  unfold bO at hva
                  repeat' first|simp only[results122,ntmps122,ap,aK,hq,z0,z1,z2,z3,aE,aF,az,aB,ax,bd,da,Bt,Bf,Lm,ag,seval,ae]|exact rfl|((refine ja (xs:=?_) [b0+1,b0+384] ?_ (fun _=>?_) (fun _=>?_) rfl ((fun _=>htw _)) ?_);rotate_left 1;iterate 3 (focus (simp only[am,ah,results122,ntmps122,ap,aK,hq,z0,z1,z2,z3,aE,aF,az,aB,ax,bd,da,Bt,Bf,Lm,ag,seval,ae]<;>(first|exact rfl|omega))))|((first|(refine ad ?_ [q] (hsk q _ _ ?_ ak (by omega)) ?_ ?_)|(refine ad ?_ [q] (p62 q _ _ ?_ ak (by omega)) ?_ ?_)|(refine ad ?_ [q] (hn1 q _ _ ?_ ak (by omega)) ?_ ?_));iterate 3 (focus (simp only[ah,results122,ntmps122,ap,aK,hq,z0,z1,z2,z3,aE,aF,az,aB,ax,bd,da,Bt,Bf,Lm,ag,seval,ae]<;>exact rfl)))|((first|(refine ad ?_ [q] (p63 q _ _ ?_ ak (by omega)) ?_ ?_)|(refine ad ?_ [q] (hsk1 q _ _ ?_ ak (by omega)) ?_ ?_));iterate 3 (focus (simp only[ah,results122,ntmps122,ap,aK,hq,z0,z1,z2,z3,aE,aF,az,aB,ax,bd,da,Bt,Bf,Lm,ag,seval,ae]<;>exact rfl)))|((first|(refine ad ?_ [q] (p61 q _ _ ?_ ak (by omega)) ?_ ?_)|(refine ad ?_ [q] (hsk2 q _ _ ?_ ak (by omega)) ?_ ?_));iterate 3 (focus (simp only[ah,results122,ntmps122,ap,aK,hq,z0,z1,z2,z3,aE,aF,az,aB,ax,bd,da,Bt,Bf,Lm,ag,seval,ae]<;>exact rfl)))|((first|apply Ca|apply Cb)<;>intro hb)|refine Ai (by omega) ?_|(apply Ai<;>intro hb)
                  refine cB rfl [q] (hva q _ _ ?_ ak (by omega)) ?_
                  · simp only[ah,ap,hq,z0,z1,z2,z3,ag,seval,ae]<;>exact rfl
                  · simp only[aE,aF,az,aB,ax,bd,Au]
                | some p3 =>
                  obtain⟨v,r'⟩:=p3
                  have hat:fU (aZ xr)=some (⟨m,v⟩,r'):=by
                    unfold fU
                    rw[k1]
                    simp only[Option.bind_some,k2,k3,Option.map_some]
                  rw[lJ hen hgap hat hany]at g1
                  have hlt:=jX hat
                  have g2':=qW (dm g2) hat
                  have hva:=uM (aZ t) v r' (by omega) d2 k3
                  unfold bO at hva
                  repeat' first|simp only[results122,ntmps122,ap,aK,hq,z0,z1,z2,z3,da,Bt,Bf,Lm,ag,seval,ae]|exact rfl|((refine ja (xs:=?_) [b0+1,b0+384] ?_ (fun _=>?_) (fun _=>?_) rfl ((fun _=>htw _)) ?_);rotate_left 1;iterate 3 (focus (simp only[am,ah,results122,ntmps122,ap,aK,hq,z0,z1,z2,z3,da,Bt,Bf,Lm,ag,seval,ae]<;>(first|exact rfl|omega))))|((first|(refine ad ?_ [q] (hsk q _ _ ?_ ak (by omega)) ?_ ?_)|(refine ad ?_ [q] (p62 q _ _ ?_ ak (by omega)) ?_ ?_)|(refine ad ?_ [q] (hn1 q _ _ ?_ ak (by omega)) ?_ ?_)|(refine ad ?_ [q] (hva q _ _ ?_ ak (by omega)) ?_ ?_));iterate 3 (focus (simp only[ah,results122,ntmps122,ap,aK,hq,z0,z1,z2,z3,da,Bt,Bf,Lm,ag,seval,ae]<;>exact rfl)))|((first|(refine ad ?_ [q] (p63 q _ _ ?_ ak (by omega)) ?_ ?_)|(refine ad ?_ [q] (hsk1 q _ _ ?_ ak (by omega)) ?_ ?_));iterate 3 (focus (simp only[ah,results122,ntmps122,ap,aK,hq,z0,z1,z2,z3,da,Bt,Bf,Lm,ag,seval,ae]<;>exact rfl)))|((first|(refine ad ?_ [q] (p61 q _ _ ?_ ak (by omega)) ?_ ?_)|(refine ad ?_ [q] (hsk2 q _ _ ?_ ak (by omega)) ?_ ?_));iterate 3 (focus (simp only[ah,results122,ntmps122,ap,aK,hq,z0,z1,z2,z3,da,Bt,Bf,Lm,ag,seval,ae]<;>exact rfl)))|((first|apply Ca|apply Cb)<;>intro hb)|refine Ai (by omega) ?_|(apply Ai<;>intro hb)
                  have hnx:xl.map da++[[.str m,.str v]]=(xl++[(⟨m,v⟩:Pr)]).map da:=by simp[da]
                  have hnn:(xl++[(⟨m,v⟩:Pr)]).length=xl.length+1:=by simp
                  rw[hnx]
                  all_goals ((refine aJ cm (⟨xl++[(⟨m,v⟩:Pr)],r'⟩) [some q,some b0,some (b0+848)] ?_ ?_ ?_ ?_;rotate_left 2;(focus (show b0≤_;omega));(focus (refine⟨?_,?_⟩<;>(try simp only[bj,BU,aK,hq,z0,z1,z2,z3,hnn,Lm,ag,seval,ae,au])<;>(try omega)))))
                  all_goals (first|exact⟨g1,g2',by show r'.length+(xl++[(⟨m,v⟩:Pr)]).length≤16384;omega⟩|(show r'.length<xr.length;omega)|skip)
        · have hgd:decide ((aZ xr).length<xr.length)=false:=decide_eq_false hgap
          rw[hgd]at hsk
          repeat' first|simp only[results122,ntmps122,ap,aK,hq,z0,z1,z2,z3,aE,aF,az,aB,ax,bd,Bt,Bf,Lm,ag,seval,ae]|exact rfl|((first|(refine ad ?_ [q] (hsk q _ _ ?_ ak (by omega)) ?_ ?_)|(refine ad ?_ [q] (p62 q _ _ ?_ ak (by omega)) ?_ ?_));iterate 3 (focus (simp only[ah,results122,ntmps122,ap,aK,hq,z0,z1,z2,z3,aE,aF,az,aB,ax,bd,Bt,Bf,Lm,ag,seval,ae]<;>exact rfl)))|((refine ad ?_ [q] (p63 q _ _ ?_ ak (by omega)) ?_ ?_);iterate 3 (focus (simp only[ah,results122,ntmps122,ap,aK,hq,z0,z1,z2,z3,aE,aF,az,aB,ax,bd,Bt,Bf,Lm,ag,seval,ae]<;>exact rfl)))|(refine cB rfl [q] (gh q _ _) ?_)|((first|apply Ca|apply Cb)<;>intro hb)|refine Ai (by omega) ?_|(apply Ai<;>intro hb)
end Go.Proofs.YtcllbjanalhjgaaGreatDoor
