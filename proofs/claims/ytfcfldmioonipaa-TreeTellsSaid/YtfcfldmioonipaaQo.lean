/-
 Texts joined: XPb,XPe,XNm,XNn,XNo,XNp,XNq,XNr,XLj.
-/
import Derived.Test.YtfcfldmioonipaaQn
import Derived.Test.YtfcfldmioonipaaQk
import Derived.Test.YtfcfldmioonipaaQe
import Derived.Test.YtfcfldmioonipaaQh
namespace Go.Proofs.Ytfcfldmioonipaa
set_option maxRecDepth 100000
set_option maxHeartbeats 32000000
set_option linter.unusedSimpArgs false
set_option linter.unusedVariables false
open Go Go.RowKit Go.Lib
theorem tagL_ind {n:List UInt8}{P:List Pr→List UInt8→Tk→List UInt8→Prop}
  (h1:∀ l s k t,endO (skipL s)=some (k,t)→P l s ⟨k,n,l,[]⟩ t)
  (h2:∀ l s a r u v,endO (skipL s)=none→(skipL s).length<s.length→attrO (skipL s)=some (a,r)→(l.any fun b=>a.name==b.name)=false→tagL n (l++[a]) r=some (u,v)→P (l++[a]) r u v→P l s u v) :
  ∀(m:Nat) (l:List Pr) (s:List UInt8) (u:Tk) (v:List UInt8),s.length≤m→tagL n l s=some (u,v)→P l s u v:=by
 intro m
 induction m with
 | zero =>
  intro l s u v hm h
  obtain rfl:=List.length_eq_zero_iff.1 (Nat.le_zero.1 hm)
  rw[tag_gap (by rfl) (by simp[skipL])]at h;cases h
 | succ m ih =>
  intro l s u v hm h
  cases he:endO (skipL s) with
  | some p =>
   obtain⟨k,t⟩:=p
   rw[tag_end he]at h
   cases h
   exact h1 _ _ _ _ he
  | none =>
   cases ha:attrO (skipL s) with
   | none=>rw[tag_bad he ha]at h;cases h
   | some p =>
    obtain⟨a,r⟩:=p
    cases hd:l.any fun b=>a.name==b.name with
    | true=>rw[tag_twice he ha hd]at h;cases h
    | false =>
     by_cases hg:(skipL s).length<s.length
     ·rw[tag_attr he hg ha hd]at h
      have hl:=attr_lt ha
      have:=skip_le s
      exact h2 l s a r u v he hg ha hd h (ih _ _ _ _ (by omega) h)
     ·rw[tag_gap he hg]at h;cases h
theorem one_kind {s r:List UInt8}{t:Tk}(h:oneO s=some (t,r))(h4:t.kind=4):afterO 60 s=none∧readL (textT s)=some t.text∧r=textR s∧t=⟨4,[],[],t.text⟩:=by
 unfold oneO at h
 split at h
 ·rename_i u hu
  exfalso
  unfold tagO at h
  split at h
  ·obtain⟨⟨n,r1⟩,h1,h2⟩:=Option.bind_eq_some_iff.1 h
   obtain⟨r2,h3,e⟩:=Option.map_eq_some_iff.1 h2
   cases e
   cases h4
  ·obtain⟨⟨n,r1⟩,h1,h2⟩:=Option.bind_eq_some_iff.1 h
   have:t.kind=1∨t.kind=3:=by
    refine tagL_ind (n:=n) (P:=fun l s u v=>u.kind=1∨u.kind=3) ?_ (fun _ _ _ _ _ _ _ _ _ _ _ ih=>ih) _ [] r1 t r (Nat.le_refl _) h2
    intro l s k t he
    unfold endO at he
    split at he
    ·cases he;exact .inl rfl
    ·cases he;exact .inr rfl
    ·cases he
   omega
 ·rename_i hu
  obtain⟨x,h1,h2⟩:=Option.map_eq_some_iff.1 h
  cases h2
  exact⟨hu,h1,rfl,rfl⟩
theorem textR_head (s:List UInt8):∀ c,(textR s).head? = some c→c=60:=by
 intro c hc
 have:=List.head?_dropWhile_not textB s
 unfold textR at hc
 rw[hc]at this
 simpa [textB] using this
theorem point_len {a:List UInt8}{x:List UInt8}(h:meantL a=some x):x.length≤a.length+2∧(dec x).isSome=true:=by
 have hp:∀(o:Option Nat) (k:Nat),2≤k→pointW o=some x→x.length≤k+2∧(dec x).isSome=true:=by
  intro o k hk ho
  unfold pointW at ho
  obtain⟨n,_,hn⟩:=Option.bind_eq_some_iff.1 ho
  split at hn
  ·rename_i hm
   cases hn
   have:=(encodeRune_length (n:Int)).2
   have hd:=dec_enc [(n:Int)] (by simp[hm])
   simp only[enc,List.flatMap_cons,List.flatMap_nil,List.append_nil]at hd
   exact⟨by omega,by rw[hd];rfl⟩
  ·cases hn
 unfold meantL at h
 repeat' split at h
 ·rename_i e;cases h;subst e;exact⟨by decide,by decide⟩
 ·rename_i e;cases h;subst e;exact⟨by decide,by decide⟩
 ·rename_i e;cases h;subst e;exact⟨by decide,by decide⟩
 ·rename_i e;cases h;subst e;exact⟨by decide,by decide⟩
 ·rename_i e;cases h;subst e;exact⟨by decide,by decide⟩
 ·rename_i e1 e2
  refine hp _ _ ?_ h
  cases a with
  | nil=>cases e1
  | cons c a =>
   cases a with
   | nil=>cases e2
   | cons d a=>simp
 ·rename_i e1 e2
  refine hp _ _ ?_ h
  cases a with
  | nil=>cases e1
  | cons c a =>
   cases a with
   | nil=>simp[pointW,decL]at h
   | cons d a=>simp
 ·cases h
theorem readL_less:∀(n:Nat) (s x:List UInt8),s.length≤n→readL s=some x→x.length≤s.length
 | n,[],x,_,h=>by rw[readL_nil]at h;cases h;simp
 | 0,c::r,x,hn,_=>by simp at hn
 | n+1,c::r,x,hn,h=>by
  have hl:r.length≤n:=by simpa using hn
  by_cases h1:c=60
  ·subst h1;rw[readL_lt]at h;cases h
  by_cases h2:c=38
  ·subst h2
   cases hc:cut1 59 r with
   | none=>rw[readL_none hc]at h;cases h
   | some p =>
    obtain⟨u,v⟩:=p
    have hlen:=congrArg List.length (cut1_some hc).1
    cases hm:meantL u with
    | none=>rw[readL_bad hc hm]at h;cases h
    | some y =>
     rw[readL_ref hc hm]at h
     obtain⟨w,hw,rfl⟩:=Option.map_eq_some_iff.1 h
     simp only[List.length_append,List.length_cons]at hlen
     have h3:=readL_less n v w (by omega) hw
     have h4:=(point_len hm).1
     simp only[List.length_append,List.length_cons];omega
  ·rw[readL_other h1 h2]at h
   obtain⟨w,hw,rfl⟩:=Option.map_eq_some_iff.1 h
   have:=readL_less n r w hl hw
   simp only[List.length_cons];omega
theorem readL_high:∀ {p:List UInt8} (r:List UInt8),(∀ c∈p,128≤c.toNat)→readL (p++r)=(readL r).map (p ++ ·)
 | [],r,_=>by
  rw[List.nil_append]
  cases readL r<;>simp
 | c::p,r,h=>by
  have h0:=h c (by simp)
  rw[List.cons_append,readL_other (by rintro rfl;simp at h0) (by rintro rfl;simp at h0),readL_high r fun x hx=>h x (by simp[hx])]
  cases readL r<;>simp
theorem readL_dec:∀(n:Nat) (s x:List UInt8),s.length≤n→(dec s).isSome=true→readL s=some x→(dec x).isSome=true:=by
  intro n
  induction n with
  | zero =>
    intro s x hn _ h
    obtain rfl:=List.length_eq_zero_iff.1 (Nat.le_zero.1 hn)
    rw[readL_nil]at h;cases h;rfl
  | succ n ih =>
    intro s x hn hd h
    obtain⟨zs,hz⟩:=Option.isSome_iff_exists.1 hd
    obtain⟨hm,rfl⟩:=(dec_iff s zs).1 hz
    cases zs with
    | nil=>rw[show enc []=[] from rfl,readL_nil]at h;cases h;rfl
    | cons z zs =>
      simp only[List.all_cons,Bool.and_eq_true]at hm
      have e:enc (z::zs)=encodeRune z++enc zs:=by simp[enc]
      have hl:=(encodeRune_length z).1
      rw[e]at h hn hd
      rw[List.length_append]at hn
      have hdz:(dec (enc zs)).isSome=true:=by rw[dec_enc zs hm.2];rfl
      have hd1:(dec (encodeRune z)).isSome=true:=by
        have:=dec_enc [z] (by simp[hm.1])
        simp only[enc,List.flatMap_cons,List.flatMap_nil,List.append_nil]at this
        rw[this];rfl
      have hr:=(may_range hm.1).1
      by_cases hz128:z<128
      · rw [enc_low hr hz128]at h hd1 hd hn
        rw[List.singleton_append]at h hd
        generalize z.toNat.toUInt8=c at h hd1 hd hn
        simp only[List.length_cons,List.length_nil]at hn
        by_cases h1:c=60
        · subst h1;rw[readL_lt]at h;cases h
        by_cases h2:c=38
        · subst h2
          cases hc:cut1 59 (enc zs) with
          | none=>rw[readL_none hc]at h;cases h
          | some p =>
            obtain⟨u,v⟩:=p
            have hce:=(cut1_some hc).1
            have hlen:=congrArg List.length hce
            simp only[List.length_append,List.length_cons]at hlen
            cases hmm:meantL u with
            | none=>rw[readL_bad hc hmm]at h;cases h
            | some y =>
              rw[readL_ref hc hmm]at h
              obtain⟨w,hw,rfl⟩:=Option.map_eq_some_iff.1 h
              have hv:=(cut_text (d:=59) (by decide) hdz hce).2
              exact dec_add (point_len hmm).2 (ih v w (by omega) hv hw)
        · rw[readL_other h1 h2]at h
          obtain⟨w,hw,rfl⟩:=Option.map_eq_some_iff.1 h
          exact dec_add (a:=[c]) hd1 (ih _ w (by omega) hdz hw)
      · rw[readL_high _ (enc_high (by omega))]at h
        obtain⟨w,hw,rfl⟩:=Option.map_eq_some_iff.1 h
        exact dec_add hd1 (ih _ w (by omega) hdz hw)
theorem flat_text {s:List UInt8}(h:(dec s).isSome=true):(dec (s.map flatB)).isSome=true:=by
 obtain⟨zs,hz⟩:=Option.isSome_iff_exists.1 h
 obtain⟨hm,rfl⟩:=(dec_iff s zs).1 hz
 clear hz h
 induction zs with
 | nil=>rfl
 | cons z zs ih =>
  simp only[List.all_cons,Bool.and_eq_true]at hm
  have e:enc (z::zs)=encodeRune z++enc zs:=by simp[enc]
  rw[e,List.map_append]
  refine dec_add ?_ (ih hm.2)
  have hr:=(may_range hm.1).1
  by_cases hz:z<128
  ·rw[enc_low hr hz,List.map_cons,List.map_nil]
   unfold flatB
   split
   ·decide
   ·have:=dec_enc [z] (by simp[hm.1])
    simp only[enc,List.flatMap_cons,List.flatMap_nil,List.append_nil,enc_low hr hz]at this
    rw[this];rfl
  ·have:(encodeRune z).map flatB=encodeRune z:=flat_same fun c hc=>by
    have:=enc_high (z:=z) (by omega) c hc
    refine⟨?_,?_,?_⟩<;>(rintro rfl;simp at this)
   rw[this]
   have:=dec_enc [z] (by simp[hm.1])
   simp only[enc,List.flatMap_cons,List.flatMap_nil,List.append_nil]at this
   rw[this];rfl
theorem value_may {s v r:List UInt8}(h:(dec s).isSome=true)(hl:s.length≤16384)(hv:valueO s=some (v,r)):ptsErr v=0∧(escW true v).length+6*r.length+12≤6*s.length:=by
 obtain⟨a,h1,h2⟩:=value_some hv
 obtain⟨q,hq,rfl,_⟩:=quote_some h1
 have hq128:q.toNat<128:=by rcases hq with rfl|rfl<;>decide
 have d1:=(cut_text hq128 (a:=[]) h rfl).2
 have d2:=(cut_text hq128 d1 rfl).1
 unfold toldO at h2
 have d3:=readL_dec _ _ _ (Nat.le_refl _) (flat_text d2) h2
 have l3:=readL_less _ _ _ (Nat.le_refl _) h2
 have:=(escW_length true v).2
 simp only[List.length_map,List.length_cons,List.length_append]at l3 hl ⊢
 exact⟨ptsErr_iff.2 ⟨by omega,d3⟩,by omega⟩
theorem attr_may {s r:List UInt8}{a:Pr}(h:(dec s).isSome=true)(hl:s.length≤16384)(ha:attrO s=some (a,r)):fullL a.name=true∧ptsErr a.value=0∧(attrW a).length+6*r.length≤6*s.length:=by
 obtain⟨r1,t,h1,h2,h3⟩:=attr_some ha
 obtain⟨e,_,hf,_⟩:=name_lt h1
 have d1:=skip_dec (name_dec h h1)
 rw[h2]at d1
 have d2:=skip_dec (cut_text (d:=61) (by decide) (a:=[]) d1 rfl).2
 have l1:=congrArg List.length e
 have l2:=skip_le r1
 have l3:=skip_le t
 rw[h2]at l2
 simp only[List.length_append,List.length_cons]at l1 l2
 obtain⟨g1,g2⟩:=value_may d2 (by omega) h3
 refine⟨hf,g1,?_⟩
 simp only[attrW,List.length_append,List.length_cons,List.length_nil]
 omega
theorem tagL_may {n:List UInt8}(hn:fullL n=true){l:List Pr}{s v:List UInt8}{u:Tk}(h:tagL n l s=some (u,v))(hd:(dec s).isSome=true)(hl:s.length≤16384)(hok:attrsTo l l.length):u.name=n∧u.text=[]∧(u.kind=1∨u.kind=3)∧attrsTo u.attrs u.attrs.length∧(dec v).isSome=true∧(attrsW u.attrs).length+(endW u.kind).length+6*v.length≤(attrsW l).length+6*s.length:=by
 refine tagL_ind (n:=n) (P:=fun l s u v=>(dec s).isSome=true→s.length≤16384→attrsTo l l.length→u.name=n∧u.text=[]∧(u.kind=1∨u.kind=3)∧attrsTo u.attrs u.attrs.length∧(dec v).isSome=true∧(attrsW u.attrs).length+(endW u.kind).length+6*v.length≤(attrsW l).length+6*s.length) ?_ ?_ _ l s u v (Nat.le_refl _) h hd hl hok
 ·intro l s k t he hd hl hok
  have hs:=skip_dec hd
  have hsl:=skip_le s
  unfold endO at he
  split at he
  ·rename_i e
   cases he
   rw[e]at hs hsl
   refine⟨rfl,rfl,.inl rfl,hok,(cut_text (d:=62) (by decide) (a:=[]) hs rfl).2,?_⟩
   simp only[List.length_cons]at hsl
   simp[endW];omega
  ·rename_i e
   cases he
   rw[e]at hs hsl
   have h1:=(cut_text (d:=47) (by decide) (a:=[]) hs rfl).2
   refine⟨rfl,rfl,.inr rfl,hok,(cut_text (d:=62) (by decide) (a:=[]) h1 rfl).2,?_⟩
   simp only[List.length_cons]at hsl
   simp[endW];omega
  ·cases he
 ·intro l s a r u v he hg ha hd2 _ ih hd hl hok
  have hs:=skip_dec hd
  obtain⟨g1,g2,g3⟩:=attr_may hs (by omega) ha
  have hlt:=attr_lt ha
  have hr:=attr_dec hs ha
  obtain⟨k1,k2,k3,k4,k5,k6⟩:=ih hr (by omega) (by
   intro i b hi hb
   by_cases hil:i<l.length
   ·rw[List.getElem?_append_left hil]at hb
    rw[List.take_append_of_le_length (by omega)]
    exact hok i b hil hb
   ·have:i=l.length:=by simp at hi;omega
    subst this
    rw[List.getElem?_append_right (by omega)]at hb
    simp at hb;subst hb
    rw[List.take_append_of_le_length (by omega),List.take_length]
    unfold okP
    simp[hd2,g1,g2])
  refine⟨k1,k2,k3,k4,k5,?_⟩
  have:(attrsW (l++[a])).length=(attrsW l).length+(attrW a).length:=by simp[attrsW]
  omega
theorem one_may {s r:List UInt8}{t:Tk}(hne:s≠[])(h:oneO s=some (t,r))(hd:(dec s).isSome=true)(hl:s.length≤16384)(h16:t.attrs.length≤16):tokL t=true∧(dec r).isSome=true∧(t.kind=4 → ∀ c,r.head? = some c→c=60)∧(t.kind=4→afterO 60 s=none)∧(tokW t).length+6*r.length≤6*s.length:=by
  by_cases h4:t.kind=4
  · obtain ⟨g1,g2,rfl,g4⟩:=one_kind h h4
    have e:s=textT s++textR s:=(List.takeWhile_append_dropWhile).symm
    have le:=congrArg List.length e
    rw[List.length_append]at le
    obtain⟨d1,d2⟩:=text_dec hd
    have l1:=readL_less _ _ _ (Nat.le_refl _) g2
    have l2:=(escW_length false t.text).2
    have d3:=readL_dec _ _ _ (Nat.le_refl _) d1 g2
    have hx:t.text≠[]:=by
      intro hx
      have hT:textT s≠[]:=by
        cases s with
        | nil=>exact absurd rfl hne
        | cons c s =>
          have hc:textB c=true:=by
            rw[after_cons]at g1
            split at g1
            · cases g1
            · rename_i e;simp[textB,e]
          unfold textT
          rw[List.takeWhile_cons,if_pos hc];simp
      rw[hx]at g2
      cases hT':textT s with
      | nil=>exact hT hT'
      | cons c w =>
        rw[hT']at g2
        by_cases c60:c=60
        · subst c60;rw[readL_lt]at g2;cases g2
        by_cases c38:c=38
        · subst c38
          cases hc:cut1 59 w with
          | none=>rw[readL_none hc]at g2;cases g2
          | some p =>
            obtain⟨u,v⟩:=p
            cases hm:meantL u with
            | none=>rw[readL_bad hc hm]at g2;cases g2
            | some y =>
              rw[readL_ref hc hm]at g2
              obtain⟨z,_,hz⟩:=Option.map_eq_some_iff.1 g2
              have:=(List.append_eq_nil_iff.1 hz).1
              subst this
              unfold meantL at hm
              repeat' split at hm
              all_goals (first|cases hm;done|skip)
              all_goals (
                unfold pointW at hm
                obtain⟨n,_,hn⟩:=Option.bind_eq_some_iff.1 hm
                split at hn
                · have:=(encodeRune_length (n:Int)).1
                  simp only[Option.some.injEq]at hn
                  rw[hn]at this
                  simp at this
                · cases hn)
        · rw[readL_other c60 c38]at g2
          obtain⟨z,_,hz⟩:=Option.map_eq_some_iff.1 g2
          cases hz
    refine⟨?_,d2,fun _=>textR_head s,fun _=>g1,?_⟩
    · rw[g4]
      unfold tokL
      rw[if_neg (show ¬((4:Nat)=1∨(4:Nat)=3) by decide),if_neg (show ¬(4:Nat)=2 by decide),if_pos rfl]
      have:ptsErr t.text=0:=ptsErr_iff.2 ⟨by omega,d3⟩
      have hxe:t.text.isEmpty=false:=by rw[List.isEmpty_eq_false_iff];exact hx
      simp[this,hxe]
    · have:tokW t=escW false t.text:=by unfold tokW;rw[if_pos h4]
      rw[this]
      omega
  · have hh:∃ u,afterO 60 s=some u:=by
      cases ha:afterO 60 s with
      | some u=>exact⟨u,rfl⟩
      | none =>
        exfalso
        unfold oneO at h
        rw[ha]at h
        obtain⟨x,_,hx⟩:=Option.map_eq_some_iff.1 h
        cases hx
        exact h4 rfl
    obtain⟨u,hu⟩:=hh
    have hs:=after_some hu
    subst hs
    have du:=(cut_text (d:=60) (by decide) (a:=[]) hd rfl).2
    simp only[List.length_cons]at hl
    unfold oneO at h
    rw[hu]at h
    simp only at h
    unfold tagO at h
    split at h
    · rename_i w hw
      obtain rfl:=after_some hw
      have dw:=(cut_text (d:=47) (by decide) (a:=[]) du rfl).2
      obtain⟨⟨n,r1⟩,h1,h2⟩:=Option.bind_eq_some_iff.1 h
      obtain⟨r2,h3,e⟩:=Option.map_eq_some_iff.1 h2
      cases e
      obtain⟨e1,_,hf,_⟩:=name_lt h1
      have l1:=congrArg List.length e1
      have l2:=skip_le r1
      have d1:=skip_dec (name_dec dw h1)
      rw[after_some h3]at l2 d1
      simp only[List.length_append,List.length_cons]at l1 l2
      refine⟨?_,(cut_text (d:=62) (by decide) (a:=[]) d1 rfl).2,fun h=>absurd h h4,fun h=>absurd h h4,?_⟩
      · unfold tokL
        rw[if_neg (show ¬((2:Nat)=1∨(2:Nat)=3) by decide),if_pos rfl]
        simp[hf]
      · have:tokW ⟨2,n,[],[]⟩=[60,47]++n++[62]:=by unfold tokW;rw[if_neg (show ¬(2:Nat)=4 by decide),if_pos rfl]
        rw[this]
        simp only[List.length_append,List.length_cons,List.length_nil]
        omega
    · rename_i hw
      obtain⟨⟨n,r1⟩,h1,h2⟩:=Option.bind_eq_some_iff.1 h
      obtain⟨e1,_,hf,_⟩:=name_lt h1
      have l1:=congrArg List.length e1
      simp only[List.length_append]at l1
      have d1:=name_dec du h1
      obtain⟨k1,k2,k3,k4,k5,k6⟩:=tagL_may hf h2 d1 (by show r1.length≤16384;omega) (by intro i a hi;simp at hi)
      refine⟨?_,k5,fun h=>absurd h h4,fun h=>absurd h h4,?_⟩
      · unfold tokL
        rw[if_pos k3,k1,k2,hf,attrs_iff.2 ⟨h16,k4⟩]
        rfl
      · have:tokW t=[60]++t.name++attrsW t.attrs++endW t.kind:=by
          unfold tokW endW
          rw[if_neg h4,if_neg (by rcases k3 with h|h<;>rw[h]<;>decide)]
        rw[this,k1]
        have:attrsW []=[]:=rfl
        rw[this]at k6
        simp only[List.length_append,List.length_cons,List.length_nil]at k6 ⊢
        omega
theorem adj_snoc:∀ {l:List Tk} {t:Tk},adjL l=false→(∀ u,l.getLast? = some u → ¬(u.kind=4∧t.kind=4))→adjL (l++[t])=false
 | [],t,_,_=>rfl
 | [a],t,_,h=>by
  have:=h a rfl
  simp only[List.singleton_append,adjL,Bool.or_false]
  simp only[Bool.and_eq_false_iff,beq_eq_false_iff_ne]
  by_cases e:a.kind=4
  ·right;exact fun e2=>this ⟨e,e2⟩
  ·left;exact e
 | a::b::l,t,h,h2=>by
  simp only[List.cons_append,adjL,Bool.or_eq_false_iff]at h ⊢
  exact⟨h.1,adj_snoc (l:=b::l) h.2 (fun u hu=>h2 u (by rw[List.getLast?_cons_cons];exact hu))⟩
theorem lexG_may (n:Nat):∀(m:Nat) (acc:List Tk) (s:List UInt8),s.length≤m→s.length≤n→(dec s).isSome=true→s.length≤16384→(∀ t∈acc,tokL t=true)→adjL acc=false→acc.length≤512→(∀ t,acc.getLast? = some t→t.kind=4 → ∀ c,s.head? = some c→c=60) →
  ((lexG n acc s).2.2=0→(∀ t∈(lexG n acc s).1,tokL t=true)∧adjL (lexG n acc s).1=false∧(lexG n acc s).1.length≤512∧(lexG n acc s).1.length≤acc.length+s.length∧(lexG n acc s).2.1=0∧(toksW (lexG n acc s).1).length≤(toksW acc).length+6*s.length) ∧
  ((lexG n acc s).2.2≠0→(lexG n acc s).1=[]∧(lexG n acc s).2.1<n):=by
 intro m
 induction m with
 | zero =>
  intro acc s hm _ _ _ h1 h2 h3 _
  obtain rfl:=List.length_eq_zero_iff.1 (Nat.le_zero.1 hm)
  rw[lexG_nil]
  exact⟨fun _=>⟨h1,h2,h3,by simp,rfl,by simp⟩,fun h=>absurd rfl h⟩
 | succ m ih =>
  intro acc s hm hn hd hl h1 h2 h3 h4
  by_cases hs:s=[]
  ·subst hs
   rw[lexG_nil]
   exact⟨fun _=>⟨h1,h2,h3,by simp,rfl,by simp⟩,fun h=>absurd rfl h⟩
  ·have hpos:=List.length_pos_iff.2 hs
   by_cases hmany:512≤acc.length
   ·rw[lexG_many hs hmany]
    exact⟨fun h=>absurd (show(4:Int)=0 from h) (by decide),fun _=>⟨rfl,by show n-s.length<n;omega⟩⟩
   ·cases ho:oneO s with
    | none =>
     rw[lexG_bad hs (by omega) ho]
     exact⟨fun h=>absurd (show(80:Int)=0 from h) (by decide),fun _=>⟨rfl,by show n-s.length<n;omega⟩⟩
    | some p =>
     obtain⟨t,r⟩:=p
     by_cases ha:16<t.attrs.length
     ·rw[lexG_great hs (by omega) ho ha]
      exact⟨fun h=>absurd (show(4:Int)=0 from h) (by decide),fun _=>⟨rfl,by show n-s.length<n;omega⟩⟩
     ·have hlt:=one_lt hs ho
      obtain⟨k1,k2,k3,k4,k5⟩:=one_may hs ho hd hl (by omega)
      rw[lexG_go hs (by omega) ho (by omega)]
      obtain⟨g1,g2⟩:=ih (acc++[t]) r (by omega) (by omega) k2 (by omega) (by
       intro u hu
       rcases List.mem_append.1 hu with hu|hu
       ·exact h1 u hu
       ·simp at hu;subst hu;exact k1) (adj_snoc h2 (by
       rintro u hu ⟨e1,e2⟩
       have h60:=h4 u hu e1
       have hn:=k4 e2
       cases s with
       | nil=>exact hs rfl
       | cons c s =>
        have:=h60 c rfl
        subst this
        rw[after_cons,if_pos rfl]at hn
        cases hn)) (by simp;omega) (by
       intro u hu hk
       simp at hu;subst hu
       exact k3 hk)
      refine⟨fun h=>?_,g2⟩
      obtain⟨e1,e2,e3,e4,e5,e6⟩:=g1 h
      have:(toksW (acc++[t])).length=(toksW acc).length+(tokW t).length:=by simp[toksW]
      simp only[List.length_append,List.length_cons,List.length_nil]at e4
      exact⟨e1,e2,e3,by omega,e5,by omega⟩
theorem lex_may (s:List UInt8):((lexA s).2.2=0→(∀ t∈(lexA s).1,tokL t=true)∧adjL (lexA s).1=false∧(lexA s).1.length≤512∧(lexA s).1.length≤s.length∧(lexA s).2.1=0∧(toksW (lexA s).1).length≤6*s.length)∧((lexA s).2.2≠0→(lexA s).1=[]∧(lexA s).2.1≤s.length∧((lexA s).2.2=80→(lexA s).2.1<s.length)):=by
 unfold lexA
 by_cases hp:ptsErr s=0
 ·rw[if_neg (by simp[hp])]
  obtain⟨hl,hd⟩:=ptsErr_iff.1 hp
  obtain⟨h1,h2⟩:=lexG_may s.length s.length [] s (Nat.le_refl _) (Nat.le_refl _) hd hl (by simp) rfl (by simp) (by simp)
  refine⟨fun h=>?_,fun h=>?_⟩
  ·obtain⟨e1,e2,e3,e4,e5,e6⟩:=h1 h
   exact⟨e1,e2,e3,by simpa using e4,e5,by simpa [toksW] using e6⟩
  ·obtain⟨e1,e2⟩:=h2 h
   exact⟨e1,by omega,fun _=>e2⟩
 ·rw[if_pos (by simpa using hp)]
  refine⟨fun h=>absurd h (by simpa using hp),fun _=>⟨rfl,by simp,fun h=>?_⟩⟩
  exfalso
  have h:ptsErr s=80:=h
  unfold ptsErr at h
  split at h
  ·cases h
  ·split at h<;>cases h
end Go.Proofs.Ytfcfldmioonipaa
namespace Go.Proofs.Ytfcfldmioonipaa
set_option maxRecDepth 100000
set_option maxHeartbeats 32000000
set_option linter.unusedSimpArgs false
set_option linter.unusedVariables false
open Go Go.RowKit Vm Go.Lib Try
open Vm renaming cond_bool→Ca,cond_bit→Cb
open And renaming intro→Ai
open List renaming length_map→Lm,not_mem_nil→Ln,map_nil→Lo,map_cons→Lc,mem_cons→Lk
open Bool renaming not_false→Bf,not_true→Bt
section
variable {cx:Cx} {Q:Post} {st:List Frm} {nm:Nat} {e:Env} {M:Mem} {d:Bool} {fs:List (List Nat)} {ops r:List Oper} {dst:Option Tmp} {t:TypeId} {pos:String} {af:Array Edge} {gd:Option (Nat×Bool)} {i:Nat}
end
theorem tk_eq {x y:Tk} : x=y↔x.kind=y.kind∧x.name=y.name∧x.text=y.text∧x.attrs=y.attrs:=by
 cases x;cases y;simp only[Tk.mk.injEq];constructor
 ·rintro ⟨h1,h2,h3,h4⟩;exact⟨h1,h2,h4,h3⟩
 ·rintro ⟨h1,h2,h3,h4⟩;exact⟨h1,h2,h4,h3⟩
theorem sameTk_ev (a b:List Tk)(ha:a.length≤lim)(hb:b.length≤lim)(ha2:∀ t∈a,t.attrs.length≤lim)(hb2:∀ t∈b,t.attrs.length≤lim)(nm:Nat):Ev cx 20 nm [.sl false 4 (a.map tkC),.sl false 4 (b.map tkC)] Mem.nil (.bool (decide (a=b))) []:=by
  unfold lim at ha hb
  by_cases hl:a.length=b.length
  · have e1 : (((a.length:Nat):Int) !=((b.length:Nat):Int))=false:=len_bne_eq hl
    refine ev_go rfl (fun cargs w=>call20 cargs w) func20 rfl mixed (by kernel_rfl) rfl ?_;intro b0 hb0
    repeat' first|simp only[fins,mems,results20,ntmps20,wks,e1,Lm,vcs,seval,tys]|exact rfl|refine call_off (v:=.any) ?_|refine draw_end (by decide +kernel) ?_|((first|apply Ca|apply Cb)<;>intro hb)|refine Ai (by omega) ?_|(apply Ai<;>intro hb)
    (refine loop_can2 cxG (fun x:Nat=>a.length-x) (fun x=>x≤a.length∧sameTo a b x) (b0+16) (fun x=>[(0,.sl false 4 (a.map tkC)),(1,.sl false 4 (b.map tkC)),(5,.int .i64 x)]) (fun x=>[]) (0) [] ?_ ?_ ?_ ?_;rotate_left 1;(focus (show b0≤_;omega));(focus (refine⟨?_,?_⟩<;>(try simp only[cans,plain_tk,Lm,vcs,seval,tys,injs])<;>(try omega)));rotate_left 1)
    · exact⟨Nat.zero_le _,fun i hi=>by omega⟩
    · rintro k ⟨hk,hsm⟩
      by_cases hlt:k<a.length
      · obtain ⟨x,hx⟩:∃ x,a[k]? = some x:=⟨_,List.getElem?_eq_getElem hlt⟩
        obtain⟨y,hy⟩:∃ y,b[k]? = some y:=⟨_,List.getElem?_eq_getElem (hl ▸ hlt)⟩
        have hax:=tk_at hx
        have hby:=tk_at hy
        have hd:decide (k<a.length)=true:=decide_eq_true hlt
        have hlt2:k<b.length:=hl ▸ hlt
        have hwk:IntKind.i64.wrap ((k:Int)+1)=((k+1:Nat):Int):=wrap_in (by omega) (by omega)
        have hsp:=samePr_ev x.attrs y.attrs (ha2 x (List.mem_of_getElem? hx)) (hb2 y (List.mem_of_getElem? hy))
        by_cases hxy:x=y
        · subst hxy
          have hsm':=sameTo_succ hsm hx hy
          have hz:decide (x.attrs=x.attrs)=true:=decide_eq_true rfl
          rw[hz]at hsp
          repeat' first|simp only[fins,mems,results20,ntmps20,wks,plain_pr,hax,hby,tkC,hd,hlt,hlt2,beq_self_eq_true,bne_self_eq_false,Bool.and_self,Bt,Lm,vcs,seval,tys]|exact rfl|refine call_off (v:=.any) ?_|(first|(refine call_fn ?_ (hsp _) ?_)|(refine call_fn_g ?_ (fun _=>hsp _) ?_))|refine draw_end (by decide +kernel) ?_|((first|apply Ca|apply Cb)<;>intro hb)|refine Ai (by omega) ?_|(apply Ai<;>intro hb)
          all_goals ((refine again_can2 cxG (k+1) [] ?_ ?_ ?_ ?_;rotate_left 2;(focus (show b0≤_;omega));(focus (refine⟨?_,?_⟩<;>(try simp only[cans,plain_tk,hwk,Lm,vcs,seval,tys,injs])<;>(try omega)))))
          all_goals (first|(show a.length-(k+1)<a.length-k;omega)|exact⟨hlt,hsm'⟩|skip)
        · have hr:decide (a=b)=false:=decide_eq_false (same_no hx hy hxy)
          have hcs:((x.kind:Int) !=(y.kind:Int))=true∨(((x.kind:Int) !=(y.kind:Int))=false∧(x.name==y.name)=false)∨(((x.kind:Int) !=(y.kind:Int))=false∧(x.name==y.name)=true∧(x.text==y.text)=false)∨(((x.kind:Int) !=(y.kind:Int))=false∧(x.name==y.name)=true∧(x.text==y.text)=true∧decide (x.attrs=y.attrs)=false):=by
            by_cases h1:x.kind=y.kind
            · have k1:=len_bne_eq h1
              by_cases h2:x.name=y.name
              · have k2:(x.name==y.name)=true:=by rw[h2];simp
                by_cases h3:x.text=y.text
                · have k3:(x.text==y.text)=true:=by rw[h3];simp
                  right;right;right
                  exact⟨k1,k2,k3,decide_eq_false (fun h4=>hxy (tk_eq.2 ⟨h1,h2,h3,h4⟩))⟩
                · right;right;left;exact⟨k1,k2,beq_false_of_ne h3⟩
              · right;left;exact⟨k1,beq_false_of_ne h2⟩
            · left;exact len_bne_ne h1
          generalize hg1:((x.kind:Int) !=(y.kind:Int))=g1 at hcs
          generalize hg2:(x.name==y.name)=g2 at hcs
          generalize hg3:(x.text==y.text)=g3 at hcs
          generalize hg4:decide (x.attrs=y.attrs)=g4 at hcs hsp
          rcases hcs with rfl|⟨rfl,rfl⟩|⟨rfl,rfl,rfl⟩|⟨rfl,rfl,rfl,rfl⟩
          all_goals ((repeat' first|simp only[fins,mems,results20,ntmps20,wks,plain_pr,hax,hby,tkC,hd,hlt,hlt2,hr,hg1,hg2,hg3,Bt,Bf,Lm,vcs,seval,tys]|exact rfl|refine call_off (v:=.any) ?_|(first|(refine call_fn ?_ (hsp _) ?_)|(refine call_fn_g ?_ (fun _=>hsp _) ?_))|(refine call_off (v:=.any) ?_)|refine draw_end (by decide +kernel) ?_|((first|apply Ca|apply Cb)<;>intro hb)|refine Ai (by omega) ?_|(apply Ai<;>intro hb)|refine Fin.pure ?_ ?_ ?_|simp only[injs]))
      · have hke:k=a.length:=by omega
        subst hke
        have hr:decide (a=b)=true:=decide_eq_true (same_all hl hsm)
        have hd:decide (a.length<a.length)=false:=decide_eq_false (by omega)
        (repeat' first|simp only[fins,mems,results20,ntmps20,wks,hd,hr,Lm,vcs,seval,tys]|exact rfl|refine call_off (v:=.any) ?_|refine draw_end (by decide +kernel) ?_|((first|apply Ca|apply Cb)<;>intro hb)|refine Ai (by omega) ?_|(apply Ai<;>intro hb)|refine Fin.pure ?_ ?_ ?_|simp only[injs])
  · have e1:(((a.length:Nat):Int) !=((b.length:Nat):Int))=true:=len_bne_ne hl
    have hr:decide (a=b)=false:=decide_eq_false (fun e=>hl (congrArg List.length e))
    refine ev_go rfl (fun cargs w=>call20 cargs w) func20 rfl mixed (by kernel_rfl) rfl ?_;intro b0 hb0
    (repeat' first|simp only[fins,mems,results20,ntmps20,wks,e1,hr,Lm,vcs,seval,tys]|exact rfl|refine call_off (v:=.any) ?_|refine draw_end (by decide +kernel) ?_|((first|apply Ca|apply Cb)<;>intro hb)|refine Ai (by omega) ?_|(apply Ai<;>intro hb)|refine Fin.pure ?_ ?_ ?_|simp only[injs])
end Go.Proofs.Ytfcfldmioonipaa
