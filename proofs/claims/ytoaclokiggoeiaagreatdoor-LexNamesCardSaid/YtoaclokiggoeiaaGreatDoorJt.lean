/-
  Texts joined: XPa, XPb.
-/
import Derived.Test.YtoaclokiggoeiaaGreatDoorJr
namespace Go.Proofs.YtoaclokiggoeiaaGreatDoor
set_option maxRecDepth 100000
set_option maxHeartbeats 32000000
set_option linter.unusedSimpArgs false
set_option linter.unusedVariables false
open Go Go.RowKit Go.Lib
theorem part_word {c : UInt8} {f : Bool} (h : partB f c = true) : wordB c = true := by
  unfold wordB
  cases f with
  | true =>
    have : partB false c = true := by
      unfold partB at h ⊢
      simp only [Bool.not_true,Bool.false_and,Bool.or_false] at h
      rw [h]; rfl
    rw [this]; rfl
  | false => rw [h]; rfl
theorem named_word {s : List UInt8} (h : nameL s = true) : s.all wordB = true := by
  cases s with
  | nil => cases h
  | cons c r =>
    simp only [nameL,Bool.and_eq_true,List.all_eq_true] at h
    simp only [List.all_cons,Bool.and_eq_true,List.all_eq_true]
    exact ⟨part_word h.1, fun x hx => part_word (h.2 x hx)⟩
theorem full_word {s : List UInt8} (h : fullL s = true) : s.all wordB = true := by
  unfold fullL at h
  cases hc : cut1 58 s with
  | none => rw [hc] at h; exact named_word h
  | some p =>
    obtain ⟨a, b⟩ := p
    rw [hc] at h
    simp only [Bool.and_eq_true] at h
    rw [(cut1_some hc).1, List.all_append, List.all_cons, named_word h.1, named_word h.2]
    rfl
theorem word_stop {n r : List UInt8} (h : n.all wordB = true) (hr : ∀ c, r.head? = some c → wordB c = false) : wordT (n ++ r) = n ∧ wordR (n ++ r) = r := by
  induction n with
  | nil =>
    cases r with
    | nil => exact ⟨rfl, rfl⟩
    | cons c r =>
      have := hr c rfl
      unfold wordT wordR
      simp [List.takeWhile_cons,List.dropWhile_cons,this]
  | cons x n ih =>
    simp only [List.all_cons,Bool.and_eq_true] at h
    obtain ⟨h1, h2⟩ := ih h.2
    unfold wordT wordR at *
    simp only [List.cons_append,List.takeWhile_cons,List.dropWhile_cons,h.1,if_true,h1,h2,and_self]
theorem name_read {n r : List UInt8} (h : fullL n = true) (hr : ∀ c, r.head? = some c → wordB c = false) : nameO (n ++ r) = some (n, r) := by
  obtain ⟨h1, h2⟩ := word_stop (full_word h) hr
  unfold nameO
  rw [h1, h2, if_pos h]
theorem word_may : ∀ c : UInt8, wordB c = true → c.toNat < 128 ∧ may (c.toNat : Int) = true ∧ c ≠ 47 ∧ c ≠ 60 ∧ c ≠ 62 ∧ blankB c = false := by
  have key : ∀ n : Fin 256, wordB (UInt8.ofNat n.val) = true → n.val < 128 ∧ may (n.val : Int) = true ∧ UInt8.ofNat n.val ≠ 47 ∧ UInt8.ofNat n.val ≠ 60 ∧ UInt8.ofNat n.val ≠ 62 ∧ blankB (UInt8.ofNat n.val) = false := by decide +kernel
  intro c hc
  have := key ⟨c.toNat, c.toNat_lt⟩ (by simpa using hc)
  simpa using this
theorem dec_byte {c : UInt8} (h1 : c.toNat < 128) (h2 : may (c.toNat : Int) = true) : dec [c] = some [(c.toNat : Int)] := by
  have e : encodeRune (c.toNat : Int) = [c] := by
    rw [enc_low (by omega) (by omega)]; simp
  have := dec_enc [(c.toNat : Int)] (by simp [h2])
  simpa only [enc, List.flatMap_cons, List.flatMap_nil, List.append_nil, e] using this
theorem dec_add {a b : List UInt8} (ha : (dec a).isSome = true) (hb : (dec b).isSome = true) : (dec (a ++ b)).isSome = true := by
  obtain ⟨x, hx⟩ := Option.isSome_iff_exists.1 ha
  obtain ⟨y, hy⟩ := Option.isSome_iff_exists.1 hb
  rw [dec_both hx hy]; rfl
theorem dec_low : ∀ {s : List UInt8}, (∀ c ∈ s, c.toNat < 128 ∧ may (c.toNat : Int) = true) → (dec s).isSome = true
  | [], _ => rfl
  | c :: s, h => by
    have h1 := h c (by simp)
    have h2 := dec_low (s := s) (fun x hx => h x (by simp [hx]))
    exact dec_add (a := [c]) (by rw [dec_byte h1.1 h1.2]; rfl) h2
theorem dec_full {s : List UInt8} (h : fullL s = true) : (dec s).isSome = true :=
  dec_low fun c hc => by
    have := word_may c (List.all_eq_true.1 (full_word h) c hc)
    exact ⟨this.1, this.2.1⟩
theorem full_head {n : List UInt8} (h : fullL n = true) : ∃ c t, n = c :: t ∧ wordB c = true := by
  cases n with
  | nil => exact absurd rfl (full_ne h)
  | cons c t =>
    have := full_word h
    simp only [List.all_cons,Bool.and_eq_true] at this
    exact ⟨c, t, rfl, this.1⟩
theorem skip_stop {r : List UInt8} (h : ∀ c, r.head? = some c → blankB c = false) : skipL r = r := by
  cases r with
  | nil => rfl
  | cons c r =>
    unfold skipL
    rw [List.dropWhile_cons, if_neg (by simp [h c rfl])]
theorem skip_gap : ∀ {g r : List UInt8}, g.all blankB = true → skipL (g ++ r) = skipL r
  | [], _, _ => rfl
  | c :: g, r, h => by
    simp only [List.all_cons,Bool.and_eq_true] at h
    have := skip_gap (r := r) h.2
    unfold skipL at *
    rw [List.cons_append, List.dropWhile_cons, if_pos h.1, this]
theorem skip_full {n r : List UInt8} (h : fullL n = true) : skipL (n ++ r) = n ++ r := by
  obtain ⟨c, t, rfl, hc⟩ := full_head h
  refine skip_stop fun x hx => ?_
  simp at hx; subst hx
  exact (word_may _ hc).2.2.2.2.2
theorem flat_same : ∀ {s : List UInt8}, (∀ c ∈ s, c ≠ 9 ∧ c ≠ 10 ∧ c ≠ 13) → s.map flatB = s
  | [], _ => rfl
  | c :: s, h => by
    have h1 := h c (by simp)
    rw [List.map_cons, flat_same fun x hx => h x (by simp [hx])]
    congr 1
    unfold flatB blankB
    by_cases h32 : c = 32
    · subst h32; rfl
    · simp [h32,h1.1,h1.2.1,h1.2.2]
theorem quote_read {q : UInt8} {a r : List UInt8} (hq : q = 39 ∨ q = 34) (ha : q ∉ a) : quoteO (q :: (a ++ q :: r)) = some (a, r) := by
  rw [quote_cons, if_pos hq, cut1_of ha]
theorem esc_told (v : List UInt8) : toldO (escW true v) = some v := by
  unfold toldO
  rw [flat_same, readL_escW]
  intro c hc
  have := escW_all true hc
  simp only [Bool.not_true,Bool.false_or,Bool.and_eq_true,bne_iff_ne,ne_eq] at this
  exact ⟨this.2.1.2, this.2.2, this.1.2⟩
theorem value_read (v r : List UInt8) : valueO (34 :: (escW true v ++ 34 :: r)) = some (v, r) := by
  have hn : (34 : UInt8) ∉ escW true v := fun h => by
    have := escW_all true h
    simp at this
  unfold valueO
  rw [quote_read (.inr rfl) hn]
  simp only [Option.bind_some,esc_told,Option.map_some]
theorem attr_read {a : Pr} (h : fullL a.name = true) (r : List UInt8) : attrO (a.name ++ 61 :: 34 :: (escW true a.value ++ 34 :: r)) = some (a, r) := by
  unfold attrO
  rw [name_read h (by intro c hc; simp at hc; subst hc; decide)]
  have h1 : skipL (61 :: 34 :: (escW true a.value ++ 34 :: r)) = 61 :: 34 :: (escW true a.value ++ 34 :: r) := skip_stop (by intro c hc; simp at hc; subst hc; decide)
  have h2 : skipL (34 :: (escW true a.value ++ 34 :: r)) = 34 :: (escW true a.value ++ 34 :: r) := skip_stop (by intro c hc; simp at hc; subst hc; decide)
  simp only [Option.bind_some,h1,after_cons,if_true,h2,value_read,Option.map_some]
theorem end_word {c : UInt8} {t : List UInt8} (h : wordB c = true) : endO (c :: t) = none := by
  have := word_may c h
  unfold endO
  split
  · rename_i e; cases e; exact absurd rfl this.2.2.2.2.1
  · rename_i e; cases e; exact absurd rfl this.2.2.1
  · rfl
def endW (k : Nat) : List UInt8 := if k = 3 then [47, 62] else [62]
theorem end_read {k : Nat} (hk : k = 1 ∨ k = 3) (r : List UInt8) : endO (skipL (endW k ++ r)) = some (k, r) := by
  rcases hk with rfl | rfl
  · have : skipL (endW 1 ++ r) = 62 :: r := skip_stop (by intro c hc; simp [endW] at hc; subst hc; decide)
    rw [this]; rfl
  · have : skipL (endW 3 ++ r) = 47 :: 62 :: r := skip_stop (by intro c hc; simp [endW] at hc; subst hc; decide)
    rw [this]; rfl
theorem okP_any {l : List Pr} {a : Pr} (h : okP l a = true) : (l.any fun b => a.name == b.name) = false ∧ fullL a.name = true ∧ ptsErr a.value = 0 := by
  unfold okP at h
  simp only [Bool.and_eq_true,Bool.not_eq_true',decide_eq_true_eq] at h
  exact ⟨h.1.1, h.1.2, h.2⟩
theorem tag_read {k : Nat} (hk : k = 1 ∨ k = 3) (n : List UInt8) (r : List UInt8) : ∀ (az l : List Pr), (∀ (i : Nat) (a : Pr), az[i]? = some a → okP (l ++ az.take i) a = true) → tagL n l (attrsW az ++ (endW k ++ r)) = some (⟨k, n, l ++ az, []⟩, r)
  | [], l, _ => by
    rw [List.append_nil]
    exact tag_end (by rw [show attrsW [] = [] from rfl, List.nil_append]; exact end_read hk r)
  | a :: az, l, h => by
    have h0 := h 0 a rfl
    rw [List.take_zero, List.append_nil] at h0
    obtain ⟨g1, g2, g3⟩ := okP_any h0
    have e : attrsW (a :: az) ++ (endW k ++ r) = [32] ++ (a.name ++ 61 :: 34 :: (escW true a.value ++ 34 :: (attrsW az ++ (endW k ++ r)))) := by
      have : attrsW (a :: az) = attrW a ++ attrsW az := by simp [attrsW]
      rw [this]
      simp [attrW]
    have hs : skipL (attrsW (a :: az) ++ (endW k ++ r)) = a.name ++ 61 :: 34 :: (escW true a.value ++ 34 :: (attrsW az ++ (endW k ++ r))) := by
      rw [e, skip_gap (by decide), skip_full g2]
    obtain ⟨c, t, hc, hw⟩ := full_head g2
    rw [tag_attr (a := a) (r := attrsW az ++ (endW k ++ r)) (by rw [hs, hc]; exact end_word hw) (by rw [hs, e]; simp) (by rw [hs]; exact attr_read g2 _) g1]
    rw [tag_read hk n r az (l ++ [a]) ?_, List.append_assoc]
    · rfl
    · intro i b hb
      have := h (i + 1) b (by simpa using hb)
      rw [List.take_succ_cons] at this
      simpa using this
theorem one_read {t : Tk} (ht : tokL t = true) (r : List UInt8) (hr : t.kind = 4 → ∀ c, r.head? = some c → c = 60) : oneO (tokW t ++ r) = some (t, r) := by
  obtain ⟨k, n, l, x⟩ := t
  unfold tokL at ht
  dsimp only at ht hr
  split at ht
  · rename_i hk
    simp only [Bool.and_eq_true,List.isEmpty_iff] at ht
    obtain ⟨⟨h1, h2⟩, rfl⟩ := ht
    have h2 := (attrs_iff.1 h2).2
    obtain ⟨c, t, hc, hw⟩ := full_head h1
    have e : tokW ⟨k, n, l, []⟩ ++ r = 60 :: (n ++ (attrsW l ++ (endW k ++ r))) := by
      unfold tokW endW
      rw [if_neg (show ¬ k = 4 by omega), if_neg (show ¬ k = 2 by omega)]
      simp
    have ht := tag_read hk n r l [] (fun i a ha => by
      rw [List.nil_append]
      exact h2 i a (List.getElem?_eq_some_iff.1 ha).1 ha)
    rw [List.nil_append] at ht
    have hcl : ∀ d, (attrsW l ++ (endW k ++ r)).head? = some d → wordB d = false := by
      intro d hd
      cases l with
      | nil =>
        rcases hk with rfl | rfl
        · simp [attrsW,endW] at hd; subst hd; decide
        · simp [attrsW,endW] at hd; subst hd; decide
      | cons a l =>
        simp [attrsW,attrW] at hd
        subst hd; decide
    have hn := name_read h1 hcl
    have ha : afterO 47 (n ++ (attrsW l ++ (endW k ++ r))) = none := by
      rw [hc, List.cons_append, after_cons, if_neg (word_may c hw).2.2.1]
    rw [e]
    unfold oneO
    rw [after_cons, if_pos rfl]
    unfold tagO
    simp only [ha,hn,Option.bind_some,ht]
  · split at ht
    · rename_i hk
      subst hk
      simp only [Bool.and_eq_true,List.isEmpty_iff] at ht
      obtain ⟨⟨h1, rfl⟩, rfl⟩ := ht
      have e : tokW ⟨2, n, [], []⟩ ++ r = 60 :: 47 :: (n ++ 62 :: r) := by
        unfold tokW
        rw [if_neg (show ¬ (2 : Nat) = 4 by decide), if_pos rfl]
        simp
      have hn := name_read (r := 62 :: r) h1 (by intro c hc; simp at hc; subst hc; decide)
      have hs : skipL (62 :: r) = 62 :: r := skip_stop (by intro c hc; simp at hc; subst hc; decide)
      rw [e]
      unfold oneO
      rw [after_cons, if_pos rfl]
      unfold tagO
      simp only [after_cons,if_true,hn,Option.bind_some,hs,Option.map_some]
    · split at ht
      · rename_i hk
        subst hk
        simp only [Bool.and_eq_true,List.isEmpty_iff,Bool.not_eq_true',List.isEmpty_eq_false_iff] at ht
        obtain ⟨⟨⟨rfl, rfl⟩, hx⟩, _⟩ := ht
        have e : tokW ⟨4, [], [], x⟩ = escW false x := by unfold tokW; rw [if_pos rfl]
        have hn : ∀ c ∈ escW false x, textB c = true := fun c hc => by
          have := escW_all false hc
          simp only [Bool.and_eq_true] at this
          exact this.1.1.1
        have hr' := hr rfl
        have hw : textT (escW false x ++ r) = escW false x ∧ textR (escW false x ++ r) = r := by
          unfold textT textR
          rw [List.takeWhile_append_of_pos hn, List.dropWhile_append_of_pos hn]
          cases r with
          | nil => simp
          | cons c r =>
            have := hr' c rfl
            subst this
            simp [List.takeWhile_cons,List.dropWhile_cons,textB]
        have hl := escW_length false x
        have hxl := List.length_pos_iff.2 hx
        have ha : afterO 60 (escW false x ++ r) = none := by
          cases hc : escW false x with
          | nil => rw [hc, List.length_nil] at hl; omega
          | cons c u =>
            have := hn c (by rw [hc]; simp)
            rw [List.cons_append, after_cons, if_neg (by intro e; subst e; cases this)]
        rw [e]
        unfold oneO
        simp only [ha,hw.1,hw.2,readL_escW,Option.map_some]
      · cases ht
theorem tokW_ne {t : Tk} (ht : tokL t = true) : tokW t ≠ [] := by
  intro h
  have := one_read ht [] (by simp)
  rw [h] at this
  simp only [List.append_nil] at this
  have h0 : oneO [] = some (⟨4, [], [], []⟩, []) := by
    unfold oneO
    simp [afterO,textT,textR,readL_nil]
  rw [h0] at this
  cases this
  simp [tokL] at ht
theorem tokW_head {t : Tk} (ht : tokL t = true) (hk : t.kind ≠ 4) : ∃ r, tokW t = 60 :: r := by
  unfold tokW
  rw [if_neg hk]
  split
  · exact ⟨_, rfl⟩
  · exact ⟨_, rfl⟩
theorem lexG_read (n : Nat) (r : List UInt8) : ∀ (l acc : List Tk), (∀ t ∈ l, tokL t = true) → adjL l = false → acc.length + l.length ≤ 512 → (∀ t, l.getLast? = some t → t.kind = 4 → ∀ c, r.head? = some c → c = 60) → lexG n acc (toksW l ++ r) = lexG n (acc ++ l) r
  | [], acc, _, _, _, _ => by simp [toksW]
  | t :: l, acc, h, ha, hl, hr => by
    have ht := h t (by simp)
    have e : toksW (t :: l) ++ r = tokW t ++ (toksW l ++ r) := by simp [toksW]
    have hone := one_read ht (toksW l ++ r) (by
      intro hk c hc
      cases l with
      | nil => exact hr t rfl hk c (by simpa [toksW] using hc)
      | cons u l =>
        have hu : u.kind ≠ 4 := by
          intro hu
          simp [adjL,hk,hu] at ha
        obtain ⟨w, hw⟩ := tokW_head (h u (by simp)) hu
        have : toksW (u :: l) = tokW u ++ toksW l := by simp [toksW]
        rw [this, hw] at hc
        simpa using hc.symm)
    have hne : tokW t ++ (toksW l ++ r) ≠ [] := by
      intro h0
      exact tokW_ne ht (List.append_eq_nil_iff.1 h0).1
    have hat : t.attrs.length ≤ 16 := by
      unfold tokL at ht
      split at ht
      · simp only [Bool.and_eq_true] at ht
        exact (attrs_iff.1 ht.1.2).1
      · split at ht
        · simp only [Bool.and_eq_true,List.isEmpty_iff] at ht
          rw [ht.1.2]; simp
        · split at ht
          · simp only [Bool.and_eq_true,List.isEmpty_iff] at ht
            rw [ht.1.1.2]; simp
          · cases ht
    rw [e, lexG_go hne (by simp at hl; omega) hone hat, lexG_read n r l (acc ++ [t]) (fun u hu => h u (by simp [hu])) ?_ (by simp at hl ⊢; omega) ?_]
    · simp
    · cases l with
      | nil => rfl
      | cons u l => simp only [adjL,Bool.or_eq_false_iff] at ha; exact ha.2
    · intro u hu
      cases l with
      | nil => cases hu
      | cons v l => exact hr u (by rw [List.getLast?_cons_cons]; exact hu)
theorem dec_tok {t : Tk} (ht : tokL t = true) : (dec (tokW t)).isSome = true := by
  obtain ⟨k, n, l, x⟩ := t
  unfold tokL at ht
  dsimp only at ht
  have hat : ∀ l : List Pr, (∀ a ∈ l, fullL a.name = true ∧ ptsErr a.value = 0) → (dec (attrsW l)).isSome = true := by
    intro l
    induction l with
    | nil => intro _; rfl
    | cons a l ih =>
      intro h
      have h0 := h a (by simp)
      have : attrsW (a :: l) = attrW a ++ attrsW l := by simp [attrsW]
      rw [this]
      refine dec_add ?_ (ih fun b hb => h b (by simp [hb]))
      unfold attrW
      exact dec_add (dec_add (dec_add (dec_add rfl (dec_full h0.1)) rfl) (dec_escW true (ptsErr_iff.1 h0.2).2)) rfl
  unfold tokW
  dsimp only
  split at ht
  · rename_i hk
    simp only [Bool.and_eq_true,List.isEmpty_iff] at ht
    obtain ⟨⟨h1, h2⟩, rfl⟩ := ht
    have h2 := (attrs_iff.1 h2).2
    rw [if_neg (show ¬ k = 4 by omega), if_neg (show ¬ k = 2 by omega)]
    refine dec_add (dec_add (dec_add rfl (dec_full h1)) (hat l fun a ha => ?_)) (by split <;> rfl)
    obtain ⟨i, hi, rfl⟩ := List.mem_iff_getElem.1 ha
    exact (okP_any (h2 i _ hi (List.getElem?_eq_getElem hi))).2
  · split at ht
    · rename_i hk
      subst hk
      simp only [Bool.and_eq_true,List.isEmpty_iff] at ht
      rw [if_neg (by decide), if_pos rfl]
      exact dec_add (dec_add rfl (dec_full ht.1.1)) rfl
    · split at ht
      · rename_i hk
        subst hk
        simp only [Bool.and_eq_true,decide_eq_true_eq] at ht
        rw [if_pos rfl]
        exact dec_escW false (ptsErr_iff.1 ht.2).2
      · cases ht
theorem dec_toks : ∀ {l : List Tk}, (∀ t ∈ l, tokL t = true) → (dec (toksW l)).isSome = true
  | [], _ => rfl
  | t :: l, h => by
    have : toksW (t :: l) = tokW t ++ toksW l := by simp [toksW]
    rw [this]
    exact dec_add (dec_tok (h t (by simp))) (dec_toks fun u hu => h u (by simp [hu]))
theorem join_ok {l : List Tk} (h : joinE l = 0) : (∀ t ∈ l, tokL t = true) ∧ adjL l = false ∧ l.length ≤ 512 ∧ (toksW l).length ≤ 16384 ∧ joinT l = toksW l := by
  have h' := h
  unfold joinE at h
  split at h
  · cases h
  · rename_i h1
    split at h
    · cases h
    · rename_i h2
      simp only [not_or,Bool.not_eq_true,List.any_eq_false,Bool.not_eq_true',Bool.not_eq_false'] at h1
      refine ⟨fun t ht => by simpa using h1.1 t ht, h1.2, by omega, by omega, ?_⟩
      unfold joinT; rw [if_pos h']
theorem lex_join {l : List Tk} (h : joinE l = 0) : lexA (joinT l) = (l, 0, 0) := by
  obtain ⟨h1, h2, h3, h4, h5⟩ := join_ok h
  rw [h5]
  have hp : ptsErr (toksW l) = 0 := ptsErr_iff.2 ⟨h4, dec_toks h1⟩
  unfold lexA
  rw [if_neg (by simp [hp])]
  have := lexG_read (toksW l).length [] l [] h1 h2 (by simpa using h3) (by simp)
  rw [List.append_nil, List.nil_append] at this
  rw [this, lexG_nil]
theorem tagL_ind {n : List UInt8} {P : List Pr → List UInt8 → Tk → List UInt8 → Prop}
    (h1 : ∀ l s k t, endO (skipL s) = some (k, t) → P l s ⟨k, n, l, []⟩ t)
    (h2 : ∀ l s a r u v, endO (skipL s) = none → (skipL s).length < s.length → attrO (skipL s) = some (a, r) → (l.any fun b => a.name == b.name) = false → tagL n (l ++ [a]) r = some (u, v) → P (l ++ [a]) r u v → P l s u v) :
    ∀ (m : Nat) (l : List Pr) (s : List UInt8) (u : Tk) (v : List UInt8), s.length ≤ m → tagL n l s = some (u, v) → P l s u v := by
  intro m
  induction m with
  | zero =>
    intro l s u v hm h
    obtain rfl := List.length_eq_zero_iff.1 (Nat.le_zero.1 hm)
    rw [tag_gap (by rfl) (by simp [skipL])] at h; cases h
  | succ m ih =>
    intro l s u v hm h
    cases he : endO (skipL s) with
    | some p =>
      obtain ⟨k, t⟩ := p
      rw [tag_end he] at h
      cases h
      exact h1 _ _ _ _ he
    | none =>
      cases ha : attrO (skipL s) with
      | none => rw [tag_bad he ha] at h; cases h
      | some p =>
        obtain ⟨a, r⟩ := p
        cases hd : l.any fun b => a.name == b.name with
        | true => rw [tag_twice he ha hd] at h; cases h
        | false =>
          by_cases hg : (skipL s).length < s.length
          · rw [tag_attr he hg ha hd] at h
            have hl := attr_lt ha
            have := skip_le s
            exact h2 l s a r u v he hg ha hd h (ih _ _ _ _ (by omega) h)
          · rw [tag_gap he hg] at h; cases h
theorem one_kind {s r : List UInt8} {t : Tk} (h : oneO s = some (t, r)) (h4 : t.kind = 4) : afterO 60 s = none ∧ readL (textT s) = some t.text ∧ r = textR s ∧ t = ⟨4, [], [], t.text⟩ := by
  unfold oneO at h
  split at h
  · rename_i u hu
    exfalso
    unfold tagO at h
    split at h
    · obtain ⟨⟨n, r1⟩, h1, h2⟩ := Option.bind_eq_some_iff.1 h
      obtain ⟨r2, h3, e⟩ := Option.map_eq_some_iff.1 h2
      cases e
      cases h4
    · obtain ⟨⟨n, r1⟩, h1, h2⟩ := Option.bind_eq_some_iff.1 h
      have : t.kind = 1 ∨ t.kind = 3 := by
        refine tagL_ind (n := n) (P := fun l s u v => u.kind = 1 ∨ u.kind = 3) ?_ (fun _ _ _ _ _ _ _ _ _ _ _ ih => ih) _ [] r1 t r (Nat.le_refl _) h2
        intro l s k t he
        unfold endO at he
        split at he
        · cases he; exact .inl rfl
        · cases he; exact .inr rfl
        · cases he
      omega
  · rename_i hu
    obtain ⟨x, h1, h2⟩ := Option.map_eq_some_iff.1 h
    cases h2
    exact ⟨hu, h1, rfl, rfl⟩
theorem takeWhile_all {p : UInt8 → Bool} : ∀ {s : List UInt8} {c : UInt8}, c ∈ s.takeWhile p → p c = true
  | [], c, h => by simp at h
  | d :: s, c, h => by
    rw [List.takeWhile_cons] at h
    by_cases hd : p d = true
    · rw [if_pos hd] at h
      rcases List.mem_cons.1 h with rfl | h
      · exact hd
      · exact takeWhile_all h
    · rw [if_neg hd] at h; simp at h
theorem textR_head (s : List UInt8) : ∀ c, (textR s).head? = some c → c = 60 := by
  intro c hc
  have := List.head?_dropWhile_not textB s
  unfold textR at hc
  rw [hc] at this
  simpa [textB] using this
theorem point_len {a : List UInt8} {x : List UInt8} (h : meantL a = some x) : x.length ≤ a.length + 2 ∧ (dec x).isSome = true := by
  have hp : ∀ (o : Option Nat) (k : Nat), 2 ≤ k → pointW o = some x → x.length ≤ k + 2 ∧ (dec x).isSome = true := by
    intro o k hk ho
    unfold pointW at ho
    obtain ⟨n, _, hn⟩ := Option.bind_eq_some_iff.1 ho
    split at hn
    · rename_i hm
      cases hn
      have := (encodeRune_length (n : Int)).2
      have hd := dec_enc [(n : Int)] (by simp [hm])
      simp only [enc,List.flatMap_cons,List.flatMap_nil,List.append_nil] at hd
      exact ⟨by omega, by rw [hd]; rfl⟩
    · cases hn
  unfold meantL at h
  repeat' split at h
  · rename_i e; cases h; subst e; exact ⟨by decide, by decide⟩
  · rename_i e; cases h; subst e; exact ⟨by decide, by decide⟩
  · rename_i e; cases h; subst e; exact ⟨by decide, by decide⟩
  · rename_i e; cases h; subst e; exact ⟨by decide, by decide⟩
  · rename_i e; cases h; subst e; exact ⟨by decide, by decide⟩
  · rename_i e1 e2
    refine hp _ _ ?_ h
    cases a with
    | nil => cases e1
    | cons c a =>
      cases a with
      | nil => cases e2
      | cons d a => simp
  · rename_i e1 e2
    refine hp _ _ ?_ h
    cases a with
    | nil => cases e1
    | cons c a =>
      cases a with
      | nil => simp [pointW,decL] at h
      | cons d a => simp
  · cases h
theorem readL_less : ∀ (n : Nat) (s x : List UInt8), s.length ≤ n → readL s = some x → x.length ≤ s.length
  | n, [], x, _, h => by rw [readL_nil] at h; cases h; simp
  | 0, c :: r, x, hn, _ => by simp at hn
  | n + 1, c :: r, x, hn, h => by
    have hl : r.length ≤ n := by simpa using hn
    by_cases h1 : c = 60
    · subst h1; rw [readL_lt] at h; cases h
    by_cases h2 : c = 38
    · subst h2
      cases hc : cut1 59 r with
      | none => rw [readL_none hc] at h; cases h
      | some p =>
        obtain ⟨u, v⟩ := p
        have hlen := congrArg List.length (cut1_some hc).1
        cases hm : meantL u with
        | none => rw [readL_bad hc hm] at h; cases h
        | some y =>
          rw [readL_ref hc hm] at h
          obtain ⟨w, hw, rfl⟩ := Option.map_eq_some_iff.1 h
          simp only [List.length_append,List.length_cons] at hlen
          have h3 := readL_less n v w (by omega) hw
          have h4 := (point_len hm).1
          simp only [List.length_append,List.length_cons]; omega
    · rw [readL_other h1 h2] at h
      obtain ⟨w, hw, rfl⟩ := Option.map_eq_some_iff.1 h
      have := readL_less n r w hl hw
      simp only [List.length_cons]; omega
theorem readL_high : ∀ {p : List UInt8} (r : List UInt8), (∀ c ∈ p, 128 ≤ c.toNat) → readL (p ++ r) = (readL r).map (p ++ ·)
  | [], r, _ => by
    rw [List.nil_append]
    cases readL r <;> simp
  | c :: p, r, h => by
    have h0 := h c (by simp)
    rw [List.cons_append, readL_other (by rintro rfl; simp at h0) (by rintro rfl; simp at h0), readL_high r fun x hx => h x (by simp [hx])]
    cases readL r <;> simp
theorem readL_dec : ∀ (n : Nat) (s x : List UInt8), s.length ≤ n → (dec s).isSome = true → readL s = some x → (dec x).isSome = true := by
  intro n
  induction n with
  | zero =>
    intro s x hn _ h
    obtain rfl := List.length_eq_zero_iff.1 (Nat.le_zero.1 hn)
    rw [readL_nil] at h; cases h; rfl
  | succ n ih =>
    intro s x hn hd h
    obtain ⟨zs, hz⟩ := Option.isSome_iff_exists.1 hd
    obtain ⟨hm, rfl⟩ := (dec_iff s zs).1 hz
    cases zs with
    | nil => rw [show enc [] = [] from rfl, readL_nil] at h; cases h; rfl
    | cons z zs =>
      simp only [List.all_cons,Bool.and_eq_true] at hm
      have e : enc (z :: zs) = encodeRune z ++ enc zs := by simp [enc]
      have hl := (encodeRune_length z).1
      rw [e] at h hn hd
      rw [List.length_append] at hn
      have hdz : (dec (enc zs)).isSome = true := by rw [dec_enc zs hm.2]; rfl
      have hd1 : (dec (encodeRune z)).isSome = true := by
        have := dec_enc [z] (by simp [hm.1])
        simp only [enc,List.flatMap_cons,List.flatMap_nil,List.append_nil] at this
        rw [this]; rfl
      have hr := (may_range hm.1).1
      by_cases hz128 : z < 128
      · rw [enc_low hr hz128] at h hd1 hd hn
        rw [List.singleton_append] at h hd
        generalize z.toNat.toUInt8 = c at h hd1 hd hn
        simp only [List.length_cons,List.length_nil] at hn
        by_cases h1 : c = 60
        · subst h1; rw [readL_lt] at h; cases h
        by_cases h2 : c = 38
        · subst h2
          cases hc : cut1 59 (enc zs) with
          | none => rw [readL_none hc] at h; cases h
          | some p =>
            obtain ⟨u, v⟩ := p
            have hce := (cut1_some hc).1
            have hlen := congrArg List.length hce
            simp only [List.length_append,List.length_cons] at hlen
            cases hmm : meantL u with
            | none => rw [readL_bad hc hmm] at h; cases h
            | some y =>
              rw [readL_ref hc hmm] at h
              obtain ⟨w, hw, rfl⟩ := Option.map_eq_some_iff.1 h
              have hv := (cut_text (d := 59) (by decide) hdz hce).2
              exact dec_add (point_len hmm).2 (ih v w (by omega) hv hw)
        · rw [readL_other h1 h2] at h
          obtain ⟨w, hw, rfl⟩ := Option.map_eq_some_iff.1 h
          exact dec_add (a := [c]) hd1 (ih _ w (by omega) hdz hw)
      · rw [readL_high _ (enc_high (by omega))] at h
        obtain ⟨w, hw, rfl⟩ := Option.map_eq_some_iff.1 h
        exact dec_add hd1 (ih _ w (by omega) hdz hw)
theorem flat_text {s : List UInt8} (h : (dec s).isSome = true) : (dec (s.map flatB)).isSome = true := by
  obtain ⟨zs, hz⟩ := Option.isSome_iff_exists.1 h
  obtain ⟨hm, rfl⟩ := (dec_iff s zs).1 hz
  clear hz h
  induction zs with
  | nil => rfl
  | cons z zs ih =>
    simp only [List.all_cons,Bool.and_eq_true] at hm
    have e : enc (z :: zs) = encodeRune z ++ enc zs := by simp [enc]
    rw [e, List.map_append]
    refine dec_add ?_ (ih hm.2)
    have hr := (may_range hm.1).1
    by_cases hz : z < 128
    · rw [enc_low hr hz, List.map_cons, List.map_nil]
      unfold flatB
      split
      · decide
      · have := dec_enc [z] (by simp [hm.1])
        simp only [enc,List.flatMap_cons,List.flatMap_nil,List.append_nil,enc_low hr hz] at this
        rw [this]; rfl
    · have : (encodeRune z).map flatB = encodeRune z := flat_same fun c hc => by
        have := enc_high (z := z) (by omega) c hc
        refine ⟨?_, ?_, ?_⟩ <;> (rintro rfl; simp at this)
      rw [this]
      have := dec_enc [z] (by simp [hm.1])
      simp only [enc,List.flatMap_cons,List.flatMap_nil,List.append_nil] at this
      rw [this]; rfl
theorem value_may {s v r : List UInt8} (h : (dec s).isSome = true) (hl : s.length ≤ 16384) (hv : valueO s = some (v, r)) : ptsErr v = 0 ∧ (escW true v).length + 6 * r.length + 12 ≤ 6 * s.length := by
  obtain ⟨a, h1, h2⟩ := value_some hv
  obtain ⟨q, hq, rfl, _⟩ := quote_some h1
  have hq128 : q.toNat < 128 := by rcases hq with rfl | rfl <;> decide
  have d1 := (cut_text hq128 (a := []) h rfl).2
  have d2 := (cut_text hq128 d1 rfl).1
  unfold toldO at h2
  have d3 := readL_dec _ _ _ (Nat.le_refl _) (flat_text d2) h2
  have l3 := readL_less _ _ _ (Nat.le_refl _) h2
  have := (escW_length true v).2
  simp only [List.length_map,List.length_cons,List.length_append] at l3 hl ⊢
  exact ⟨ptsErr_iff.2 ⟨by omega, d3⟩, by omega⟩
theorem attr_may {s r : List UInt8} {a : Pr} (h : (dec s).isSome = true) (hl : s.length ≤ 16384) (ha : attrO s = some (a, r)) : fullL a.name = true ∧ ptsErr a.value = 0 ∧ (attrW a).length + 6 * r.length ≤ 6 * s.length := by
  obtain ⟨r1, t, h1, h2, h3⟩ := attr_some ha
  obtain ⟨e, _, hf, _⟩ := name_lt h1
  have d1 := skip_dec (name_dec h h1)
  rw [h2] at d1
  have d2 := skip_dec (cut_text (d := 61) (by decide) (a := []) d1 rfl).2
  have l1 := congrArg List.length e
  have l2 := skip_le r1
  have l3 := skip_le t
  rw [h2] at l2
  simp only [List.length_append,List.length_cons] at l1 l2
  obtain ⟨g1, g2⟩ := value_may d2 (by omega) h3
  refine ⟨hf, g1, ?_⟩
  simp only [attrW,List.length_append,List.length_cons,List.length_nil]
  omega
theorem tagL_may {n : List UInt8} (hn : fullL n = true) {l : List Pr} {s v : List UInt8} {u : Tk} (h : tagL n l s = some (u, v)) (hd : (dec s).isSome = true) (hl : s.length ≤ 16384) (hok : attrsTo l l.length) : u.name = n ∧ u.text = [] ∧ (u.kind = 1 ∨ u.kind = 3) ∧ attrsTo u.attrs u.attrs.length ∧ (dec v).isSome = true ∧ (attrsW u.attrs).length + (endW u.kind).length + 6 * v.length ≤ (attrsW l).length + 6 * s.length := by
  refine tagL_ind (n := n) (P := fun l s u v => (dec s).isSome = true → s.length ≤ 16384 → attrsTo l l.length → u.name = n ∧ u.text = [] ∧ (u.kind = 1 ∨ u.kind = 3) ∧ attrsTo u.attrs u.attrs.length ∧ (dec v).isSome = true ∧ (attrsW u.attrs).length + (endW u.kind).length + 6 * v.length ≤ (attrsW l).length + 6 * s.length) ?_ ?_ _ l s u v (Nat.le_refl _) h hd hl hok
  · intro l s k t he hd hl hok
    have hs := skip_dec hd
    have hsl := skip_le s
    unfold endO at he
    split at he
    · rename_i e
      cases he
      rw [e] at hs hsl
      refine ⟨rfl, rfl, .inl rfl, hok, (cut_text (d := 62) (by decide) (a := []) hs rfl).2, ?_⟩
      simp only [List.length_cons] at hsl
      simp [endW]; omega
    · rename_i e
      cases he
      rw [e] at hs hsl
      have h1 := (cut_text (d := 47) (by decide) (a := []) hs rfl).2
      refine ⟨rfl, rfl, .inr rfl, hok, (cut_text (d := 62) (by decide) (a := []) h1 rfl).2, ?_⟩
      simp only [List.length_cons] at hsl
      simp [endW]; omega
    · cases he
  · intro l s a r u v he hg ha hd2 _ ih hd hl hok
    have hs := skip_dec hd
    obtain ⟨g1, g2, g3⟩ := attr_may hs (by omega) ha
    have hlt := attr_lt ha
    have hr := attr_dec hs ha
    obtain ⟨k1, k2, k3, k4, k5, k6⟩ := ih hr (by omega) (by
      intro i b hi hb
      by_cases hil : i < l.length
      · rw [List.getElem?_append_left hil] at hb
        rw [List.take_append_of_le_length (by omega)]
        exact hok i b hil hb
      · have : i = l.length := by simp at hi; omega
        subst this
        rw [List.getElem?_append_right (by omega)] at hb
        simp at hb; subst hb
        rw [List.take_append_of_le_length (by omega), List.take_length]
        unfold okP
        simp [hd2,g1,g2])
    refine ⟨k1, k2, k3, k4, k5, ?_⟩
    have : (attrsW (l ++ [a])).length = (attrsW l).length + (attrW a).length := by simp [attrsW]
    omega
theorem one_may {s r : List UInt8} {t : Tk} (hne : s ≠ []) (h : oneO s = some (t, r)) (hd : (dec s).isSome = true) (hl : s.length ≤ 16384) (h16 : t.attrs.length ≤ 16) : tokL t = true ∧ (dec r).isSome = true ∧ (t.kind = 4 → ∀ c, r.head? = some c → c = 60) ∧ (t.kind = 4 → afterO 60 s = none) ∧ (tokW t).length + 6 * r.length ≤ 6 * s.length := by
  by_cases h4 : t.kind = 4
  · obtain ⟨g1, g2, rfl, g4⟩ := one_kind h h4
    have e : s = textT s ++ textR s := (List.takeWhile_append_dropWhile).symm
    have le := congrArg List.length e
    rw [List.length_append] at le
    obtain ⟨d1, d2⟩ := text_dec hd
    have l1 := readL_less _ _ _ (Nat.le_refl _) g2
    have l2 := (escW_length false t.text).2
    have d3 := readL_dec _ _ _ (Nat.le_refl _) d1 g2
    have hx : t.text ≠ [] := by
      intro hx
      have hT : textT s ≠ [] := by
        cases s with
        | nil => exact absurd rfl hne
        | cons c s =>
          have hc : textB c = true := by
            rw [after_cons] at g1
            split at g1
            · cases g1
            · rename_i e; simp [textB,e]
          unfold textT
          rw [List.takeWhile_cons, if_pos hc]; simp
      rw [hx] at g2
      cases hT' : textT s with
      | nil => exact hT hT'
      | cons c w =>
        rw [hT'] at g2
        by_cases c60 : c = 60
        · subst c60; rw [readL_lt] at g2; cases g2
        by_cases c38 : c = 38
        · subst c38
          cases hc : cut1 59 w with
          | none => rw [readL_none hc] at g2; cases g2
          | some p =>
            obtain ⟨u, v⟩ := p
            cases hm : meantL u with
            | none => rw [readL_bad hc hm] at g2; cases g2
            | some y =>
              rw [readL_ref hc hm] at g2
              obtain ⟨z, _, hz⟩ := Option.map_eq_some_iff.1 g2
              have := (List.append_eq_nil_iff.1 hz).1
              subst this
              unfold meantL at hm
              repeat' split at hm
              all_goals (first | cases hm; done | skip)
              all_goals (
                unfold pointW at hm
                obtain ⟨n, _, hn⟩ := Option.bind_eq_some_iff.1 hm
                split at hn
                · have := (encodeRune_length (n : Int)).1
                  simp only [Option.some.injEq] at hn
                  rw [hn] at this
                  simp at this
                · cases hn)
        · rw [readL_other c60 c38] at g2
          obtain ⟨z, _, hz⟩ := Option.map_eq_some_iff.1 g2
          cases hz
    refine ⟨?_, d2, fun _ => textR_head s, fun _ => g1, ?_⟩
    · rw [g4]
      unfold tokL
      rw [if_neg (show ¬ ((4 : Nat) = 1 ∨ (4 : Nat) = 3) by decide), if_neg (show ¬ (4 : Nat) = 2 by decide), if_pos rfl]
      have : ptsErr t.text = 0 := ptsErr_iff.2 ⟨by omega, d3⟩
      have hxe : t.text.isEmpty = false := by rw [List.isEmpty_eq_false_iff]; exact hx
      simp [this,hxe]
    · have : tokW t = escW false t.text := by unfold tokW; rw [if_pos h4]
      rw [this]
      omega
  · have hh : ∃ u, afterO 60 s = some u := by
      cases ha : afterO 60 s with
      | some u => exact ⟨u, rfl⟩
      | none =>
        exfalso
        unfold oneO at h
        rw [ha] at h
        obtain ⟨x, _, hx⟩ := Option.map_eq_some_iff.1 h
        cases hx
        exact h4 rfl
    obtain ⟨u, hu⟩ := hh
    have hs := after_some hu
    subst hs
    have du := (cut_text (d := 60) (by decide) (a := []) hd rfl).2
    simp only [List.length_cons] at hl
    unfold oneO at h
    rw [hu] at h
    simp only at h
    unfold tagO at h
    split at h
    · rename_i w hw
      obtain rfl := after_some hw
      have dw := (cut_text (d := 47) (by decide) (a := []) du rfl).2
      obtain ⟨⟨n, r1⟩, h1, h2⟩ := Option.bind_eq_some_iff.1 h
      obtain ⟨r2, h3, e⟩ := Option.map_eq_some_iff.1 h2
      cases e
      obtain ⟨e1, _, hf, _⟩ := name_lt h1
      have l1 := congrArg List.length e1
      have l2 := skip_le r1
      have d1 := skip_dec (name_dec dw h1)
      rw [after_some h3] at l2 d1
      simp only [List.length_append,List.length_cons] at l1 l2
      refine ⟨?_, (cut_text (d := 62) (by decide) (a := []) d1 rfl).2, fun h => absurd h h4, fun h => absurd h h4, ?_⟩
      · unfold tokL
        rw [if_neg (show ¬ ((2 : Nat) = 1 ∨ (2 : Nat) = 3) by decide), if_pos rfl]
        simp [hf]
      · have : tokW ⟨2, n, [], []⟩ = [60, 47] ++ n ++ [62] := by unfold tokW; rw [if_neg (show ¬ (2 : Nat) = 4 by decide), if_pos rfl]
        rw [this]
        simp only [List.length_append,List.length_cons,List.length_nil]
        omega
    · rename_i hw
      obtain ⟨⟨n, r1⟩, h1, h2⟩ := Option.bind_eq_some_iff.1 h
      obtain ⟨e1, _, hf, _⟩ := name_lt h1
      have l1 := congrArg List.length e1
      simp only [List.length_append] at l1
      have d1 := name_dec du h1
      obtain ⟨k1, k2, k3, k4, k5, k6⟩ := tagL_may hf h2 d1 (by show r1.length ≤ 16384; omega) (by intro i a hi; simp at hi)
      refine ⟨?_, k5, fun h => absurd h h4, fun h => absurd h h4, ?_⟩
      · unfold tokL
        rw [if_pos k3, k1, k2, hf, attrs_iff.2 ⟨h16, k4⟩]
        rfl
      · have : tokW t = [60] ++ t.name ++ attrsW t.attrs ++ endW t.kind := by
          unfold tokW endW
          rw [if_neg h4, if_neg (by rcases k3 with h | h <;> rw [h] <;> decide)]
        rw [this, k1]
        have : attrsW [] = [] := rfl
        rw [this] at k6
        simp only [List.length_append,List.length_cons,List.length_nil] at k6 ⊢
        omega
theorem adj_snoc : ∀ {l : List Tk} {t : Tk}, adjL l = false → (∀ u, l.getLast? = some u → ¬ (u.kind = 4 ∧ t.kind = 4)) → adjL (l ++ [t]) = false
  | [], t, _, _ => rfl
  | [a], t, _, h => by
    have := h a rfl
    simp only [List.singleton_append,adjL,Bool.or_false]
    simp only [Bool.and_eq_false_iff,beq_eq_false_iff_ne]
    by_cases e : a.kind = 4
    · right; exact fun e2 => this ⟨e, e2⟩
    · left; exact e
  | a :: b :: l, t, h, h2 => by
    simp only [List.cons_append,adjL,Bool.or_eq_false_iff] at h ⊢
    exact ⟨h.1, adj_snoc (l := b :: l) h.2 (fun u hu => h2 u (by rw [List.getLast?_cons_cons]; exact hu))⟩
theorem lexG_may (n : Nat) : ∀ (m : Nat) (acc : List Tk) (s : List UInt8), s.length ≤ m → s.length ≤ n → (dec s).isSome = true → s.length ≤ 16384 → (∀ t ∈ acc, tokL t = true) → adjL acc = false → acc.length ≤ 512 → (∀ t, acc.getLast? = some t → t.kind = 4 → ∀ c, s.head? = some c → c = 60) →
    ((lexG n acc s).2.2 = 0 → (∀ t ∈ (lexG n acc s).1, tokL t = true) ∧ adjL (lexG n acc s).1 = false ∧ (lexG n acc s).1.length ≤ 512 ∧ (lexG n acc s).1.length ≤ acc.length + s.length ∧ (lexG n acc s).2.1 = 0 ∧ (toksW (lexG n acc s).1).length ≤ (toksW acc).length + 6 * s.length) ∧
    ((lexG n acc s).2.2 ≠ 0 → (lexG n acc s).1 = [] ∧ (lexG n acc s).2.1 < n) := by
  intro m
  induction m with
  | zero =>
    intro acc s hm _ _ _ h1 h2 h3 _
    obtain rfl := List.length_eq_zero_iff.1 (Nat.le_zero.1 hm)
    rw [lexG_nil]
    exact ⟨fun _ => ⟨h1, h2, h3, by simp, rfl, by simp⟩, fun h => absurd rfl h⟩
  | succ m ih =>
    intro acc s hm hn hd hl h1 h2 h3 h4
    by_cases hs : s = []
    · subst hs
      rw [lexG_nil]
      exact ⟨fun _ => ⟨h1, h2, h3, by simp, rfl, by simp⟩, fun h => absurd rfl h⟩
    · have hpos := List.length_pos_iff.2 hs
      by_cases hmany : 512 ≤ acc.length
      · rw [lexG_many hs hmany]
        exact ⟨fun h => absurd (show (4 : Int) = 0 from h) (by decide), fun _ => ⟨rfl, by show n - s.length < n; omega⟩⟩
      · cases ho : oneO s with
        | none =>
          rw [lexG_bad hs (by omega) ho]
          exact ⟨fun h => absurd (show (80 : Int) = 0 from h) (by decide), fun _ => ⟨rfl, by show n - s.length < n; omega⟩⟩
        | some p =>
          obtain ⟨t, r⟩ := p
          by_cases ha : 16 < t.attrs.length
          · rw [lexG_great hs (by omega) ho ha]
            exact ⟨fun h => absurd (show (4 : Int) = 0 from h) (by decide), fun _ => ⟨rfl, by show n - s.length < n; omega⟩⟩
          · have hlt := one_lt hs ho
            obtain ⟨k1, k2, k3, k4, k5⟩ := one_may hs ho hd hl (by omega)
            rw [lexG_go hs (by omega) ho (by omega)]
            obtain ⟨g1, g2⟩ := ih (acc ++ [t]) r (by omega) (by omega) k2 (by omega) (by
              intro u hu
              rcases List.mem_append.1 hu with hu | hu
              · exact h1 u hu
              · simp at hu; subst hu; exact k1) (adj_snoc h2 (by
              rintro u hu ⟨e1, e2⟩
              have h60 := h4 u hu e1
              have hn := k4 e2
              cases s with
              | nil => exact hs rfl
              | cons c s =>
                have := h60 c rfl
                subst this
                rw [after_cons, if_pos rfl] at hn
                cases hn)) (by simp; omega) (by
              intro u hu hk
              simp at hu; subst hu
              exact k3 hk)
            refine ⟨fun h => ?_, g2⟩
            obtain ⟨e1, e2, e3, e4, e5, e6⟩ := g1 h
            have : (toksW (acc ++ [t])).length = (toksW acc).length + (tokW t).length := by simp [toksW]
            simp only [List.length_append,List.length_cons,List.length_nil] at e4
            exact ⟨e1, e2, e3, by omega, e5, by omega⟩
theorem lex_may (s : List UInt8) : ((lexA s).2.2 = 0 → (∀ t ∈ (lexA s).1, tokL t = true) ∧ adjL (lexA s).1 = false ∧ (lexA s).1.length ≤ 512 ∧ (lexA s).1.length ≤ s.length ∧ (lexA s).2.1 = 0 ∧ (toksW (lexA s).1).length ≤ 6 * s.length) ∧ ((lexA s).2.2 ≠ 0 → (lexA s).1 = [] ∧ (lexA s).2.1 ≤ s.length ∧ ((lexA s).2.2 = 80 → (lexA s).2.1 < s.length)) := by
  unfold lexA
  by_cases hp : ptsErr s = 0
  · rw [if_neg (by simp [hp])]
    obtain ⟨hl, hd⟩ := ptsErr_iff.1 hp
    obtain ⟨h1, h2⟩ := lexG_may s.length s.length [] s (Nat.le_refl _) (Nat.le_refl _) hd hl (by simp) rfl (by simp) (by simp)
    refine ⟨fun h => ?_, fun h => ?_⟩
    · obtain ⟨e1, e2, e3, e4, e5, e6⟩ := h1 h
      exact ⟨e1, e2, e3, by simpa using e4, e5, by simpa [toksW] using e6⟩
    · obtain ⟨e1, e2⟩ := h2 h
      exact ⟨e1, by omega, fun _ => e2⟩
  · rw [if_pos (by simpa using hp)]
    refine ⟨fun h => absurd h (by simpa using hp), fun _ => ⟨rfl, by simp, fun h => ?_⟩⟩
    exfalso
    have h : ptsErr s = 80 := h
    unfold ptsErr at h
    split at h
    · cases h
    · split at h <;> cases h
end Go.Proofs.YtoaclokiggoeiaaGreatDoor
