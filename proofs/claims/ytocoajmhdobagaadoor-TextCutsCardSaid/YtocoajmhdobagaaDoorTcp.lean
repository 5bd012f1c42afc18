/-
  Plain law of layer 5: a text is cut between code points, and nowhere else. No program in sight.
-/
import Derived.Test.YtocoajmhdobagaaDoorTr
namespace Go.Proofs.YtocoajmhdobagaaDoor
open Go Go.RowKit Go.Lib

theorem dec_app : ∀ (p : List Int) (r : List UInt8), p.all may = true → dec (enc p ++ r) = (dec r).map (p ++ ·)
  | [], r, _ => by simp [enc]
  | z :: p, r, h => by
    simp only [List.all_cons, Bool.and_eq_true] at h
    have e : enc (z :: p) ++ r = encodeRune z ++ (enc p ++ r) := by simp [enc]
    rw [e, dec_step (one_enc h.1 _), List.drop_left, dec_app p r h.2, Option.map_map]
    congr 1
theorem dec_both {a b : List UInt8} {x y : List Int} (ha : dec a = some x) (hb : dec b = some y) : dec (a ++ b) = some (x ++ y) := by
  obtain ⟨h1, rfl⟩ := (dec_iff a x).1 ha
  rw [dec_app x b h1, hb]; rfl

/-- What stands behind a code point's first byte is no first byte. -/
theorem tail_cont {z : Int} {k : Nat} (h1 : 1 ≤ k) (h2 : k < (encodeRune z).length) : ∃ b t, (encodeRune z).drop k = b :: t ∧ 128 ≤ b.toNat ∧ b.toNat < 192 := by
  have key : ∀ x : Int, 0 ≤ x → ∀ y, (128 + x % 64).toNat.toUInt8 = y → 128 ≤ y.toNat ∧ y.toNat < 192 := by
    intro x _ y hy
    subst hy
    rw [mod64 (by omega) (by omega)]
    omega
  unfold encodeRune encodeRuneZ at h2 ⊢
  repeat' split
  · rename_i c; rw [if_pos c] at h2; simp at h2; omega
  · rename_i c1 c2; rw [if_neg c1, if_pos c2] at h2
    have : k = 1 := by simp at h2; omega
    subst this
    exact ⟨_, _, rfl, key z (by omega) _ rfl⟩
  · rename_i c1 c2 c3; rw [if_neg c1, if_neg c2, if_pos c3] at h2
    have : k = 1 ∨ k = 2 := by simp at h2; omega
    rcases this with rfl | rfl
    · exact ⟨_, _, rfl, key (z / 64) (by omega) _ rfl⟩
    · exact ⟨_, _, rfl, key z (by omega) _ rfl⟩
  · rename_i c1 c2 c3 c4; rw [if_neg c1, if_neg c2, if_neg c3, if_pos c4] at h2
    have : k = 1 ∨ k = 2 ∨ k = 3 := by simp at h2; omega
    rcases this with rfl | rfl | rfl
    · exact ⟨_, _, rfl, key (z / 4096) (by omega) _ rfl⟩
    · exact ⟨_, _, rfl, key (z / 64) (by omega) _ rfl⟩
    · exact ⟨_, _, rfl, key z (by omega) _ rfl⟩
  · rename_i c1 c2 c3 c4; rw [if_neg c1, if_neg c2, if_neg c3, if_neg c4] at h2
    have : k = 1 ∨ k = 2 := by simp at h2; omega
    rcases this with rfl | rfl
    · exact ⟨_, _, rfl, by decide⟩
    · exact ⟨_, _, rfl, by decide⟩
theorem cut_or : ∀ (zs : List Int) (k : Nat), k ≤ (enc zs).length → (∃ p q, zs = p ++ q ∧ (enc zs).take k = enc p ∧ (enc zs).drop k = enc q) ∨ ∃ b t, (enc zs).drop k = b :: t ∧ 128 ≤ b.toNat ∧ b.toNat < 192
  | [], k, h => by
    have : k = 0 := by simpa [enc] using h
    subst this
    exact .inl ⟨[], [], rfl, rfl, rfl⟩
  | z :: zs, k, h => by
    have e : enc (z :: zs) = encodeRune z ++ enc zs := by simp [enc]
    rw [e] at h ⊢
    by_cases h0 : k = 0
    · subst h0
      exact .inl ⟨[], z :: zs, rfl, rfl, by rw [e]; rfl⟩
    by_cases h1 : k < (encodeRune z).length
    · obtain ⟨b, t, ht, hb⟩ := tail_cont (by omega) h1
      exact .inr ⟨b, t ++ enc zs, by rw [List.drop_append_of_le_length (by omega), ht]; rfl, hb⟩
    · obtain ⟨j, rfl⟩ : ∃ j, k = (encodeRune z).length + j := ⟨k - (encodeRune z).length, by omega⟩
      have hj : j ≤ (enc zs).length := by simp at h; omega
      rcases cut_or zs j hj with ⟨p, q, rfl, h3, h4⟩ | ⟨b, t, h3, hb⟩
      · refine .inl ⟨z :: p, q, rfl, ?_, ?_⟩
        · rw [List.take_length_add_append, h3]; simp [enc]
        · rw [List.drop_length_add_append, h4]
      · exact .inr ⟨b, t, by rw [List.drop_length_add_append, h3], hb⟩

/-- A text that is cut. -/
theorem cut_same {s : List UInt8} {zs : List Int} (h : dec s = some zs) {k : Nat} (hk : k < s.length) :
    (one (s.drop k)).isSome = (dec (s.take k)).isSome ∧ (one (s.drop k)).isSome = (dec (s.drop k)).isSome := by
  obtain ⟨hm, rfl⟩ := (dec_iff s zs).1 h
  have hne : (enc zs).drop k ≠ [] := by
    intro h
    have := congrArg List.length h
    simp at this; omega
  rcases cut_or zs k (by omega) with ⟨p, q, rfl, h3, h4⟩ | ⟨b, t, h3, hb1, hb2⟩
  · rw [List.all_append, Bool.and_eq_true] at hm
    rw [h3, h4, dec_enc p hm.1, dec_enc q hm.2]
    cases h1 : one (enc q) with
    | some p => exact ⟨rfl, rfl⟩
    | none =>
      have := dec_bad (by rw [← h4]; exact hne) h1
      rw [dec_enc q hm.2] at this; cases this
  · have hs : headS (b.toNat : Int) = 0 := by
      unfold headS; rw [if_neg (by omega), if_neg (by omega), if_neg (by omega), if_neg (by omega)]
    have h1 : one ((enc zs).drop k) = none := by rw [h3]; exact one_no (k := 0) hs (.inl rfl)
    have h2 : dec ((enc zs).drop k) = none := dec_bad hne h1
    have h4 : dec ((enc zs).take k) = none := by
      cases h5 : dec ((enc zs).take k) with
      | none => rfl
      | some p =>
        obtain ⟨hp, he⟩ := (dec_iff _ p).1 h5
        have := dec_app p ((enc zs).drop k) hp
        rw [he, List.take_append_drop, h, h2] at this
        cases this
    rw [h1, h2, h4]
    exact ⟨rfl, rfl⟩
end Go.Proofs.YtocoajmhdobagaaDoor
