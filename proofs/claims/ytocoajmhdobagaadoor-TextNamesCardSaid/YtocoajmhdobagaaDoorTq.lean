/-
  Plain laws of layer 5: how bytes are cut into code points, and that this undoes how they are put. No program in sight.
-/
import Derived.Lib.MapLaws
import Derived.Lib.RuneCountTail
import Derived.Test.YtocoajmhdobagaaDoorTp
namespace Go.Proofs.YtocoajmhdobagaaDoor
open Go Go.RowKit Go.Lib

/-- The code point that may be with which bytes begin, and how many bytes it has. -/
def one (l : List UInt8) : Option (Int × Nat) :=
  if l = [] then none
  else if (decodeL l).1 = 65533 ∧ (decodeL l).2 = 1 then none
  else if may ((decodeL l).1 : Int) then some (((decodeL l).1 : Int), (decodeL l).2) else none

/-- All code points of bytes. -/
def decF : Nat → List UInt8 → Option (List Int)
  | _, [] => some []
  | 0, _ => none
  | f + 1, l => match one l with
    | none => none
    | some (z, k) => (decF f (l.drop k)).map (z :: ·)
def dec (l : List UInt8) : Option (List Int) := decF l.length l

theorem one_some {l : List UInt8} {z : Int} {k : Nat} (h : one l = some (z, k)) : l ≠ [] ∧ may z = true ∧ encodeRune z = l.take k ∧ 1 ≤ k ∧ k ≤ l.length := by
  unfold one at h
  split at h
  · cases h
  rename_i hne
  split at h
  · cases h
  rename_i hv
  split at h
  · rename_i hm
    simp only [Option.some.injEq, Prod.mk.injEq] at h
    obtain ⟨rfl, rfl⟩ := h
    have he := encode_decode l hne hv
    have hle := decodeL_le l hne
    refine ⟨hne, hm, he, ?_, hle⟩
    have := (encodeRune_length ((decodeL l).1 : Int)).1
    rw [he, List.length_take] at this
    omega
  · cases h

theorem mod64 {x : Int} (h0 : 0 ≤ x) (h1 : x < 256) : (x.toNat.toUInt8).toNat = x.toNat := by simp; omega

/-- What is put is what is read first. -/
theorem one_enc {z : Int} (hm : may z = true) (rest : List UInt8) : one (encodeRune z ++ rest) = some (z, (encodeRune z).length) := by
  have hmz := (may_iff z).1 hm
  have key : decodeL (encodeRune z ++ rest) = (z.toNat, (encodeRune z).length) := by
    rw [decodeL_N]
    by_cases c1 : 0 ≤ z ∧ z ≤ 127
    · have e : encodeRune z = [z.toNat.toUInt8] := by simp [encodeRune, encodeRuneZ_one c1.1 c1.2]
      rw [e]
      have a := mod64 (x := z) (by omega) (by omega)
      simp only [List.cons_append, List.nil_append, List.getD_cons_zero, List.length_cons, List.length_nil, a, decodeN]
      rw [if_pos (by omega)]
    · by_cases c2 : 128 ≤ z ∧ z ≤ 2047
      · have e : encodeRune z = [(192 + z / 64).toNat.toUInt8, (128 + z % 64).toNat.toUInt8] := by simp [encodeRune, encodeRuneZ_two c2.1 c2.2]
        rw [e]
        have a := mod64 (x := 192 + z / 64) (by omega) (by omega)
        have b := mod64 (x := 128 + z % 64) (by omega) (by omega)
        simp only [List.cons_append, List.nil_append, List.getD_cons_zero, List.getD_cons_succ, List.length_cons, List.length_nil, a, b, decodeN]
        rw [if_neg (by omega), if_pos (by omega), if_pos (by omega)]
        simp only [Prod.mk.injEq, and_true]; omega
      · by_cases c3 : z ≤ 65535
        · have e : encodeRune z = [(224 + z / 4096).toNat.toUInt8, (128 + z / 64 % 64).toNat.toUInt8, (128 + z % 64).toNat.toUInt8] := by simp [encodeRune, encodeRuneZ_three (r := z) (by omega)]
          rw [e]
          have a := mod64 (x := 224 + z / 4096) (by omega) (by omega)
          have b := mod64 (x := 128 + z / 64 % 64) (by omega) (by omega)
          have c := mod64 (x := 128 + z % 64) (by omega) (by omega)
          simp only [List.cons_append, List.nil_append, List.getD_cons_zero, List.getD_cons_succ, List.length_cons, List.length_nil, a, b, c, decodeN]
          rw [if_neg (by omega), if_neg (by omega), if_pos (by omega), if_pos (by omega)]
          simp only [Prod.mk.injEq, and_true]; omega
        · have e : encodeRune z = [(240 + z / 262144).toNat.toUInt8, (128 + z / 4096 % 64).toNat.toUInt8, (128 + z / 64 % 64).toNat.toUInt8, (128 + z % 64).toNat.toUInt8] := by simp [encodeRune, encodeRuneZ_four (r := z) (by omega) (by omega)]
          rw [e]
          have a := mod64 (x := 240 + z / 262144) (by omega) (by omega)
          have b := mod64 (x := 128 + z / 4096 % 64) (by omega) (by omega)
          have c := mod64 (x := 128 + z / 64 % 64) (by omega) (by omega)
          have d := mod64 (x := 128 + z % 64) (by omega) (by omega)
          simp only [List.cons_append, List.nil_append, List.getD_cons_zero, List.getD_cons_succ, List.length_cons, List.length_nil, a, b, c, d, decodeN]
          rw [if_neg (by omega), if_neg (by omega), if_neg (by omega), if_pos (by omega), if_pos (by omega)]
          simp only [Prod.mk.injEq, and_true]; omega
  have hne : encodeRune z ++ rest ≠ [] := by
    intro h
    have := (encodeRune_length z).1
    rw [List.append_eq_nil_iff] at h
    rw [h.1] at this; simp at this
  unfold one
  rw [if_neg hne, key]
  have hz : ((z.toNat : Nat) : Int) = z := by omega
  simp only [hz, hm, if_true]
  rw [if_neg]
  rintro ⟨h1, h2⟩
  have hz2 : z = 65533 := by omega
  subst hz2
  revert h2
  decide

theorem decF_fuel : ∀ (f g : Nat) (l : List UInt8), l.length ≤ f → l.length ≤ g → decF f l = decF g l
  | _, _, [], _, _ => by simp [decF]
  | 0, _, x :: l, h, _ => by simp at h
  | _, 0, x :: l, _, h => by simp at h
  | f + 1, g + 1, x :: l, hf, hg => by
    simp only [decF]
    cases h1 : one (x :: l) with
    | none => rfl
    | some p =>
      obtain ⟨z, k⟩ := p
      obtain ⟨_, _, _, hk, _⟩ := one_some h1
      simp only
      rw [decF_fuel f g ((x :: l).drop k) (by simp at hf ⊢; omega) (by simp at hg ⊢; omega)]

theorem dec_nil : dec [] = some [] := rfl
theorem dec_step {l : List UInt8} {z : Int} {k : Nat} (h : one l = some (z, k)) : dec l = (dec (l.drop k)).map (z :: ·) := by
  obtain ⟨hne, _, _, hk, hkl⟩ := one_some h
  obtain ⟨x, l', rfl⟩ := List.exists_cons_of_ne_nil hne
  unfold dec
  rw [show (x :: l').length = l'.length + 1 from rfl]
  simp only [decF, h]
  rw [decF_fuel l'.length ((x :: l').drop k).length _ (by simp; omega) (Nat.le_refl _)]
theorem dec_bad {l : List UInt8} (hne : l ≠ []) (h : one l = none) : dec l = none := by
  obtain ⟨x, l', rfl⟩ := List.exists_cons_of_ne_nil hne
  unfold dec
  rw [show (x :: l').length = l'.length + 1 from rfl]
  simp only [decF, h]

/-- What is put is got. -/
theorem dec_enc : ∀ (zs : List Int), zs.all may = true → dec (enc zs) = some zs
  | [], _ => rfl
  | z :: zs, h => by
    simp only [List.all_cons, Bool.and_eq_true] at h
    have e : enc (z :: zs) = encodeRune z ++ enc zs := by simp [enc]
    rw [e, dec_step (one_enc h.1 (enc zs)), List.drop_left, dec_enc zs h.2]
    rfl
/-- What is got is put as just this text. -/
theorem dec_some : ∀ (n : Nat) (l : List UInt8) (zs : List Int), l.length ≤ n → dec l = some zs → zs.all may = true ∧ enc zs = l
  | 0, l, zs, hn, h => by
    have : l = [] := List.eq_nil_of_length_eq_zero (by omega)
    subst this
    rw [dec_nil] at h
    cases h
    exact ⟨rfl, rfl⟩
  | n + 1, l, zs, hn, h => by
    by_cases hne : l = []
    · subst hne
      rw [dec_nil] at h
      cases h
      exact ⟨rfl, rfl⟩
    · cases h1 : one l with
      | none => rw [dec_bad hne h1] at h; cases h
      | some p =>
        obtain ⟨z, k⟩ := p
        obtain ⟨_, hm, he, hk, hkl⟩ := one_some h1
        rw [dec_step h1] at h
        obtain ⟨zs', h2, rfl⟩ := Option.map_eq_some_iff.1 h
        obtain ⟨ha, hb⟩ := dec_some n (l.drop k) zs' (by simp; omega) h2
        refine ⟨by simp [hm, ha], ?_⟩
        show encodeRune z ++ enc zs' = l
        rw [he, hb, List.take_append_drop]
theorem dec_iff (l : List UInt8) (zs : List Int) : dec l = some zs ↔ zs.all may = true ∧ enc zs = l :=
  ⟨fun h => dec_some l.length l zs (Nat.le_refl _) h, fun ⟨h1, h2⟩ => by rw [← h2, dec_enc zs h1]⟩
theorem dec_length {l : List UInt8} {zs : List Int} (h : dec l = some zs) : zs.length ≤ l.length := by
  obtain ⟨_, rfl⟩ := (dec_iff l zs).1 h
  induction zs with
  | nil => simp
  | cons z zs ih =>
    rename_i hall
    have := (encodeRune_length z).1
    have h2 : dec (enc zs) = some zs := dec_enc zs (by simp only [List.all_cons, Bool.and_eq_true] at hall; exact hall.2)
    have ih' := ih (by simp only [List.all_cons, Bool.and_eq_true] at hall; exact hall.2) h2
    have e : enc (z :: zs) = encodeRune z ++ enc zs := by simp [enc]
    rw [e, List.length_append, List.length_cons]
    omega

theorem odd_prefix {l : List UInt8} (h : hasPrefix l [239, 191, 189] = true) : ∃ rest, l = encodeRune 65533 ++ rest := by
  unfold hasPrefix at h
  obtain ⟨rest, hr⟩ := List.isPrefixOf_iff_prefix.1 h
  exact ⟨rest, by rw [← hr]; congr 1⟩
theorem decodeL_odd {l : List UInt8} (h : hasPrefix l [239, 191, 189] = true) : (decodeL l).2 ≠ 1 := by
  obtain ⟨rest, rfl⟩ := odd_prefix h
  have h1 := one_enc (z := 65533) (by decide) rest
  unfold one at h1
  split at h1
  · cases h1
  split at h1
  · cases h1
  rename_i hv
  split at h1
  · simp only [Option.some.injEq, Prod.mk.injEq] at h1
    rw [h1.2]
    decide
  · cases h1
/-- How a range over a string tells it. -/
theorem one_of_decode {l : List UInt8} (hne : l ≠ []) : one l = if ((decodeL l).1 = 65533 ∧ hasPrefix l [239, 191, 189] = false) ∨ may ((decodeL l).1 : Int) = false then none else some (((decodeL l).1 : Int), (decodeL l).2) := by
  unfold one
  rw [if_neg hne]
  by_cases h1 : (decodeL l).1 = 65533 ∧ (decodeL l).2 = 1
  · rw [if_pos h1, if_pos]
    left
    refine ⟨h1.1, ?_⟩
    cases hp : hasPrefix l [239, 191, 189] with
    | false => rfl
    | true => exact absurd h1.2 (decodeL_odd hp)
  · rw [if_neg h1]
    by_cases h2 : (decodeL l).1 = 65533
    · have he := encode_decode l hne h1
      rw [h2] at he
      have hp : hasPrefix l [239, 191, 189] = true := by
        unfold hasPrefix
        rw [List.isPrefixOf_iff_prefix, show ([239, 191, 189] : List UInt8) = encodeRune ((65533 : Nat) : Int) from by decide, he]
        exact List.take_prefix _ _
      rw [hp]
      by_cases hm : may ((decodeL l).1 : Int) = true
      · simp [hm]
      · simp [hm]
    · by_cases hm : may ((decodeL l).1 : Int) = true
      · simp [hm, h2]
      · simp [hm, h2]
theorem decode_drop (s : ByteArray) (pos : Nat) : Utf8.decode s pos = decodeL (s.data.toList.drop pos) := by
  have h := tail_decode s pos 0
  rw [Nat.add_zero] at h
  rw [← h]
  unfold decodeL
  congr 1
  have h2 : (s.extract pos s.size).data.toList = s.data.toList.drop pos := by
    rw [extract_data, List.take_of_length_le]
    simp
  apply ByteArray.ext
  apply Array.ext'
  simpa using h2
end Go.Proofs.YtocoajmhdobagaaDoor
