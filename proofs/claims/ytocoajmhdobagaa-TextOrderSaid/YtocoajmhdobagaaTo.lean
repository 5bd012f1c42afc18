/-
  Plain law of layer 5: texts are in the order of their code points. No program in sight.
-/
import Derived.Test.YtocoajmhdobagaaTq
namespace Go.Proofs.Ytocoajmhdobagaa
open Go Go.RowKit Go.Lib

theorem u8_lt {p q : Int} (hp : 0 ≤ p ∧ p < 256) (hq : 0 ≤ q ∧ q < 256) : (p.toNat.toUInt8 < q.toNat.toUInt8) ↔ p < q := by
  rw [UInt8.lt_iff_toNat_lt, mod64 hp.1 hp.2, mod64 hq.1 hq.2]; omega
theorem u8_eq {p q : Int} (hp : 0 ≤ p ∧ p < 256) (hq : 0 ≤ q ∧ q < 256) : (p.toNat.toUInt8 = q.toNat.toUInt8) ↔ p = q := by
  rw [← UInt8.toNat_inj, mod64 hp.1 hp.2, mod64 hq.1 hq.2]; omega
/-- Bytes told as numbers, in the order of texts. -/
def lessZ : List Int → List Int → Bool
  | _, [] => false
  | [], _ :: _ => true
  | a :: x, b :: y => decide (a < b) || (decide (a = b) && lessZ x y)
theorem less_map : ∀ (x y : List Int), (∀ p ∈ x, 0 ≤ p ∧ p < 256) → (∀ p ∈ y, 0 ≤ p ∧ p < 256) → Op.bytesLess (x.map fun p => p.toNat.toUInt8) (y.map fun p => p.toNat.toUInt8) = lessZ x y
  | [], [], _, _ => by simp [Op.bytesLess, lessZ]
  | _ :: _, [], _, _ => by simp [Op.bytesLess, lessZ]
  | [], _ :: _, _, _ => by simp [Op.bytesLess, lessZ]
  | a :: x, b :: y, hx, hy => by
    have ha := hx a (by simp)
    have hb := hy b (by simp)
    have ih := less_map x y (fun p hp => hx p (by simp [hp])) (fun p hp => hy p (by simp [hp]))
    simp only [List.map_cons, Op.bytesLess, lessZ, ih, u8_lt ha hb]
    congr 2
    rw [Bool.eq_iff_iff, beq_iff_eq, decide_eq_true_iff, u8_eq ha hb]
def encZ (l : List Int) : List Int := l.flatMap encodeRuneZ
theorem enc_encZ (l : List Int) : enc l = (encZ l).map fun p => p.toNat.toUInt8 := by
  unfold enc encZ
  rw [List.map_flatMap]
  rfl
theorem encZ_byte (l : List Int) : ∀ p ∈ encZ l, 0 ≤ p ∧ p < 256 := by
  intro p hp
  obtain ⟨z, _, hz⟩ := List.mem_flatMap.1 hp
  exact encodeRuneZ_byte z p hz
theorem lessZ_same (p x y : List Int) : lessZ (p ++ x) (p ++ y) = lessZ x y := by
  induction p with
  | nil => rfl
  | cons a p ih => simp [lessZ, ih]
theorem lessZ_step {z t : Int} (hz : may z = true) (ht : may t = true) (hne : z ≠ t) (x y : List Int) : lessZ (encodeRuneZ z ++ x) (encodeRuneZ t ++ y) = decide (z < t) := by
  have h1 := (may_iff z).1 hz
  have h2 := (may_iff t).1 ht
  have cases4 : ∀ r : Int, may r = true → (encodeRuneZ r = [r] ∧ 0 ≤ r ∧ r ≤ 127) ∨ (encodeRuneZ r = [192 + r / 64, 128 + r % 64] ∧ 128 ≤ r ∧ r ≤ 2047) ∨ (encodeRuneZ r = [224 + r / 4096, 128 + r / 64 % 64, 128 + r % 64] ∧ 2048 ≤ r ∧ r ≤ 65535) ∨ (encodeRuneZ r = [240 + r / 262144, 128 + r / 4096 % 64, 128 + r / 64 % 64, 128 + r % 64] ∧ 65536 ≤ r ∧ r ≤ 1114111) := by
    intro r hr
    have h := (may_iff r).1 hr
    by_cases c1 : r ≤ 127
    · exact .inl ⟨encodeRuneZ_one (by omega) c1, by omega, c1⟩
    by_cases c2 : r ≤ 2047
    · exact .inr (.inl ⟨encodeRuneZ_two (by omega) c2, by omega, c2⟩)
    by_cases c3 : r ≤ 65535
    · exact .inr (.inr (.inl ⟨encodeRuneZ_three (by omega), by omega, c3⟩))
    · exact .inr (.inr (.inr ⟨encodeRuneZ_four (by omega) (by omega), by omega, by omega⟩))
  rcases cases4 z hz with ⟨e1, a1, b1⟩ | ⟨e1, a1, b1⟩ | ⟨e1, a1, b1⟩ | ⟨e1, a1, b1⟩ <;>
  rcases cases4 t ht with ⟨e2, a2, b2⟩ | ⟨e2, a2, b2⟩ | ⟨e2, a2, b2⟩ | ⟨e2, a2, b2⟩ <;>
  (rw [e1, e2]; clear e1 e2 cases4 hz ht h1 h2; simp only [List.cons_append, List.nil_append, lessZ]; rw [Bool.eq_iff_iff]; simp only [Bool.or_eq_true, Bool.and_eq_true, decide_eq_true_iff])
  · omega
  · omega
  · omega
  · omega
  · omega
  · constructor <;> intro h <;> omega
  · omega
  · omega
  · omega
  · omega
  · omega
  · omega
  · omega
  · omega
  · omega
  · omega

theorem order_Z (a b : List Int) : Op.bytesLess (enc a) (enc b) = lessZ (encZ a) (encZ b) := by
  rw [enc_encZ, enc_encZ, less_map _ _ (encZ_byte a) (encZ_byte b)]
theorem encZ_append (a b : List Int) : encZ (a ++ b) = encZ a ++ encZ b := by simp [encZ]
theorem encZ_cons (z : Int) (l : List Int) : encZ (z :: l) = encodeRuneZ z ++ encZ l := by simp [encZ]
theorem take_same {a b : List Int} {k : Nat} (hka : k ≤ a.length) (hkb : k ≤ b.length) (hsame : ∀ j, j < k → a.getD j 0 = b.getD j 0) : a.take k = b.take k := by
  apply List.ext_getElem (by simp; omega)
  intro j h1 h2
  have hj : j < k := by simp at h1; omega
  have := hsame j hj
  rw [List.getD_eq_getElem?_getD, List.getD_eq_getElem?_getD, List.getElem?_eq_getElem (by omega), List.getElem?_eq_getElem (by omega)] at this
  simpa using this
theorem encZ_pos {z : Int} (x : List Int) : ∃ p q, encodeRuneZ z ++ x = p :: q := by
  unfold encodeRuneZ
  repeat' split
  all_goals exact ⟨_, _, rfl⟩

/-- Texts are in the order of their code points. -/
theorem order_end {a b : List Int} {k : Nat} (hk : k = a.length ∨ k = b.length) (hka : k ≤ a.length) (hkb : k ≤ b.length) (hsame : ∀ j, j < k → a.getD j 0 = b.getD j 0) :
    Op.bytesLess (enc a) (enc b) = decide (a.length < b.length) := by
  have ht := take_same hka hkb hsame
  rw [order_Z]
  conv => lhs; rw [← List.take_append_drop k a, ← List.take_append_drop k b, encZ_append, encZ_append, ht]
  rw [lessZ_same]
  rcases hk with rfl | rfl
  · rw [List.drop_of_length_le (Nat.le_refl _)]
    by_cases h : a.length < b.length
    · rw [List.drop_eq_getElem_cons h]
      obtain ⟨p, q, hpq⟩ := encZ_pos (z := b[a.length]) (encZ (b.drop (a.length + 1)))
      have : encZ (b[a.length] :: b.drop (a.length + 1)) = p :: q := by rw [← hpq, encZ_cons]
      rw [this]
      simp [encZ, lessZ, h]
    · rw [List.drop_of_length_le (by omega)]
      simp [encZ, lessZ, h]
  · rw [List.drop_of_length_le (l := b) (Nat.le_refl _)]
    have h : ¬ a.length < b.length := by omega
    simp [encZ, h]
    cases List.flatMap encodeRuneZ (a.drop b.length) <;> rfl
theorem order_at {a b : List Int} (ha : a.all may = true) (hb : b.all may = true) {k : Nat} (hka : k < a.length) (hkb : k < b.length) (hsame : ∀ j, j < k → a.getD j 0 = b.getD j 0) (hne : a.getD k 0 ≠ b.getD k 0) :
    Op.bytesLess (enc a) (enc b) = decide (a.getD k 0 < b.getD k 0) := by
  have ht := take_same (Nat.le_of_lt hka) (Nat.le_of_lt hkb) hsame
  have ga : a.getD k 0 = a[k] := by simp [List.getD_eq_getElem?_getD, hka]
  have gb : b.getD k 0 = b[k] := by simp [List.getD_eq_getElem?_getD, hkb]
  rw [ga, gb] at hne ⊢
  rw [order_Z]
  conv => lhs; rw [← List.take_append_drop k a, ← List.take_append_drop k b, encZ_append, encZ_append, ht]
  rw [lessZ_same, List.drop_eq_getElem_cons hka, List.drop_eq_getElem_cons hkb]
  have e : ∀ (z : Int) (l : List Int), encZ (z :: l) = encodeRuneZ z ++ encZ l := fun z l => by simp [encZ]
  rw [e, e]
  exact lessZ_step (List.all_eq_true.1 ha _ (List.getElem_mem hka)) (List.all_eq_true.1 hb _ (List.getElem_mem hkb)) hne _ _
end Go.Proofs.Ytocoajmhdobagaa
