/-
  Plain law of layer 5: the bytes of a list of code points. No program in sight.
-/
import Derived.Lib.RuneBytes
import Derived.Test.YtocoajmhdobagaaDoorWd
namespace Go.Proofs.YtocoajmhdobagaaDoor
open Go Go.RowKit

/-- May a code point stand in a text? -/
def may (n : Int) : Bool := decide (n = 9 ∨ n = 10 ∨ n = 13 ∨ (32 ≤ n ∧ n ≤ 1114111 ∧ ¬ (55296 ≤ n ∧ n ≤ 57343) ∧ n ≠ 65534 ∧ n ≠ 65535))
theorem may_iff (n : Int) : may n = true ↔ (n = 9 ∨ n = 10 ∨ n = 13 ∨ (32 ≤ n ∧ n ≤ 1114111 ∧ ¬ (55296 ≤ n ∧ n ≤ 57343) ∧ n ≠ 65534 ∧ n ≠ 65535)) := by
  unfold may; exact decide_eq_true_iff
theorem may_t {n : Int} (h : n = 9 ∨ n = 10 ∨ n = 13 ∨ (32 ≤ n ∧ n ≤ 1114111 ∧ ¬ (55296 ≤ n ∧ n ≤ 57343) ∧ n ≠ 65534 ∧ n ≠ 65535)) : true = may n := ((may_iff n).2 h).symm
theorem may_f {n : Int} (h : ¬ (n = 9 ∨ n = 10 ∨ n = 13 ∨ (32 ≤ n ∧ n ≤ 1114111 ∧ ¬ (55296 ≤ n ∧ n ≤ 57343) ∧ n ≠ 65534 ∧ n ≠ 65535))) : false = may n := by
  unfold may; symm; exact decide_eq_false_iff_not.2 h
theorem may_range {n : Int} (h : may n = true) : 0 ≤ n ∧ n ≤ 1114111 ∧ (2048 ≤ n → n ≤ 65535 → (2048 ≤ n ∧ n < 55296) ∨ (57343 < n ∧ n ≤ 65535)) := by
  have := (may_iff n).1 h
  refine ⟨by omega, by omega, fun a b => by omega⟩

/-- The bytes of code points, one behind the other. -/
def enc (l : List Int) : List UInt8 := l.flatMap Lib.encodeRune
def u8 (b : UInt8) : Value := .int .u8 (b.toNat : Int)
def ofErr (l : List Int) : Int := if l.all may then (if 16384 < (enc l).length then 4 else 0) else 50
def ofText (l : List Int) : List UInt8 := if ofErr l = 0 then enc l else []

theorem enc_append (a b : List Int) : enc (a ++ b) = enc a ++ enc b := by simp [enc]
theorem enc_snoc (a : List Int) (x : Int) : enc (a ++ [x]) = enc a ++ Lib.encodeRune x := by simp [enc]
theorem encodeRune_length (x : Int) : 1 ≤ (Lib.encodeRune x).length ∧ (Lib.encodeRune x).length ≤ 4 := by
  unfold Lib.encodeRune Lib.encodeRuneZ
  repeat' split
  all_goals simp
theorem enc_length (l : List Int) : (enc l).length ≤ 4 * l.length := by
  induction l with
  | nil => simp [enc]
  | cons x l ih =>
    have := (encodeRune_length x).2
    simp only [enc, List.flatMap_cons, List.length_append, List.length_cons] at ih ⊢
    omega
theorem runeCells_eq (x : Int) : Lib.runeCells x = (Lib.encodeRune x).map u8 := by
  unfold Lib.runeCells Lib.encodeRune
  rw [List.map_map]
  apply List.map_congr_left
  intro y hy
  have := Lib.encodeRuneZ_byte x y hy
  simp only [Function.comp, u8]
  congr 1
  have : (y.toNat.toUInt8).toNat = y.toNat := by
    simp; omega
  rw [this]; omega
theorem runeCells_length (x : Int) : (Lib.runeCells x).length = (Lib.encodeRune x).length := by rw [runeCells_eq]; simp
theorem enc_cells (l : List Int) (x : Int) : (enc l).map u8 ++ Lib.runeCells x = (enc (l ++ [x])).map u8 := by
  rw [runeCells_eq, enc_snoc, List.map_append]
theorem oneCell_u8 (l : List UInt8) : ∀ u ∈ l.map u8, u.oneCell' = true := by
  intro u hu; obtain ⟨b, _, rfl⟩ := List.mem_map.1 hu; rfl
theorem ofErr_bad {l : List Int} {k : Nat} (hk : k < l.length) (h : may (l.getD k 0) = false) : ofErr l = 50 := by
  unfold ofErr
  rw [if_neg]
  intro hall
  have := List.all_eq_true.1 hall (l[k]) (List.getElem_mem hk)
  simp [List.getD_eq_getElem?_getD, hk] at h
  rw [h] at this; cases this
theorem all_snoc {l : List Int} {k : Nat} (hk : k < l.length) (h : (l.take k).all may = true) (hm : may (l.getD k 0) = true) : (l.take (k + 1)).all may = true := by
  rw [List.take_succ_eq_append_getElem hk, List.all_append, h]
  simp [List.getD_eq_getElem?_getD, hk] at hm
  simp [hm]
theorem take_snoc {l : List Int} {k : Nat} (hk : k < l.length) : l.take (k + 1) = l.take k ++ [l.getD k 0] := by
  rw [List.take_succ_eq_append_getElem hk]; simp [List.getD_eq_getElem?_getD, hk]
end Go.Proofs.YtocoajmhdobagaaDoor
