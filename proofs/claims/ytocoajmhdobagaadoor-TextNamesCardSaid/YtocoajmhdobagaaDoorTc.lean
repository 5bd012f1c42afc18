/-
  Contracts: the bytes of a code point, as the document's answer makes them.
-/
import Derived.Test.YtocoajmhdobagaaDoorTb
namespace Go.Proofs.YtocoajmhdobagaaDoor
open Go Go.RowKit Go.Proofs.YtocoajmhdobagaaDoor.Wd

theorem ret_int {k : IntKind} {a b : Int} (h : a = b) : Ending.returned (.int k b) = Ending.returned (.int k a) := by rw [h]
theorem div64 (n : Int) (k : Nat) : n / 64 ^ k / 64 = n / 64 ^ (k + 1) := by
  rw [Int.pow_succ, Int.ediv_ediv_of_nonneg (by exact Int.le_of_lt (Int.pow_pos (by omega)))]

set_option maxHeartbeats 400000 in
theorem six_any (n : Int) (up : Nat) (w : World) (h0 : 0 ≤ n) (h1 : n ≤ 1114111) (hu : up ≤ 3) :
    Calls Tryd.prog 31 #[.int .i64 n, .int .i64 up] w fun e w' => e = .returned (.int .u8 (128 + n / 64 ^ up % 64)) ∧ w = w' := by
  go_enter Tryd.func31, Tryd.ntmps31
  go_wp2
  go_loop [0, 5] (fun s0 s5 => ∃ (k : Nat) (m : Int), k ≤ up ∧ 0 ≤ m ∧ m ≤ 1114111 ∧ Hid (m = n / 64 ^ k) ∧ s0 = .int .i64 m ∧ s5 = .int .i64 k) (fun _ s5 => up - (intOf s5).toNat)
  case atStart => exact ⟨0, n, Nat.zero_le _, h0, h1, by show n = n / 64 ^ 0; simp, rfl, rfl⟩
  case round =>
    obtain ⟨k, m, hk, hm0, hm1, hm, rfl, rfl⟩ := hrel
    by_cases hlt : k < up
    · go_wp2
      go_round
      case rel => exact ⟨k + 1, m / 64, by omega, by omega, by omega, by show m / 64 = n / 64 ^ (k + 1); rw [hm.out, div64], by go_num, by go_num⟩
      case measure => simp [intOf]; omega
    · have : k = up := by omega
      subst this
      go_wp2
      go_ret
      exact ⟨ret_int (by rw [← hm.out]), rfl⟩

theorem six0 (n : Int) (w : World) (h0 : 0 ≤ n) (h1 : n ≤ 1114111) :
    Calls Tryd.prog 31 #[.int .i64 n, .int .i64 0] w fun e w' => e = .returned (.int .u8 (128 + n % 64)) ∧ w = w' := by
  have := six_any n 0 w h0 h1 (by omega); simpa using this
theorem six1 (n : Int) (w : World) (h0 : 0 ≤ n) (h1 : n ≤ 1114111) :
    Calls Tryd.prog 31 #[.int .i64 n, .int .i64 1] w fun e w' => e = .returned (.int .u8 (128 + n / 64 % 64)) ∧ w = w' := by
  have := six_any n 1 w h0 h1 (by omega); simpa using this
theorem six2 (n : Int) (w : World) (h0 : 0 ≤ n) (h1 : n ≤ 1114111) :
    Calls Tryd.prog 31 #[.int .i64 n, .int .i64 2] w fun e w' => e = .returned (.int .u8 (128 + n / 4096 % 64)) ∧ w = w' := by
  have := six_any n 2 w h0 h1 (by omega); simpa using this

set_option maxHeartbeats 400000 in
theorem Bytes_any (n : Int) (w : World) (h0 : 0 ≤ n) (h1 : n ≤ 1114111) (hs : 2048 ≤ n → n ≤ 65535 → (2048 ≤ n ∧ n < 55296) ∨ (57343 < n ∧ n ≤ 65535)) :
    Calls Tryd.prog 28 #[.int .i64 n] w fun e w' => ∃ v, e = .returned v ∧ Sl w' 1 v (Lib.runeCells n).length (Lib.runeCells n) ∧ Old w w' := by
  go_enter Tryd.func28, Tryd.ntmps28
  go_wp2_with (first
    | (go_at_call 31; (with_reducible refine (six0 _ _ h0 h1).mono ?_); rintro e w' ⟨rfl, rfl⟩)
    | (go_at_call 31; (with_reducible refine (six1 _ _ h0 h1).mono ?_); rintro e w' ⟨rfl, rfl⟩)
    | (go_at_call 31; (with_reducible refine (six2 _ _ h0 h1).mono ?_); rintro e w' ⟨rfl, rfl⟩))
  all_goals go_ret
  · rw [show Lib.runeCells n = [.int .u8 n] by simp [Lib.runeCells, Lib.encodeRuneZ_one h0 (by omega : n ≤ 127)]]
    exact ⟨_, rfl, Sl.lit w #[_] _ 1 1 (by decide) rfl, Old.alloc (Old.refl _) _⟩
  · rw [show Lib.runeCells n = [.int .u8 (192 + n / 64), .int .u8 (128 + n % 64)] by simp [Lib.runeCells, Lib.encodeRuneZ_two (by omega : 128 ≤ n) (by omega : n ≤ 2047)]]
    exact ⟨_, rfl, Sl.lit w #[_, _] _ 2 1 (by decide) rfl, Old.alloc (Old.refl _) _⟩
  · rw [show Lib.runeCells n = [.int .u8 (224 + n / 4096), .int .u8 (128 + n / 64 % 64), .int .u8 (128 + n % 64)] by simp [Lib.runeCells, Lib.encodeRuneZ_three (hs (by omega) (by omega))]]
    exact ⟨_, rfl, Sl.lit w #[_, _, _] _ 3 1 (by decide) rfl, Old.alloc (Old.refl _) _⟩
  · rw [show Lib.runeCells n = [.int .u8 (240 + n / 262144), .int .u8 (128 + n / 4096 % 64), .int .u8 (128 + n / 64 % 64), .int .u8 (128 + n % 64)] by simp [Lib.runeCells, Lib.encodeRuneZ_four (by omega : 65536 ≤ n) h1]]
    exact ⟨_, rfl, Sl.lit w #[_, _, _, _] _ 4 1 (by decide) rfl, Old.alloc (Old.refl _) _⟩
end Go.Proofs.YtocoajmhdobagaaDoor
