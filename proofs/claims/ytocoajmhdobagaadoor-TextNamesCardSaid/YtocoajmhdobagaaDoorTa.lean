/-
  Contracts of the smallest functions of layer 5 and of the document's answer for it.
-/
import Derived.Test.YtocoajmhdobagaaDoorChecked
import Derived.WalkKit
import Derived.RegionTactic
import Derived.BigQuiet
import Derived.Deep.QuietTactic
import Derived.Deep.LoopGhost
import Derived.Outline
import Derived.Test.YtocoajmhdobagaaDoorWd
namespace Go.Proofs.YtocoajmhdobagaaDoor
open Go Go.RowKit Go.Proofs.YtocoajmhdobagaaDoor.Wd

theorem byte_info : (Tryd.prog.info? 5).map (fun i => (i.zero, i.size, i.bytes)) = some (some (.int .u8 0), 1, 1) := by kernel_rfl
theorem int_info : (Tryd.prog.info? 3).map (fun i => (i.zero, i.size, i.bytes)) = some (some (.int .i64 0), 1, 8) := by kernel_rfl
theorem ret_bool {a b : Bool} (h : a = b) : Ending.returned (.bool b) = Ending.returned (.bool a) := by rw [h]
theorem list_eq_of {xs ys : List Int} {n : Nat} (hx : xs.length = n) (hy : ys.length = n) (h : ∀ j, j < n → xs.getD j 0 = ys.getD j 0) : xs = ys := by
  apply List.ext_getElem (by omega)
  intro j h1 h2
  have := h j (by omega)
  simpa [List.getD_eq_getElem?_getD, h1, h2] using this

set_option maxHeartbeats 400000 in
theorem Same_t (A B : Option Addr) (n c d : Nat) (xs ys : List Int) (w : World) (hA : Sl w 1 (.slice A n c) n (xs.map (.int .i64))) (hB : Sl w 1 (.slice B n d) n (ys.map (.int .i64))) (hn : n ≤ maxLen) :
    Calls Tryd.prog 11 #[.slice A n c, .slice B n d] w fun e w' => e = .returned (.bool (xs == ys)) ∧ ∃ q, w' = w.drewN q := by
  unfold maxLen at hn
  have Hx := Lib.hid (show xs.length = n by simpa using hA.1); have Hy := Lib.hid (show ys.length = n by simpa using hB.1)
  have K1 := Lib.hid hA; have K2 := Lib.hid hB; clear hA hB
  go_enter Tryd.func11, Tryd.ntmps11
  go_wp2
  go_loopg [5] n (fun g s5 wr => ∃ k q : Nat, k ≤ n ∧ n - k ≤ g ∧ s5 = .int .i64 k ∧ wr = w.drewN q ∧ Hid (∀ j, j < k → xs.getD j 0 = ys.getD j 0))
  case atStart => exact ⟨0, 0, Nat.zero_le _, by omega, rfl, rfl, fun j hj => absurd hj (Nat.not_lt_zero _)⟩
  case round =>
    obtain ⟨k, q, hk, hg, rfl, rfl, heq⟩ := hrel
    by_cases hlt : k < n
    · have hlx : k < xs.length := by rw [Hx.out]; exact hlt
      have hly : k < ys.length := by rw [Hy.out]; exact hlt
      obtain ⟨ad1, rfl, g1⟩ := K1.out.at1 hlt (u := .int .i64 (xs.getD k 0)) (by simp [List.getD_eq_getElem?_getD, hlx])
      obtain ⟨ad2, rfl, g2⟩ := K2.out.at1 hlt (u := .int .i64 (ys.getD k 0)) (by simp [List.getD_eq_getElem?_getD, hly])
      by_cases hxy : xs.getD k 0 = ys.getD k 0
      · rw [hxy] at g1
        have Hxy := Lib.hid hxy; clear hxy
        generalize ys.getD k 0 = y at g1 g2
        have hb : (y != y) = false := by simp
        go_wp2
        go_quiet (fail)
        go_wp2
        go_roundg (n - (k + 1))
        case measure => omega
        case rel =>
          refine ⟨k + 1, _, by omega, by omega, by go_num, rfl, fun j hj => ?_⟩
          by_cases e : j = k
          · subst e; exact Hxy.out
          · exact heq.out j (by omega)
      · have hne : (xs == ys) = false := by
          rw [beq_eq_false_iff_ne]; rintro rfl; exact hxy rfl
        have Hne := Lib.hid hne; clear hne
        generalize xs.getD k 0 = x at g1 hxy
        generalize ys.getD k 0 = y at g2 hxy
        have hb : (x != y) = true := by simpa using hxy
        go_wp2
        go_quiet (fail)
        go_wp2
        go_ret
        exact ⟨ret_bool Hne.out, _, World.drewN_drewN _ _ _⟩
    · have : k = n := by omega
      subst this
      go_wp2
      go_ret
      exact ⟨ret_bool (by rw [list_eq_of Hx.out Hy.out heq.out]; simp), _, rfl⟩

set_option maxHeartbeats 400000 in
theorem Same_any (A B : Option Addr) (n m c d : Nat) (xs ys : List Int) (w : World) (hA : Sl w 1 (.slice A n c) n (xs.map (.int .i64))) (hB : Sl w 1 (.slice B m d) m (ys.map (.int .i64))) (hn : n ≤ maxLen) (hm : m ≤ maxLen) :
    Calls Tryd.prog 11 #[.slice A n c, .slice B m d] w fun e w' => e = .returned (.bool (xs == ys)) ∧ ∃ q, w' = w.drewN q := by
  by_cases hnm : n = m
  · subst hnm
    exact Same_t A B n c d xs ys w hA hB hn
  · unfold maxLen at hn hm
    have hne : (xs == ys) = false := by
      rw [beq_eq_false_iff_ne]; rintro rfl
      exact hnm (by have := hA.1; have := hB.1; simp at *; omega)
    have Hne := Lib.hid hne; clear hne hA hB
    have hb : ((n : Int) != (m : Int)) = true := by rw [bne_iff_ne]; omega
    go_enter Tryd.func11, Tryd.ntmps11
    go_wp2
    go_ret
    exact ⟨ret_bool Hne.out, 0, rfl⟩
end Go.Proofs.YtocoajmhdobagaaDoor
