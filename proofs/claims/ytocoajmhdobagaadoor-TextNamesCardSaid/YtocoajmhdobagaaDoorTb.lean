/-
  Contracts: which code points may be (layer 5 and the document's answer), and the bytes of one.
-/
import Derived.Test.YtocoajmhdobagaaDoorTa
import Derived.Test.YtocoajmhdobagaaDoorTp
import Derived.Test.YtocoajmhdobagaaDoorShelf
namespace Go.Proofs.YtocoajmhdobagaaDoor
open Go Go.RowKit Go.Proofs.YtocoajmhdobagaaDoor.Wd

set_option maxHeartbeats 400000 in
theorem May_any (n : Int) (w : World) (h0 : -9223372036854775808 ≤ n) (h1 : n ≤ 9223372036854775807) :
    Calls Tryd.prog 14 #[.int .i64 n] w fun e w' => e = .returned (.bool (may n)) ∧ w = w' := by
  go_enter Tryd.func14, Tryd.ntmps14
  go_wp2_with (go_at_call 23; refine (Tryd.utf8_ValidRune _ _).mono ?_; rintro e w' ⟨rfl, rfl⟩)
  all_goals go_ret
  all_goals refine ⟨ret_bool ?_, rfl⟩
  all_goals try simp only [beq_iff_eq, beq_eq_false_iff_ne] at *
  all_goals first
    | exact (may_t (by omega)).symm
    | exact (may_f (by omega)).symm
    | (unfold may Lib.validRune; rw [Bool.eq_iff_iff]; simp only [decide_eq_true_iff]; simp; omega)

set_option maxHeartbeats 400000 in
theorem refMay_any (n : Int) (w : World) (h0 : -9223372036854775808 ≤ n) (h1 : n ≤ 9223372036854775807) :
    Calls Tryd.prog 15 #[.int .i64 n] w fun e w' => e = .returned (.bool (may n)) ∧ w = w' := by
  go_enter Tryd.func15, Tryd.ntmps15
  go_wp2
  all_goals go_ret
  all_goals refine ⟨ret_bool ?_, rfl⟩
  all_goals try simp only [beq_iff_eq, beq_eq_false_iff_ne] at *
  all_goals first
    | exact (may_t (by omega)).symm
    | exact (may_f (by omega)).symm
    | (unfold may; rw [Bool.eq_iff_iff]; simp only [decide_eq_true_iff]; simp; omega)
end Go.Proofs.YtocoajmhdobagaaDoor
