/-
  Contracts: which code points may be (layer 5 and the document's answer), and the bytes of one.
-/
import Derived.Test.YtocoajmhdobagaaTa
import Derived.Test.YtocoajmhdobagaaTp
import Derived.Test.YtocoajmhdobagaaShelf
namespace Go.Proofs.Ytocoajmhdobagaa
open Go Go.RowKit Go.Proofs.Ytocoajmhdobagaa.Wd

set_option maxHeartbeats 400000 in
theorem May_any (n : Int) (w : World) (h0 : -9223372036854775808 ≤ n) (h1 : n ≤ 9223372036854775807) :
    Calls Try.prog 10 #[.int .i64 n] w fun e w' => e = .returned (.bool (may n)) ∧ w = w' := by
  go_enter Try.func10, Try.ntmps10
  go_wp2_with (go_at_call 15; refine (Try.utf8_ValidRune _ _).mono ?_; rintro e w' ⟨rfl, rfl⟩)
  all_goals go_ret
  all_goals refine ⟨ret_bool ?_, rfl⟩
  all_goals try simp only [beq_iff_eq, beq_eq_false_iff_ne] at *
  all_goals first
    | exact (may_t (by omega)).symm
    | exact (may_f (by omega)).symm
    | (unfold may Lib.validRune; rw [Bool.eq_iff_iff]; simp only [decide_eq_true_iff]; simp; omega)

set_option maxHeartbeats 400000 in
theorem refMay_any (n : Int) (w : World) (h0 : -9223372036854775808 ≤ n) (h1 : n ≤ 9223372036854775807) :
    Calls Try.prog 12 #[.int .i64 n] w fun e w' => e = .returned (.bool (may n)) ∧ w = w' := by
  go_enter Try.func12, Try.ntmps12
  go_wp2
  all_goals go_ret
  all_goals refine ⟨ret_bool ?_, rfl⟩
  all_goals try simp only [beq_iff_eq, beq_eq_false_iff_ne] at *
  all_goals first
    | exact (may_t (by omega)).symm
    | exact (may_f (by omega)).symm
    | (unfold may; rw [Bool.eq_iff_iff]; simp only [decide_eq_true_iff]; simp; omega)
end Go.Proofs.Ytocoajmhdobagaa
