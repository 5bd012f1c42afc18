/-
  Contract: the chapter's first example is so.
-/
import Derived.Test.YtocoajmhdobagaaDoorTg
namespace Go.Proofs.YtocoajmhdobagaaDoor
open Go Go.RowKit Go.Lib Go.Proofs.YtocoajmhdobagaaDoor.Wd

theorem alive_pts : pts [65, 195, 169, 226, 130, 172, 240, 159, 153, 130] = [65, 233, 8364, 128578] ∧ ptsErr [65, 195, 169, 226, 130, 172, 240, 159, 153, 130] = 0 := by
  have h : dec [65, 195, 169, 226, 130, 172, 240, 159, 153, 130] = some [65, 233, 8364, 128578] := (dec_iff _ _).2 (by decide)
  unfold pts ptsErr
  rw [h]
  decide

set_option maxHeartbeats 1000000 in
theorem alive_any (w : World) :
    Calls Tryd.prog 16 #[] w fun e w' => e = .returned (.bool true) ∧ Old w w' := by
  have HP := Lib.hid alive_pts.1
  have HE := Lib.hid alive_pts.2
  go_enter Tryd.func16, Tryd.ntmps16
  go_wp2_with (first
    | (go_at_call 9; (with_reducible refine (Points_any _ _ (by decide)).mono ?_); rintro e w1 ⟨A, c, he, hown1, ho1⟩; simp only [HP.out, HE.out] at he hown1; subst he)
    | (go_at_call 11; (with_reducible refine (Same_any A _ 4 4 c 4 [65, 233, 8364, 128578] [65, 233, 8364, 128578] _ ((Sl.of_own hown1).alloc _) (Sl.lit _ #[_, _, _, _] _ 4 1 (by decide) rfl) (by decide) (by decide)).mono ?_); rintro e w' ⟨he, q, hw⟩; subst he hw))
  go_ret
  exact ⟨by simp, (ho1.alloc _).drewN q⟩
end Go.Proofs.YtocoajmhdobagaaDoor
