/-
  The walk of the law TextTells.
-/
import Derived.Test.YtocoajmhdobagaaDoorTnx
namespace Go.Proofs.YtocoajmhdobagaaDoor
open Go Go.RowKit Go.Lib Go.Proofs.YtocoajmhdobagaaDoor.Wd

theorem pts_le (l : List UInt8) : (pts l).length ≤ l.length := by
  unfold pts
  split
  · simp
  · cases h : dec l with
    | none => simp
    | some zs => simpa using dec_length h

set_option maxRecDepth 100000 in
set_option maxHeartbeats 4000000 in
theorem TextTells_walk (s : ByteArray) (at' : Int) (w : World) (hT : Tabs w) (hs : s.size ≤ maxLen) (h0 : -9223372036854775808 ≤ at') (h1 : at' ≤ 9223372036854775807) :
    Calls Tryd.prog 3 #[.string s, .int .i64 at'] w fun e w' => e = .returned (.bool true) ∧ Old w w' := by
  have Hs := Lib.hid hs
  unfold maxLen at hs
  by_cases h2 : 17000 < s.size
  · clear hT
    have h3 : 2000 < s.size := by omega
    have h4 : ¬ s.size ≤ 16384 := by omega
    go_enter Tryd.func3, Tryd.ntmps3
    go_wp2
    go_ret
    exact ⟨rfl, Old.refl w⟩
  by_cases h3 : 2000 < s.size ∧ s.size ≤ 16384
  · obtain ⟨h3, h4⟩ := h3
    clear hT
    go_enter Tryd.func3, Tryd.ntmps3
    go_wp2
    go_ret
    exact ⟨rfl, Old.refl w⟩
  · have HT := Lib.hid hT
    clear hT
    have hM : s.size ≤ 1000000 := by omega
    have HL : Hid ((pts s.data.toList).length ≤ maxLen) := by
      have := pts_le s.data.toList
      rw [← Lib.size_eq] at this
      show _ ≤ maxLen
      unfold maxLen; omega
    by_cases h4 : 2000 < s.size
    all_goals
      go_enter Tryd.func3, Tryd.ntmps3
      go_wp2_with (first
        | (go_at_call 7; (with_reducible refine (Next_any s at' _ HT.out Hs.out h0 h1).mono ?_); rintro e w1 ⟨he, ho1⟩; subst he)
        | (go_at_call 8; (with_reducible refine (refNext_any s at' _ Hs.out h0 h1).mono ?_); rintro e w2 ⟨he, ho2⟩; subst he)
        | (go_at_call 9; (with_reducible refine (Points_any s _ Hs.out).mono ?_); rintro e w3 ⟨A3, c3, he, hown3, ho3⟩; subst he)
        | (go_at_call 10; (with_reducible refine (refPoints_any s _ hM).mono ?_); rintro e w4 ⟨A4, c4, he, hown4, ho4⟩; subst he)
        | (go_at_call 11; (with_reducible refine (Same_any A3 A4 _ _ c3 c4 _ _ _ ((Sl.of_own hown3).old ho4) (Sl.of_own hown4) HL.out HL.out).mono ?_); rintro e w5 ⟨he, q5, hw5⟩; subst he hw5)
        | (go_at_call 12; (with_reducible refine (Check_any s _ Hs.out).mono ?_); rintro e w6 ⟨he, ho6⟩; subst he)
        | (go_at_call 13; (with_reducible refine (refCheck_any s _ hM).mono ?_); rintro e w7 ⟨he, ho7⟩; subst he)
        | (go_at_call 14; (with_reducible refine (May_any at' _ h0 h1).mono ?_); rintro e w8 ⟨he, hw8⟩; subst he hw8)
        | (go_at_call 15; (with_reducible refine (refMay_any at' _ h0 h1).mono ?_); rintro e w9 ⟨he, hw9⟩; subst he hw9))
      go_ret
      exact ⟨by simp, ((((((ho1.trans ho2).trans ho3).trans ho4).drewN _).trans ho6).trans ho7)⟩
end Go.Proofs.YtocoajmhdobagaaDoor
