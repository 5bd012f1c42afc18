/-
  The walk of the law TextMakes.
-/
import Derived.Test.YtocoajmhdobagaaTf
namespace Go.Proofs.Ytocoajmhdobagaa
open Go Go.RowKit Go.Proofs.Ytocoajmhdobagaa.Wd

theorem int_info : (Try.prog.info? 3).map (fun i => (i.zero, i.size, i.bytes)) = some (some (.int .i64 0), 1, 8) := by kernel_rfl

set_option maxHeartbeats 1000000 in
theorem TextMakes_walk (A : Option Addr) (n c : Nat) (zs : List Int) (w : World) (hA : Sl w 1 (.slice A n c) n (zs.map (.int .i64))) (hn : n ≤ maxLen)
    (hz : ∀ k, k < n → -9223372036854775808 ≤ zs.getD k 0 ∧ zs.getD k 0 ≤ 9223372036854775807) :
    Calls Try.prog 3 #[.slice A n c] w fun e w' => e = .returned (.bool true) ∧ Old w w' := by
  unfold maxLen at hn
  by_cases h1 : 17000 < n
  · have HA := Lib.hid hA; clear hA hz
    have h2 : 2000 < n := by omega
    have h3 : ¬ n ≤ 16384 := by omega
    go_enter Try.func3, Try.ntmps3
    go_wp2
    go_ret
    exact ⟨rfl, Old.refl w⟩
  by_cases h2 : 2000 < n ∧ n ≤ 16384
  · have HA := Lib.hid hA; clear hA hz
    obtain ⟨h2, h3⟩ := h2
    go_enter Try.func3, Try.ntmps3
    go_wp2
    go_ret
    exact ⟨rfl, Old.refl w⟩
  · obtain ⟨i0, hi0, hz0, hz1, hz2⟩ := info_parts int_info
    have HA := Lib.hid hA; clear hA
    have HZ := Lib.hid hz; clear hz
    have HP : ∀ w', Old w w' → Hid (Sl w' 1 (.slice A n c) n (zs.map (.int .i64))) := fun w' h => HA.out.old h
    have HQ := Lib.hid HP; clear HP
    have H0 := Lib.hid (World.ownsRow_lit (base := w.heap.size) (e := 3) (size := 1) w #[] 0 (Nat.le_refl _) (by decide) rfl)
    by_cases h4 : 2000 < n
    all_goals
      go_enter Try.func3, Try.ntmps3
      go_wp2_with (first
        | (at_builtin; refine wpList_append_sl _ rfl (.tmp 21) (.tmp 22) _ rfl w.heap.size 3 i0 _ 1 8 Try.underlying22 hi0 hz0 hz1 hz2 rfl (by omega) _ 0 [] rfl H0.out _ _ _ rfl (HQ.out _ ((Old.refl w).alloc _)) ?c1 ?c2 ?c3 ?c4 ?_; (case c1 => intro u hu; obtain ⟨b, _, rfl⟩ := List.mem_map.1 hu; rfl); (case c2 => simp only [maxLen]; omega); (case c3 => omega); (case c4 => simp); intro v1 w1 hown1 hg1 hat1; simp only [Nat.zero_add, List.nil_append] at hown1; obtain ⟨A1, c1, rfl⟩ := own_form hown1; have ho1 : Old w w1 := ((Old.refl w).alloc _).grown hg1 (fun k hk => (H0.out.lt k hk).1); clear hg1 hat1)
        | (go_at_call 5; (with_reducible refine (Of_any A1 n c1 zs _ (Sl.of_own hown1) (by omega) HZ.out).mono ?_); rintro e w2 ⟨he, ho2⟩; subst he)
        | (go_at_call 6; (with_reducible refine (refOf_any A n c zs _ (HQ.out _ (ho1.trans ho2)).out (by omega) HZ.out).mono ?_); rintro e w3 ⟨he, ho3⟩; subst he)
        | (go_at_call 7; (with_reducible refine (Same_any A1 A n n c1 c zs zs _ (((Sl.of_own hown1).old ho2).old ho3) (HQ.out _ ((ho1.trans ho2).trans ho3)).out (by unfold maxLen; omega) (by unfold maxLen; omega)).mono ?_); rintro e w4 ⟨he, q, hw4⟩; subst he hw4))
      go_ret
      exact ⟨by simp, ((ho1.trans ho2).trans ho3).drewN q⟩
end Go.Proofs.Ytocoajmhdobagaa
