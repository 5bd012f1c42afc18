/-
  The walk of the law TextOrder.
-/
import Derived.Test.YtocoajmhdobagaaTf
import Derived.Test.YtocoajmhdobagaaTg
import Derived.Test.YtocoajmhdobagaaTo
namespace Go.Proofs.Ytocoajmhdobagaa
open Go Go.RowKit Go.Lib Go.Proofs.Ytocoajmhdobagaa.Wd

theorem alive_pts : pts [65, 195, 169, 226, 130, 172, 240, 159, 153, 130] = [65, 233, 8364, 128578] ∧ ptsErr [65, 195, 169, 226, 130, 172, 240, 159, 153, 130] = 0 := by
  have h : dec [65, 195, 169, 226, 130, 172, 240, 159, 153, 130] = some [65, 233, 8364, 128578] := (dec_iff _ _).2 (by decide)
  unfold pts ptsErr
  rw [h]
  decide

set_option maxHeartbeats 1000000 in
theorem alive_any (w : World) :
    Calls Try.prog 8 #[] w fun e w' => e = .returned (.bool true) ∧ Old w w' := by
  have HP := Lib.hid alive_pts.1
  have HE := Lib.hid alive_pts.2
  go_enter Try.func8, Try.ntmps8
  go_wp2_with (first
    | (go_at_call 14; (with_reducible refine (Points_any _ _ (by decide)).mono ?_); rintro e w1 ⟨A, c, he, hown1, ho1⟩; simp only [HP.out, HE.out] at he hown1; subst he)
    | (go_at_call 7; (with_reducible refine (Same_any A _ 4 4 c 4 [65, 233, 8364, 128578] [65, 233, 8364, 128578] _ ((Sl.of_own hown1).alloc _) (Sl.lit _ #[_, _, _, _] _ 4 1 (by decide) rfl) (by decide) (by decide)).mono ?_); rintro e w' ⟨he, q, hw⟩; subst he hw))
  go_ret
  exact ⟨by simp, (ho1.alloc _).drewN q⟩

theorem ofErr_small {l : List Int} (h : l.length ≤ 500) : (ofErr l = 0 ∧ ofText l = enc l ∧ l.all may = true) ∨ ofErr l = 50 := by
  have := enc_length l
  by_cases hm : l.all may = true
  · left
    have e : ofErr l = 0 := by unfold ofErr; rw [if_pos hm, if_neg (by omega)]
    exact ⟨e, by unfold ofText; rw [if_pos e], hm⟩
  · right
    unfold ofErr; rw [if_neg hm]

set_option maxHeartbeats 2000000 in
theorem TextOrder_walk (A B : Option Addr) (n m c d : Nat) (xs ys : List Int) (w : World) (hA : Sl w 1 (.slice A n c) n (xs.map (.int .i64))) (hB : Sl w 1 (.slice B m d) m (ys.map (.int .i64)))
    (hn : n ≤ maxLen) (hm : m ≤ maxLen)
    (hx : ∀ k, k < n → -9223372036854775808 ≤ xs.getD k 0 ∧ xs.getD k 0 ≤ 9223372036854775807) (hy : ∀ k, k < m → -9223372036854775808 ≤ ys.getD k 0 ∧ ys.getD k 0 ≤ 9223372036854775807) :
    Calls Try.prog 4 #[.slice A n c, .slice B m d] w fun e w' => e = .returned (.bool true) ∧ Old w w' := by
  unfold maxLen at hn hm
  have HX := Lib.hid hx; have HY := Lib.hid hy; clear hx hy
  have Hxn := Lib.hid (show xs.length = n by simpa using hA.1)
  have Hym := Lib.hid (show ys.length = m by simpa using hB.1)
  have HA := Lib.hid (fun w' (h : Old w w') => hA.old h)
  have HB := Lib.hid (fun w' (h : Old w w') => hB.old h)
  clear hA hB
  by_cases h1 : 500 < n
  · go_enter Try.func4, Try.ntmps4
    go_wp2_with (go_at_call 8; (with_reducible refine (alive_any _).mono ?_); rintro e w1 ⟨he, ho1⟩; subst he)
    go_ret
    exact ⟨rfl, ho1⟩
  by_cases h2 : 500 < m
  · go_enter Try.func4, Try.ntmps4
    go_wp2_with (go_at_call 8; (with_reducible refine (alive_any _).mono ?_); rintro e w1 ⟨he, ho1⟩; subst he)
    go_ret
    exact ⟨rfl, ho1⟩
  rcases ofErr_small (l := xs) (by rw [Hxn.out]; omega) with ⟨ea, ta, ma⟩ | ea
  · rcases ofErr_small (l := ys) (by rw [Hym.out]; omega) with ⟨eb, tb, mb⟩ | eb
    · have EA := Lib.hid ea; have EB := Lib.hid eb; have TA := Lib.hid ta; have TB := Lib.hid tb; have MA := Lib.hid ma; have MB := Lib.hid mb
      clear ea eb ta tb ma mb
      go_enter Try.func4, Try.ntmps4
      go_wp2_with fail
      refine (alive_any _).mono ?_
      rintro e w1 ⟨he, ho1⟩; subst he
      go_wp2_with fail
      refine (Of_any A n c xs _ (HA.out _ ho1) (by omega) HX.out).mono ?_
      rintro e w2 ⟨he, ho2⟩; rw [EA.out, TA.out] at he; subst he
      go_wp2_with fail
      refine (Of_any B m d ys _ (HB.out _ (ho1.trans ho2)) (by omega) HY.out).mono ?_
      rintro e w3 ⟨he, ho3⟩; rw [EB.out, TB.out] at he; subst he
      go_wp2_with fail
      have ho : Old w w3 := (ho1.trans ho2).trans ho3
      clear ho1 ho2 ho3
      go_loopg [10, 11] n (fun g s10 s11 wr => ∃ k q : Nat, k ≤ n ∧ k ≤ m ∧ n - k ≤ g ∧ s11 = .int .i64 k ∧ s10 = .bool (decide (n < m)) ∧ wr = w3.drewN q ∧ Hid (∀ j, j < k → xs.getD j 0 = ys.getD j 0))
      case atStart => exact ⟨0, 0, Nat.zero_le _, Nat.zero_le _, by omega, rfl, rfl, rfl, fun j hj => absurd hj (Nat.not_lt_zero _)⟩
      case round =>
        obtain ⟨k, q, hk, hkm, hg, rfl, rfl, rfl, heq⟩ := hrel
        by_cases hlt : k < n
        · by_cases hlm : k < m
          · have hlx : k < xs.length := by rw [Hxn.out]; exact hlt
            have hly : k < ys.length := by rw [Hym.out]; exact hlm
            obtain ⟨ad1, rfl, g1⟩ := (HA.out _ ho).at1 hlt (u := .int .i64 (xs.getD k 0)) (by simp [List.getD_eq_getElem?_getD, hlx])
            obtain ⟨ad2, rfl, g2⟩ := (HB.out _ ho).at1 hlm (u := .int .i64 (ys.getD k 0)) (by simp [List.getD_eq_getElem?_getD, hly])
            by_cases hxy : xs.getD k 0 = ys.getD k 0
            · rw [hxy] at g1
              have Hxy := Lib.hid hxy; clear hxy
              generalize ys.getD k 0 = y at g1 g2
              have hb : (y != y) = false := by simp
              go_wp2
              go_quiet (fail)
              go_wp2
              go_roundg (n - (k + 1))
              case measure => omega
              case rel =>
                refine ⟨k + 1, _, by omega, by omega, by omega, by go_num, rfl, rfl, fun j hj => ?_⟩
                by_cases e : j = k
                · subst e; exact Hxy.out
                · exact heq.out j (by omega)
            · have hless := order_at MA.out MB.out hlx hly heq.out hxy
              generalize xs.getD k 0 = x at g1 hxy hless
              generalize ys.getD k 0 = y at g2 hxy hless
              have Hless := Lib.hid hless; clear hless
              have hb : (x != y) = true := by simpa using hxy
              go_wp2
              go_quiet (fail)
              go_wp2
              go_quiet (fail)
              go_wp2
              go_ret
              exact ⟨ret_bool (by simp [Hless.out]), ho.drewN _⟩
          · have hless := order_end (a := xs) (b := ys) (k := k) (.inr (by rw [Hym.out]; omega)) (by rw [Hxn.out]; omega) (by rw [Hym.out]; omega) heq.out
            rw [Hxn.out, Hym.out] at hless
            have Hless := Lib.hid hless; clear hless
            go_wp2
            go_ret
            exact ⟨ret_bool (by simp [Hless.out]), ho.drewN _⟩
        · have hless := order_end (a := xs) (b := ys) (k := k) (.inl (by rw [Hxn.out]; omega)) (by rw [Hxn.out]; omega) (by rw [Hym.out]; omega) heq.out
          rw [Hxn.out, Hym.out] at hless
          have Hless := Lib.hid hless; clear hless
          go_wp2
          go_ret
          exact ⟨ret_bool (by simp [Hless.out]), ho.drewN _⟩
    · have EA := Lib.hid ea; have EB := Lib.hid eb; have TA := Lib.hid ta
      clear ea eb ta ma
      go_enter Try.func4, Try.ntmps4
      go_wp2_with fail
      refine (alive_any _).mono ?_
      rintro e w1 ⟨he, ho1⟩; subst he
      go_wp2_with fail
      refine (Of_any A n c xs _ (HA.out _ ho1) (by omega) HX.out).mono ?_
      rintro e w2 ⟨he, ho2⟩; rw [EA.out, TA.out] at he; subst he
      go_wp2_with fail
      refine (Of_any B m d ys _ (HB.out _ (ho1.trans ho2)) (by omega) HY.out).mono ?_
      rintro e w3 ⟨he, ho3⟩; rw [EB.out] at he; subst he
      go_wp2
      go_ret
      exact ⟨rfl, (ho1.trans ho2).trans ho3⟩
  · have EA := Lib.hid ea; clear ea
    go_enter Try.func4, Try.ntmps4
    go_wp2_with fail
    refine (alive_any _).mono ?_
    rintro e w1 ⟨he, ho1⟩; subst he
    go_wp2_with fail
    refine (Of_any A n c xs _ (HA.out _ ho1) (by omega) HX.out).mono ?_
    rintro e w2 ⟨he, ho2⟩; rw [EA.out] at he; subst he
    go_wp2_with fail
    refine (Of_any B m d ys _ (HB.out _ (ho1.trans ho2)) (by omega) HY.out).mono ?_
    rintro e w3 ⟨he, ho3⟩; subst he
    go_wp2
    go_ret
    exact ⟨rfl, (ho1.trans ho2).trans ho3⟩
end Go.Proofs.Ytocoajmhdobagaa
