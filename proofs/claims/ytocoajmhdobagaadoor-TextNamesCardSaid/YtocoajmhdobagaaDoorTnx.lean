/-
  Contract: the code point at a place, as layer 5 tells it.
-/
import Derived.Test.YtocoajmhdobagaaDoorTs
namespace Go.Proofs.YtocoajmhdobagaaDoor
open Go Go.RowKit Go.Lib Go.Proofs.YtocoajmhdobagaaDoor.Wd

def Tabs (w : World) : Prop := Lib.Utf8Tabs 0 1 w
theorem Tabs.old {w w' : World} (h : Tabs w) (k : Old w w') : Tabs w' := Utf8Tabs_below h k

theorem decode_any (s : ByteArray) (w : World) (hT : Tabs w) :
    Calls Tryd.prog 18 #[.string s] w fun e w' => e = .returned (.tuple #[.int .i32 (Lib.decodeGo s).1, .int .i64 (Lib.decodeGo s).2]) ∧ Old w w' := Tryd.utf8_DecodeRuneInString s w hT
theorem one_of_size {l : List UInt8} (hne : l ≠ []) : one l = if ((decodeL l).1 = 65533 ∧ (decodeL l).2 < 3) ∨ may ((decodeL l).1 : Int) = false then none else some (((decodeL l).1 : Int), (decodeL l).2) := by
  unfold one
  rw [if_neg hne]
  by_cases h1 : (decodeL l).1 = 65533 ∧ (decodeL l).2 = 1
  · rw [if_pos h1, if_pos (.inl ⟨h1.1, by omega⟩)]
  · rw [if_neg h1]
    have h2 : ¬ ((decodeL l).1 = 65533 ∧ (decodeL l).2 < 3) := by
      rintro ⟨a, b⟩
      have he := congrArg List.length (encode_decode l hne h1)
      rw [a, List.length_take, show (encodeRune ((65533 : Nat) : Int)).length = 3 from by decide] at he
      omega
    cases hm : may ((decodeL l).1 : Int) with
    | true => simp [h2]
    | false => simp

set_option maxHeartbeats 1000000 in
theorem Next_any (s : ByteArray) (at' : Int) (w : World) (hT : Tabs w) (hs : s.size ≤ maxLen) (h0 : -9223372036854775808 ≤ at') (h1 : at' ≤ 9223372036854775807) :
    Calls Tryd.prog 7 #[.string s, .int .i64 at'] w fun e w' => e = .returned (.tuple #[.int .i64 (nextZ s.data.toList at'), .int .i64 (nextK s.data.toList at'), .int .i64 (nextE s.data.toList at')]) ∧ Old w w' := by
  unfold maxLen at hs
  have HT := Lib.hid hT; clear hT
  have hsz : s.data.toList.length = s.size := by simp
  by_cases hlo : at' < 0
  · have HN := Lib.hid (next_out (l := s.data.toList) (.inl hlo))
    clear hsz
    go_enter Tryd.func7, Tryd.ntmps7
    go_wp2
    go_ret3
    exact ⟨ret_three HN.out.1 HN.out.2.1 HN.out.2.2, Old.refl w⟩
  obtain ⟨k, rfl⟩ := Int.eq_ofNat_of_zero_le (by omega : 0 ≤ at')
  by_cases hhi : k < s.size
  · have HN := Lib.hid (next_in (l := s.data.toList) (k := k) (by omega))
    have hne : s.data.toList.drop k ≠ [] := by
      intro h
      have := congrArg List.length h
      simp at this; omega
    have hex : (s.extract k s.size).data.toList = s.data.toList.drop k := by rw [extract_data, List.take_of_length_le]; simp
    have hgo : decodeGo (s.extract k s.size) = decodeL (s.data.toList.drop k) := by
      unfold decodeGo
      have e0 := decode_drop (s.extract k s.size) 0
      rw [hex] at e0
      rw [if_neg, e0]
      · rfl
      · rw [Lib.size_eq, hex]; intro h; exact hne (List.eq_nil_of_length_eq_zero h)
    have H1 := Lib.hid (one_of_size hne)
    have hrm := decode_le s k
    rw [decode_drop] at hrm
    have hkm : (decodeL (s.data.toList.drop k)).2 ≤ s.size := by
      have := decodeL_le (s.data.toList.drop k) hne
      simp at this; omega
    have HG : Hid (decodeGo (s.extract k s.size) = ((decodeL (s.data.toList.drop k)).1, (decodeL (s.data.toList.drop k)).2)) := hgo
    clear hsz hgo hex hne
    generalize (decodeL (s.data.toList.drop k)).1 = r at *
    generalize (decodeL (s.data.toList.drop k)).2 = j at *
    by_cases hbad : (r = 65533 ∧ j < 3) ∨ may (r : Int) = false
    · have hno := H1.out
      rw [if_pos hbad] at hno
      have HK := Lib.hid (oneK_none hno)
      have Hno := Lib.hid hno
      clear hno
      have fin : ∀ w1, Old w w1 → Hid (Ending.returned (.tuple #[.int .i64 0, .int .i64 0, .int .i64 50]) = Ending.returned (.tuple #[.int .i64 (nextZ s.data.toList k), .int .i64 (nextK s.data.toList k), .int .i64 (nextE s.data.toList k)]) ∧ Old w w1) := fun w1 ho =>
        ⟨ret_three (by rw [HN.out.1, HK.out.2]) (by rw [HN.out.2.1, HK.out.1]) (by rw [HN.out.2.2, Hno.out]; rfl), ho⟩
      have Fin := Lib.hid fin; clear fin
      by_cases hr : r = 65533
      · subst hr
        have hj : j < 3 := by
          rcases hbad with ⟨_, h⟩ | h
          · exact h
          · exact absurd h (by decide)
        clear hbad
        go_enter Tryd.func7, Tryd.ntmps7
        go_wp2_with (go_at_call 18; (with_reducible refine (decode_any _ _ HT.out).mono ?_); rintro e w1 ⟨he, ho1⟩; rw [HG.out] at he; subst he)
        go_ret3
        exact (Fin.out _ ho1).out
      · have hr2 : ((r : Int) == 65533) = false := by rw [beq_eq_false_iff_ne]; omega
        have hmf : may (r : Int) = false := by
          rcases hbad with ⟨h, _⟩ | h
          · exact absurd h hr
          · exact h
        clear hbad
        go_enter Tryd.func7, Tryd.ntmps7
        go_wp2_with (first
          | (go_at_call 18; (with_reducible refine (decode_any _ _ HT.out).mono ?_); rintro e w1 ⟨he, ho1⟩; rw [HG.out] at he; subst he)
          | (go_at_call 14; (with_reducible refine (May_any _ _ (by omega) (by omega)).mono ?_); rintro e w' ⟨rfl, rfl⟩; rw [hmf]))
        go_ret3
        exact (Fin.out _ ho1).out
    · have hyes := H1.out
      rw [if_neg hbad] at hyes
      obtain ⟨_, hm, _⟩ := one_some hyes
      have HK := Lib.hid (oneK_pos hyes)
      have Hyes := Lib.hid hyes
      have fin : ∀ w1, Old w w1 → Hid (Ending.returned (.tuple #[.int .i64 (r : Int), .int .i64 (j : Int), .int .i64 0]) = Ending.returned (.tuple #[.int .i64 (nextZ s.data.toList k), .int .i64 (nextK s.data.toList k), .int .i64 (nextE s.data.toList k)]) ∧ Old w w1) := fun w1 ho =>
        ⟨ret_three (by rw [HN.out.1, HK.out.2]) (by rw [HN.out.2.1, HK.out.1]) (by rw [HN.out.2.2, Hyes.out]; rfl), ho⟩
      have Fin := Lib.hid fin
      clear fin hyes
      by_cases hr : r = 65533
      · subst hr
        have hj : ¬ j < 3 := fun h => hbad (.inl ⟨rfl, h⟩)
        clear hbad
        go_enter Tryd.func7, Tryd.ntmps7
        go_wp2_with (first
          | (go_at_call 18; (with_reducible refine (decode_any _ _ HT.out).mono ?_); rintro e w1 ⟨he, ho1⟩; rw [HG.out] at he; subst he)
          | (go_at_call 14; (with_reducible refine (May_any _ _ (by omega) (by omega)).mono ?_); rintro e w' ⟨rfl, rfl⟩; rw [show may 65533 = true from rfl]))
        go_ret3
        exact (Fin.out _ ho1).out
      · have hr2 : ((r : Int) == 65533) = false := by rw [beq_eq_false_iff_ne]; omega
        clear hbad
        go_enter Tryd.func7, Tryd.ntmps7
        go_wp2_with (first
          | (go_at_call 18; (with_reducible refine (decode_any _ _ HT.out).mono ?_); rintro e w1 ⟨he, ho1⟩; rw [HG.out] at he; subst he)
          | (go_at_call 14; (with_reducible refine (May_any _ _ (by omega) (by omega)).mono ?_); rintro e w' ⟨rfl, rfl⟩; rw [hm]))
        go_ret3
        exact (Fin.out _ ho1).out
  · have HN := Lib.hid (next_out (l := s.data.toList) (at' := (k : Int)) (.inr (by omega)))
    clear hsz
    have hk : ¬ (k : Int) < 0 := by omega
    go_enter Tryd.func7, Tryd.ntmps7
    go_wp2
    go_ret3
    exact ⟨ret_three HN.out.1 HN.out.2.1 HN.out.2.2, Old.refl w⟩
end Go.Proofs.YtocoajmhdobagaaDoor
