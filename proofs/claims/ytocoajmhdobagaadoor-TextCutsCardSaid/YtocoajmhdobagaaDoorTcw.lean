/-
  The walk of the law TextCuts.
-/
import Derived.Test.YtocoajmhdobagaaDoorTnx
import Derived.Test.YtocoajmhdobagaaDoorTal
import Derived.Test.YtocoajmhdobagaaDoorTcp
namespace Go.Proofs.YtocoajmhdobagaaDoor
open Go Go.RowKit Go.Lib Go.Proofs.YtocoajmhdobagaaDoor.Wd

theorem pts_le (l : List UInt8) : (pts l).length ≤ l.length := by
  unfold pts
  split
  · simp
  · cases h : dec l with
    | none => simp
    | some zs => simpa using dec_length h
theorem ptsErr_zero {l : List UInt8} (h : ptsErr l = 0) : ¬ 16384 < l.length ∧ dec l = some (pts l) := by
  by_cases hb : 16384 < l.length
  · rw [ptsErr_big hb] at h; cases h
  · refine ⟨hb, ?_⟩
    rw [ptsErr_small hb] at h
    rw [pts_small hb]
    cases hd : dec l with
    | none => rw [hd] at h; cases h
    | some x => rfl
theorem ptsErr_of {l : List UInt8} {x : Bool} (hs : ¬ 16384 < l.length) (h : (dec l).isSome = x) : ptsErr l = if x then 0 else 50 := by
  rw [ptsErr_small hs, h]
theorem cat_data (a b : ByteArray) : (a ++ b).data.toList = a.data.toList ++ b.data.toList := by
  simp
theorem cat_size (a b : ByteArray) : (a ++ b).size = a.size + b.size := by
  rw [Lib.size_eq, cat_data]; simp

set_option maxRecDepth 100000 in
set_option maxHeartbeats 2000000 in
theorem TextCuts_walk (a b : ByteArray) (at' : Int) (w : World) (hT : Tabs w) (ha : a.size ≤ maxLen) (hb : b.size ≤ maxLen) (h0 : -9223372036854775808 ≤ at') (h1 : at' ≤ 9223372036854775807) :
    Calls Tryd.prog 4 #[.string a, .string b, .int .i64 at'] w fun e w' => e = .returned (.bool true) ∧ Old w w' := by
  have Ha := Lib.hid ha
  have Hb := Lib.hid hb
  unfold maxLen at ha hb
  by_cases c1 : 1000 < a.size
  · clear hT
    go_enter Tryd.func4, Tryd.ntmps4
    go_wp2_with (go_at_call 16; (with_reducible refine (alive_any _).mono ?_); rintro e w1 ⟨he, ho1⟩; subst he)
    go_ret
    exact ⟨rfl, ho1⟩
  by_cases c2 : 1000 < b.size
  · clear hT
    go_enter Tryd.func4, Tryd.ntmps4
    go_wp2_with (go_at_call 16; (with_reducible refine (alive_any _).mono ?_); rintro e w1 ⟨he, ho1⟩; subst he)
    go_ret
    exact ⟨rfl, ho1⟩
  have HT := Lib.hid hT
  clear hT
  by_cases c3 : ptsErr a.data.toList = 0
  · by_cases c4 : ptsErr b.data.toList = 0
    · obtain ⟨a1, a2⟩ := ptsErr_zero c3
      obtain ⟨b1, b2⟩ := ptsErr_zero c4
      have s2 := dec_both a2 b2
      rw [← cat_data] at s2
      have s1 : ¬ 16384 < (a ++ b).data.toList.length := by rw [← Lib.size_eq, cat_size]; omega
      have hpts : pts (a ++ b).data.toList = pts a.data.toList ++ pts b.data.toList := by rw [pts_small s1, s2]; rfl
      have hse : ptsErr (a ++ b).data.toList = 0 := by rw [ptsErr_of s1 (x := true) (by rw [s2]; rfl)]; rfl
      have hla : (pts a.data.toList).length ≤ 1000 := by have := pts_le a.data.toList; rw [← Lib.size_eq] at this; omega
      have hlb : (pts b.data.toList).length ≤ 1000 := by have := pts_le b.data.toList; rw [← Lib.size_eq] at this; omega
      have hss : (a ++ b).size ≤ maxLen := by rw [cat_size]; unfold maxLen; omega
      have HA := Lib.hid c3; have HB := Lib.hid c4; have HS := Lib.hid hse; have HP := Lib.hid hpts; have HD := Lib.hid s2; have Hss := Lib.hid hss
      have Hcs := Lib.hid (cat_size a b)
      clear c3 c4 a1 a2 b1 b2 s2 s1 hpts hse hss
      obtain ⟨X, hX⟩ : ∃ X, pts a.data.toList = X := ⟨_, rfl⟩
      obtain ⟨Y, hY⟩ : ∃ Y, pts b.data.toList = Y := ⟨_, rfl⟩
      rw [hX] at hla
      rw [hY] at hlb
      have HX := Lib.hid hX; have HY := Lib.hid hY
      clear hX hY
      obtain ⟨i0, hi0, hz0, hz1, hz2⟩ := info_parts int_info
      go_enter Tryd.func4, Tryd.ntmps4
      go_wp2_with fail
      refine (alive_any _).mono ?_
      rintro e w1 ⟨he, ho1⟩; subst he
      go_wp2_with fail
      refine (Check_any a _ Ha.out).mono ?_
      rintro e w2 ⟨he, ho2⟩; rw [HA.out] at he; subst he
      go_wp2_with fail
      refine (Check_any b _ Hb.out).mono ?_
      rintro e w3 ⟨he, ho3⟩; rw [HB.out] at he; subst he
      go_wp2_with fail
      refine (Points_any a _ Ha.out).mono ?_
      rintro e w4 ⟨A4, c4, he, hown4, ho4⟩; rw [HX.out] at he hown4; rw [HA.out] at he; subst he
      go_wp2_with fail
      refine (Points_any b _ Hb.out).mono ?_
      rintro e w5 ⟨A5, c5, he, hown5, ho5⟩; rw [HY.out] at he hown5; rw [HB.out] at he; subst he
      go_wp2_with fail
      refine (Points_any (a ++ b) _ Hss.out).mono ?_
      rintro e w6 ⟨A6, c6, he, hown6, ho6⟩; rw [HP.out, HX.out, HY.out] at he hown6; rw [HS.out] at he; subst he
      have H0 := Lib.hid (World.ownsRow_lit (base := w6.heap.size) (e := 3) (size := 1) w6 #[] 0 (Nat.le_refl _) (by decide) rfl)
      have S4 := Lib.hid (fun w' (h : Old w6 w') => (((Sl.of_own hown4).old ho5).old ho6).old h)
      have S5 := Lib.hid (fun w' (h : Old w6 w') => ((Sl.of_own hown5).old ho6).old h)
      have S6 := Lib.hid (fun w' (h : Old w6 w') => (Sl.of_own hown6).old h)
      clear hown4 hown5 hown6
      go_wp2_with (first
        | (at_builtin; refine wpList_append_sl_g _ ?hw (.tmp 71) (.tmp 72) _ rfl w6.heap.size 3 i0 _ 1 8 Tryd.underlying27 hi0 hz0 hz1 hz2 rfl (by omega) _ 0 [] rfl H0.out _ X.length (X.map (.int .i64)) rfl (S4.out _ ((Old.refl w6).alloc _)) ?c1 ?c2 ?c3 ?c4 ?_; (case hw => go_simp); (case c1 => intro u hu; obtain ⟨b, _, rfl⟩ := List.mem_map.1 hu; rfl); (case c2 => simp only [maxLen]; omega); (case c3 => omega); (case c4 => simp); intro v7 w7 hown7 hg7 hat7; simp only [Nat.zero_add, List.nil_append] at hown7; have ho7 : Old w6 w7 := ((Old.refl w6).alloc _).grown hg7 (fun k hk => (H0.out.lt k hk).1); clear hg7 hat7)
        | (at_builtin; refine wpList_append_sl_g _ ?hw (.tmp 73) (.tmp 74) _ rfl w6.heap.size 3 i0 _ 1 8 Tryd.underlying27 hi0 hz0 hz1 hz2 rfl (by omega) _ _ _ rfl hown7 _ Y.length (Y.map (.int .i64)) rfl (S5.out _ ho7) ?c1 ?c2 ?c3 ?c4 ?_; (case hw => go_simp); (case c1 => intro u hu; obtain ⟨b, _, rfl⟩ := List.mem_map.1 hu; rfl); (case c2 => simp only [maxLen]; omega); (case c3 => omega); (case c4 => exact ho7.size); intro v8 w8 hown8 hg8 hat8; rw [← List.map_append] at hown8; obtain ⟨A8, c8, rfl⟩ := own_form hown8; have ho8 : Old w6 w8 := ho7.grown hg8 (fun k hk => (hown7.lt k hk).1); clear hg8 hat8))
      have s6 := S6.out _ ho8
      rw [List.length_append] at s6
      with_reducible refine (Same_any A8 A6 (X.length + Y.length) (X.length + Y.length) c8 c6 (X ++ Y) (X ++ Y) _ (Sl.of_own hown8) s6 (by unfold maxLen; omega) (by unfold maxLen; omega)).mono ?_
      rintro e w9 ⟨he, q9, hw9⟩
      rw [show ((X ++ Y) == (X ++ Y)) = true by simp] at he
      subst he hw9
      have hoA : Old w (w8.drewN q9) := ((((((ho1.trans ho2).trans ho3).trans ho4).trans ho5).trans ho6).trans ho8).drewN q9
      have HoA := Lib.hid hoA
      clear hoA hown8 s6 ho1 ho2 ho3 ho4 ho5 ho6 ho7 ho8
      by_cases d1 : at' < 0
      · go_wp2
        go_ret
        exact ⟨rfl, HoA.out⟩
      obtain ⟨k, rfl⟩ := Int.eq_ofNat_of_zero_le (by omega : 0 ≤ at')
      have hcs := Hcs.out
      by_cases d2 : k < (a ++ b).size
      · have hlen : k < (a ++ b).data.toList.length := by rw [← Lib.size_eq]; exact d2
        obtain ⟨e1, e2⟩ := cut_same HD.out hlen
        obtain ⟨_, _, e3⟩ := next_in hlen
        have d2' : k < a.size + b.size := by rw [← hcs]; exact d2
        have x1 : ((a ++ b).extract 0 k).data.toList = (a ++ b).data.toList.take k := by rw [extract_data]; simp
        have x2 : ((a ++ b).extract k (a ++ b).size).data.toList = (a ++ b).data.toList.drop k := by rw [extract_data, List.take_of_length_le]; simp
        have z1 : ¬ 16384 < ((a ++ b).extract 0 k).data.toList.length := by rw [x1]; simp; omega
        have z2 : ¬ 16384 < ((a ++ b).extract k (a ++ b).size).data.toList.length := by rw [x2]; simp; omega
        have z3 : ((a ++ b).extract 0 k).size ≤ maxLen := by rw [Lib.size_eq]; unfold maxLen; omega
        have z4 : ((a ++ b).extract k (a ++ b).size).size ≤ maxLen := by rw [Lib.size_eq]; unfold maxLen; omega
        rw [hcs] at x2 z2 z4
        cases hb2 : (one ((a ++ b).data.toList.drop k)).isSome with
        | true =>
          rw [hb2] at e1 e2 e3
          have E1 := Lib.hid (ptsErr_of z1 (x := true) (by rw [x1]; exact e1.symm))
          have E2 := Lib.hid (ptsErr_of z2 (x := true) (by rw [x2]; exact e2.symm))
          have E3 := Lib.hid e3
          clear hlen e1 e2 e3 x1 x2 z1 z2 hb2 hcs d2
          go_wp2_with (first
            | (go_at_call 7; (with_reducible refine (Next_any (a ++ b) k _ (HT.out.old HoA.out) Hss.out h0 h1).mono ?_); rintro e w10 ⟨he, ho10⟩; rw [E3.out] at he; subst he)
            | (go_at_call 12; (with_reducible refine (Check_any _ _ z3).mono ?_); rintro e w11 ⟨he, ho11⟩; rw [E1.out] at he; subst he)
            | (go_at_call 12; (with_reducible refine (Check_any _ _ z4).mono ?_); rintro e w12 ⟨he, ho12⟩; rw [E2.out] at he; subst he))
          go_ret
          exact ⟨rfl, ((HoA.out.trans ho10).trans ho11).trans ho12⟩
        | false =>
          rw [hb2] at e1 e2 e3
          have E1 := Lib.hid (ptsErr_of z1 (x := false) (by rw [x1]; exact e1.symm))
          have E2 := Lib.hid (ptsErr_of z2 (x := false) (by rw [x2]; exact e2.symm))
          have E3 := Lib.hid e3
          clear hlen e1 e2 e3 x1 x2 z1 z2 hb2 hcs d2
          go_wp2_with (first
            | (go_at_call 7; (with_reducible refine (Next_any (a ++ b) k _ (HT.out.old HoA.out) Hss.out h0 h1).mono ?_); rintro e w10 ⟨he, ho10⟩; rw [E3.out] at he; subst he)
            | (go_at_call 12; (with_reducible refine (Check_any _ _ z3).mono ?_); rintro e w11 ⟨he, ho11⟩; rw [E1.out] at he; subst he)
            | (go_at_call 12; (with_reducible refine (Check_any _ _ z4).mono ?_); rintro e w12 ⟨he, ho12⟩; rw [E2.out] at he; subst he))
          go_ret
          exact ⟨rfl, ((HoA.out.trans ho10).trans ho11).trans ho12⟩
      · have d2' : ¬ k < a.size + b.size := by rw [← hcs]; exact d2
        clear hcs d2
        go_wp2
        go_ret
        exact ⟨rfl, HoA.out⟩
    · obtain ⟨E, hE⟩ : ∃ E, ptsErr b.data.toList = E := ⟨_, rfl⟩
      have hne : (E != 0) = true := by rw [bne_iff_ne, ← hE]; exact c4
      have HA := Lib.hid c3; have HB := Lib.hid hE
      clear c3 c4 hE
      go_enter Tryd.func4, Tryd.ntmps4
      go_wp2_with (first
        | (go_at_call 16; (with_reducible refine (alive_any _).mono ?_); rintro e w1 ⟨he, ho1⟩; subst he)
        | (go_at_call 12; (with_reducible refine (Check_any a _ Ha.out).mono ?_); rintro e w2 ⟨he, ho2⟩; rw [HA.out] at he; subst he)
        | (go_at_call 12; (with_reducible refine (Check_any b _ Hb.out).mono ?_); rintro e w3 ⟨he, ho3⟩; rw [HB.out] at he; subst he))
      go_ret
      exact ⟨rfl, (ho1.trans ho2).trans ho3⟩
  · obtain ⟨E, hE⟩ : ∃ E, ptsErr a.data.toList = E := ⟨_, rfl⟩
    have hne : (E != 0) = true := by rw [bne_iff_ne, ← hE]; exact c3
    have HA := Lib.hid hE
    clear c3 hE
    go_enter Tryd.func4, Tryd.ntmps4
    go_wp2_with (first
      | (go_at_call 16; (with_reducible refine (alive_any _).mono ?_); rintro e w1 ⟨he, ho1⟩; subst he)
      | (go_at_call 12; (with_reducible refine (Check_any a _ Ha.out).mono ?_); rintro e w2 ⟨he, ho2⟩; rw [HA.out] at he; subst he))
    go_ret
    exact ⟨rfl, ho1.trans ho2⟩
end Go.Proofs.YtocoajmhdobagaaDoor
