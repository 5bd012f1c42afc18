/-
  Contracts: whole texts as the document's answer tells them; the code point at a place, both ways; checks.
-/
import Derived.Test.YtocoajmhdobagaaDoorTn
import Derived.Test.YtocoajmhdobagaaDoorTg
import Derived.Shelf.Unicode.DecodeSlow
namespace Go.Proofs.YtocoajmhdobagaaDoor
open Go Go.RowKit Go.Lib Go.Proofs.YtocoajmhdobagaaDoor.Wd

theorem oneK_pos {l : List UInt8} {z : Int} {k : Nat} (h : one l = some (z, k)) : oneK l = k ∧ oneZ l = z := by unfold oneK oneZ; rw [h]; exact ⟨rfl, rfl⟩
theorem oneK_none {l : List UInt8} (h : one l = none) : oneK l = 0 ∧ oneZ l = 0 := by unfold oneK oneZ; rw [h]; exact ⟨rfl, rfl⟩

/-- The document's All. -/
def AllPost (s : ByteArray) (w : World) (e : Ending) (w' : World) : Prop :=
  ∃ A c, e = .returned (.tuple #[.slice A ((dec s.data.toList).getD []).length c, .bool (dec s.data.toList).isSome]) ∧
    w'.ownsRow w.heap.size 3 1 (.slice A ((dec s.data.toList).getD []).length c) ((dec s.data.toList).getD []).length (((dec s.data.toList).getD []).map (.int .i64)) ∧ Old w w'

set_option maxHeartbeats 2000000 in
theorem All_any (s : ByteArray) (w : World) (hs : s.size ≤ 1000000) :
    Calls Tryd.prog 21 #[.string s] w (AllPost s w) := by
  obtain ⟨i0, hi0, hz0, hz1, hz2⟩ := info_parts int_info
  go_enter Tryd.func21, Tryd.ntmps21
  go_wp2
  go_loopg [0, 4] (s.size + 1) (fun g s0 s4 wr => ∃ (r : ByteArray) (zs : List Int), r.size < g ∧ r.size + zs.length ≤ s.size ∧ s0 = .string r ∧ wr.ownsRow w.heap.size 3 1 s4 zs.length (zs.map (.int .i64)) ∧ Hid (dec s.data.toList = (dec r.data.toList).map (zs ++ ·)) ∧ Old w wr)
  case atStart => exact ⟨s, [], by omega, by simp, rfl, World.ownsRow_nil _ _ _ _, by show _ = _; simp, Old.refl w⟩
  case round =>
    obtain ⟨r, zs, hg, hrz, rfl, hown, hdec, hold⟩ := hrel
    have hrs : r.data.toList.length = r.size := by simp
    by_cases hne : r.data.toList = []
    · have h0 : (r.toList == []) = true := by rw [toList_data, hne]; rfl
      have h1 : r.toList.isEmpty = true := by rw [toList_data, hne]; rfl
      have hd : dec s.data.toList = some zs := by rw [hdec.out, hne, dec_nil]; simp
      have HP : Hid ((dec s.data.toList).getD [] = zs ∧ (dec s.data.toList).isSome = true) := by rw [hd]; exact ⟨rfl, rfl⟩
      clear hd hdec hrs hne
      obtain ⟨A, c, rfl⟩ := own_form hown
      go_wp2
      go_ret2
      refine ⟨A, c, ?_, ?_, hold⟩
      · rw [HP.out.1, HP.out.2]; rfl
      · rw [HP.out.1]; exact hown
    · have h0 : (r.toList == []) = false := by rw [toList_data]; simpa using hne
      have h1 : r.toList.isEmpty = false := by rw [toList_data]; simpa using hne
      cases hone : one r.data.toList with
      | none =>
        have hd : dec s.data.toList = none := by rw [hdec.out, dec_bad hne hone]; rfl
        have HP : Hid ((dec s.data.toList).getD [] = [] ∧ (dec s.data.toList).isSome = false) := by rw [hd]; exact ⟨rfl, rfl⟩
        have HK := Lib.hid (oneK_none hone)
        clear hd hdec hrs hne hone
        go_wp2_with (go_at_call 19; (with_reducible refine (One_any r _ (by unfold maxLen; omega)).mono ?_); rintro e w1 ⟨he, ho1⟩; rw [HK.out.1, HK.out.2] at he; subst he)
        go_ret2
        refine ⟨none, 0, ?_, ?_, hold.trans ho1⟩
        · rw [HP.out.1, HP.out.2]; rfl
        · rw [HP.out.1]; exact World.ownsRow_nil _ _ _ _
      | some p =>
        obtain ⟨z, k⟩ := p
        obtain ⟨_, hm, _, hk1, hk2⟩ := one_some hone
        have hm' := may_range hm
        have HK := Lib.hid (oneK_pos hone)
        have hkr : k ≤ r.size := by omega
        have hex : (r.extract k r.size).data.toList = r.data.toList.drop k := by rw [extract_data, List.take_of_length_le]; simp
        have hexs : (r.extract k r.size).size = r.size - k := by rw [Lib.size_eq, hex]; simp
        have hd2 : dec s.data.toList = (dec (r.extract k r.size).data.toList).map ((zs ++ [z]) ++ ·) := by
          rw [hdec.out, dec_step hone, hex, Option.map_map]
          congr 1
          funext x
          simp
        have Hd2 := Lib.hid hd2
        have Hexs := Lib.hid hexs
        have hk0 : ((k : Int) == 0) = false := by rw [beq_eq_false_iff_ne]; omega
        obtain ⟨m0, m1, _⟩ := hm'
        clear hd2 hdec hrs hne hone hex hexs hm
        go_wp2_with (first
          | (go_at_call 19; (with_reducible refine (One_any r _ (by unfold maxLen; omega)).mono ?_); rintro e w1 ⟨he, ho1⟩; rw [HK.out.1, HK.out.2] at he; subst he)
          | (at_builtin; refine wpList_append_sl _ rfl (.tmp 16) (.tmp 18) _ rfl w.heap.size 3 i0 _ 1 8 Tryd.underlying27 hi0 hz0 hz1 hz2 rfl (by omega) _ _ _ rfl ((own_old hown ho1).alloc _) _ 1 [.int .i64 z] rfl (Sl.lit _ #[_] _ 1 1 (by decide) rfl) ?c1 ?c2 ?c3 ?c4 ?_; (case c1 => intro u hu; simp at hu; subst hu; rfl); (case c2 => simp only [maxLen]; omega); (case c3 => omega); (case c4 => have := (hold.trans ho1).size; simp; omega); intro v2 w2 hown2 hg2 hat2))
        go_roundg (r.size - k + 1)
        case measure => omega
        case rel => exact ⟨r.extract k r.size, zs ++ [z], by rw [Hexs.out]; omega, by rw [Hexs.out]; simp; omega, rfl, by simpa using hown2, Hd2.out, ((hold.trans ho1).alloc _).grown hg2 (fun b hb => (hown.lt b hb).1)⟩

set_option maxHeartbeats 1000000 in
theorem Is_any (s : ByteArray) (w : World) (hs : s.size ≤ 1000000) :
    Calls Tryd.prog 22 #[.string s] w fun e w' => e = .returned (.bool (dec s.data.toList).isSome) ∧ Old w w' := by
  go_enter Tryd.func22, Tryd.ntmps22
  go_wp2_with (go_at_call 21; (with_reducible refine (All_any s _ hs).mono ?_); rintro e w1 ⟨A1, c1, he, hown1, ho1⟩; subst he; clear hown1)
  go_ret
  exact ⟨rfl, ho1⟩

theorem ptsErr_big {l : List UInt8} (h : 16384 < l.length) : ptsErr l = 4 := by unfold ptsErr; rw [if_pos h]
theorem ptsErr_small {l : List UInt8} (h : ¬ 16384 < l.length) : ptsErr l = if (dec l).isSome then 0 else 50 := by
  unfold ptsErr; rw [if_neg h]
  cases dec l <;> rfl
theorem pts_small {l : List UInt8} (h : ¬ 16384 < l.length) : pts l = (dec l).getD [] := by unfold pts; rw [if_neg h]
theorem pts_big {l : List UInt8} (h : 16384 < l.length) : pts l = [] := by unfold pts; rw [if_pos h]

set_option maxHeartbeats 1000000 in
theorem refCheck_any (s : ByteArray) (w : World) (hs : s.size ≤ 1000000) :
    Calls Tryd.prog 13 #[.string s] w fun e w' => e = .returned (.int .i64 (ptsErr s.data.toList)) ∧ Old w w' := by
  by_cases hbig : 16384 < s.size
  · have HE := Lib.hid (ptsErr_big (l := s.data.toList) (by simpa using hbig))
    go_enter Tryd.func13, Tryd.ntmps13
    go_wp2_with fail
    go_ret
    exact ⟨ret_int HE.out, Old.refl w⟩
  · have HE := Lib.hid (ptsErr_small (l := s.data.toList) (by simpa using hbig))
    cases hd : (dec s.data.toList).isSome with
    | true =>
      have Hd := Lib.hid hd; clear hd
      go_enter Tryd.func13, Tryd.ntmps13
      go_wp2_with (go_at_call 22; (with_reducible refine (Is_any s _ hs).mono ?_); rintro e w1 ⟨he, ho1⟩; rw [Hd.out] at he; subst he)
      go_ret
      exact ⟨ret_int (by rw [HE.out, Hd.out]; rfl), ho1⟩
    | false =>
      have Hd := Lib.hid hd; clear hd
      go_enter Tryd.func13, Tryd.ntmps13
      go_wp2_with (go_at_call 22; (with_reducible refine (Is_any s _ hs).mono ?_); rintro e w1 ⟨he, ho1⟩; rw [Hd.out] at he; subst he)
      go_ret
      exact ⟨ret_int (by rw [HE.out, Hd.out]; rfl), ho1⟩

set_option maxHeartbeats 1000000 in
theorem Check_any (s : ByteArray) (w : World) (hs : s.size ≤ maxLen) :
    Calls Tryd.prog 12 #[.string s] w fun e w' => e = .returned (.int .i64 (ptsErr s.data.toList)) ∧ Old w w' := by
  go_enter Tryd.func12, Tryd.ntmps12
  go_wp2_with (go_at_call 9; (with_reducible refine (Points_any s _ hs).mono ?_); rintro e w1 ⟨A1, c1, he, hown1, ho1⟩; subst he; clear hown1)
  go_ret
  exact ⟨rfl, ho1⟩

set_option maxHeartbeats 1000000 in
theorem refPoints_any (s : ByteArray) (w : World) (hs : s.size ≤ 1000000) :
    Calls Tryd.prog 10 #[.string s] w (PointsPost s w) := by
  by_cases he0 : ptsErr s.data.toList = 0
  · have hsm : ¬ 16384 < s.data.toList.length := fun h => by rw [ptsErr_big h] at he0; cases he0
    have HP := Lib.hid (pts_small hsm)
    have HE := Lib.hid he0
    clear he0 hsm
    go_enter Tryd.func10, Tryd.ntmps10
    go_wp2_with (first
      | (go_at_call 13; (with_reducible refine (refCheck_any s _ hs).mono ?_); rintro e w1 ⟨he, ho1⟩; rw [HE.out] at he; subst he)
      | (go_at_call 21; (with_reducible refine (All_any s _ hs).mono ?_); rintro e w2 ⟨A2, c2, he, hown2, ho2⟩; subst he; have Hown2 := Lib.hid hown2; clear hown2))
    go_ret2
    refine ⟨A2, c2, ?_, ?_, ho1.trans ho2⟩
    · rw [HP.out, HE.out]; rfl
    · rw [HP.out]; exact own_base Hown2.out ho1.size
  · have hp : pts s.data.toList = [] := by
      by_cases hb : 16384 < s.data.toList.length
      · exact pts_big hb
      · rw [pts_small hb]
        rw [ptsErr_small hb] at he0
        cases hd : dec s.data.toList with
        | none => rfl
        | some x => rw [hd] at he0; exact absurd rfl he0
    have hne : (ptsErr s.data.toList != 0) = true := by rw [bne_iff_ne]; exact he0
    have HP := Lib.hid hp
    obtain ⟨E, hE⟩ : ∃ E, ptsErr s.data.toList = E := ⟨_, rfl⟩
    rw [hE] at hne
    have HE := Lib.hid hE
    clear hp he0 hE
    go_enter Tryd.func10, Tryd.ntmps10
    go_wp2_with (go_at_call 13; (with_reducible refine (refCheck_any s _ hs).mono ?_); rintro e w1 ⟨he, ho1⟩; rw [HE.out] at he; subst he)
    go_ret2
    exact points_bad HP.out HE.out ho1

/-- The code point at a place. -/
def nextE (l : List UInt8) (at' : Int) : Int := if 0 ≤ at' ∧ at' < l.length then (match one (l.drop at'.toNat) with | none => 50 | some _ => 0) else 2
def nextZ (l : List UInt8) (at' : Int) : Int := if 0 ≤ at' ∧ at' < l.length then oneZ (l.drop at'.toNat) else 0
def nextK (l : List UInt8) (at' : Int) : Int := if 0 ≤ at' ∧ at' < l.length then oneK (l.drop at'.toNat) else 0
theorem ret_three {a b c a' b' c' : Int} (h : a = a') (k : b = b') (l : c = c') : Ending.returned (.tuple #[.int .i64 a', .int .i64 b', .int .i64 c']) = Ending.returned (.tuple #[.int .i64 a, .int .i64 b, .int .i64 c]) := by rw [h, k, l]
theorem next_out {l : List UInt8} {at' : Int} (h : at' < 0 ∨ l.length ≤ at') : nextZ l at' = 0 ∧ nextK l at' = 0 ∧ nextE l at' = 2 := by
  have hn : ¬ (0 ≤ at' ∧ at' < l.length) := by omega
  unfold nextZ nextK nextE
  rw [if_neg hn, if_neg hn, if_neg hn]; exact ⟨rfl, rfl, rfl⟩
theorem next_in {l : List UInt8} {k : Nat} (h : k < l.length) : nextZ l k = oneZ (l.drop k) ∧ nextK l k = oneK (l.drop k) ∧ nextE l k = if (one (l.drop k)).isSome then 0 else 50 := by
  have hn : 0 ≤ (k : Int) ∧ (k : Int) < l.length := by omega
  unfold nextZ nextK nextE
  rw [if_pos hn, if_pos hn, if_pos hn]
  refine ⟨rfl, rfl, ?_⟩
  simp only [Int.toNat_natCast]
  cases one (l.drop k) <;> rfl

set_option maxHeartbeats 1000000 in
theorem refNext_any (s : ByteArray) (at' : Int) (w : World) (hs : s.size ≤ maxLen) (h0 : -9223372036854775808 ≤ at') (h1 : at' ≤ 9223372036854775807) :
    Calls Tryd.prog 8 #[.string s, .int .i64 at'] w fun e w' => e = .returned (.tuple #[.int .i64 (nextZ s.data.toList at'), .int .i64 (nextK s.data.toList at'), .int .i64 (nextE s.data.toList at')]) ∧ Old w w' := by
  unfold maxLen at hs
  have hsz : s.data.toList.length = s.size := by simp
  by_cases hlo : at' < 0
  · have HN := Lib.hid (next_out (l := s.data.toList) (.inl hlo))
    clear hsz
    go_enter Tryd.func8, Tryd.ntmps8
    go_wp2
    go_ret3
    exact ⟨ret_three HN.out.1 HN.out.2.1 HN.out.2.2, Old.refl w⟩
  obtain ⟨k, rfl⟩ := Int.eq_ofNat_of_zero_le (by omega : 0 ≤ at')
  by_cases hhi : k < s.size
  · have HN := Lib.hid (next_in (l := s.data.toList) (k := k) (by omega))
    have hex : (s.extract k s.size).data.toList = s.data.toList.drop k := by rw [extract_data, List.take_of_length_le]; simp
    have hexs : (s.extract k s.size).size ≤ maxLen := by rw [Lib.size_eq, hex]; simp [maxLen]; omega
    cases hone : one (s.data.toList.drop k) with
    | none =>
      have HK := Lib.hid (oneK_none hone)
      have Hone := Lib.hid hone
      have Hex := Lib.hid hex
      clear hsz hone hex
      go_enter Tryd.func8, Tryd.ntmps8
      go_wp2_with (go_at_call 19; (with_reducible refine (One_any _ _ hexs).mono ?_); rintro e w1 ⟨he, ho1⟩; rw [Hex.out, HK.out.1, HK.out.2] at he; subst he)
      go_ret3
      exact ⟨ret_three (by rw [HN.out.1, HK.out.2]) (by rw [HN.out.2.1, HK.out.1]) (by rw [HN.out.2.2, Hone.out]; rfl), ho1⟩
    | some p =>
      obtain ⟨z, j⟩ := p
      obtain ⟨_, _, _, hj, _⟩ := one_some hone
      have hj0 : ((j : Int) == 0) = false := by rw [beq_eq_false_iff_ne]; omega
      have HK := Lib.hid (oneK_pos hone)
      have Hone := Lib.hid hone
      have Hex := Lib.hid hex
      clear hsz hone hex
      go_enter Tryd.func8, Tryd.ntmps8
      go_wp2_with (go_at_call 19; (with_reducible refine (One_any _ _ hexs).mono ?_); rintro e w1 ⟨he, ho1⟩; rw [Hex.out, HK.out.1, HK.out.2] at he; subst he)
      go_ret3
      exact ⟨ret_three (by rw [HN.out.1, HK.out.2]) (by rw [HN.out.2.1, HK.out.1]) (by rw [HN.out.2.2, Hone.out]; rfl), ho1⟩
  · have HN := Lib.hid (next_out (l := s.data.toList) (at' := (k : Int)) (.inr (by omega)))
    clear hsz
    have hk : ¬ (k : Int) < 0 := by omega
    go_enter Tryd.func8, Tryd.ntmps8
    go_wp2
    go_ret3
    exact ⟨ret_three HN.out.1 HN.out.2.1 HN.out.2.2, Old.refl w⟩
end Go.Proofs.YtocoajmhdobagaaDoor
