/-
  Contracts: the first code point of a text, as the document's answer tells it.
-/
import Derived.Test.YtocoajmhdobagaaDoorTc
import Derived.Test.YtocoajmhdobagaaDoorTr
import Derived.WalkSpells
import Derived.Deep.RegionWith
import Derived.Deep.RegionHeld3
namespace Go.Proofs.YtocoajmhdobagaaDoor
open Go Go.RowKit Go.Lib Go.Proofs.YtocoajmhdobagaaDoor.Wd

theorem refMay_f (n : Int) (w : World) (h : may n = false) (h0 : 0 ≤ n) (h1 : n ≤ 9223372036854775807) :
    Calls Tryd.prog 15 #[.int .i64 n] w fun e w' => e = .returned (.bool false) ∧ w' = w := by
  have := refMay_any n w (by omega) h1
  rw [h] at this
  exact this.mono fun _ _ hh => ⟨hh.1, hh.2.symm⟩
theorem Bytes_enc (n : Int) (w : World) (h0 : 0 ≤ n) (h1 : n ≤ 1114111) (hs : 2048 ≤ n → n ≤ 65535 → (2048 ≤ n ∧ n < 55296) ∨ (57343 < n ∧ n ≤ 65535)) :
    Calls Tryd.prog 28 #[.int .i64 n] w fun e w' => ∃ v, e = .returned v ∧ Sl w' 1 v (encodeRune n).length ((encodeRune n).map u8) ∧ Old w w' := by
  have := Bytes_any n w h0 h1 hs
  rw [runeCells_eq, List.length_map] at this
  exact this
theorem ret_two {a b c d : Int} (h : a = c) (k : b = d) : Ending.returned (.tuple #[.int .i64 c, .int .i64 d]) = Ending.returned (.tuple #[.int .i64 a, .int .i64 b]) := by rw [h, k]

set_option maxHeartbeats 1000000 in
theorem head_any (c : Int) (w : World) (h0 : 0 ≤ c) (h1 : c < 256) :
    Calls Tryd.prog 27 #[.int .i64 c] w fun e w' => e = .returned (.tuple #[.int .i64 (headS c), .int .i64 (headN c)]) ∧ w = w' := by
  have E : headS c = headS c := rfl
  by_cases c1 : c < 128
  · have HS : Hid (headS c = 1 ∧ headN c = c) := by unfold headS headN; rw [if_pos c1, if_pos c1]; exact ⟨rfl, rfl⟩
    clear E
    go_enter Tryd.func27, Tryd.ntmps27
    go_wp2
    go_ret2
    exact ⟨ret_two HS.out.1 HS.out.2, rfl⟩
  by_cases c2 : 192 ≤ c ∧ c < 224
  · have HS : Hid (headS c = 2 ∧ headN c = c - 192) := by unfold headS headN; rw [if_neg c1, if_pos c2, if_neg c1, if_pos c2]; exact ⟨rfl, rfl⟩
    obtain ⟨c2, c2'⟩ := c2
    clear E
    go_enter Tryd.func27, Tryd.ntmps27
    go_wp2
    go_ret2
    exact ⟨ret_two HS.out.1 HS.out.2, rfl⟩
  by_cases c3 : 224 ≤ c ∧ c < 240
  · have HS : Hid (headS c = 3 ∧ headN c = c - 224) := by unfold headS headN; rw [if_neg c1, if_neg c2, if_pos c3, if_neg c1, if_neg c2, if_pos c3]; exact ⟨rfl, rfl⟩
    obtain ⟨c3, c3'⟩ := c3
    have d1 : 192 ≤ c := by omega
    have d2 : ¬ c < 224 := by omega
    clear E c2
    go_enter Tryd.func27, Tryd.ntmps27
    go_wp2
    go_ret2
    exact ⟨ret_two HS.out.1 HS.out.2, rfl⟩
  by_cases c4 : 240 ≤ c ∧ c < 248
  · have HS : Hid (headS c = 4 ∧ headN c = c - 240) := by unfold headS headN; rw [if_neg c1, if_neg c2, if_neg c3, if_pos c4, if_neg c1, if_neg c2, if_neg c3, if_pos c4]; exact ⟨rfl, rfl⟩
    obtain ⟨c4, c4'⟩ := c4
    have d1 : 192 ≤ c := by omega
    have d2 : ¬ c < 224 := by omega
    have d3 : 224 ≤ c := by omega
    have d4 : ¬ c < 240 := by omega
    clear E c2 c3
    go_enter Tryd.func27, Tryd.ntmps27
    go_wp2
    go_ret2
    exact ⟨ret_two HS.out.1 HS.out.2, rfl⟩
  · have HS : Hid (headS c = 0 ∧ headN c = 0) := by unfold headS headN; rw [if_neg c1, if_neg c2, if_neg c3, if_neg c4, if_neg c1, if_neg c2, if_neg c3, if_neg c4]; exact ⟨rfl, rfl⟩
    clear E
    by_cases d1 : 192 ≤ c
    · have d2 : ¬ c < 224 := by omega
      have d3 : 224 ≤ c := by omega
      have d4 : ¬ c < 240 := by omega
      have d5 : 240 ≤ c := by omega
      have d6 : ¬ c < 248 := by omega
      clear c2 c3 c4
      go_enter Tryd.func27, Tryd.ntmps27
      go_wp2
      go_ret2
      exact ⟨ret_two HS.out.1 HS.out.2, rfl⟩
    · have d3 : ¬ 224 ≤ c := by omega
      have d5 : ¬ 240 ≤ c := by omega
      clear c2 c3 c4
      go_enter Tryd.func27, Tryd.ntmps27
      go_wp2
      go_ret2
      exact ⟨ret_two HS.out.1 HS.out.2, rfl⟩

set_option maxRecDepth 100000 in
set_option maxHeartbeats 2000000 in
theorem One_any (s : ByteArray) (w : World) (hs : s.size ≤ maxLen) :
    Calls Tryd.prog 19 #[.string s] w fun e w' => e = .returned (.tuple #[.int .i64 (oneZ s.data.toList), .int .i64 (oneK s.data.toList)]) ∧ Old w w' := by
  unfold maxLen at hs
  have hsz : s.data.toList.length = s.size := by simp
  by_cases hne : s.data.toList = []
  · have HP : Hid (oneZ s.data.toList = 0 ∧ oneK s.data.toList = 0) := by rw [hne]; exact ⟨rfl, rfl⟩
    have h0 : s.toList = [] := by rw [toList_data]; exact hne
    clear hsz hne
    go_enter Tryd.func19, Tryd.ntmps19
    go_wp2
    go_ret2
    exact ⟨ret_two HP.out.1 HP.out.2, Old.refl w⟩
  · obtain ⟨b, l, hbl⟩ := List.exists_cons_of_ne_nil hne
    have h0 : (s.toList == []) = false := by rw [toList_data, hbl]; rfl
    have h1 : s.toList.isEmpty = false := by rw [toList_data, hbl]; rfl
    have hp : 0 < s.size := by rw [← hsz, hbl]; simp
    have hb0 : (s[0]'hp) = b := by
      have : s.data.toList[0]? = some b := by rw [hbl]; rfl
      rw [Array.getElem?_toList, Array.getElem?_eq_getElem (by simpa using hp)] at this
      exact Option.some.inj this
    have hb1 : 0 ≤ (b.toNat : Int) := by omega
    have hb2 : (b.toNat : Int) ≤ 255 := by have := b.toNat_lt; omega
    obtain ⟨k, hk⟩ : ∃ k : Nat, headS (b.toNat : Int) = k := ⟨(headS (b.toNat : Int)).toNat, by have := (headS_range (b.toNat : Int)).1; omega⟩
    have hk4 : k ≤ 4 := by have := (headS_range (b.toNat : Int)).2; omega
    have hN := headN_range (c := (b.toNat : Int)) ⟨hb1, by omega⟩
    have Hk := Lib.hid hk
    rw [hk] at hN
    obtain ⟨N, hNe⟩ : ∃ N, headN (b.toNat : Int) = N := ⟨_, rfl⟩
    rw [hNe] at hN
    have HN := Lib.hid hNe
    obtain ⟨hN0, hN1, hN2⟩ := hN
    have hN3 : k ≠ 1 → N ≤ 31 := fun h => hN2 (by omega)
    have Hlen : Hid (l.length + 1 = s.size) := by show _ = _; rw [← hsz, hbl]; rfl
    have Hbl := Lib.hid hbl
    clear hsz hne hbl hk hNe hN2
    by_cases hbad : k = 0 ∨ s.size < k
    · have hno : one s.data.toList = none := by
        rw [Hbl.out]
        refine one_no Hk.out ?_
        rcases hbad with h | h
        · exact .inl h
        · exact .inr (.inl (by simp; have := Hlen.out; omega))
      have HP : Hid (oneZ s.data.toList = 0 ∧ oneK s.data.toList = 0) := by unfold oneZ oneK; rw [hno]; exact ⟨rfl, rfl⟩
      clear hno
      by_cases hk0 : k = 0
      · subst hk0
        clear hbad
        go_enter Tryd.func19, Tryd.ntmps19
        go_wp2_with (go_at_call 27; (with_reducible refine (head_any _ _ hb1 (by omega)).mono ?_); rintro e w' ⟨rfl, rfl⟩; rw [Hk.out, HN.out])
        go_ret2
        exact ⟨ret_two HP.out.1 HP.out.2, Old.refl w⟩
      · have hbig : (s.size : Int) < k := by omega
        have hk0' : ((k : Int) == 0) = false := by rw [beq_eq_false_iff_ne]; omega
        clear hbad
        go_enter Tryd.func19, Tryd.ntmps19
        go_wp2_with (go_at_call 27; (with_reducible refine (head_any _ _ hb1 (by omega)).mono ?_); rintro e w' ⟨rfl, rfl⟩; rw [Hk.out, HN.out])
        go_ret2
        exact ⟨ret_two HP.out.1 HP.out.2, Old.refl w⟩
    · have hk1 : 1 ≤ k := by omega
      have hks : k ≤ s.size := by omega
      have hk0' : ((k : Int) == 0) = false := by rw [beq_eq_false_iff_ne]; omega
      clear hbad
      go_enter Tryd.func19, Tryd.ntmps19
      go_wp2_with (go_at_call 27; (with_reducible refine (head_any _ _ hb1 (by omega)).mono ?_); rintro e w' ⟨rfl, rfl⟩; rw [Hk.out, HN.out])
      go_loopg [5, 6] k (fun g s5 s6 wr => ∃ (i : Nat) (n : Int), 1 ≤ i ∧ i ≤ k ∧ k - i ≤ g ∧ s6 = .int .i64 i ∧ s5 = .int .i64 n ∧ 0 ≤ n ∧ Hid (n = contN N (l.take (i - 1))) ∧ Hid ((i = 1 ∧ n ≤ 127 ∧ (k ≠ 1 → n ≤ 31)) ∨ (i = 2 ∧ n ≤ 2047) ∨ (i = 3 ∧ n ≤ 131071) ∨ (i = 4 ∧ n ≤ 8388607)) ∧ w = wr)
      case atStart => exact ⟨1, N, by omega, hk1, by omega, rfl, rfl, hN0, by show N = contN N (l.take 0); simp [contN], .inl ⟨rfl, hN1, hN3⟩, rfl⟩
      case round =>
        obtain ⟨i, n, hi1, hik, hg, rfl, rfl, hn0, hnc, hnb, rfl⟩ := hrel
        have hn1 : n ≤ 8388607 := by have := hnb.out; omega
        by_cases hlt : i < k
        · have his : i < s.size := by omega
          obtain ⟨x, hx⟩ : ∃ x, (s[i]'his) = x := ⟨_, rfl⟩
          have hx1 : 0 ≤ (x.toNat : Int) := by omega
          have hx2 : (x.toNat : Int) ≤ 255 := by have := x.toNat_lt; omega
          go_wp2
          go_roundg (k - (i + 1))
          case measure => omega
          case rel =>
            refine ⟨i + 1, 64 * n + (x.toNat : Int) % 64, by omega, by omega, by omega, by go_num, by go_num, by omega, ?_, ?_, rfl⟩
            · show _ = contN N (l.take (i + 1 - 1))
              have hil : i - 1 < l.length := by have := Hlen.out; omega
              have hxl : l[i - 1] = x := by
                have h1 : s.data.toList[i]? = some x := by
                  rw [Array.getElem?_toList, Array.getElem?_eq_getElem (by simpa using his)]
                  exact congrArg some hx
                rw [Hbl.out] at h1
                obtain ⟨j, rfl⟩ : ∃ j, i = j + 1 := ⟨i - 1, by omega⟩
                rw [List.getElem?_cons_succ] at h1
                rw [List.getElem?_eq_getElem (by omega)] at h1
                exact Option.some.inj h1
              have ht : l.take (i + 1 - 1) = l.take (i - 1) ++ [x] := by
                rw [← hxl, show i + 1 - 1 = (i - 1) + 1 by omega, List.take_succ_eq_append_getElem hil]
              rw [ht, contN_snoc, ← hnc.out]
            · have := hnb.out
              show _ ∨ _
              omega
        · have hieq : i = k := by omega
          subst hieq
          clear hnb
          by_cases hm : may n = true
          · obtain ⟨m0, m1, m2⟩ := may_range hm
            have hcut : (s.extract 0 i).toList = s.data.toList.take i := by rw [toList_data, extract_data]; simp
            by_cases heq : encodeRune n = s.data.toList.take i
            · have hone : one s.data.toList = some (n, i) := one_yes hm heq (by rw [Hbl.out]; simp; have := Hlen.out; omega)
              have HP : Hid (oneZ s.data.toList = n ∧ oneK s.data.toList = i) := by unfold oneZ oneK; rw [hone]; exact ⟨rfl, rfl⟩
              have hq : ((encodeRune n) == (s.extract 0 i).toList) = true := by rw [hcut, heq]; simp
              clear hone heq hcut
              go_wp2_with fail
              clear hb0 hN3 hN0 hN1
              have Hm2 := Lib.hid m2; clear m2
              clear h0 h1 hb1 hb2 hk4 hk0' hik hg hlt hnc
              go_region_with (first
                | (go_at_call 15; (with_reducible refine (refMay_any n _ (by omega) (by omega)).mono ?_); rintro e w' ⟨rfl, rfl⟩; rw [hm])
                | (go_at_call 28; (with_reducible refine (Bytes_enc n _ m0 m1 Hm2.out).mono ?_); rintro e w1 ⟨v1, he, hv1, ho1⟩; obtain ⟨A1, c1, rfl⟩ := hv1.form; subst he; have hcv := run_convert_sl (P := Tryd.prog) w1 41 9 5 Tryd.underlying41 Tryd.underlying5 Tryd.underlying9 _ _ (encodeRune n) hv1))
              go_wp2
              go_ret2
              exact ⟨ret_two HP.out.1 HP.out.2, ((Old.refl w).drew).trans ho1⟩
            · have hno : one s.data.toList = none := by
                rw [Hbl.out]
                refine one_no Hk.out (.inr (.inr ⟨by simp; have := Hlen.out; omega, fun n' h1 h2 => ?_⟩))
                rw [h1, HN.out, ← hnc.out, ← Hbl.out]
                exact heq
              have HP : Hid (oneZ s.data.toList = 0 ∧ oneK s.data.toList = 0) := by unfold oneZ oneK; rw [hno]; exact ⟨rfl, rfl⟩
              have hq : ((encodeRune n) == (s.extract 0 i).toList) = false := by rw [hcut]; simpa using heq
              clear hno heq hcut
              go_wp2_with fail
              clear hb0 hN3 hN0 hN1
              have Hm2 := Lib.hid m2; clear m2
              clear h0 h1 hb1 hb2 hk4 hk0' hik hg hlt hnc
              go_region_with (first
                | (go_at_call 15; (with_reducible refine (refMay_any n _ (by omega) (by omega)).mono ?_); rintro e w' ⟨rfl, rfl⟩; rw [hm])
                | (go_at_call 28; (with_reducible refine (Bytes_enc n _ m0 m1 Hm2.out).mono ?_); rintro e w1 ⟨v1, he, hv1, ho1⟩; obtain ⟨A1, c1, rfl⟩ := hv1.form; subst he; have hcv := run_convert_sl (P := Tryd.prog) w1 41 9 5 Tryd.underlying41 Tryd.underlying5 Tryd.underlying9 _ _ (encodeRune n) hv1))
              go_wp2
              go_ret2
              exact ⟨ret_two HP.out.1 HP.out.2, ((Old.refl w).drew).trans ho1⟩
          · have hmf : may n = false := by simpa using hm
            have hno : one s.data.toList = none := by
              rw [Hbl.out]
              refine one_no Hk.out (.inr (.inr ⟨by simp; have := Hlen.out; omega, fun n' h1 h2 => ?_⟩))
              rw [h1, HN.out, ← hnc.out, hmf] at h2
              cases h2
            have HP : Hid (oneZ s.data.toList = 0 ∧ oneK s.data.toList = 0) := by unfold oneZ oneK; rw [hno]; exact ⟨rfl, rfl⟩
            clear hno hm
            go_wp2_with fail
            go_quiet ((go_at_call 15; exact Calls.quiet_of_same (refMay_f n _ hmf hn0 (by omega))))
            go_wp2
            go_ret2
            exact ⟨ret_two HP.out.1 HP.out.2, (Old.refl w).drewN _⟩
end Go.Proofs.YtocoajmhdobagaaDoor
