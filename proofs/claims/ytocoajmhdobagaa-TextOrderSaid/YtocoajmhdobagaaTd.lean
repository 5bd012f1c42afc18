/-
  Contract: the text of code points, as the document's answer makes it.
-/
import Derived.Test.YtocoajmhdobagaaTc
namespace Go.Proofs.Ytocoajmhdobagaa
open Go Go.RowKit Go.Proofs.Ytocoajmhdobagaa.Wd

theorem byte_info : (Try.prog.info? 5).map (fun i => (i.zero, i.size, i.bytes)) = some (some (.int .u8 0), 1, 1) := by kernel_rfl
theorem empty_str : (ByteArray.mk (List.toArray ([] : List UInt8))) = ByteArray.mk #[] := rfl

set_option maxHeartbeats 1000000 in
theorem refOf_any (A : Option Addr) (n c : Nat) (zs : List Int) (w : World) (hA : Sl w 1 (.slice A n c) n (zs.map (.int .i64))) (hn : n ≤ 17000)
    (hz : ∀ k, k < n → -9223372036854775808 ≤ zs.getD k 0 ∧ zs.getD k 0 ≤ 9223372036854775807) :
    Calls Try.prog 6 #[.slice A n c] w fun e w' => e = .returned (.tuple #[.string ⟨(ofText zs).toArray⟩, .int .i64 (ofErr zs)]) ∧ Old w w' := by
  obtain ⟨i0, hi0, hz0, hz1, hz2⟩ := info_parts byte_info
  have hzn : zs.length = n := by simpa using hA.1
  have Hzn := Lib.hid hzn; clear hzn
  have HA := Lib.hid hA; clear hA
  have HZ := Lib.hid hz; clear hz
  go_enter Try.func6, Try.ntmps6
  go_wp2
  go_loopw [4, 5] (fun s4 s5 wr => ∃ k : Nat, k ≤ n ∧ s5 = .int .i64 k ∧ Hid ((zs.take k).all may = true) ∧ wr.ownsRow w.heap.size 5 1 s4 (enc (zs.take k)).length ((enc (zs.take k)).map u8) ∧ Old w wr)
    (fun _ s5 _ => n - (intOf s5).toNat)
  case atStart => exact ⟨0, Nat.zero_le _, rfl, rfl, World.ownsRow_nil _ _ _ _, Old.refl w⟩
  case round =>
    obtain ⟨k, hk, rfl, hall, hown, hold⟩ := hrel
    have hlen := enc_length (zs.take k)
    have hlen2 : (zs.take k).length ≤ k := List.length_take_le _ _
    by_cases hlt : k < n
    · have hlz : k < zs.length := by rw [Hzn.out]; exact hlt
      have hr := HZ.out k hlt
      obtain ⟨_, A', c', hv, hc⟩ := (HA.out).old hold
      obtain ⟨rfl, rfl⟩ : A' = A ∧ c' = c := by injection hv with h1 h2 h3; exact ⟨h1.symm, h3.symm⟩
      obtain ⟨ad, rfl, hb, hcell⟩ := hc (by omega)
      have g1 : wr.cell? (ad.add k) = some (.int .i64 (zs.getD k 0)) := hcell k _ (by simp [List.getD_eq_getElem?_getD, hlz])
      have hsn := take_snoc hlz
      have Hsn := Lib.hid hsn; clear hsn
      clear hc hcell hv
      by_cases hm : may (zs.getD k 0) = true
      · have hal2 := Lib.hid (all_snoc hlz hall.out hm)
        obtain ⟨m0, m1, m2⟩ := may_range hm
        generalize zs.getD k 0 = z at *
        have hrl : (Lib.runeCells z).length ≤ 4 := by rw [runeCells_length]; exact (encodeRune_length z).2
        go_wp2_with (first
          | (go_at_call 12; (with_reducible refine (refMay_any z _ (by omega) (by omega)).mono ?_); rintro e w' ⟨rfl, rfl⟩; rw [hm])
          | (go_at_call 13; (with_reducible refine (Bytes_any z _ m0 m1 m2).mono ?_); rintro e w1 ⟨v1, rfl, hv1, ho1⟩)
          | (at_builtin; refine wpList_append_sl _ rfl (.tmp 18) (.tmp 23) _ rfl w.heap.size 5 i0 _ 1 1 Try.underlying31 hi0 hz0 hz1 hz2 rfl (by omega) _ _ _ rfl (own_old hown ho1) _ _ _ rfl hv1 ?c1 ?c2 ?c3 ?c4 ?_; (case c1 => rw [runeCells_eq]; exact oneCell_u8 _); (case c2 => simp only [maxLen]; omega); (case c3 => omega); (case c4 => exact (hold.trans ho1).size); intro v2 w2 hown2 hg2 hat2))
        go_roundw
        case rel => exact ⟨k + 1, by omega, by go_num, hal2.out, by rw [Hsn.out, ← enc_cells, enc_snoc, List.length_append, ← runeCells_length]; exact hown2, (hold.trans ho1).grown hg2 (fun b hb => (hown.lt b hb).1)⟩
        case measure => simp [intOf]; omega
      · have hmf : may (zs.getD k 0) = false := by simpa using hm
        have hbad := ofErr_bad hlz hmf
        have Hbad := Lib.hid hbad; clear hbad
        generalize zs.getD k 0 = z at *
        go_wp2_with (first
          | (go_at_call 12; (with_reducible refine (refMay_any z _ (by omega) (by omega)).mono ?_); rintro e w' ⟨rfl, rfl⟩; rw [hmf]))
        go_ret2
        refine ⟨?_, hold⟩
        rw [show ofText zs = [] by unfold ofText; rw [Hbad.out]; rfl, Hbad.out]
        rfl
    · have : k = n := by omega
      subst this
      have hts : zs.take k = zs := List.take_of_length_le (by rw [Hzn.out]; exact Nat.le_refl _)
      rw [hts] at hall hown hlen
      clear hts hlen2
      have herr : ofErr zs = if 16384 < (enc zs).length then 4 else 0 := by unfold ofErr; rw [if_pos hall.out]
      have hcv := run_convert_sl (P := Try.prog) wr 31 9 5 Try.underlying31 Try.underlying5 Try.underlying9 u4 _ (enc zs) (Sl.of_own hown)
      obtain ⟨_, A', c', rfl, hc⟩ := Sl.of_own hown
      by_cases hbig : 16384 < (enc zs).length
      · have HE : Hid (ofErr zs = 4) := by rw [herr, if_pos hbig]; rfl
        clear herr hcv
        go_wp2
        go_ret2
        refine ⟨?_, hold⟩
        rw [show ofText zs = [] by unfold ofText; rw [HE.out]; rfl, HE.out]
        rfl
      · have HE : Hid (ofErr zs = 0) := by rw [herr, if_neg hbig]; rfl
        clear herr
        go_wp2
        go_ret2
        refine ⟨?_, hold⟩
        rw [show ofText zs = enc zs by unfold ofText; rw [HE.out]; rfl, HE.out]
        rfl
end Go.Proofs.Ytocoajmhdobagaa
