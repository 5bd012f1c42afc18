/-
  Contract: the text of code points, as layer 5 makes it.
-/
import Derived.Test.YtocoajmhdobagaaDoorTe
namespace Go.Proofs.YtocoajmhdobagaaDoor
open Go Go.RowKit Go.Proofs.YtocoajmhdobagaaDoor.Wd

set_option maxHeartbeats 1000000 in
theorem Of_any (A : Option Addr) (n c : Nat) (zs : List Int) (w : World) (hA : Sl w 1 (.slice A n c) n (zs.map (.int .i64))) (hn : n ≤ 17000)
    (hz : ∀ k, k < n → -9223372036854775808 ≤ zs.getD k 0 ∧ zs.getD k 0 ≤ 9223372036854775807) :
    Calls Tryd.prog 17 #[.slice A n c] w fun e w' => e = .returned (.tuple #[.string ⟨(ofText zs).toArray⟩, .int .i64 (ofErr zs)]) ∧ Old w w' := by
  have hzn : zs.length = n := by simpa using hA.1
  have Hzn := Lib.hid hzn; clear hzn
  have HA := Lib.hid hA; clear hA
  have HZ := Lib.hid hz; clear hz
  go_enter Tryd.func17, Tryd.ntmps17
  go_wp2
  go_loopw [11] (fun s11 wr => ∃ (k : Nat) (v : Value), k ≤ n ∧ s11 = .int .i64 k ∧ Hid ((zs.take k).all may = true) ∧ Hid (wr.heap[w.heap.size]? = some (.cells #[v] 41 (0, 0))) ∧ wr.ownsRow (w.heap.size + 1) 5 1 v (enc (zs.take k)).length ((enc (zs.take k)).map u8) ∧ Old w wr)
    (fun s11 _ => n - (intOf s11).toNat)
  case atStart => exact ⟨0, _, Nat.zero_le _, rfl, rfl, heap_alloc_new w _, World.ownsRow_nil _ _ _ _, (Old.refl w).alloc _⟩
  case round =>
    obtain ⟨k, v, hk, rfl, hall, hgb, hown, hold⟩ := hrel
    have hlen := enc_length (zs.take k)
    have hlen2 : (zs.take k).length ≤ k := List.length_take_le _ _
    by_cases hlt : k < n
    · have hlz : k < zs.length := by rw [Hzn.out]; exact hlt
      have hr := HZ.out k hlt
      obtain ⟨_, A', c', hv, hc⟩ := (HA.out).old hold
      obtain ⟨rfl, rfl⟩ : A' = A ∧ c' = c := by injection hv with h1 h2 h3; exact ⟨h1.symm, h3.symm⟩
      obtain ⟨ad, rfl, hb, hcell⟩ := hc (by omega)
      have g1 : wr.cell? (ad.add k) = some (.int .i64 (zs.getD k 0)) := hcell k _ (by simp [List.getD_eq_getElem?_getD, hlz])
      have hsn := take_snoc hlz
      have Hsn := Lib.hid hsn; clear hsn
      clear hc hcell hv
      by_cases hm : may (zs.getD k 0) = true
      · have hal2 := Lib.hid (all_snoc hlz hall.out hm)
        generalize zs.getD k 0 = z at *
        go_wp2_with (go_at_call 24; (with_reducible refine (put_yes z _ _ v _ _ hm hgb.out hown (by omega)).mono ?_); rintro e w1 ⟨he, v1, hgb1, hown1, hbel⟩; subst he)
        go_roundw
        case rel => exact ⟨k + 1, v1, by omega, by go_num, hal2.out, hgb1, by rw [Hsn.out, ← enc_cells, enc_snoc, List.length_append, ← runeCells_length]; exact hown1, Below.trans hold hbel⟩
        case measure => simp [intOf]; omega
      · have hmf : may (zs.getD k 0) = false := by simpa using hm
        have hbad := ofErr_bad hlz hmf
        have Hbad := Lib.hid hbad; clear hbad
        generalize zs.getD k 0 = z at *
        go_wp2_with (go_at_call 24; (with_reducible refine (put_no z _ _ (by omega) (by omega) hmf).mono ?_); rintro e w' ⟨rfl, rfl⟩)
        go_ret2
        refine ⟨?_, hold⟩
        rw [show ofText zs = [] by unfold ofText; rw [Hbad.out]; rfl, Hbad.out]
        rfl
    · have : k = n := by omega
      subst this
      have hts : zs.take k = zs := List.take_of_length_le (by rw [Hzn.out]; exact Nat.le_refl _)
      rw [hts] at hall hown hlen
      clear hts hlen2
      have herr : ofErr zs = if 16384 < (enc zs).length then 4 else 0 := by unfold ofErr; rw [if_pos hall.out]
      have hcv := run_convert_sl (P := Tryd.prog) wr 41 9 5 Tryd.underlying41 Tryd.underlying5 Tryd.underlying9 v _ (enc zs) (Sl.of_own hown)
      have hcb := cell_of_one hgb.out
      obtain ⟨A', c', rfl⟩ := own_form hown
      by_cases hbig : 16384 < (enc zs).length
      · have HE : Hid (ofErr zs = 4) := by rw [herr, if_pos hbig]; rfl
        clear herr hcv
        go_wp2
        go_ret2
        refine ⟨?_, hold⟩
        rw [show ofText zs = [] by unfold ofText; rw [HE.out]; rfl, HE.out]
        rfl
      · have HE : Hid (ofErr zs = 0) := by rw [herr, if_neg hbig]; rfl
        clear herr
        go_wp2
        go_ret2
        refine ⟨?_, hold⟩
        rw [show ofText zs = enc zs by unfold ofText; rw [HE.out]; rfl, HE.out]
        rfl
end Go.Proofs.YtocoajmhdobagaaDoor
