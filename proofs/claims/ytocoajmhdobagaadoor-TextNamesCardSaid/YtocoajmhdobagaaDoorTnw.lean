/-
  The walk of the law TextNames.
-/
import Derived.Test.YtocoajmhdobagaaDoorTf
import Derived.Test.YtocoajmhdobagaaDoorTal
import Derived.Test.YtocoajmhdobagaaDoorTnx
import Derived.Laws.MakeOwn
namespace Go.Proofs.YtocoajmhdobagaaDoor
open Go Go.RowKit Go.Lib Go.Proofs.YtocoajmhdobagaaDoor.Wd

def zeros : List UInt8 := List.replicate 16385 0
def zeroRow : Array Value := madeCells #[.int .u8 0] 16385
theorem zeros_length : zeros.length = 16385 := by unfold zeros; exact List.length_replicate
theorem zeroRow_list : zeroRow.toList = zeros.map fun b => .int .u8 (b.toNat : Int) := by
  unfold zeroRow zeros
  rw [toList_madeCells_one, List.map_replicate]
  rfl
theorem zeroRow_size : zeroRow.size = 16385 := by
  have := congrArg List.length zeroRow_list
  rw [List.length_map, zeros_length] at this
  exact this

theorem make_zeros (W : World) : (Instr.makeSlice 41 (.int .i64 16385) (.int .i64 16385)).run Tryd.prog W = .ok (.slice (some ⟨W.heap.size, 0, none⟩) 16385 16385) (W.alloc (.cells zeroRow 5)) := by
  obtain ⟨i0, hi0, hz0, hz1, hz2⟩ := info_parts byte_info
  have := run_make (P := Tryd.prog) W 41 5 i0 _ Tryd.underlying41 hi0 hz0 .i64 .i64 16385 16385 (by omega) (by omega) (by rw [hz2]; omega) (by omega)
  rw [this, hz1]
  rfl
theorem conv_zeros (W : World) : (convert 41 9 (.slice (some ⟨W.heap.size, 0, none⟩) 16385 16385)).run Tryd.prog (W.alloc (.cells zeroRow 5)) = .ok (.string ⟨zeros.toArray⟩) (W.alloc (.cells zeroRow 5)) := by
  refine run_convert_sl (P := Tryd.prog) _ 41 9 5 Tryd.underlying41 Tryd.underlying5 Tryd.underlying9 _ 16385 zeros ?_
  rw [← zeroRow_list]
  exact Sl.lit W zeroRow _ 16385 1 (by decide) (by rw [zeroRow_size])

theorem k1 : ptsErr (⟨#[192, 128]⟩ : ByteArray).data.toList = 50 := by decide +kernel
theorem k2 : ptsErr (⟨#[237, 160, 128]⟩ : ByteArray).data.toList = 50 := by decide +kernel
theorem k3 : ptsErr (⟨#[0]⟩ : ByteArray).data.toList = 50 := by decide +kernel
theorem k4 : ptsErr (⟨#[239, 191, 191]⟩ : ByteArray).data.toList = 50 := by decide +kernel
theorem k5 : ptsErr (⟨#[239, 191, 189, 9, 13, 10]⟩ : ByteArray).data.toList = 0 := by decide +kernel
theorem k6 : ptsErr (⟨#[]⟩ : ByteArray).data.toList = 0 := by decide +kernel
theorem k7 : ptsErr (⟨zeros.toArray⟩ : ByteArray).data.toList = 4 := ptsErr_big (by show 16384 < zeros.length; rw [zeros_length]; omega)
theorem k7s : (⟨zeros.toArray⟩ : ByteArray).size ≤ maxLen := by rw [Lib.size_eq]; show zeros.length ≤ _; rw [zeros_length]; decide
theorem n1 : nextZ (⟨#[97, 98]⟩ : ByteArray).data.toList 2 = 0 ∧ nextK (⟨#[97, 98]⟩ : ByteArray).data.toList 2 = 0 ∧ nextE (⟨#[97, 98]⟩ : ByteArray).data.toList 2 = 2 := by decide +kernel
theorem n2 : nextZ (⟨#[97, 195, 169, 255]⟩ : ByteArray).data.toList 1 = 233 ∧ nextK (⟨#[97, 195, 169, 255]⟩ : ByteArray).data.toList 1 = 2 ∧ nextE (⟨#[97, 195, 169, 255]⟩ : ByteArray).data.toList 1 = 0 := by decide +kernel
theorem n3 : nextZ (⟨#[97, 195, 169, 255]⟩ : ByteArray).data.toList 3 = 0 ∧ nextK (⟨#[97, 195, 169, 255]⟩ : ByteArray).data.toList 3 = 0 ∧ nextE (⟨#[97, 195, 169, 255]⟩ : ByteArray).data.toList 3 = 50 := by decide +kernel
theorem o1 : ofErr [8364, 9] = 0 ∧ ofText [8364, 9] = [226, 130, 172, 9] := by decide +kernel
theorem o2 : ofErr [11] = 50 ∧ ofText [11] = [] := by decide +kernel
theorem rng1 : ∀ k, k < 2 → -9223372036854775808 ≤ ([8364, 9] : List Int).getD k 0 ∧ ([8364, 9] : List Int).getD k 0 ≤ 9223372036854775807 := by decide
theorem rng2 : ∀ k, k < 1 → -9223372036854775808 ≤ ([11] : List Int).getD k 0 ∧ ([11] : List Int).getD k 0 ≤ 9223372036854775807 := by decide

set_option maxRecDepth 100000 in
set_option maxHeartbeats 4000000 in
theorem TextNames_walk (w : World) (hT : Tabs w) :
    Calls Tryd.prog 5 #[] w fun e w' => e = .returned (.bool true) ∧ Old w w' := by
  have HT := Lib.hid hT
  clear hT
  have hmk := make_zeros
  have hcv := conv_zeros
  have ho0 : Old w w := Old.refl w
  go_enter Tryd.func5, Tryd.ntmps5
  go_wp2_with fail
  with_reducible refine (Check_any _ _ (by decide)).mono ?_
  rintro e w1 ⟨he, ho1⟩; rw [k1] at he; subst he
  go_wp2_with fail
  with_reducible refine (Check_any _ _ (by decide)).mono ?_
  rintro e w2 ⟨he, ho2⟩; rw [k2] at he; subst he
  go_wp2_with fail
  with_reducible refine (Check_any _ _ (by decide)).mono ?_
  rintro e w3 ⟨he, ho3⟩; rw [k3] at he; subst he
  go_wp2_with fail
  with_reducible refine (Check_any _ _ (by decide)).mono ?_
  rintro e w4 ⟨he, ho4⟩; rw [k4] at he; subst he
  go_wp2_with fail
  with_reducible refine (Check_any _ _ (by decide)).mono ?_
  rintro e w5 ⟨he, ho5⟩; rw [k5] at he; subst he
  have hoA : Old w w5 := (((ho1.trans ho2).trans ho3).trans ho4).trans ho5
  clear ho1 ho2 ho3 ho4 ho5
  go_wp2_with fail
  with_reducible refine (Next_any _ _ _ (HT.out.old hoA) (by decide) (by omega) (by omega)).mono ?_
  rintro e w6 ⟨he, ho6⟩; rw [n1.1, n1.2.1, n1.2.2] at he; subst he
  go_wp2_with fail
  with_reducible refine (Next_any _ _ _ (HT.out.old (hoA.trans ho6)) (by decide) (by omega) (by omega)).mono ?_
  rintro e w7 ⟨he, ho7⟩; rw [n2.1, n2.2.1, n2.2.2] at he; subst he
  go_wp2_with fail
  with_reducible refine (Next_any _ _ _ (HT.out.old ((hoA.trans ho6).trans ho7)) (by decide) (by omega) (by omega)).mono ?_
  rintro e w8 ⟨he, ho8⟩; rw [n3.1, n3.2.1, n3.2.2] at he; subst he
  go_wp2_with fail
  with_reducible refine (Of_any _ 2 2 [8364, 9] _ (Sl.lit _ #[_, _] _ 2 1 (by decide) rfl) (by decide) rng1).mono ?_
  rintro e w9 ⟨he, ho9⟩; rw [o1.1, o1.2] at he; subst he
  go_wp2_with fail
  with_reducible refine (Of_any _ 1 1 [11] _ (Sl.lit _ #[_] _ 1 1 (by decide) rfl) (by decide) rng2).mono ?_
  rintro e w10 ⟨he, ho10⟩; rw [o2.1, o2.2] at he; subst he
  have hoB : Old w w10 := ((((hoA.trans ho6).trans ho7).trans ho8).trans (((Old.refl _).alloc _).trans ho9)).trans (((Old.refl _).alloc _).trans ho10)
  clear hoA ho6 ho7 ho8 ho9 ho10
  go_wp2_with fail
  with_reducible refine (alive_any _).mono ?_
  rintro e w11 ⟨he, ho11⟩; subst he
  go_wp2_with fail
  with_reducible refine (Check_any _ _ k7s).mono ?_
  rintro e w12 ⟨he, ho12⟩; rw [k7] at he; subst he
  go_wp2_with fail
  with_reducible refine (Check_any _ _ (by decide)).mono ?_
  rintro e w13 ⟨he, ho13⟩; rw [k6] at he; subst he
  go_wp2
  go_ret
  exact ⟨rfl, ((hoB.trans ho11).trans (((Old.refl _).alloc _).trans ho12)).trans ho13⟩
end Go.Proofs.YtocoajmhdobagaaDoor
