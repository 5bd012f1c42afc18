/-
  MarkNames holds.
-/
import Derived.Test.YtlnlopnpcmahgaaGreatDoorMh
import Derived.Test.YtlnlopnpcmahgaaGreatDoorQy
namespace Go.Proofs.YtlnlopnpcmahgaaGreatDoor.markNames
set_option linter.unusedSimpArgs false
set_option linter.unusedVariables false
open Go Go.ChangeShapes Go.WideShapes Go.ChangeAt Go.RowKit Go.Proofs.YtlnlopnpcmahgaaGreatDoor.Vm
set_option linter.unusedVariables false

theorem reads (os : Os) {H : Type} (enc : TypeId × Value → H) : ∃ places, DataW.whole enc Tryz.prog ((fE os).forCall (fun _ _ => 0) ⟨#[], #[], []⟩).memory Tryz.f5.params.toList Rows.markNamesSpec.vars false (#[] : Array Value).toList 8 = some ([], [], places) :=
  ⟨[], by kernel_rfl⟩
set_option maxRecDepth 100000 in
theorem lifted (os : Os) (started : os.Started) (H : Type) (enc : TypeId × Value → H) (F : Stop.Interp) :
    ReturnsInHanded {} Tryz.checked os 5 .any ((OpenSpec.ofChange Rows.markNamesSpec).preRow enc Tryz.prog Tryz.f5 Rows.markNamesRow.domain false Rows.markNamesRow.laid) (((OpenSpec.ofChange Rows.markNamesSpec).at F).post enc Tryz.prog Tryz.f5 false true false false) := by
  obtain ⟨places, hx⟩ := reads os enc
  exact kg (C := Tryz.checked) (cx := cx) rfl (fun W h g => A4 W h g) own started (by kernel_rfl) Tryz.func5 (fun cargs w => Tryz.call5 cargs w) rfl (by kernel_rfl) (pg cx.P 1000 Tryz.f5.params.toList []) (by kernel_rfl) (by kernel_rfl) (by kernel_rfl)
    (tb := 4) rfl (by kernel_rfl) (fun H ds hn => by
      simp only [Tryz.params5,List.length_cons,List.length_nil] at hn
      obtain rfl : ds = [] := List.eq_nil_of_length_eq_zero hn
      exact ⟨rfl, rfl, rfl⟩)
    F
    (witness_row_atRef (enc := enc) (C := Tryz.checked) false (fE os) #[] rfl (by kernel_rfl) (by kernel_rfl) (by kernel_rfl)
      (OpenSpec.preRow_of_cond 8 hx (by kernel_rfl) (fun k hk => by cases hk) (by kernel_rfl) (Au os _)))
    (fun xs has => ur xs has)
theorem p1 : laidOutB Tryz.pinned.checked.prog = true := by kernel_rfl
theorem p2 : mapsRowed Tryz.pinned.checked.prog = true := by kernel_rfl
theorem p3 : (Rows.markNamesRow.inPlace == Tryz.pinned.checked.prog.inPlace 5) = true := by kernel_rfl
theorem p4 : (Rows.markNamesRow.unfollowed == Tryz.pinned.checked.prog.unfollowed 5) = true := by kernel_rfl
theorem p5 : (Rows.markNamesRow.recurses == Tryz.pinned.checked.prog.recurses 5) = true := by kernel_rfl
theorem p6 : (Rows.markNamesRow.named == Tryz.pinned.checked.prog.varsNamed 5) = true := by kernel_rfl
theorem p7 : (Rows.markNamesRow.plainKeys == Tryz.pinned.checked.prog.plainKeys) = true := by kernel_rfl
theorem p8 : Tryz.pinned.checked.prog.stopsHeard = true := by kernel_rfl
theorem p9 : Tryz.pinned.checked.prog.mayEnter = true := by kernel_rfl
theorem Sn : (Rows.markNamesRow.lifted == Tryz.pinned.checked.prog.liftsFinal) = true := by kernel_rfl
theorem closed : joinedFacts Tryz.pinned.checked.prog 5 Tryz.f5 Rows.markNamesSpec Rows.markNamesRow = true := Vm.joined_of p1 p2 p3 p4 p5 p6 p7 p8 p9 Sn (by kernel_rfl)
theorem said : Rows.MarkNamesSaid :=
  OpenClaim.holds_of_cond 5 Tryz.f5 rfl rfl rfl rfl rfl rfl rfl ⟨rfl, rfl, rfl, rfl, rfl⟩ rfl rfl rfl rfl rfl (by kernel_rfl) Tryz.func5 closed
    (of_decide_eq_true (by kernel_rfl)) (by unfold Func.isWrapper; first | (rw [if_pos (by decide +kernel)]; kernel_rfl) | (rw [if_neg (by decide +kernel)]; exact ⟨rfl, rfl⟩))
    (fun os started H enc _ F => by rw [OpenClaim.pre_eq_preRow]; exact lifted os started H enc F)
theorem plain (f : FuncId) (fn : Func) (hf : Tryz.pinned.checked.prog.funcNamed "tidewaiter/tidewaiterlaw12.MarkNames" = some f) (hfn : Tryz.pinned.checked.prog.funcs[f]? = some fn) :
    true = Tryz.pinned.checked.prog.looks [] ∧ ∀ (j : Nat) t, fn.params[j]? = some t → Tryz.pinned.checked.prog.wantsStandIn t = false := by
  obtain rfl : f = 5 := Option.some.inj ((show Tryz.prog.funcNamed "tidewaiter/tidewaiterlaw12.MarkNames" = some 5 by kernel_rfl).symm.trans hf) |>.symm
  obtain rfl : fn = Tryz.f5 := (Option.some.inj (Tryz.func5.symm.trans hfn)).symm
  refine ⟨by kernel_rfl, fun j t ht => ?_⟩
  rw [Tryz.params5] at ht
  simp at ht
theorem card : Rows.MarkNamesCardSaid :=
  Claim7.holds_tied_plain_at .later [] _ _ _ _ said (fun _ h => by cases h) (by kernel_rfl) (fun _ h => by cases h) markNames_row_tie rfl ⟨rfl, rfl⟩ (by kernel_rfl) rfl plain (by kernel_rfl)
#print axioms card
end Go.Proofs.YtlnlopnpcmahgaaGreatDoor.markNames
