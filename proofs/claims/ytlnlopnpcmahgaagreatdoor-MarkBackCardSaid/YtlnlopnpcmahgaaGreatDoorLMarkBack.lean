/-
  MarkBack holds for every input.
-/
import Derived.Test.YtlnlopnpcmahgaaGreatDoorMf
import Derived.Test.YtlnlopnpcmahgaaGreatDoorQy
namespace Go.Proofs.YtlnlopnpcmahgaaGreatDoor.markBack
set_option linter.unusedSimpArgs false
set_option linter.unusedVariables false
open Go Go.ChangeShapes Go.WideShapes Go.ChangeAt Go.RowKit Go.Proofs.YtlnlopnpcmahgaaGreatDoor.Vm
set_option linter.unusedVariables false

theorem reads (os : Os) {H : Type} (enc : TypeId × Value → H) : ∃ places, DataW.whole enc Tryz.prog ((fJ os).forCall (fun _ _ => 0) ⟨#[], #[.slice none 0 0], []⟩).memory Tryz.f7.params.toList Rows.markBackSpec.vars false (#[.slice none 0 0] : Array Value).toList 8 = some ([.nil], [], places) :=
  ⟨[], by kernel_rfl⟩
set_option maxRecDepth 100000 in
theorem lifted (os : Os) (started : os.Started) (H : Type) (enc : TypeId × Value → H) (F : Stop.Interp) :
    ReturnsInHanded {} Tryz.checked os 7 .any ((OpenSpec.ofChange Rows.markBackSpec).preRow enc Tryz.prog Tryz.f7 Rows.markBackRow.domain false Rows.markBackRow.laid) (((OpenSpec.ofChange Rows.markBackSpec).at F).post enc Tryz.prog Tryz.f7 false true false false) := by
  obtain ⟨places, hx⟩ := reads os enc
  exact kr (C := Tryz.checked) (cx := cx) rfl (fun W h g => Bq W h g) own started (by kernel_rfl) Tryz.func7 (fun cargs w => Tryz.call7 cargs w) rfl (by kernel_rfl) (o8 cx.P 1000 Tryz.f7.params.toList []) (by kernel_rfl) (by kernel_rfl) (by kernel_rfl)
    (tb := 4) rfl (by kernel_rfl) (fun H ds hn => by
      simp only [Tryz.params7,List.length_cons,List.length_nil] at hn
      match ds, hn with
      | [d0], _ => exact ⟨rfl, rfl, rfl⟩)
    F
    (witness_row_atRef (enc := enc) (C := Tryz.checked) false (fJ os) #[.slice none 0 0] rfl (by kernel_rfl) (by kernel_rfl) (by kernel_rfl)
      (OpenSpec.preRow_of_cond 8 hx (by kernel_rfl) (fun k hk => by cases hk) (by kernel_rfl) (AL os _)))
    (fun xs has => vQ xs has)
theorem p1 : laidOutB Tryz.pinned.checked.prog = true := by kernel_rfl
theorem p2 : mapsRowed Tryz.pinned.checked.prog = true := by kernel_rfl
theorem p3 : (Rows.markBackRow.inPlace == Tryz.pinned.checked.prog.inPlace 7) = true := by kernel_rfl
theorem p4 : (Rows.markBackRow.unfollowed == Tryz.pinned.checked.prog.unfollowed 7) = true := by kernel_rfl
theorem p5 : (Rows.markBackRow.recurses == Tryz.pinned.checked.prog.recurses 7) = true := by kernel_rfl
theorem p6 : (Rows.markBackRow.named == Tryz.pinned.checked.prog.varsNamed 7) = true := by kernel_rfl
theorem p7 : (Rows.markBackRow.plainKeys == Tryz.pinned.checked.prog.plainKeys) = true := by kernel_rfl
theorem p8 : Tryz.pinned.checked.prog.stopsHeard = true := by kernel_rfl
theorem p9 : Tryz.pinned.checked.prog.mayEnter = true := by kernel_rfl
theorem Sq : (Rows.markBackRow.lifted == Tryz.pinned.checked.prog.liftsFinal) = true := by kernel_rfl
theorem closed : joinedFacts Tryz.pinned.checked.prog 7 Tryz.f7 Rows.markBackSpec Rows.markBackRow = true := Vm.joined_of p1 p2 p3 p4 p5 p6 p7 p8 p9 Sq (by kernel_rfl)
theorem said : Rows.MarkBackSaid :=
  OpenClaim.holds_of_cond 7 Tryz.f7 rfl rfl rfl rfl rfl rfl rfl ⟨rfl, rfl, rfl, rfl, rfl⟩ rfl rfl rfl rfl rfl (by kernel_rfl) Tryz.func7 closed
    (of_decide_eq_true (by kernel_rfl)) (by unfold Func.isWrapper; first | (rw [if_pos (by decide +kernel)]; kernel_rfl) | (rw [if_neg (by decide +kernel)]; exact ⟨rfl, rfl⟩))
    (fun os started H enc _ F => by rw [OpenClaim.pre_eq_preRow]; exact lifted os started H enc F)
theorem plain (f : FuncId) (fn : Func) (hf : Tryz.pinned.checked.prog.funcNamed "tidewaiter/tidewaiterlaw12.MarkBack" = some f) (hfn : Tryz.pinned.checked.prog.funcs[f]? = some fn) :
    true = Tryz.pinned.checked.prog.looks [] ∧ ∀ (j : Nat) t, fn.params[j]? = some t → Tryz.pinned.checked.prog.wantsStandIn t = false := by
  obtain rfl : f = 7 := Option.some.inj ((show Tryz.prog.funcNamed "tidewaiter/tidewaiterlaw12.MarkBack" = some 7 by kernel_rfl).symm.trans hf) |>.symm
  obtain rfl : fn = Tryz.f7 := (Option.some.inj (Tryz.func7.symm.trans hfn)).symm
  refine ⟨by kernel_rfl, fun j t ht => ?_⟩
  rw [Tryz.params7] at ht
  have hm := Array.mem_of_getElem? ht
  simp only [List.mem_toArray,List.mem_cons,List.not_mem_nil,or_false] at hm
  subst hm
  exact (show Tryz.prog.wantsStandIn 22 = false by kernel_rfl)
theorem card : Rows.MarkBackCardSaid :=
  Claim7.holds_tied_plain_at .later [] _ _ _ _ said (fun _ h => by cases h) (by kernel_rfl) (fun _ h => by cases h) markBack_row_tie rfl ⟨rfl, rfl⟩ (by kernel_rfl) rfl plain (by kernel_rfl)
#print axioms card
end Go.Proofs.YtlnlopnpcmahgaaGreatDoor.markBack
