/-
  MarkReads holds for every input.
-/
import Derived.Test.YtgboofebldgdjaaGreatDoorMo
import Derived.Test.YtgboofebldgdjaaGreatDoorQy
namespace Go.Proofs.YtgboofebldgdjaaGreatDoor.markReads
set_option linter.unusedSimpArgs false
set_option linter.unusedVariables false
open Go Go.ChangeShapes Go.WideShapes Go.ChangeAt Go.RowKit Go.Proofs.YtgboofebldgdjaaGreatDoor.Vm
set_option linter.unusedVariables false

theorem reads (os : Os) {H : Type} (enc : TypeId × Value → H) : ∃ places, DataW.whole enc Tryz.prog ((jg os).forCall (fun _ _ => 0) ⟨#[], #[.string ⟨#[]⟩], []⟩).memory Tryz.f3.params.toList Rows.markReadsSpec.vars false (#[.string ⟨#[]⟩] : Array Value).toList 8 = some ([.lit (.string [])], [], places) :=
  ⟨[], by kernel_rfl⟩
set_option maxRecDepth 100000 in
theorem lifted (os : Os) (started : os.Started) (H : Type) (enc : TypeId × Value → H) (F : Stop.Interp) :
    ReturnsInHanded {} Tryz.checked os 3 .any ((OpenSpec.ofChange Rows.markReadsSpec).preRow enc Tryz.prog Tryz.f3 Rows.markReadsRow.domain false Rows.markReadsRow.laid) (((OpenSpec.ofChange Rows.markReadsSpec).at F).post enc Tryz.prog Tryz.f3 false true false false) := by
  obtain ⟨places, hx⟩ := reads os enc
  exact rC (C := Tryz.checked) (cx := cx) rfl (fun W h g => OE W h g) own started (by kernel_rfl) Tryz.func3 (fun cargs w => Tryz.call3 cargs w) rfl (by kernel_rfl) (sW cx.P 1000 Tryz.f3.params.toList []) (by kernel_rfl) (by kernel_rfl) (by kernel_rfl)
    (tb := 4) rfl (by kernel_rfl) (fun H ds hn => by
      simp only [Tryz.params3,List.length_cons,List.length_nil] at hn
      match ds, hn with
      | [d0], _ => exact ⟨rfl, rfl, rfl⟩)
    F
    (witness_row_atRef (enc := enc) (C := Tryz.checked) false (jg os) #[.string ⟨#[]⟩] rfl (by kernel_rfl) (by kernel_rfl) (by kernel_rfl)
      (OpenSpec.preRow_of_cond 8 hx (by kernel_rfl) (fun k hk => by cases hk) (by kernel_rfl) (MR os _)))
    (fun xs has => wb xs has)
theorem p1 : laidOutB Tryz.pinned.checked.prog = true := by kernel_rfl
theorem p2 : mapsRowed Tryz.pinned.checked.prog = true := by kernel_rfl
theorem p3 : (Rows.markReadsRow.inPlace == Tryz.pinned.checked.prog.inPlace 3) = true := by kernel_rfl
theorem p4 : (Rows.markReadsRow.unfollowed == Tryz.pinned.checked.prog.unfollowed 3) = true := by kernel_rfl
theorem p5 : (Rows.markReadsRow.recurses == Tryz.pinned.checked.prog.recurses 3) = true := by kernel_rfl
theorem p6 : (Rows.markReadsRow.named == Tryz.pinned.checked.prog.varsNamed 3) = true := by kernel_rfl
theorem p7 : (Rows.markReadsRow.plainKeys == Tryz.pinned.checked.prog.plainKeys) = true := by kernel_rfl
theorem p8 : Tryz.pinned.checked.prog.stopsHeard = true := by kernel_rfl
theorem p9 : Tryz.pinned.checked.prog.mayEnter = true := by kernel_rfl
theorem p10 : (Rows.markReadsRow.lifted == Tryz.pinned.checked.prog.liftsFinal) = true := by kernel_rfl
theorem closed : joinedFacts Tryz.pinned.checked.prog 3 Tryz.f3 Rows.markReadsSpec Rows.markReadsRow = true := Vm.joined_of p1 p2 p3 p4 p5 p6 p7 p8 p9 p10 (by kernel_rfl)
theorem said : Rows.MarkReadsSaid :=
  OpenClaim.holds_of_cond 3 Tryz.f3 rfl rfl rfl rfl rfl rfl rfl ⟨rfl, rfl, rfl, rfl, rfl⟩ rfl rfl rfl rfl rfl (by kernel_rfl) Tryz.func3 closed
    (of_decide_eq_true (by kernel_rfl)) (by unfold Func.isWrapper; first | (rw [if_pos (by decide +kernel)]; kernel_rfl) | (rw [if_neg (by decide +kernel)]; exact ⟨rfl, rfl⟩))
    (fun os started H enc _ F => by rw [OpenClaim.pre_eq_preRow]; exact lifted os started H enc F)
theorem plain (f : FuncId) (fn : Func) (hf : Tryz.pinned.checked.prog.funcNamed "tidewaiter/tidewaiterlaw12.MarkReads" = some f) (hfn : Tryz.pinned.checked.prog.funcs[f]? = some fn) :
    true = Tryz.pinned.checked.prog.looks [] ∧ ∀ (j : Nat) t, fn.params[j]? = some t → Tryz.pinned.checked.prog.wantsStandIn t = false := by
  obtain rfl : f = 3 := Option.some.inj ((show Tryz.prog.funcNamed "tidewaiter/tidewaiterlaw12.MarkReads" = some 3 by kernel_rfl).symm.trans hf) |>.symm
  obtain rfl : fn = Tryz.f3 := (Option.some.inj (Tryz.func3.symm.trans hfn)).symm
  refine ⟨by kernel_rfl, fun j t ht => ?_⟩
  rw [Tryz.params3] at ht
  have hm := Array.mem_of_getElem? ht
  simp only [List.mem_toArray,List.mem_cons,List.not_mem_nil,or_false] at hm
  subst hm
  exact (show Tryz.prog.wantsStandIn 9 = false by kernel_rfl)
theorem card : Rows.MarkReadsCardSaid :=
  Claim7.holds_tied_plain_at .later [] _ _ _ _ said (fun _ h => by cases h) (by kernel_rfl) (fun _ h => by cases h) markReads_row_tie rfl ⟨rfl, rfl⟩ (by kernel_rfl) rfl plain (by kernel_rfl)
#print axioms card
end Go.Proofs.YtgboofebldgdjaaGreatDoor.markReads
