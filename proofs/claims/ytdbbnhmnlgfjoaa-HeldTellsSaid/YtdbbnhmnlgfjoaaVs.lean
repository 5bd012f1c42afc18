/-
  The machine of plain values: a function's contract is what is shown of its code. No program in sight.
-/
import Derived.Test.YtdbbnhmnlgfjoaaVr
namespace Go.Proofs.Ytdbbnhmnlgfjoaa.Vm
set_option linter.unusedSimpArgs false
set_option linter.unusedVariables false
open Go Go.RowKit

/-- What is to be shown where a function ends, names for empty slices given. -/
def FinG (cx : Cx) (N : Nat) (rs : List ResultVar) (nm : Nat) (M0 : Mem) (v : V) (eff : List (Nat × Option Blk)) (b0 n : Nat) (e : Env) (M : Mem) : Prop := ∃ gs, Fin cx N rs nm M0 v eff b0 e (M.ghosts n gs)
/-- Where a function ends. -/
def atEnd (cx : Cx) (fn : Func) (nm : Nat) (M : Mem) (v : V) (eff : List (Nat × Option Blk)) (b0 : Nat) : Ex → Nat → Env → Mem → Prop
  | .exit _, _, _, _ => False
  | _, n, e, M' => FinG cx fn.ntmps fn.results.toList nm M v eff b0 n e M'
theorem ev_of_vc {cx : Cx} {f : FuncId} {nm : Nat} {args : List V} {M : Mem} {v : V} {eff : List (Nat × Option Blk)} {fn : Func} {c : Code}
    (hcall : ∀ cargs w, (callFunc f cargs).run cx.P w = .ok (.enter f cargs) w) (hf : cx.P.funcs[f]? = some fn) (hb : fn.body = some c) (hm : cx.P.follows .mixedOrders = true) (hin : codeIn fn.ntmps c = true) (hargs : args.length ≤ fn.ntmps)
    (hvc : ∀ b0, (∀ x, b0 ≤ x → M x = none) → vc cx c (atEnd cx fn nm M v eff b0) b0 (argsE args) M) : Ev cx f nm args M v eff := by
  refine ⟨hcall, ?_⟩
  intro X w ρ cargs B hrel hfr hB hlen his
  have hstart : Lies cx fn.ntmps X w (Blocks ρ M) ρ B B (argsE args) M ρ { tmps := cargs ++ Array.replicate (fn.ntmps - cargs.size) undef, defers := [] } w := by
    refine ⟨hrel, ⟨by simp; omega, rfl, fun t ht => ?_⟩, hB, fun _ _ h => h, Nat.le_refl _, fun _ _ => rfl⟩
    simp only [argsE, Array.getD_eq_getD_getElem?]
    by_cases hlt : t < args.length
    · rw [Array.getElem?_append_left (by omega), List.getElem?_eq_getElem hlt, Array.getElem?_eq_getElem (show t < cargs.size by omega)]
      exact his t _ _ (List.getElem?_eq_getElem hlt) (Array.getElem?_eq_getElem (by omega))
    · rw [List.getElem?_eq_none (by omega)]
      exact .any _
  refine calls_of_wp hf hb (wp_mono (vc_sound hm c _ B (argsE args) M ρ _ w hin hstart (hvc B (fun x hx => (hB x hx).1))) ?_)
  rintro x a w' ⟨n, e, M', ρ', h', hq⟩
  have done : FinG cx fn.ntmps fn.results.toList nm M v eff B n e M' → a.defers = [] ∧ ∃ cv, (results fn a.tmps).run cx.P w' = .ok cv w' ∧ ∃ cv', Ending.returned cv = .returned cv' ∧ StepsN cx.G X w (Blocks ρ M) ρ M w nm v (M.app eff) cv' w' := fun ⟨gs, hfin⟩ => by
    have h' := h'.ghosts gs
    obtain ⟨cv, h1, h2⟩ := res_sound h'.rel h'.env fn hfin.1
    exact ⟨h'.env.defers, cv, h1, cv, rfl, fin_sound hrel hfr hB h' hfin h2⟩
  cases x <;> simp only [atEnd] at hq <;> try (exact hq.elim)
  case normal => exact done hq
  case ret => exact done hq

/-- A function that hands back a plain value, and nothing else. -/
theorem Fin.pure {cx : Cx} {N : Nat} {rs : List ResultVar} {nm : Nat} {v : V} {b0 n : Nat} {e : Env} {M : Mem} (h1 : resOk cx.P N rs e M) (h2 : (resV cx.P rs e M).finOk [] M) (h3 : ((resV cx.P rs e M).fin [] M).le v) : FinG cx N rs nm Mem.nil v [] b0 n e M :=
  ⟨[], h1, [], h2, h3, rfl, List.nodup_nil, List.nodup_nil, (fun p hp => by cases hp), (fun x hx => by simp [Mem.nil] at hx)⟩
end Go.Proofs.Ytdbbnhmnlgfjoaa.Vm
