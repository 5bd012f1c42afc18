/-
  The machine of plain values: what can be handed in at a type, written out. No program in sight.
-/
import Derived.Test.YtdbbnhmnlgfjoaaRb
namespace Go.Proofs.Ytdbbnhmnlgfjoaa.Vm
set_option linter.unusedSimpArgs false
set_option linter.unusedVariables false
open Go Go.RowKit

inductive K where
  | bool
  | int (k : IntKind)
  | str
  | slice (e c b : Nat)
  | struct (l : List Nat)
  | ptr (e : Nat)
/-- The kind of a type, its parts' types, an element's cells and bytes. -/
def kindT (P : Program) (t : TypeId) : Option K := match P.underlying t with
  | some .bool => some .bool
  | some (.int k) => some (.int k)
  | some .string => some .str
  | some (.slice e) => some (.slice e (P.cellsOf e) (P.bytesOf e))
  | some (.struct fs) => some (.struct (fs.toList.map (·.type)))
  | some (.pointer e) => some (.ptr e)
  | _ => none
def ShapeT (S : TypeId → List V → Prop) : List TypeId → List V → Prop
  | [], vs => vs = []
  | t :: r, vs => ∃ a b, vs = a ++ b ∧ S t a ∧ ShapeT S r b
theorem shapeL_iff {S : TypeId → List V → Prop} : ∀ {fs : List Field} {vs : List V}, ShapeL S fs vs → ShapeT S (fs.map (·.type)) vs
  | [], _, h => h
  | _ :: _, _, ⟨a, b, h1, h2, h3⟩ => ⟨a, b, h1, h2, shapeL_iff h3⟩
section
variable {P : Program} {n : Nat} {t : TypeId} {vs : List V}
theorem shape_bool (k : kindT P t = some .bool) (h : Shape P n t vs) : ∃ b, vs = [.bool b] := by
  unfold kindT at k
  cases n with
  | zero => exact h.elim
  | succ n =>
    unfold Shape at h
    split at k <;> first | (cases k; done) | skip
    rename_i hu; rw [hu] at h; exact h
theorem wf_range {k : IntKind} {m : Int} (h : (Lit.int k m).wf = true) : k.min ≤ m ∧ m ≤ k.max := by
  simpa [Lit.wf] using h
theorem shape_int {k' : IntKind} (k : kindT P t = some (.int k')) (h : Shape P n t vs) : ∃ m, vs = [.int k' m] ∧ k'.min ≤ m ∧ m ≤ k'.max := by
  unfold kindT at k
  cases n with
  | zero => exact h.elim
  | succ n =>
    unfold Shape at h
    split at k <;> first | (cases k; done) | skip
    rename_i hu; cases k; rw [hu] at h
    obtain ⟨m, h1, h2⟩ := h
    exact ⟨m, h1, wf_range h2⟩
theorem shape_str (k : kindT P t = some .str) (h : Shape P n t vs) : ∃ s : List UInt8, vs = [.str s] ∧ s.length ≤ 140737488351232 := by
  unfold kindT at k
  cases n with
  | zero => exact h.elim
  | succ n =>
    unfold Shape at h
    split at k <;> first | (cases k; done) | skip
    rename_i hu; rw [hu] at h; exact h
theorem shape_slice {e c b : Nat} (k : kindT P t = some (.slice e c b)) (h : Shape P n t vs) : ∃ n' rows, vs = [.sl false c rows] ∧ rows.length ≤ maxLen ∧ rows.length * b ≤ 140737488351232 ∧ ∀ r ∈ rows, Shape P n' e r := by
  unfold kindT at k
  cases n with
  | zero => exact h.elim
  | succ n =>
    unfold Shape at h
    split at k <;> first | (cases k; done) | skip
    rename_i hu; cases k; rw [hu] at h; exact ⟨n, h⟩
theorem shape_struct {l : List Nat} (k : kindT P t = some (.struct l)) (h : Shape P n t vs) : ∃ n', ShapeT (Shape P n') l vs := by
  unfold kindT at k
  cases n with
  | zero => exact h.elim
  | succ n =>
    unfold Shape at h
    split at k <;> first | (cases k; done) | skip
    rename_i hu; cases k; rw [hu] at h; exact ⟨n, shapeL_iff h⟩
theorem shapeT_nil {S : TypeId → List V → Prop} (h : ShapeT S [] vs) : vs = [] := h
theorem shapeT_cons {S : TypeId → List V → Prop} {r : List TypeId} (h : ShapeT S (t :: r) vs) : ∃ a b, vs = a ++ b ∧ S t a ∧ ShapeT S r b := h
/-- Of rows that all are a thing's cells, the list of these things. -/
theorem rows_map {α : Type} (f : α → List V) (p : α → Prop) : ∀ {rows : List (List V)}, (∀ r ∈ rows, ∃ a, r = f a ∧ p a) → ∃ l : List α, rows = l.map f ∧ ∀ a ∈ l, p a
  | [], _ => ⟨[], rfl, fun a h => by cases h⟩
  | r :: rows, h => by
    obtain ⟨a, h1, h2⟩ := h r (by simp)
    obtain ⟨l, h3, h4⟩ := rows_map (rows := rows) f p (fun r hr => h r (by simp [hr]))
    refine ⟨a :: l, by simp [h1, h3], fun b hb => ?_⟩
    rcases List.mem_cons.1 hb with rfl | hb
    · exact h2
    · exact h4 b hb
end
section
variable {P : Program} {t : TypeId}
theorem args_nil {as : List V} (h : ShapeArgs P [] as) : as = [] := h
theorem args_cons {ts : List TypeId} {as : List V} (h : ShapeArgs P (t :: ts) as) : ∃ n vs r, as = argV P t vs :: r ∧ Shape P n t vs ∧ ShapeArgs P ts r := h
theorem argV_struct {l : List Nat} (k : kindT P t = some (.struct l)) (vs : List V) : argV P t vs = .agg vs := by
  unfold kindT at k
  unfold argV
  split at k <;> first | (cases k; done) | skip
  rename_i hu; rw [hu]
theorem argV_one {q : K} (k : kindT P t = some q) (hq : ∀ l, q ≠ .struct l) (v : V) : argV P t [v] = v := by
  unfold kindT at k
  unfold argV
  split at k <;> first | (cases k; done) | (rename_i hu; rw [hu]; rfl) | skip
  cases k
  exact absurd rfl (hq _)
end
/-- All types that these lead to. -/
def reachT (P : Program) : Nat → List TypeId → List TypeId → List TypeId
  | 0, _, acc => acc
  | _, [], acc => acc
  | n + 1, t :: r, acc => if acc.contains t then reachT P n r acc else match kindT P t with
    | some (.slice e _ _) => reachT P n (e :: r) (t :: acc)
    | some (.ptr e) => reachT P n (e :: r) (t :: acc)
    | some (.struct l) => reachT P n (l ++ r) (t :: acc)
    | _ => reachT P n r (t :: acc)
end Go.Proofs.Ytdbbnhmnlgfjoaa.Vm
