/-
  The machine of plain values: what operations make of them, and that the model does the same: operands, loads, stores, new blocks. No program in sight.
-/
import Derived.Test.YtdbbnhmnlgfjoaaVb
import Derived.Laws.Tables
import Derived.Laws.Cells
namespace Go.Proofs.Ytdbbnhmnlgfjoaa.Vm
set_option linter.unusedSimpArgs false
set_option linter.unusedVariables false
open Go Go.RowKit

/-- A constant, as a plain value. -/
def ofV1 : Value → V
  | .bool b => .bool b
  | .int k n => .int k n
  | .string s => .str s.data.toList
  | .pointer none => .nilp
  | .slice none 0 0 => .nils
  | v => .val v
def ofV : Value → V
  | .agg cs => .agg (cs.toList.map ofV1)
  | v => ofV1 v
theorem is_ofV1 (ρ : Names) (D : Nat → Prop) (w : World) (v : Value) : Is ρ D w (ofV1 v) v := by
  unfold ofV1
  split
  · exact .bool _
  · exact .int _ _
  · rename_i s
    have h : (⟨s.data.toList.toArray⟩ : ByteArray) = s := by cases s; rfl
    have := Is.str (ρ := ρ) (D := D) (w := w) s.data.toList
    rwa [h] at this
  · exact .nilp
  · exact .nils
  · exact .val _
theorem is_ofV (ρ : Names) (D : Nat → Prop) (w : World) (v : Value) : Is ρ D w (ofV v) v := by
  unfold ofV
  split
  · rename_i cs
    refine .agg (by simp) (fun i u cv h1 h2 => ?_)
    rw [List.getElem?_map] at h1
    obtain ⟨x, h3, rfl⟩ := Option.map_eq_some_iff.1 h1
    rw [Array.getElem?_toList] at h3
    rw [h3] at h2; cases h2
    exact is_ofV1 _ _ _ _
  · exact is_ofV1 _ _ _ _

/-- A guard's value looked behind, where the guard says yes. -/
def V.strip (c : Bool) : V → V
  | .gd b v => if b || !c then v else .gd b v
  | v => v
theorem Is.strip {ρ : Names} {D : Nat → Prop} {w : World} {c : Bool} (hc : c = true) {v : V} {cv : Value} (h : Is ρ D w v cv) : Is ρ D w (v.strip c) cv := by
  subst hc
  unfold V.strip
  split
  · rename_i b v
    split
    · rename_i hb
      cases h with
      | gd h => exact h (by simpa using hb)
    · exact h
  · exact h
abbrev Env := Nat → V
def Env.put (e : Env) (t : Nat) (v : V) : Env := fun x => if x = t then v else e x
def Env.putD (e : Env) (d : Option Nat) (v : V) : Env := match d with | some t => e.put t v | none => e
/-- An operand's value; c: the guard under which it is asked. -/
def evalV (G : Nat → V) (c : Bool) (e : Env) : Operand → V
  | .tmp t => (e t).strip c
  | .const v => ofV v
  | .global g => G g
  | .func f => .fn f []
/-- How the machine's temporaries lie in the frame. -/
structure EnvAt (ρ : Names) (D : Nat → Prop) (w : World) (N : Nat) (e : Env) (a : Act) : Prop where
  size : a.tmps.size = N
  defers : a.defers = []
  is : ∀ t, t < N → Is ρ D w (e t) (a.tmps.getD t undef)
/-- Does an operand lie within the frame? -/
def inN (N : Nat) : Operand → Prop
  | .tmp t => t < N
  | _ => True
theorem EnvAt.eval {G : Nat → V} {X : Nat → Prop} {w0 : World} {I : Nat → Prop} {ρ : Names} {M : Mem} {w : World} (h : Rel G X w0 I ρ M w) {N : Nat} {e : Env} {a : Act} (he : EnvAt ρ (Dom X ρ M) w N e a)
    {c : Bool} (hc : c = true) {x : Operand} (hx : inN N x) : Is ρ (Dom X ρ M) w (evalV G c e x) (a.eval x) := by
  cases x with
  | tmp t => exact (he.is t hx).strip hc
  | const v => exact is_ofV _ _ _ _
  | global g => exact h.glob g
  | func f => exact .fn rfl (fun i u cv h1 _ => by simp at h1)

/-- Size, and is it a struct or an array. -/
def ty (P : Program) (t : TypeId) : Option (Nat × Bool) :=
  match P.info? t, P.underlying t with
  | some i, some d => some (i.size, match d with | .struct _ | .array _ _ => true | _ => false)
  | _, _ => none
section
variable {P : Program} {G : Nat → V} {X : Nat → Prop} {w0 : World} {I : Nat → Prop} {ρ : Names} {M : Mem} {w : World} {D : Nat → Prop}
theorem ty_spec {t s : Nat} {g : Bool} (h : ty P t = some (s, g)) (w : World) : (sizeOf t).run P w = .ok s w ∧ (isAgg t).run P w = .ok g w ∧ (P.info? t).map (·.size) = some s := by
  unfold ty at h
  split at h
  · rename_i i d hi hd
    simp only [Option.some.injEq, Prod.mk.injEq] at h
    obtain ⟨h1, h2⟩ := h
    subst h1
    refine ⟨by simp [sizeOf, typeInfo, hi], ?_, by simp [hi]⟩
    unfold isAgg
    rw [Sem.run_bind, run_underlying hd w]
    cases d <;> simp_all
  · cases h

def V.one : V → Bool
  | .any | .agg _ | .tup _ | .gd _ _ => false
  | .val v => v.oneCell'
  | _ => true
def V.cellsV : V → List V
  | .agg cs => cs
  | v => [v]
theorem Is.one {v : V} {cv : Value} (h : Is ρ D w v cv) (ho : v.one = true) : cv.oneCell' = true ∧ cv.cells = #[cv] := by
  cases h <;> simp_all [V.one, Value.oneCell', Value.cells] <;> (try (split at ho <;> simp_all))
/-- A value of known cells, each of one cell. -/
theorem Is.cells {v : V} {cv : Value} (h : Is ρ D w v cv) (ho : (v.cellsV.all V.one) = true) : cv.cells.size = v.cellsV.length ∧ (∀ x ∈ cv.cells.toList, x.oneCell' = true) ∧ ∀ (j : Nat) (u : V), v.cellsV[j]? = some u → ∃ c, cv.cells[j]? = some c ∧ Is ρ D w u c := by
  by_cases ha : ∃ cs, v = .agg cs
  · obtain ⟨cs, rfl⟩ := ha
    cases h with
    | agg hn hu =>
      rename_i cvs
      refine ⟨hn.symm, ?_, ?_⟩
      · intro x hx
        obtain ⟨i, hi, rfl⟩ := List.getElem_of_mem hx
        have hi2 : i < cs.length := by simp [Value.cells] at hi; omega
        have h1 := hu i cs[i] _ (List.getElem?_eq_getElem hi2) (Array.getElem?_eq_getElem (by simpa [Value.cells] using hi))
        have h2 : cs[i].one = true := by
          simp only [V.cellsV, List.all_eq_true] at ho
          exact ho _ (List.getElem_mem hi2)
        exact (h1.one h2).1
      · intro j u hj
        have hj2 : j < cvs.size := by rw [← hn]; exact (List.getElem?_eq_some_iff.1 hj).1
        exact ⟨cvs[j], Array.getElem?_eq_getElem hj2, hu j u _ hj (Array.getElem?_eq_getElem hj2)⟩
  · have hv : v.cellsV = [v] := by
      cases v <;> simp_all [V.cellsV]
    rw [hv] at ho ⊢
    simp only [List.all_cons, List.all_nil, Bool.and_true] at ho
    obtain ⟨h1, h2⟩ := h.one ho
    rw [h2]
    refine ⟨rfl, by simpa using h1, ?_⟩
    intro j u hj
    cases j with
    | zero => simp at hj; subst hj; exact ⟨cv, rfl, h⟩
    | succ j => simp at hj

/-! ### loads -/
def rowOf (M : Mem) (nm i : Nat) : List V := match M nm with | some k => (k.rows[i]?).getD [] | none => []
/-- The cells at which a value points. -/
def target (M : Mem) : V → List V
  | .ptr nm i j => (rowOf M nm i).drop j
  | .rp cells => cells
  | _ => []
def V.isPtr : V → Bool
  | .ptr _ _ _ | .rp _ => true
  | _ => false
theorem Rel.target (h : Rel G X w0 I ρ M w) {v : V} {cv : Value} (hv : Is ρ (Dom X ρ M) w v cv) (hp : v.isPtr = true) : ∃ b o, cv = .pointer (some ⟨b, o, none⟩) ∧
    ∀ (j : Nat) (u : V), (target M v)[j]? = some u → ∃ c, w.cell? ⟨b, o + j, none⟩ = some c ∧ Is ρ (Dom X ρ M) w u c := by
  cases hv <;> try (simp [V.isPtr] at hp; done)
  case ptr nm i j l hl =>
    refine ⟨l.b, l.o + i * l.sz + j, rfl, ?_⟩
    intro j' u hu
    simp only [Vm.target, List.getElem?_drop, rowOf] at hu
    cases hM : M nm with
    | none => simp [hM] at hu
    | some k =>
      simp only [hM] at hu
      cases hr : k.rows[i]? with
      | none => simp [hr] at hu
      | some row =>
        simp only [hr, Option.getD_some] at hu
        rcases h.live nm k hM with ⟨h1, _⟩ | ⟨l', h1, _, _, cs, e, h2, _, _, _, _, h3⟩
        · rw [h1] at hr; simp at hr
        · rw [hl] at h1; cases h1
          obtain ⟨c, h4, h5⟩ := h3 i (j + j') row u hr hu
          refine ⟨c, ?_, h5⟩
          rw [cell_of_row w l.b _ cs e _ h2, Nat.add_assoc]; exact h4
  case rp cells b o cvf hD hb hc hu =>
    exact ⟨b, o, rfl, fun j u hj => ⟨cvf j, hc j u hj, hu j u hj⟩⟩

def loadV (P : Program) (t : TypeId) (M : Mem) (x : V) : V :=
  match ty P t with
  | some (s, true) => .agg ((target M x).take s)
  | _ => ((target M x)[0]?).getD .any
def loadOk (P : Program) (t : TypeId) (M : Mem) (x : V) : Prop :=
  x.isPtr = true ∧ match ty P t with
  | some (s, true) => s ≤ (target M x).length
  | some (_, false) => 0 < (target M x).length
  | none => False
theorem load_sound (h : Rel G X w0 I ρ M w) {t : TypeId} {x : V} {cv : Value} (hx : Is ρ (Dom X ρ M) w x cv) (hok : loadOk P t M x) :
    ∃ c, (Instr.loadAt t cv).run P w = .ok c w ∧ Is ρ (Dom X ρ M) w (loadV P t M x) c := by
  obtain ⟨hp, hok⟩ := hok
  obtain ⟨b, o, rfl, hc⟩ := h.target hx hp
  unfold loadV
  split at hok
  · rename_i s ht
    obtain ⟨h1, h2, _⟩ := ty_spec ht w
    rw [ht]
    have hall : ∀ j, j < s → ∃ c, w.cell? ⟨b, o + j, none⟩ = some c := fun j hj => by
      obtain ⟨c, hc1, _⟩ := hc j _ (List.getElem?_eq_getElem (by omega))
      exact ⟨c, hc1⟩
    have hl := run_loadCells (P := P) w ⟨b, o, none⟩ s (fun j => (w.cell? ⟨b, o + j, none⟩).getD undef) (fun j hj => by
      obtain ⟨c, hc1⟩ := hall j hj
      rw [Addr.add_mid, hc1]; rfl)
    refine ⟨_, by simp only [Instr.loadAt, Instr.sureAddr, Sem.run_bind, Sem.run_pure, Result.andThen_ok, loadVar, h2, if_true, h1, hl]; rfl, ?_⟩
    refine .agg (by simp; omega) ?_
    intro i u c hi hc2
    rw [List.getElem?_take] at hi
    split at hi
    · rename_i his
      obtain ⟨c', hc3, hc4⟩ := hc i u hi
      simp [his, hc3] at hc2
      subst hc2
      exact hc4
    · cases hi
  · rename_i s ht
    obtain ⟨h1, h2, _⟩ := ty_spec ht w
    rw [ht]
    obtain ⟨c, hc1, hc2⟩ := hc 0 _ (List.getElem?_eq_getElem hok)
    simp only [Nat.add_zero] at hc1
    refine ⟨c, by simp only [Instr.loadAt, Instr.sureAddr, Sem.run_bind, Sem.run_pure, Result.andThen_ok, loadVar, h2, Bool.false_eq_true, if_false, run_load, hc1], ?_⟩
    simpa [List.getElem?_eq_getElem hok] using hc2
  · exact hok.elim
end
end Go.Proofs.Ytdbbnhmnlgfjoaa.Vm
