/-
  The machine of plain values: stores, new variables, struct and slice literals. No program in sight.
-/
import Derived.Test.YtdbbnhmnlgfjoaaVc
namespace Go.Proofs.Ytdbbnhmnlgfjoaa.Vm
set_option linter.unusedSimpArgs false
set_option linter.unusedVariables false
open Go Go.RowKit

def rowsOf (M : Mem) (nm : Nat) : List (List V) := match M nm with | some k => k.rows | none => []
theorem rowOf_eq (M : Mem) (nm i : Nat) : rowOf M nm i = ((rowsOf M nm)[i]?).getD [] := by
  unfold rowOf rowsOf; cases M nm <;> rfl
/-- A row with cells set from a place on. -/
def spliceL {α : Type} (row : List α) (j : Nat) (cs : List α) : List α := row.take j ++ cs ++ row.drop (j + cs.length)
theorem spliceL_length {α : Type} {row : List α} {j : Nat} {cs : List α} (h : j + cs.length ≤ row.length) : (spliceL row j cs).length = row.length := by
  unfold spliceL; simp; omega
theorem spliceL_get {α : Type} {row : List α} {j : Nat} {cs : List α} (h : j + cs.length ≤ row.length) (q : Nat) :
    (spliceL row j cs)[q]? = if q < j then row[q]? else if q < j + cs.length then cs[q - j]? else row[q]? := by
  unfold spliceL
  have hl : (row.take j).length = j := by simp; omega
  by_cases h1 : q < j
  · rw [if_pos h1, List.append_assoc, List.getElem?_append_left (by omega), List.getElem?_take_of_lt h1]
  · rw [if_neg h1]
    by_cases h2 : q < j + cs.length
    · rw [if_pos h2, List.append_assoc, List.getElem?_append_right (by omega), List.getElem?_append_left (by omega), hl]
    · rw [if_neg h2, List.getElem?_append_right (by simp; omega), List.getElem?_drop]
      congr 1
      simp; omega
def setRowV (row : List V) (j : Nat) (v : V) : List V := match v with
  | .agg cs => spliceL row j cs
  | v => row.set j v
theorem setRowV_eq {row : List V} {j : Nat} {v : V} (h : j + v.cellsV.length ≤ row.length) : setRowV row j v = spliceL row j v.cellsV := by
  unfold setRowV
  split
  · rfl
  · have hv : v.cellsV = [v] := by
      cases v <;> simp_all [V.cellsV]
    rw [hv] at h ⊢
    unfold spliceL
    simp only [List.length_singleton] at h ⊢
    rw [List.set_eq_take_append_cons_drop, if_pos (by omega)]
    simp

section
variable {P : Program} {G : Nat → V} {X : Nat → Prop} {w0 : World} {I : Nat → Prop} {ρ : Names} {M : Mem} {w : World} {D : Nat → Prop}

def storeM (M : Mem) (x v : V) : Mem := match x with
  | .ptr nm i j => M.put nm ((M nm).map fun k => ⟨k.sz, k.rows.set i (setRowV (rowOf M nm i) j v)⟩)
  | _ => M
def storeOk (P : Program) (t : TypeId) (M : Mem) (x v : V) : Prop := match x with
  | .ptr nm i j => match ty P t with
    | some (s, _) => 0 < s ∧ v.cellsV.length = s ∧ v.cellsV.all V.one = true ∧ j + s ≤ (rowOf M nm i).length
    | none => False
  | _ => False
theorem store_sound (h : Rel G X w0 I ρ M w) {t : TypeId} {x v : V} {cx cv : Value} (hx : Is ρ (Dom X ρ M) w x cx) (hv : Is ρ (Dom X ρ M) w v cv) (hok : storeOk P t M x v) :
    ∃ w', (Instr.storeAt t cx cv).run P w = .ok () w' ∧ Rel G X w0 I ρ (storeM M x v) w' ∧ Moves ρ M w ρ (storeM M x v) w' := by
  unfold storeOk at hok
  split at hok
  · rename_i nm i j
    split at hok
    · rename_i s g ht
      obtain ⟨hs, hlen, hone, hj⟩ := hok
      obtain ⟨hsz, _, _⟩ := ty_spec ht w
      obtain ⟨hc1, hc2, hc3⟩ := hv.cells hone
      cases hx with
      | ptr hl =>
      rename_i l
      cases hM : M nm with
      | none => rw [rowOf, hM] at hj; simp at hj; omega
      | some k =>
        have hrow : rowOf M nm i = (k.rows[i]?).getD [] := by rw [rowOf, hM]
        cases hr : k.rows[i]? with
        | none => rw [hrow, hr] at hj; simp at hj; omega
        | some row =>
          rw [hr] at hrow
          simp only [Option.getD_some] at hrow
          rw [hrow] at hj
          have hi : i < k.rows.length := (List.getElem?_eq_some_iff.1 hr).1
          rcases h.live nm k hM with ⟨h1, _⟩ | ⟨l', h1, _, _, cs, e, h2, h3, h4, h5, h6, h7⟩
          · rw [h1] at hr; simp at hr
          rw [hl] at h1; cases h1
          have hrl := h6 i row hr
          have hend : l.o + i * l.sz + j + cv.cells.size ≤ cs.size := by
            have : (i + 1) * l.sz ≤ l.tot * l.sz := Nat.mul_le_mul_right _ (by omega)
            rw [Nat.succ_mul] at this
            omega
          have hrun := run_storeCells_at (P := P) l.b (l.o + i * l.sz + j) e cv.cells.toList 0 cs w h2 (by simpa using hend) hc2
          have hst : storeM M (.ptr nm i j) v = M.put nm (some ⟨k.sz, k.rows.set i (setRowV row j v)⟩) := by
            simp only [storeM, hM, Option.map_some, hrow]
          rw [hst]
          refine ⟨w.setRow l.b (cs.toList.take (l.o + i * l.sz + j + 0) ++ cv.cells.toList ++ cs.toList.drop (l.o + i * l.sz + j + 0 + cv.cells.toList.length)).toArray, ?_, ?_⟩
          · simp only [Instr.storeAt, Instr.sureAddr, Sem.run_bind, Sem.run_pure, Result.andThen_ok, storeVar, hsz]
            rw [if_neg (by rw [hc1, hlen]; simp)]
            exact hrun
          · have hsp := setRowV_eq (row := row) (j := j) (v := v) (by omega)
            refine Rel.write h hM hl (by simp) rfl rfl rfl (fun b hb => setRow_other _ _ _ _ hb) (setRow_heap w l.b cs _ e _ h2) h3 (by simp; exact h4) ?_ ?_ ?_
            · simp only [List.size_toArray, Nat.add_zero, List.length_append, List.length_take, List.length_drop, Array.length_toList]; omega
            · intro i' row' hi'
              rw [List.getElem?_set] at hi'
              by_cases he : i = i'
              · subst he
                rw [if_pos rfl, if_pos hi] at hi'
                cases hi'
                rw [hsp, spliceL_length (by omega)]; exact hrl
              · rw [if_neg he] at hi'
                exact h6 i' row' hi'
            · intro i' j' row' u hi' hj'
              have hget : ∀ q, (cs.toList.take (l.o + i * l.sz + j + 0) ++ cv.cells.toList ++ cs.toList.drop (l.o + i * l.sz + j + 0 + cv.cells.toList.length)).toArray[q]? = if q < l.o + i * l.sz + j then cs[q]? else if q < l.o + i * l.sz + j + cv.cells.size then cv.cells[q - (l.o + i * l.sz + j)]? else cs[q]? := by
                intro q
                have := spliceL_get (row := cs.toList) (j := l.o + i * l.sz + j) (cs := cv.cells.toList) (by simpa using hend) q
                simpa [spliceL] using this
              rw [hget]
              rw [List.getElem?_set] at hi'
              by_cases he : i = i'
              · subst he
                rw [if_pos rfl, if_pos hi] at hi'
                cases hi'
                rw [hsp, spliceL_get (by omega)] at hj'
                by_cases q1 : j' < j
                · rw [if_pos q1] at hj'
                  rw [if_pos (by omega)]
                  exact h7 i j' row u hr hj'
                · rw [if_neg q1] at hj'
                  rw [if_neg (by omega)]
                  by_cases q2 : j' < j + v.cellsV.length
                  · rw [if_pos q2] at hj'
                    rw [if_pos (by omega)]
                    obtain ⟨c, c1, c2⟩ := hc3 _ u hj'
                    refine ⟨c, ?_, c2⟩
                    rw [← c1]; congr 1; omega
                  · rw [if_neg q2] at hj'
                    rw [if_neg (by omega)]
                    exact h7 i j' row u hr hj'
              · rw [if_neg he] at hi'
                have hj'' : j' < l.sz := by
                  have := (List.getElem?_eq_some_iff.1 hj').1
                  rw [h6 i' row' hi'] at this; exact this
                have hold := h7 i' j' row' u hi' hj'
                rcases Nat.lt_or_gt_of_ne he with hlt | hgt
                · have : (i + 1) * l.sz ≤ i' * l.sz := Nat.mul_le_mul_right _ hlt
                  rw [Nat.succ_mul] at this
                  rw [if_neg (by omega), if_neg (by omega)]; exact hold
                · have : (i' + 1) * l.sz ≤ i * l.sz := Nat.mul_le_mul_right _ hgt
                  rw [Nat.succ_mul] at this
                  rw [if_pos (by omega)]; exact hold
    · exact hok.elim
  · exact hok.elim

/-! ### new variables -/
def zeroL (P : Program) (t : TypeId) : Option (List V) := match P.info? t with
  | some i => i.zero.map fun z => z.cells.toList.map ofV1
  | none => none
def boxK (cells : List V) : Blk := ⟨cells.length, [cells]⟩
/-- What a step leaves: a value, the memory, and no names touched but those from nm on. -/
def Steps1 (G : Nat → V) (X : Nat → Prop) (w0 : World) (I : Nat → Prop) (ρ : Names) (M : Mem) (w : World) (nm : Nat) (v : V) (M' : Mem) (cv : Value) (w' : World) : Prop :=
  ∃ ρ', Rel G X w0 I ρ' M' w' ∧ Moves ρ M w ρ' M' w' ∧ Is ρ' (Dom X ρ' M') w' v cv ∧ ∀ x, x ≠ nm → ρ' x = ρ x
theorem Steps1.still {nm : Nat} {v : V} {cv : Value} (h : Rel G X w0 I ρ M w) (hv : Is ρ (Dom X ρ M) w v cv) : Steps1 G X w0 I ρ M w nm v M cv w :=
  ⟨ρ, h, .refl _ _ _, hv, fun _ _ => rfl⟩
theorem newBox_sound (h : Rel G X w0 I ρ M w) {nm : Nat} (hM : M nm = none) (hρ : ρ nm = none) (t : TypeId) {cells : List V} {cv : Value} (hn : cv.cells.size = cells.length)
    (hu : ∀ (j : Nat) (u : V), cells[j]? = some u → ∃ c, cv.cells[j]? = some c ∧ Is ρ (Dom X ρ M) w u c) :
    ∃ c w', (newVar t cv).run P w = .ok c w' ∧ Steps1 G X w0 I ρ M w nm (.ptr nm 0 0) (M.put nm (some (boxK cells))) (.pointer (some c)) w' := by
  obtain ⟨h1, h2⟩ := h.alloc hM hρ cv.cells t (boxK cells) 1 (by simp [boxK]) (by simp [boxK, hn]) (fun i row hi => by
    cases i with
    | zero => simp [boxK] at hi; subst hi; rfl
    | succ i => simp [boxK] at hi) (fun i j row u hi hj => by
    cases i with
    | zero =>
      simp [boxK] at hi; subst hi
      obtain ⟨c, c1, c2⟩ := hu j u hj
      exact ⟨c, by simpa [boxK] using c1, c2⟩
    | succ i => simp [boxK] at hi)
  refine ⟨⟨w.heap.size, 0, none⟩, w.alloc (.cells cv.cells t), rfl, ρ.put nm ⟨w.heap.size, 0, cells.length, 1⟩, h1, h2, ?_, fun x hx => Names.put_ne _ _ hx⟩
  have := Is.ptr (ρ := ρ.put nm ⟨w.heap.size, 0, cells.length, 1⟩) (D := Dom X (ρ.put nm ⟨w.heap.size, 0, cells.length, 1⟩) (M.put nm (some (boxK cells)))) (w := w.alloc (.cells cv.cells t)) (nm := nm) (i := 0) (j := 0) (l := ⟨w.heap.size, 0, cells.length, 1⟩) (Names.put_same _ _ _)
  simpa using this
theorem box_sound (h : Rel G X w0 I ρ M w) {nm : Nat} (hM : M nm = none) (hρ : ρ nm = none) (t : TypeId) {v : V} {cv : Value} (hv : Is ρ (Dom X ρ M) w v cv) (hone : v.cellsV.all V.one = true) :
    ∃ c w', (Instr.box t cv).run P w = .ok c w' ∧ Steps1 G X w0 I ρ M w nm (.ptr nm 0 0) (M.put nm (some (boxK v.cellsV))) c w' := by
  obtain ⟨h1, _, h3⟩ := hv.cells hone
  obtain ⟨c, w', hr, hs⟩ := newBox_sound (P := P) h hM hρ t h1 h3
  exact ⟨.pointer (some c), w', by simp [Instr.box, hr], hs⟩
theorem zero_cells {t : TypeId} {cells : List V} (hz : zeroL P t = some cells) (w : World) : ∃ z, (zeroValue t).run P w = .ok z w ∧ z.cells.size = cells.length ∧
    ∀ (ρ : Names) (D : Nat → Prop) (w : World) (j : Nat) (u : V), cells[j]? = some u → ∃ c, z.cells[j]? = some c ∧ Is ρ D w u c := by
  unfold zeroL at hz
  split at hz
  · rename_i i hi
    obtain ⟨z, h1, rfl⟩ := Option.map_eq_some_iff.1 hz
    refine ⟨z, by simp [zeroValue, typeInfo, hi, h1], by simp, ?_⟩
    intro ρ D w j u hj
    rw [List.getElem?_map] at hj
    obtain ⟨c, h2, rfl⟩ := Option.map_eq_some_iff.1 hj
    exact ⟨c, by simpa using h2, is_ofV1 _ _ _ _⟩
  · cases hz
theorem alloc_sound (h : Rel G X w0 I ρ M w) {nm : Nat} (hM : M nm = none) (hρ : ρ nm = none) (t : TypeId) {cells : List V} (hz : zeroL P t = some cells) :
    ∃ c w', (Instr.alloc t true (.tuple #[])).run P w = .ok c w' ∧ Steps1 G X w0 I ρ M w nm (.ptr nm 0 0) (M.put nm (some (boxK cells))) c w' := by
  obtain ⟨z, h1, h2, h3⟩ := zero_cells hz w
  obtain ⟨c, w', hr, hs⟩ := newBox_sound (P := P) h hM hρ t h2 (h3 _ _ _)
  exact ⟨.pointer (some c), w', by simp [Instr.alloc, h1, hr], hs⟩
end
end Go.Proofs.Ytdbbnhmnlgfjoaa.Vm
