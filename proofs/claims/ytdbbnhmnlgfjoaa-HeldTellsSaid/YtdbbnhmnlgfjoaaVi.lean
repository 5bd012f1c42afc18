/-
  The machine of plain values: slice literals; append. No program in sight.
-/
import Derived.Test.YtdbbnhmnlgfjoaaVh
import Derived.Laws.Append
import Derived.Great.BuildSlice
namespace Go.Proofs.Ytdbbnhmnlgfjoaa.Vm
set_option linter.unusedSimpArgs false
set_option linter.unusedVariables false
open Go Go.RowKit

/-- Of a slice type: a zero element's cells, and the bytes of an element. -/
def elInfo (P : Program) (t : TypeId) : Option (List V × Nat) := match P.underlying t with
  | some (.slice e) => match P.info? e with
    | some i => match i.zero with
      | some z => if z.cells.size = i.size ∧ 0 < i.size then some (z.cells.toList.map ofV1, i.bytes) else none
      | none => none
    | none => none
  | _ => none
section
variable {P : Program} {G : Nat → V} {X : Nat → Prop} {w0 : World} {I : Nat → Prop} {ρ : Names} {M : Mem} {w : World} {D : Nat → Prop}
theorem elInfo_spec {t : TypeId} {zc : List V} {bytes : Nat} (h : elInfo P t = some (zc, bytes)) : ∃ e i z, P.underlying t = some (.slice e) ∧ P.info? e = some i ∧ i.zero = some z ∧ z.cells.size = i.size ∧ 0 < i.size ∧ zc = z.cells.toList.map ofV1 ∧ zc.length = i.size ∧ i.bytes = bytes := by
  unfold elInfo at h
  split at h <;> try (cases h; done)
  rename_i e hu
  split at h <;> try (cases h; done)
  rename_i i hi
  split at h <;> try (cases h; done)
  rename_i z hz
  split at h <;> try (cases h; done)
  rename_i hc
  simp only [Option.some.injEq, Prod.mk.injEq] at h
  obtain ⟨rfl, rfl⟩ := h
  exact ⟨e, i, z, hu, hi, hz, hc.1, hc.2, rfl, by simp [hc.1], rfl⟩

/-- Rows of s cells each that lie one behind the other. -/
def RowsAre (ρ : Names) (D : Nat → Prop) (w : World) (s : Nat) (rows : List (List V)) (cs : Array Value) : Prop :=
  rows.length * s ≤ cs.size ∧ (∀ (i : Nat) (row : List V), rows[i]? = some row → row.length = s) ∧ ∀ (i j : Nat) (row : List V) (u : V), rows[i]? = some row → row[j]? = some u → ∃ c, cs[i * s + j]? = some c ∧ Is ρ D w u c
theorem row_lt {s i j n : Nat} (hi : i < n) (hj : j < s) : i * s + j < n * s := by
  have : (i + 1) * s ≤ n * s := Nat.mul_le_mul_right _ hi
  rw [Nat.succ_mul] at this; omega
def fillR (rows : List (List V)) : List (Nat × V) → List (List V)
  | [] => rows
  | (i, v) :: r => fillR (rows.set i v.cellsV) r
def fillROk (s len : Nat) : List (Nat × V) → Prop
  | [] => True
  | (i, v) :: r => i < len ∧ v.cellsV.length = s ∧ v.cellsV.all V.one = true ∧ fillROk s len r
theorem fillR_length (rows : List (List V)) (parts : List (Nat × V)) : (fillR rows parts).length = rows.length := by
  induction parts generalizing rows with
  | nil => rfl
  | cons p r ih => obtain ⟨i, v⟩ := p; simp only [fillR]; rw [ih]; simp
theorem fillR_sound (s : Nat) : ∀ (parts : List (Nat × V)) (cparts : List (Nat × Value)) (rows : List (List V)) (cs : Array Value),
    RowsAre ρ D w s rows cs → parts.length = cparts.length → (∀ (j : Nat) (a : Nat × V) (b : Nat × Value), parts[j]? = some a → cparts[j]? = some b → a.1 = b.1 ∧ Is ρ D w a.2 b.2) → fillROk s rows.length parts →
    ∃ cs', Instr.fill (fun i => some (i * s, s)) cs cparts = some cs' ∧ cs'.size = cs.size ∧ RowsAre ρ D w s (fillR rows parts) cs'
  | [], [], rows, cs, h, _, _, _ => ⟨cs, rfl, rfl, h⟩
  | [], _ :: _, _, _, _, hl, _, _ => by simp at hl
  | _ :: _, [], _, _, _, hl, _, _ => by simp at hl
  | (i, v) :: r, (i', cv) :: cr, rows, cs, h, hl, hp, hok => by
    obtain ⟨e1, hv⟩ := hp 0 (i, v) (i', cv) rfl rfl
    simp only at e1 hv; subst e1
    simp only [fillROk] at hok
    obtain ⟨hi, hs, hone, hok2⟩ := hok
    obtain ⟨h1, _, h3⟩ := hv.cells hone
    obtain ⟨g1, g2⟩ := Great.foldl_set (i * s) cv.cells.toList 0 cs
    have e : cv.cells.zipIdx.foldl (fun cs (x : Value × Nat) => cs.setIfInBounds (i * s + x.2) x.1) cs = (cv.cells.toList.zipIdx 0).foldl (fun cs (x : Value × Nat) => cs.setIfInBounds (i * s + x.2) x.1) cs := by
      rw [← Array.foldl_toList]; simp
    rw [← e] at g1 g2
    have hend : i * s + s ≤ cs.size := by
      have : (i + 1) * s ≤ rows.length * s := Nat.mul_le_mul_right _ hi
      rw [Nat.succ_mul] at this
      have := h.1; omega
    have hstep : RowsAre ρ D w s (rows.set i v.cellsV) (cv.cells.zipIdx.foldl (fun cs (x : Value × Nat) => cs.setIfInBounds (i * s + x.2) x.1) cs) := by
      refine ⟨by rw [List.length_set, g1]; exact h.1, ?_, ?_⟩
      · intro k row hk
        rw [List.getElem?_set] at hk
        by_cases q : i = k
        · subst q; rw [if_pos rfl, if_pos hi] at hk; cases hk; exact hs
        · rw [if_neg q] at hk; exact h.2.1 k row hk
      · intro k j row u hk hj
        rw [List.getElem?_set] at hk
        rw [g2]
        by_cases q : i = k
        · subst q
          rw [if_pos rfl, if_pos hi] at hk; cases hk
          have hj' := (List.getElem?_eq_some_iff.1 hj).1
          rw [if_pos ⟨by omega, by simp; omega, by omega⟩]
          obtain ⟨c, c1, c2⟩ := h3 j u hj
          refine ⟨c, ?_, c2⟩
          rw [show i * s + j - (i * s + 0) = j by omega]
          simpa using c1
        · rw [if_neg q] at hk
          have hj' : j < s := by
            have := (List.getElem?_eq_some_iff.1 hj).1
            rwa [h.2.1 k row hk] at this
          have hold := h.2.2 k j row u hk hj
          have hlen : cv.cells.toList.length = s := by simp; omega
          rw [if_neg ?_]
          · exact hold
          · rintro ⟨a1, a2, _⟩
            rcases Nat.lt_or_gt_of_ne q with hlt | hgt
            · have : (i + 1) * s ≤ k * s := Nat.mul_le_mul_right _ hlt
              rw [Nat.succ_mul] at this; omega
            · have : (k + 1) * s ≤ i * s := Nat.mul_le_mul_right _ hgt
              rw [Nat.succ_mul] at this; omega
    obtain ⟨cs', f1, f2, f3⟩ := fillR_sound s r cr _ _ hstep (by simpa using hl) (fun j a b ha hb => hp (j + 1) a b (by simpa using ha) (by simpa using hb)) (by rw [List.length_set]; exact hok2)
    refine ⟨cs', ?_, by rw [f2, g1], f3⟩
    simp only [Instr.fill]
    rw [if_neg (by simp; omega)]
    exact f1
theorem zeroRows {zc : List V} {z : Value} {s : Nat} (hz : z.cells.size = s) (hs : 0 < s) (hzc : zc = z.cells.toList.map ofV1) (n : Nat) (cs : Array Value) (hcs : cs.size = n * s) (hg : ∀ k, k < n * s → cs[k]? = some (z.cells[k % s]!)) :
    RowsAre ρ D w s (List.replicate n zc) cs := by
  have hl : zc.length = s := by rw [hzc]; simp [hz]
  refine ⟨by simp [hcs], ?_, ?_⟩
  · intro i row hi
    rw [List.getElem?_replicate] at hi
    split at hi
    · cases hi; exact hl
    · cases hi
  · intro i j row u hi hj
    rw [List.getElem?_replicate] at hi
    split at hi
    · rename_i hin
      cases hi
      have hj' : j < s := by rw [← hl]; exact (List.getElem?_eq_some_iff.1 hj).1
      have hlt := row_lt hin hj'
      rw [hg _ hlt]
      refine ⟨_, rfl, ?_⟩
      have hm : (i * s + j) % s = j := by rw [Nat.mul_comm, Nat.mul_add_mod]; exact Nat.mod_eq_of_lt hj'
      rw [hm]
      obtain ⟨c, c1, c2⟩ := (zero_are (ρ := ρ) (D := D) (w := w) z).2 j u (by rw [← hzc]; exact hj)
      have : z.cells[j]! = c := by
        rw [getElem!_def, c1]
      rw [this]; exact c2
    · cases hi
def buildSliceV (nm len : Nat) : V := .own nm 0 len
def buildSliceK (P : Program) (t : TypeId) (len : Nat) (parts : List (Nat × V)) : Blk := match elInfo P t with
  | some (zc, _) => ⟨zc.length, fillR (List.replicate len zc) parts⟩
  | none => ⟨0, []⟩
def buildSliceOk (P : Program) (t : TypeId) (len : Nat) (parts : List (Nat × V)) : Prop := match elInfo P t with
  | some (zc, _) => len * zc.length ≤ 2 ^ 24 ∧ len ≤ maxLen ∧ fillROk zc.length len parts
  | none => False
theorem buildSlice_sound (h : Rel G X w0 I ρ M w) {nm : Nat} (hM : M nm = none) (hρ : ρ nm = none) {t : TypeId} {len : Nat} {parts : List (Nat × V)} {cparts : Array (Nat × Value)} (hl : parts.length = cparts.size)
    (hp : ∀ (j : Nat) (a : Nat × V) (b : Nat × Value), parts[j]? = some a → cparts[j]? = some b → a.1 = b.1 ∧ Is ρ (Dom X ρ M) w a.2 b.2) (hok : buildSliceOk P t len parts) :
    ∃ c w', (Instr.buildSlice t len cparts).run P w = .ok c w' ∧ Steps1 G X w0 I ρ M w nm (.own nm 0 len) (M.put nm (some (buildSliceK P t len parts))) c w' := by
  unfold buildSliceOk at hok
  cases hel : elInfo P t with
  | none => rw [hel] at hok; exact hok.elim
  | some y =>
    obtain ⟨zc, bytes⟩ := y
    rw [hel] at hok
    obtain ⟨hsmall, hmax, hfill⟩ := hok
    obtain ⟨e, i, z, hu, hi, hz, hzs, hpos, hzc, hzl, hb⟩ := elInfo_spec hel
    rw [hzl] at hsmall hfill
    have hK : buildSliceK P t len parts = ⟨i.size, fillR (List.replicate len zc) parts⟩ := by simp only [buildSliceK, hel, hzl]
    rw [hK]
    have main : ∀ (zero : Array Value), (len * i.size ≠ 0 → zero = z.cells) → ∃ cells, Instr.fill (fun k => some (k * i.size, i.size)) ((Array.range (len * i.size)).map (zero[· % zero.size]!)) cparts.toList = some cells ∧
        RowsAre ρ (Dom X ρ M) w i.size (fillR (List.replicate len zc) parts) cells ∧ cells.size = len * i.size := fun zero hzero => by
      have hrows : RowsAre ρ (Dom X ρ M) w i.size (List.replicate len zc) ((Array.range (len * i.size)).map (zero[· % zero.size]!)) := by
        by_cases h0 : len * i.size = 0
        · have : len = 0 := by
            rcases Nat.mul_eq_zero.1 h0 with h | h
            · exact h
            · omega
          subst this
          exact ⟨by simp, fun i row h => by simp at h, fun i j row u h => by simp at h⟩
        · rw [hzero h0]
          refine zeroRows hzs hpos hzc len _ (by simp) (fun k hk => ?_)
          simp [hk, hzs]
      obtain ⟨cs', f1, f2, f3⟩ := fillR_sound i.size parts cparts.toList _ _ hrows (by simpa using hl) (fun j a b ha hb => hp j a b ha (by simpa using hb)) (by simpa using hfill)
      exact ⟨cs', f1, f3, by rw [f2]; simp⟩
    obtain ⟨cells, m1, m2, m3⟩ := main (if len * i.size = 0 then #[] else z.cells) (fun h => by rw [if_neg h])
    have hlen : (fillR (List.replicate len zc) parts).length = len := by rw [fillR_length]; simp
    obtain ⟨r1, r2⟩ := h.alloc hM hρ cells e ⟨i.size, fillR (List.replicate len zc) parts⟩ len (by rw [hlen]; exact Nat.le_refl _) (by rw [m3]; exact Nat.le_refl _) m2.2.1 m2.2.2
    refine ⟨.slice (some ⟨w.heap.size, 0, none⟩) len len, w.alloc (.cells cells e), ?_, ρ.put nm ⟨w.heap.size, 0, i.size, len⟩, r1, r2, ?_, fun x hx => Names.put_ne _ _ hx⟩
    · by_cases h0 : len * i.size = 0
      · rw [if_pos h0] at m1
        rw [h0] at m1
        have h01 : ¬ 0 > 2 ^ 24 := by omega
        simp at m1
        simp [Instr.buildSlice, run_underlying hu, sizeOf, typeInfo, hi, h0, newRow, m1]
      · rw [if_neg h0] at m1
        exact run_buildSlice w t e len cparts cells i z hu hi hz (by omega) h0 m1
    · have := Is.own (ρ := ρ.put nm ⟨w.heap.size, 0, i.size, len⟩) (D := Dom X (ρ.put nm ⟨w.heap.size, 0, i.size, len⟩) (M.put nm (some ⟨i.size, fillR (List.replicate len zc) parts⟩))) (w := w.alloc (.cells cells e)) (nm := nm) (lo := 0) (n := len) (c := len) (l := ⟨w.heap.size, 0, i.size, len⟩) (Names.put_same _ _ _) (by simp) (Nat.le_refl _)
      simpa using this
end
end Go.Proofs.Ytdbbnhmnlgfjoaa.Vm
