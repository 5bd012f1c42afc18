/-
  The machine of plain values: append. No program in sight.
-/
import Derived.Test.YtdbbnhmnlgfjoaaVi
import Derived.Laws.AppendOwn
namespace Go.Proofs.Ytdbbnhmnlgfjoaa.Vm
set_option linter.unusedSimpArgs false
set_option linter.unusedVariables false
open Go Go.RowKit

section
variable {P : Program} {G : Nat → V} {X : Nat → Prop} {w0 : World} {I : Nat → Prop} {ρ : Names} {M : Mem} {w : World} {D : Nat → Prop}

def byteRow (b : UInt8) : List V := [.int .u8 b.toNat]
/-- The elements of a slice, or the bytes of a text. -/
def rowsV (M : Mem) : V → List (List V)
  | .sl _ _ rows => rows
  | .own nm lo n => ((rowsOf M nm).drop lo).take n
  | .str s => s.map byteRow
  | _ => []
def srcOk (M : Mem) (s : Nat) : V → Prop
  | .nils => True
  | .sl _ sz _ => sz = s
  | .own nm lo n => (M nm).isSome = true ∧ szOf M nm = s ∧ lo + n ≤ (rowsOf M nm).length
  | .str _ => s = 1
  | _ => False
theorem loc_sz (h : Rel G X w0 I ρ M w) {nm : Nat} {l : Loc} (hM : (M nm).isSome = true) (hl : ρ nm = some l) : l.sz = szOf M nm := by
  obtain ⟨kb, hkb⟩ := Option.isSome_iff_exists.1 hM
  rcases h.live nm kb hkb with ⟨_, h2⟩ | ⟨l2, h2, _, _, cs, e2, h3, h4, _⟩
  · rw [hl] at h2; cases h2
  · rw [hl] at h2; cases h2
    rw [← h4, szOf, hkb]
/-- What a slice or a text yields to append and copy. -/
theorem src_sound (h : Rel G X w0 I ρ M w) {s : Nat} (hs : 0 < s) {x : V} {cx : Value} (hx : Is ρ (Dom X ρ M) w x cx) (hok : srcOk M s x) :
    (Builtin.lenOf cx).run P w = .ok (rowsV M x).length w ∧ ∃ arr, (Builtin.firstCells s (rowsV M x).length cx).run P w = .ok arr w ∧ arr.size = (rowsV M x).length * s ∧ RowsAre ρ (Dom X ρ M) w s (rowsV M x) arr := by
  -- cells that lie there are loaded
  have cellsOf : ∀ (b o n c : Nat) (rows : List (List V)), rows.length = n → (∀ (i : Nat) (row : List V), rows[i]? = some row → row.length = s) →
      (∀ (i j : Nat) (row : List V) (u : V), rows[i]? = some row → row[j]? = some u → ∃ c, w.cell? ⟨b, o + i * s + j, none⟩ = some c ∧ Is ρ (Dom X ρ M) w u c) →
      ∃ arr, (Builtin.firstCells s n (.slice (some ⟨b, o, none⟩) n c)).run P w = .ok arr w ∧ arr.size = n * s ∧ RowsAre ρ (Dom X ρ M) w s rows arr := by
    intro b o n c rows hn hr hc
    have hget : ∀ k, k < n * s → ∃ row u, rows[k / s]? = some row ∧ row[k % s]? = some u := fun k hk => by
      have h1 : k / s < rows.length := by rw [hn]; exact Nat.div_lt_of_lt_mul (by rwa [Nat.mul_comm])
      have h2 := hr _ _ (List.getElem?_eq_getElem h1)
      have h3 : k % s < (rows[k / s]).length := by rw [h2]; exact Nat.mod_lt _ hs
      exact ⟨_, _, List.getElem?_eq_getElem h1, List.getElem?_eq_getElem h3⟩
    have hl := run_loadCells (P := P) w ⟨b, o, none⟩ (n * s) (fun k => (w.cell? ⟨b, o + k, none⟩).getD undef) (fun k hk => by
      obtain ⟨row, u, a1, a2⟩ := hget k hk
      obtain ⟨c, a3, _⟩ := hc _ _ row u a1 a2
      have e : o + k / s * s + k % s = o + k := by rw [Nat.add_assoc]; congr 1; rw [Nat.mul_comm]; exact Nat.div_add_mod k s
      rw [e] at a3
      rw [Addr.add_mid, a3]; rfl)
    refine ⟨_, hl, by simp, by simp [hn], hr, ?_⟩
    intro i j row u hi hj
    obtain ⟨c, a1, a2⟩ := hc i j row u hi hj
    have hi' : i < n := by rw [← hn]; exact (List.getElem?_eq_some_iff.1 hi).1
    have hj' : j < s := by rw [← hr i row hi]; exact (List.getElem?_eq_some_iff.1 hj).1
    refine ⟨c, ?_, a2⟩
    rw [Nat.add_assoc] at a1
    simp [row_lt hi' hj', a1]
  cases x <;> simp only [srcOk] at hok <;> try (exact hok.elim)
  case nils =>
    cases hx
    exact ⟨by simp [Builtin.lenOf, rowsV], #[], by simp [Builtin.firstCells, rowsV], by simp [rowsV], by simp [rowsV, RowsAre]⟩
  case str l =>
    subst hok
    cases hx
    refine ⟨by simp [Builtin.lenOf, rowsV, ByteArray.size], _, by simp only [Builtin.firstCells, Sem.run_pure]; rfl, ?_, ?_, ?_, ?_⟩
    · simp [rowsV, ByteArray.extract, ByteArray.copySlice]
    · simp [rowsV, ByteArray.extract, ByteArray.copySlice]
    · intro i row hi
      simp only [rowsV, List.getElem?_map] at hi
      obtain ⟨b, _, rfl⟩ := Option.map_eq_some_iff.1 hi
      rfl
    · intro i j row u hi hj
      simp only [rowsV, List.getElem?_map] at hi
      obtain ⟨b, hb, rfl⟩ := Option.map_eq_some_iff.1 hi
      cases j with
      | succ j => simp [byteRow] at hj
      | zero =>
        simp only [byteRow, List.getElem?_cons_zero, Option.some.injEq] at hj
        subst hj
        refine ⟨.int .u8 b.toNat, ?_, .int _ _⟩
        have hlt := (List.getElem?_eq_some_iff.1 hb).1
        have hb' := (List.getElem?_eq_some_iff.1 hb).2
        simp [rowsV, ByteArray.extract, ByteArray.copySlice, hlt, hb']
  case sl t sz rows =>
    subst hok
    cases hx with
    | sl0 ht =>
      rename_i A c
      refine ⟨by simp [Builtin.lenOf, rowsV], #[], ?_, by simp [rowsV], by simp [rowsV, RowsAre]⟩
      cases A <;> simp [Builtin.firstCells, rowsV, loadCells, loadCellsFrom]
    | sl cv hc ht hD hb hr hxx hu =>
      rename_i b o c
      refine ⟨by simp [Builtin.lenOf, rowsV], ?_⟩
      exact cellsOf b o rows.length c rows rfl hr (fun i j row u hi hj => ⟨_, hxx i j row u hi hj, hu i j row u hi hj⟩)
  case own nm lo n =>
    obtain ⟨hM, hsz, hle⟩ := hok
    obtain ⟨kb, hkb⟩ := Option.isSome_iff_exists.1 hM
    have hro : rowsOf M nm = kb.rows := by rw [rowsOf, hkb]
    rw [hro] at hle
    have hlen : (rowsV M (.own nm lo n)).length = n := by simp only [rowsV, hro]; simp; omega
    rw [hlen]
    cases hx with
    | own0 =>
      rename_i A
      have hnil : rowsV M (.own nm lo 0) = [] := List.eq_nil_of_length_eq_zero hlen
      rw [hnil]
      refine ⟨by simp [Builtin.lenOf], #[], ?_, by simp, by simp [RowsAre]⟩
      cases A <;> simp [Builtin.firstCells, loadCells, loadCellsFrom]
    | own hl hlc hnc =>
      rename_i c l
      refine ⟨by simp [Builtin.lenOf], ?_⟩
      have hls := loc_sz h hM hl
      rw [hsz] at hls
      rcases h.live nm kb hkb with ⟨h1, h2⟩ | ⟨l2, h2, _, _, cs, e2, h3, h4, h5, h6, h7, h8⟩
      · rw [hl] at h2; cases h2
      · rw [hl] at h2; cases h2
        have hg : ∀ (i : Nat) (row : List V), (rowsV M (.own nm lo n))[i]? = some row → kb.rows[lo + i]? = some row := fun i row hi => by
          simp only [rowsV, hro, List.getElem?_take] at hi
          split at hi
          · rwa [List.getElem?_drop] at hi
          · cases hi
        refine cellsOf l.b (l.o + lo * l.sz) n c _ hlen (fun i row hi => by rw [← hls]; exact h7 _ row (hg i row hi)) (fun i j row u hi hj => ?_)
        obtain ⟨cv, c1, c2⟩ := h8 _ j row u (hg i row hi) hj
        refine ⟨cv, ?_, c2⟩
        rw [cell_of_row w l.b _ cs e2 _ h3, ← c1]
        congr 1
        rw [Nat.add_mul, ← hls]; omega

theorem run_append_room {t t2 ty e : TypeId} {i : TypeInfo} (hu : P.underlying t = some (.slice e)) (hi : P.info? e = some i) (h2 : lenKind P t2 = true) {A : Option Addr} {n c m : Nat} {cx : Value} (hlen : (Builtin.lenOf cx).run P w = .ok m w) {new : Array Value}
    (hf : (Builtin.firstCells i.size m cx).run P w = .ok new w) (hroom : n + m ≤ c) {w' : World} (hst : ∀ a, A = some a → (storeCells (a.add (n * i.size)) new.toList).run P w = .ok () w') (hno : A = none → w' = w) :
    (Builtin.append_ #[t, t2] ty #[.slice A n c, cx]).run P w = .ok (.slice A (n + m) c) w' := by
  have hz : ∃ d, P.underlying t2 = some d ∧ ∀ k, d ≠ .int k := by
    unfold lenKind at h2
    split at h2
    · exact ⟨_, ‹_›, by simp⟩
    · exact ⟨_, ‹_›, by simp⟩
    · cases h2
  obtain ⟨d, hd, hni⟩ := hz
  have hzeros : (match d with | .int _ => true | _ => false) = false := by cases d <;> first | rfl | exact absurd rfl (hni _)
  cases A with
  | none =>
    have := hno rfl; subst this
    simp [Builtin.append_, run_underlying hu, run_underlying hd, sizeOf, typeInfo, hi, hzeros, hlen, hroom, hf]
  | some a =>
    have hs := hst a rfl
    simp [Builtin.append_, run_underlying hu, run_underlying hd, sizeOf, typeInfo, hi, hzeros, hlen, hroom, hf, hs]
theorem run_append_more {t t2 ty e : TypeId} {i : TypeInfo} {z : Value} (hu : P.underlying t = some (.slice e)) (hi : P.info? e = some i) (hz : i.zero = some z) (h2 : lenKind P t2 = true) {A : Option Addr} {n c m : Nat} {cx : Value} (hlen : (Builtin.lenOf cx).run P w = .ok m w) {old new : Array Value}
    (ho : (Builtin.firstCells i.size n (.slice A n c)).run P w.drew = .ok old w.drew) (hf : (Builtin.firstCells i.size m cx).run P w.drew = .ok new w.drew) (hg : c < n + m) (h63 : n + m ≤ maxLen) (hb : (n + m) * i.bytes ≤ 140737488355328) :
    (Builtin.append_ #[t, t2] ty #[.slice A n c, cx]).run P w = .ok (.slice (some ⟨w.heap.size, 0, none⟩) (n + m) (grownCap w (n + m) c e)) (w.drew.alloc (.cells (old ++ new ++ Builtin.zeroCells z.cells (grownCap w (n + m) c e - (n + m))) e)) := by
  have hzz : ∃ d, P.underlying t2 = some d ∧ ∀ k, d ≠ .int k := by
    unfold lenKind at h2
    split at h2
    · exact ⟨_, ‹_›, by simp⟩
    · exact ⟨_, ‹_›, by simp⟩
    · cases h2
  obtain ⟨d, hd, hni⟩ := hzz
  have hzeros : (match d with | .int _ => true | _ => false) = false := by cases d <;> first | rfl | exact absurd rfl (hni _)
  have hn : ¬ (n + m ≤ c) := by omega
  have h63' : ¬ (9223372036854775807 < ((n : Int) + (m : Int))) := by simp only [maxLen] at h63; omega
  have hfit := growslice_fits hg hb
  have h48' : ¬ (281474976710656 < Builtin.nextslicecap (n + m) c * i.bytes) := by omega
  simp [Builtin.append_, run_underlying hu, run_underlying hd, sizeOf, typeInfo, zeroValue, hi, hz, hzeros, hlen, hn, h63', h48', Question.forced, hf, ho, newRow, grownCap]

def appendK (P : Program) (t : TypeId) (M : Mem) (s x : V) : Blk := match elInfo P t with
  | some (zc, _) => ⟨zc.length, rowsV M s ++ rowsV M x⟩
  | none => ⟨0, []⟩
def appendM (P : Program) (t : TypeId) (M : Mem) (nm : Nat) (s x : V) : Mem := (match s with | .own ns _ _ => M.put ns none | _ => M).put nm (some (appendK P t M s x))
def appendV (M : Mem) (nm : Nat) (s x : V) : V := .own nm 0 ((rowsV M s).length + (rowsV M x).length)
/-- Onto what may be appended. -/
def dstOk (M : Mem) (x : V) : V → Prop
  | .sl tt _ rows => tt = true ∧ (rows = [] ∨ rowsV M x ≠ [])
  | .str _ => False
  | _ => True
def appendOk (P : Program) (t t2 : TypeId) (M : Mem) (s x : V) : Prop := lenKind P t2 = true ∧ match elInfo P t with
  | some (zc, bytes) => srcOk M zc.length s ∧ srcOk M zc.length x ∧ dstOk M x s ∧
      ((rowsV M x).all fun r => r.all V.one) = true ∧ (rowsV M s).length + (rowsV M x).length ≤ maxLen ∧ ((rowsV M s).length + (rowsV M x).length) * bytes ≤ 140737488355328
  | none => False

/-- A name for a slice of no elements, of which no block need be there. -/
theorem Rel.ghost (h : Rel G X w0 I ρ M w) {nm : Nat} (hM : M nm = none) (hρ : ρ nm = none) (s : Nat) : Rel G X w0 I ρ (M.put nm (some ⟨s, []⟩)) w ∧ Moves ρ M w ρ (M.put nm (some ⟨s, []⟩)) w := by
  have key : ∀ x l, ((M.put nm (some ⟨s, []⟩)) x).isSome = true → ρ x = some l → (M x).isSome = true := fun x l hx hl => by
    by_cases e : x = nm
    · subst e; rw [hρ] at hl; cases hl
    · rwa [Mem.put_ne _ _ e] at hx
  have m : Moves ρ M w ρ (M.put nm (some ⟨s, []⟩)) w := ⟨fun _ _ h => h, Nat.le_refl _, rfl, rfl, rfl, fun _ _ _ => rfl, fun x l h1 h2 _ => ⟨x, l, key x l h1 h2, h2, rfl⟩⟩
  refine ⟨h.move m (fun a b l l' a1 a2 a3 a4 a5 => h.inj a b l l' (key a l a1 a3) (key b l' a2 a4) a3 a4 a5) ?_, m⟩
  intro x k hx
  by_cases e : x = nm
  · subst e; rw [Mem.put_same] at hx; cases hx
    exact .inr (.inl ⟨rfl, hρ⟩)
  · rw [Mem.put_ne _ _ e] at hx
    exact .inl ⟨hx, id, fun _ _ => rfl⟩
end
end Go.Proofs.Ytdbbnhmnlgfjoaa.Vm
