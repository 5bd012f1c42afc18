/-
  The machine of plain values: what a call is handed, read as plain values. No program in sight.
-/
import Derived.Test.YtdbbnhmnlgfjoaaVU
import GoSem.ClaimChange
import GoSem.ClaimDataLaid
import Derived.DataReads
import Derived.ChangeOld
namespace Go.Proofs.Ytdbbnhmnlgfjoaa.Vm
set_option linter.unusedSimpArgs false
set_option linter.unusedVariables false
open Go Go.RowKit

/-- Fields, one behind the other. -/
def ShapeL (S : TypeId → List V → Prop) : List Field → List V → Prop
  | [], vs => vs = []
  | f :: r, vs => ∃ a b, vs = a ++ b ∧ S f.type a ∧ ShapeL S r b
/-- The plain values that can be handed in at a type. -/
def Shape (P : Program) : Nat → TypeId → List V → Prop
  | 0, _, _ => False
  | n + 1, t, vs => match P.underlying t with
    | some .bool => ∃ b, vs = [.bool b]
    | some (.int k) => ∃ m, vs = [.int k m] ∧ (Lit.int k m).wf = true
    | some .string => ∃ s : List UInt8, vs = [.str s] ∧ s.length ≤ reachBytes
    | some (.slice e) => ∃ rows, vs = [.sl false (P.cellsOf e) rows] ∧ rows.length ≤ maxLen ∧ rows.length * P.bytesOf e ≤ reachBytes ∧ ∀ r ∈ rows, Shape P n e r
    | some (.struct fs) => ShapeL (Shape P n) fs.toList vs
    | some (.pointer e) => vs = [.nilp] ∨ ∃ cells, vs = [.rp cells] ∧ Shape P n e cells
    | _ => False
/-- Cells, as plain values that nobody writes. -/
def CellsV (w : World) (vs : List V) (cs : List Value) : Prop := vs.length = cs.length ∧ ∀ (i : Nat) (v : V) (c : Value), vs[i]? = some v → cs[i]? = some c → Is (fun _ => none) (fun _ => False) w v c
theorem CellsV.nil (w : World) : CellsV w [] [] := ⟨rfl, fun i v c h => by simp at h⟩
theorem CellsV.one {w : World} {v : V} {c : Value} (h : Is (fun _ => none) (fun _ => False) w v c) : CellsV w [v] [c] := ⟨rfl, fun i u d hu hd => by
  cases i with
  | zero => simp at hu hd; subst hu; subst hd; exact h
  | succ i => simp at hu⟩
theorem CellsV.append {w : World} {vs us : List V} {cs ds : List Value} (h : CellsV w vs cs) (k : CellsV w us ds) : CellsV w (vs ++ us) (cs ++ ds) := by
  refine ⟨by simp [h.1, k.1], fun i v c hv hc => ?_⟩
  rw [List.getElem?_append] at hv hc
  rw [h.1] at hv
  split at hv
  · rename_i hlt
    rw [if_pos hlt] at hc
    exact h.2 i v c hv hc
  · rename_i hlt
    rw [if_neg hlt] at hc
    exact k.2 _ v c hv hc
theorem exists_list {α : Type} : ∀ (n : Nat) (p : Nat → α → Prop), (∀ i, i < n → ∃ r, p i r) → ∃ l : List α, l.length = n ∧ ∀ (i : Nat) (r : α), l[i]? = some r → p i r
  | 0, p, _ => ⟨[], rfl, fun i r h => by simp at h⟩
  | n + 1, p, h => by
    obtain ⟨l, h1, h2⟩ := exists_list n p (fun i hi => h i (by omega))
    obtain ⟨r, hr⟩ := h n (by omega)
    refine ⟨l ++ [r], by simp [h1], fun i r' hi => ?_⟩
    rw [List.getElem?_append] at hi
    split at hi
    · exact h2 i r' hi
    · rename_i hge
      have : i = n := by
        rcases Nat.lt_or_ge i (n + 1) with h3 | h3
        · omega
        · rw [List.getElem?_eq_none (by simp; omega)] at hi; cases hi
      subst this
      rw [h1, Nat.sub_self] at hi
      simp at hi; subst hi; exact hr
theorem mapM_some {α β : Type} {f : α → Option β} : ∀ {l : List α} {r : List β}, l.mapM f = some r → ∀ a ∈ l, ∃ b, f a = some b
  | [], _, _, a, ha => by cases ha
  | x :: l, r, h, a, ha => by
    simp only [List.mapM_cons, Option.bind_eq_bind, Option.pure_def] at h
    obtain ⟨y, h1, h2⟩ := Option.bind_eq_some_iff.1 h
    obtain ⟨l', h3, _⟩ := Option.bind_eq_some_iff.1 h2
    rcases List.mem_cons.1 ha with rfl | ha
    · exact ⟨y, h1⟩
    · exact mapM_some h3 a ha
theorem mapM_length {α β : Type} {f : α → Option β} : ∀ {l : List α} {r : List β}, l.mapM f = some r → r.length = l.length
  | [], r, h => by simp at h; subst h; rfl
  | x :: l, r, h => by
    simp only [List.mapM_cons, Option.bind_eq_bind, Option.pure_def] at h
    obtain ⟨y, h1, h2⟩ := Option.bind_eq_some_iff.1 h
    obtain ⟨l', h3, h4⟩ := Option.bind_eq_some_iff.1 h2
    simp only [Option.some.injEq] at h4
    subst h4
    simp [mapM_length h3]
theorem mapM_get {α β : Type} {f : α → Option β} : ∀ {l : List α} {r : List β}, l.mapM f = some r → ∀ (i : Nat) (a : α), l[i]? = some a → ∃ b, f a = some b ∧ r[i]? = some b
  | [], _, _, i, a, ha => by simp at ha
  | x :: l, r, h, i, a, ha => by
    simp only [List.mapM_cons, Option.bind_eq_bind, Option.pure_def] at h
    obtain ⟨y, h1, h2⟩ := Option.bind_eq_some_iff.1 h
    obtain ⟨l', h3, h4⟩ := Option.bind_eq_some_iff.1 h2
    simp only [Option.some.injEq] at h4
    subst h4
    cases i with
    | zero => simp at ha; subst ha; exact ⟨y, h1, rfl⟩
    | succ i => obtain ⟨b, b1, b2⟩ := mapM_get h3 i a (by simpa using ha); exact ⟨b, b1, by simpa using b2⟩
theorem mem_weightsAll {H : Type} {P : Program} {e : TypeId} {m : Nat} : ∀ {l : List (DataW H)} {d : DataW H}, d ∈ l → m ∈ d.weights P e → m ∈ DataW.weightsAll P e l
  | x :: l, d, hd, hm => by
    unfold DataW.weightsAll
    rcases List.mem_cons.1 hd with rfl | hd
    · exact List.mem_append_left _ hm
    · exact List.mem_append_right _ (mem_weightsAll hd hm)
/-- Fields lie one behind the other, from o to the end. -/
def layF (P : Program) (tot : Nat) : List Field → Nat → Bool
  | [], o => o == tot
  | f :: r, o => f.offset == o && layF P tot r (o + P.cellsOf f.type)
/-- Types of these kinds alone, closed under their parts. -/
def okSet (P : Program) (ts : List TypeId) : Bool := ts.all fun t => match P.underlying t with
  | some .bool | some (.int _) | some .string => true
  | some (.slice e) => ts.contains e && decide (0 < P.cellsOf e)
  | some (.pointer e) => ts.contains e && decide (0 < P.cellsOf e)
  | some (.struct fs) => (fs.toList.all fun f => ts.contains f.type) && layF P (P.cellsOf t) fs.toList 0
  | _ => false
theorem cells_at {w : World} {base : Nat} {a : Addr} {n : Nat} {cs : List Value} (h : w.cells? base a n = some cs) : cs.length = n ∧ ∀ i, i < n → w.cell? (a.add i) = cs[i]? := by
  exact (World.cells?_some h).2
theorem cell_plain {w : World} {a : Addr} {v : Value} (h : w.cell? (a.add 0) = some v) : (a.add 0).spot = none ∧ a.block < w.heap.size := by
  have ha : a.add 0 = a := by simp [Addr.add]
  rw [ha] at h ⊢
  unfold World.cell? at h
  split at h
  · rename_i hb
    refine ⟨?_, lt_of_heap hb⟩
    cases hs : a.spot with
    | none => rfl
    | some s => rw [hs] at h; simp at h
  · cases h
theorem add_plain {a : Addr} (h : (a.add 0).spot = none) (i : Nat) : a.add i = ⟨a.block, a.off + i, none⟩ := by
  have ha : a.add 0 = a := by simp [Addr.add]
  rw [ha] at h
  unfold Addr.add
  split
  · rename_i h0; subst h0; cases a; simp_all
  · cases a; simp
theorem fields_shape {P : Program} {w : World} {H : Type} {T : TypeId → List Value → Option (DataW H × List MemPlace)} {S : TypeId → List V → Prop} {tot : Nat} {cs : List Value} (hcs : cs.length = tot) :
    ∀ (fs : List Field) (o : Nat) (xs : List (DataW H × List MemPlace)), (∀ f ∈ fs, ∀ (as : List Value) (y : DataW H × List MemPlace), T f.type as = some y → (∀ m ∈ y.1.weights P f.type, m ≤ reachBytes) → ∃ vs, S f.type vs ∧ CellsV w vs as) → layF P tot fs o = true →
      fs.mapM (fun f => T f.type ((cs.drop f.offset).take (P.cellsOf f.type))) = some xs → (∀ m ∈ DataW.weightsEach P (fs.map (·.type)) (xs.map (·.1)), m ≤ reachBytes) → ∃ vs, ShapeL S fs vs ∧ CellsV w vs (cs.drop o)
  | [], o, xs, _, hl, _, _ => by
    simp only [layF, beq_iff_eq] at hl
    subst hl
    exact ⟨[], rfl, by rw [← hcs, List.drop_length]; exact CellsV.nil w⟩
  | f :: r, o, xs, hT, hl, h, hw => by
    simp only [layF, Bool.and_eq_true, beq_iff_eq] at hl
    obtain ⟨rfl, hl⟩ := hl
    simp only [List.mapM_cons, Option.bind_eq_bind, Option.pure_def] at h
    obtain ⟨y, h1, h2⟩ := Option.bind_eq_some_iff.1 h
    obtain ⟨l', h3, h4⟩ := Option.bind_eq_some_iff.1 h2
    simp only [Option.some.injEq] at h4
    subst h4
    simp only [List.map_cons, DataW.weightsEach, List.mem_append] at hw
    obtain ⟨vs, g1, g2⟩ := hT f (by simp) _ y h1 (fun m hm => hw m (.inl hm))
    obtain ⟨us, g3, g4⟩ := fields_shape hcs r _ l' (fun f' hf => hT f' (by simp [hf])) hl h3 (fun m hm => hw m (.inr hm))
    refine ⟨vs ++ us, ⟨vs, us, rfl, g1, g3⟩, ?_⟩
    have := g2.append g4
    rw [← List.drop_drop, List.take_append_drop] at this
    exact this
theorem trod_shape {P : Program} {ts : List TypeId} (hts : okSet P ts = true) {w : World} {H : Type} {enc : TypeId × Value → H} {base : Nat} {spare : Nat → Bool} {held : Bool} :
    ∀ (n : Nat) (t : TypeId) (cs : List Value) (x : DataW H × List MemPlace), t ∈ ts → DataW.trod enc P w base spare held n t cs = some x → (∀ m ∈ x.1.weights P t, m ≤ reachBytes) → ∃ vs, Shape P n t vs ∧ CellsV w vs cs
  | 0, t, cs, x, _, h, _ => by simp [DataW.trod] at h
  | n + 1, t, cs, x, ht, h, hw => by
    have hk := List.all_eq_true.1 hts t ht
    unfold DataW.trod at h
    unfold Shape
    split at h <;> rename_i hu <;> try (cases h; done)
    all_goals rw [hu] at hk ⊢
    all_goals simp only at hk ⊢
    all_goals try (cases hk; done)
    · exact ⟨_, ⟨_, rfl⟩, CellsV.one (.bool _)⟩
    · rename_i k k' m
      split at h
      · rename_i hkk
        obtain ⟨rfl, hwf⟩ := hkk
        exact ⟨_, ⟨_, rfl, hwf⟩, CellsV.one (.int _ _)⟩
      · cases h
    · rename_i s
      split at h
      · rename_i hs
        cases h
        refine ⟨[.str s.data.toList], ⟨_, rfl, hw _ (by simp [DataW.weights])⟩, CellsV.one ?_⟩
        have := Is.str (ρ := fun _ => none) (D := fun _ => False) (w := w) s.data.toList
        rw [Array.toArray_toList] at this
        exact this
      · cases h
    · exact ⟨_, .inl rfl, CellsV.one .nilp⟩
    · rename_i e a
      rw [Bool.and_eq_true, decide_eq_true_eq, List.contains_iff_mem] at hk
      obtain ⟨y, h1, h0⟩ := Option.map_eq_some_iff.1 h
      subst h0
      simp only [DataW.weights, hu] at hw
      obtain ⟨cs', h2, h3⟩ := Option.bind_eq_some_iff.1 h1
      obtain ⟨vs, g1, g2, g3⟩ := trod_shape hts n e cs' y hk.1 h3 hw
      obtain ⟨c1, c2⟩ := cells_at h2
      obtain ⟨v0, hv0⟩ : ∃ v, cs'[0]? = some v := ⟨_, List.getElem?_eq_getElem (by omega)⟩
      obtain ⟨p1, p2⟩ := cell_plain ((c2 0 (by omega)).trans hv0)
      refine ⟨[.rp vs], .inr ⟨vs, rfl, g1⟩, CellsV.one ?_⟩
      have ha : a = ⟨a.block, a.off, none⟩ := by cases a; simp only [Addr.add] at p1; simp_all
      rw [ha]
      have hcell : ∀ (j : Nat) (u : V), vs[j]? = some u → ∃ c, w.cell? ⟨a.block, a.off + j, none⟩ = some c ∧ Is (fun _ => none) (fun _ => False) w u c := fun j u hj => by
        have hlt := (List.getElem?_eq_some_iff.1 hj).1
        obtain ⟨c, hc⟩ : ∃ v, cs'[j]? = some v := ⟨_, List.getElem?_eq_getElem (by omega)⟩
        exact ⟨c, by rw [← add_plain p1, c2 j (by omega), hc], g3 j u c hj hc⟩
      refine .rp (fun j => (w.cell? ⟨a.block, a.off + j, none⟩).getD undef) (fun h => h) p2 (fun j u hj => ?_) (fun j u hj => ?_)
      · obtain ⟨c, c1, _⟩ := hcell j u hj
        rw [c1]; rfl
      · obtain ⟨c, c1, c2⟩ := hcell j u hj
        rw [c1]; exact c2
    · exact ⟨_, ⟨[], rfl, Nat.zero_le _, by simp, fun r hr => by cases hr⟩, CellsV.one (.sl0 (fun h => by cases h))⟩
    · rename_i e a len cap
      rw [Bool.and_eq_true, decide_eq_true_eq, List.contains_iff_mem] at hk
      split at h
      · rename_i hb
        obtain ⟨elems, h1, h0⟩ := Option.bind_eq_some_iff.1 h
        obtain ⟨rest, _, h0⟩ := Option.map_eq_some_iff.1 h0
        subst h0
        simp only [DataW.weights, hu, List.mem_cons, List.mem_append] at hw
        have hlen : elems.length = len := by have := mapM_length h1; simpa using this
        have hrow : ∀ i, i < len → ∃ r : List V, Shape P n e r ∧ r.length = P.cellsOf e ∧ ∃ cs', w.cells? base (a.add (i * P.cellsOf e)) (P.cellsOf e) = some cs' ∧ CellsV w r cs' := fun i hi => by
          obtain ⟨y, hy, hy2⟩ := mapM_get h1 i i (by simp [hi])
          obtain ⟨cs', h2, h3⟩ := Option.bind_eq_some_iff.1 hy
          obtain ⟨vs, g1, g2⟩ := trod_shape hts n e cs' y hk.1 h3 (fun m hm => hw m (.inr (.inl (mem_weightsAll (List.mem_map.2 ⟨y, List.mem_of_getElem? hy2, rfl⟩) hm))))
          exact ⟨vs, g1, by rw [g2.1, (cells_at h2).1], cs', h2, g2⟩
        obtain ⟨rows, r1, r2⟩ := exists_list len _ hrow
        refine ⟨[.sl false (P.cellsOf e) rows], ⟨rows, rfl, by omega, ?_, fun r hr => ?_⟩, CellsV.one ?_⟩
        · have h5 := hw _ (.inl rfl)
          simp only [List.length_map, hlen] at h5
          rw [r1]
          exact Nat.le_trans (Nat.mul_le_mul_right _ (by omega)) h5
        · obtain ⟨i, hi⟩ := List.mem_iff_getElem?.1 hr
          exact (r2 i r hi).1
        · rcases Nat.eq_zero_or_pos len with h0 | hpos
          · subst h0
            rw [List.eq_nil_of_length_eq_zero r1]
            exact .sl0 (fun h => by cases h)
          · obtain ⟨r0, hr0⟩ : ∃ r, rows[0]? = some r := ⟨_, List.getElem?_eq_getElem (by omega)⟩
            obtain ⟨_, _, cs0, q1, q2⟩ := r2 0 r0 hr0
            obtain ⟨c1, c2⟩ := cells_at q1
            obtain ⟨v0, hv0⟩ : ∃ v, cs0[0]? = some v := ⟨_, List.getElem?_eq_getElem (by omega)⟩
            have hz := (c2 0 (by omega)).trans hv0
            rw [Nat.zero_mul, show (a.add 0).add 0 = a.add 0 by simp [Addr.add]] at hz
            obtain ⟨p1, p2⟩ := cell_plain hz
            have ha : a = ⟨a.block, a.off, none⟩ := by cases a; simp only [Addr.add] at p1; simp_all
            have hcell : ∀ (i j : Nat) (row : List V) (u : V), rows[i]? = some row → row[j]? = some u → ∃ c, w.cell? ⟨a.block, a.off + i * P.cellsOf e + j, none⟩ = some c ∧ Is (fun _ => none) (fun _ => False) w u c := fun i j row u hi hj => by
              obtain ⟨_, g2, cs', g3, g4, g5⟩ := r2 i row hi
              obtain ⟨d1, d2⟩ := cells_at g3
              have hlt := (List.getElem?_eq_some_iff.1 hj).1
              obtain ⟨c, hc⟩ : ∃ v, cs'[j]? = some v := ⟨_, List.getElem?_eq_getElem (by omega)⟩
              refine ⟨c, ?_, g5 j u c hj hc⟩
              rw [← hc, ← d2 j (by omega), add_plain p1]
              rw [add_plain (a := ⟨a.block, a.off + i * P.cellsOf e, none⟩) (by simp [Addr.add])]
            rw [ha, ← r1]
            refine .sl (fun i j => (w.cell? ⟨a.block, a.off + i * P.cellsOf e + j, none⟩).getD undef) (by omega) (fun h => by cases h) (fun h => h) p2 (fun i row hi => (r2 i row hi).2.1) (fun i j row u hi hj => ?_) (fun i j row u hi hj => ?_)
            · obtain ⟨c, c1, _⟩ := hcell i j row u hi hj
              rw [c1]; rfl
            · obtain ⟨c, c1, c2⟩ := hcell i j row u hi hj
              rw [c1]; exact c2
      · cases h
    · rename_i fs
      rw [Bool.and_eq_true] at hk
      split at h
      · rename_i hlen
        obtain ⟨xs, h1, h0⟩ := Option.map_eq_some_iff.1 h
        subst h0
        simp only [DataW.weights, hu] at hw
        exact fields_shape hlen fs.toList 0 xs (fun f hf as y hy hm => trod_shape hts n f.type as y (List.contains_iff_mem.1 (List.all_eq_true.1 hk.1 f hf)) hy hm) hk.2 h1 hw
      · cases h
end Go.Proofs.Ytdbbnhmnlgfjoaa.Vm
