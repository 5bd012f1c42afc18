/-
  The machine of plain values: what becomes of its memory by a new block, a store, a load. No program in sight.
-/
import Derived.Test.YtdbbnhmnlgfjoaaVa
import Derived.Laws.CopyRow
import Derived.Deep.MidRow
namespace Go.Proofs.Ytdbbnhmnlgfjoaa.Vm
set_option linter.unusedSimpArgs false
set_option linter.unusedVariables false
open Go Go.RowKit

def Mem.put (M : Mem) (nm : Nat) (k : Option Blk) : Mem := fun x => if x = nm then k else M x
theorem Mem.put_same (M : Mem) (nm : Nat) (k : Option Blk) : M.put nm k nm = k := by simp [Mem.put]
theorem Mem.put_ne (M : Mem) {nm x : Nat} (k : Option Blk) (h : x ≠ nm) : M.put nm k x = M x := by simp [Mem.put, h]
def Names.put (ρ : Names) (nm : Nat) (l : Loc) : Names := fun x => if x = nm then some l else ρ x
theorem Names.put_same (ρ : Names) (nm : Nat) (l : Loc) : ρ.put nm l nm = some l := by simp [Names.put]
theorem Names.put_ne (ρ : Names) {nm x : Nat} (l : Loc) (h : x ≠ nm) : ρ.put nm l x = ρ x := by simp [Names.put, h]

section
variable {G : Nat → V} {X : Nat → Prop} {w0 : World} {I : Nat → Prop} {ρ : Names} {M : Mem} {w w' : World}

/-- A block of the call's own is written. -/
theorem Rel.write (h : Rel G X w0 I ρ M w) {nm : Nat} {k k' : Blk} {l : Loc} (hM : M nm = some k) (hl : ρ nm = some l) (hsz : w'.heap.size = w.heap.size) (hos : w'.os = w.os) (htp : w'.tape = w.tape) (hout : w'.output = w.output)
    (hk : ∀ b, b ≠ l.b → w'.heap[b]? = w.heap[b]?) {cs' : Array Value} {e : TypeId} (hb : w'.heap[l.b]? = some (.cells cs' e (0, 0))) (h1 : k'.sz = l.sz) (h2 : k'.rows.length ≤ l.tot) (h3 : l.o + l.tot * l.sz ≤ cs'.size)
    (h4 : ∀ (i : Nat) (row : List V), k'.rows[i]? = some row → row.length = l.sz)
    (h5 : ∀ (i j : Nat) (row : List V) (u : V), k'.rows[i]? = some row → row[j]? = some u → ∃ cv, cs'[l.o + i * l.sz + j]? = some cv ∧ Is ρ (Dom X ρ M) w u cv) :
    Rel G X w0 I ρ (M.put nm (some k')) w' ∧ Moves ρ M w ρ (M.put nm (some k')) w' := by
  have hs : ∀ x, ((M.put nm (some k')) x).isSome = true → (M x).isSome = true := fun x hx => by
    by_cases e : x = nm
    · subst e; rw [hM]; rfl
    · rwa [Mem.put_ne _ _ e] at hx
  have m : Moves ρ M w ρ (M.put nm (some k')) w' :=
    ⟨fun _ _ h => h, Nat.le_of_eq hsz.symm, hos, htp, hout, fun b _ hn => hk b (fun e => hn nm l (by rw [hM]; rfl) hl e.symm), fun n l' a1 a2 _ => ⟨n, l', hs n a1, a2, rfl⟩⟩
  refine ⟨h.move m (fun a b l1 l2 a1 a2 a3 a4 a5 => h.inj a b l1 l2 (hs a a1) (hs b a2) a3 a4 a5) ?_, m⟩
  intro x kx hx
  by_cases e : x = nm
  · subst e
    rw [Mem.put_same] at hx
    cases hx
    rcases h.live x k hM with ⟨_, a2⟩ | ⟨l', a1, a2, a3, _⟩
    · rw [hl] at a2; cases a2
    · rw [hl] at a1; cases a1
      refine .inr (.inr ⟨l, hl, a2, a3, cs', _, hb, h1, h2, h3, h4, fun i j row u hi hj => ?_⟩)
      obtain ⟨cv, c1, c2⟩ := h5 i j row u hi hj
      exact ⟨cv, c1, m.is c2⟩
  · rw [Mem.put_ne _ _ e] at hx
    refine .inl ⟨hx, id, fun lx hlx => hk _ (fun e2 => e (h.inj x nm lx l (by rw [hx]; rfl) (by rw [hM]; rfl) hlx hl e2))⟩

/-- A new block. -/
theorem Rel.alloc (h : Rel G X w0 I ρ M w) {nm : Nat} (hM : M nm = none) (hρ : ρ nm = none) (cs : Array Value) (e : TypeId) (k : Blk) (tot : Nat) (h2 : k.rows.length ≤ tot) (h3 : tot * k.sz ≤ cs.size)
    (h4 : ∀ (i : Nat) (row : List V), k.rows[i]? = some row → row.length = k.sz)
    (h5 : ∀ (i j : Nat) (row : List V) (u : V), k.rows[i]? = some row → row[j]? = some u → ∃ cv, cs[i * k.sz + j]? = some cv ∧ Is ρ (Dom X ρ M) w u cv) :
    Rel G X w0 I (ρ.put nm ⟨w.heap.size, 0, k.sz, tot⟩) (M.put nm (some k)) (w.alloc (.cells cs e)) ∧ Moves ρ M w (ρ.put nm ⟨w.heap.size, 0, k.sz, tot⟩) (M.put nm (some k)) (w.alloc (.cells cs e)) := by
  have hne : ∀ x, (M x).isSome = true → x ≠ nm := fun x hx e => by subst e; rw [hM] at hx; cases hx
  have hnr : ∀ x l, ρ x = some l → x ≠ nm := fun x l hx e => by subst e; rw [hρ] at hx; cases hx
  have hlt : ∀ x l, (M x).isSome = true → ρ x = some l → l.b < w.heap.size := fun x l hx hl => by
    obtain ⟨kx, hkx⟩ := Option.isSome_iff_exists.1 hx
    rcases h.live x kx hkx with ⟨_, a⟩ | ⟨l', a1, _, _, cs, e, a2, _⟩
    · rw [hl] at a; cases a
    · rw [hl] at a1; cases a1; exact lt_of_heap a2
  have m : Moves ρ M w (ρ.put nm ⟨w.heap.size, 0, k.sz, tot⟩) (M.put nm (some k)) (w.alloc (.cells cs e)) := by
    refine ⟨fun x l hx => by rw [Names.put_ne _ _ (hnr x l hx)]; exact hx, by simp, rfl, rfl, rfl, fun b hb _ => Below.heap_alloc _ _ _ hb, fun x l a1 a2 a3 => ?_⟩
    by_cases e : x = nm
    · subst e; rw [Names.put_same] at a2; cases a2; simp at a3
    · rw [Names.put_ne _ _ e] at a2; rw [Mem.put_ne _ _ e] at a1
      exact ⟨x, l, a1, a2, rfl⟩
  refine ⟨h.move m ?_ ?_, m⟩
  · intro x y l l' a1 a2 a3 a4 a5
    by_cases ex : x = nm
    · subst ex
      rw [Names.put_same] at a3; cases a3
      by_cases ey : y = x
      · exact ey.symm
      · rw [Names.put_ne _ _ ey] at a4; rw [Mem.put_ne _ _ ey] at a2
        have := hlt y l' a2 a4
        simp at a5; omega
    · rw [Names.put_ne _ _ ex] at a3; rw [Mem.put_ne _ _ ex] at a1
      have := hlt x l a1 a3
      by_cases ey : y = nm
      · subst ey
        rw [Names.put_same] at a4; cases a4
        simp at a5; omega
      · rw [Names.put_ne _ _ ey] at a4; rw [Mem.put_ne _ _ ey] at a2
        exact h.inj x y l l' a1 a2 a3 a4 a5
  · intro x kx hx
    by_cases ex : x = nm
    · subst ex
      rw [Mem.put_same] at hx; cases hx
      refine .inr (.inr ⟨_, Names.put_same _ _ _, .inr h.size, fun hX => ?_, cs, e, heap_alloc_new w _, rfl, h2, by simpa using h3, h4, fun i j row u hi hj => ?_⟩)
      · have := (h.hX _ hX).1
        have := h.size
        simp at *; omega
      · obtain ⟨cv, c1, c2⟩ := h5 i j row u hi hj
        exact ⟨cv, by simpa using c1, m.is c2⟩
    · rw [Mem.put_ne _ _ ex] at hx
      refine .inl ⟨hx, fun hn => by rw [Names.put_ne _ _ ex]; exact hn, fun lx hlx => Below.heap_alloc _ _ _ (hlt x lx (by rw [hx]; rfl) hlx)⟩
end
end Go.Proofs.Ytdbbnhmnlgfjoaa.Vm
