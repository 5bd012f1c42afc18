/-
  A machine of plain values beside the model: what a value is taken for, and how that lies in memory. No program in sight.
-/
import Derived.WalkKit
import Derived.Below
import Derived.Orders
import Derived.Deep.LoopGhost
namespace Go.Proofs.Ytdbbnhmnlgfjoaa.Vm
set_option linter.unusedSimpArgs false
set_option linter.unusedVariables false
open Go Go.RowKit

/-- What a value is taken for. 'ptr': a cell of a block of the call's own, by its name, row and place; 'rp': a pointer at cells that nobody writes; 'sl': a slice whose elements nobody writes ('tight': its capacity is its length); 'own': a slice in a block of the call's own; 'gd': known where the Bool is true; 'bit': some Bool, true only if t, false only if f. -/
inductive V where
  | any
  | bool (b : Bool)
  | bit (t f : Bool)
  | int (k : IntKind) (n : Int)
  | str (s : List UInt8)
  | nilp
  | ptr (nm i j : Nat)
  | rp (cells : List V)
  | nils
  | sl (tight : Bool) (sz : Nat) (rows : List (List V))
  | own (nm lo n : Nat)
  | fn (f : Nat) (caps : List V)
  | agg (cells : List V)
  | tup (vs : List V)
  | gd (b : Bool) (v : V)
  | val (v : Value)
  deriving Inhabited

/-- Where a block of the call's own lies: block, first cell, cells of a row, how many rows it has room for. -/
structure Loc where
  b : Nat
  o : Nat
  sz : Nat
  tot : Nat

inductive Is (ρ : Nat → Option Loc) (D : Nat → Prop) (w : World) : V → Value → Prop
  | any (cv : Value) : Is ρ D w .any cv
  | bool (b : Bool) : Is ρ D w (.bool b) (.bool b)
  | bit {t f : Bool} (b : Bool) (ht : b = true → t = true) (hf : b = false → f = true) : Is ρ D w (.bit t f) (.bool b)
  | int (k : IntKind) (n : Int) : Is ρ D w (.int k n) (.int k n)
  | str (s : List UInt8) : Is ρ D w (.str s) (.string ⟨s.toArray⟩)
  | nilp : Is ρ D w .nilp (.pointer none)
  | ptr {nm i j : Nat} {l : Loc} (h : ρ nm = some l) : Is ρ D w (.ptr nm i j) (.pointer (some ⟨l.b, l.o + i * l.sz + j, none⟩))
  | rp {cells : List V} {b o : Nat} (cv : Nat → Value) (hD : ¬ D b) (hb : b < w.heap.size) (hc : ∀ (j : Nat) (u : V), cells[j]? = some u → w.cell? ⟨b, o + j, none⟩ = some (cv j))
      (hu : ∀ (j : Nat) (u : V), cells[j]? = some u → Is ρ D w u (cv j)) : Is ρ D w (.rp cells) (.pointer (some ⟨b, o, none⟩))
  | nils : Is ρ D w .nils (.slice none 0 0)
  | sl0 {t : Bool} {sz : Nat} {A : Option Addr} {c : Nat} (ht : t = true → c = 0) : Is ρ D w (.sl t sz []) (.slice A 0 c)
  | sl {t : Bool} {sz : Nat} {rows : List (List V)} {b o c : Nat} (cv : Nat → Nat → Value) (hc : rows.length ≤ c) (ht : t = true → c = rows.length) (hD : ¬ D b) (hb : b < w.heap.size)
      (hr : ∀ (i : Nat) (row : List V), rows[i]? = some row → row.length = sz)
      (hx : ∀ (i j : Nat) (row : List V) (u : V), rows[i]? = some row → row[j]? = some u → w.cell? ⟨b, o + i * sz + j, none⟩ = some (cv i j))
      (hu : ∀ (i j : Nat) (row : List V) (u : V), rows[i]? = some row → row[j]? = some u → Is ρ D w u (cv i j)) : Is ρ D w (.sl t sz rows) (.slice (some ⟨b, o, none⟩) rows.length c)
  | own0 {nm lo : Nat} {A : Option Addr} : Is ρ D w (.own nm lo 0) (.slice A 0 0)
  | own {nm lo n c : Nat} {l : Loc} (h : ρ nm = some l) (hl : lo + c ≤ l.tot) (hc : n ≤ c) : Is ρ D w (.own nm lo n) (.slice (some ⟨l.b, l.o + lo * l.sz, none⟩) n c)
  | fn {f : Nat} {caps : List V} {cvs : Array Value} (hn : caps.length = cvs.size) (hu : ∀ (i : Nat) (u : V) (cv : Value), caps[i]? = some u → cvs[i]? = some cv → Is ρ D w u cv) : Is ρ D w (.fn f caps) (.func (.func f) #[] cvs)
  | agg {cells : List V} {cvs : Array Value} (hn : cells.length = cvs.size) (hu : ∀ (i : Nat) (u : V) (cv : Value), cells[i]? = some u → cvs[i]? = some cv → Is ρ D w u cv) : Is ρ D w (.agg cells) (.agg cvs)
  | tup {cells : List V} {cvs : Array Value} (hn : cells.length = cvs.size) (hu : ∀ (i : Nat) (u : V) (cv : Value), cells[i]? = some u → cvs[i]? = some cv → Is ρ D w u cv) : Is ρ D w (.tup cells) (.tuple cvs)
  | gd {b : Bool} {v : V} {cv : Value} (h : b = true → Is ρ D w v cv) : Is ρ D w (.gd b v) cv
  | val (v : Value) : Is ρ D w (.val v) v

/-- What holds of a value goes on to hold where names are added, and nothing is written but blocks of the call's own. -/
theorem Is.step {ρ ρ' : Nat → Option Loc} {D D' : Nat → Prop} {w w' : World} (hρ : ∀ nm l, ρ nm = some l → ρ' nm = some l) (hs : w.heap.size ≤ w'.heap.size)
    (hk : ∀ b, b < w.heap.size → ¬ D b → w'.heap[b]? = w.heap[b]?) (hD : ∀ b, b < w.heap.size → D' b → D b) {v : V} {cv : Value} (h : Is ρ D w v cv) : Is ρ' D' w' v cv := by
  induction h with
  | any cv => exact .any _
  | bool b => exact .bool _
  | bit b ht hf => exact .bit b ht hf
  | int k n => exact .int _ _
  | str s => exact .str _
  | nilp => exact .nilp
  | ptr h => exact .ptr (hρ _ _ h)
  | rp cv hd hb hc _ ih => exact .rp cv (fun h => hd (hD _ hb h)) (Nat.lt_of_lt_of_le hb hs) (fun j u hj => (World.cell?_of_block (w := w) (hk _ hb hd)).trans (hc j u hj)) ih
  | nils => exact .nils
  | sl0 ht => exact .sl0 ht
  | sl cv hc ht hd hb hr hx _ ih => exact .sl cv hc ht (fun h => hd (hD _ hb h)) (Nat.lt_of_lt_of_le hb hs) hr (fun i j row u hi hj => (World.cell?_of_block (w := w) (hk _ hb hd)).trans (hx i j row u hi hj)) ih
  | own0 => exact .own0
  | own h hl hc => exact .own (hρ _ _ h) hl hc
  | fn hn _ ih => exact .fn hn ih
  | agg hn _ ih => exact .agg hn ih
  | tup hn _ ih => exact .tup hn ih
  | gd _ ih => exact .gd ih
  | val v => exact .val _

/-- A block of the call's own: rows of cells. -/
structure Blk where
  sz : Nat
  rows : List (List V)
abbrev Mem := Nat → Option Blk
abbrev Names := Nat → Option Loc
/-- The blocks that somebody owns: X is what callers own. -/
def Dom (X : Nat → Prop) (ρ : Names) (M : Mem) (b : Nat) : Prop := X b ∨ ∃ nm l, (M nm).isSome = true ∧ ρ nm = some l ∧ l.b = b
/-- The block lies there. -/
def BlkAt (ρ : Names) (D : Nat → Prop) (w : World) (l : Loc) (k : Blk) : Prop :=
  ∃ cs e, w.heap[l.b]? = some (.cells cs e (0, 0)) ∧ k.sz = l.sz ∧ k.rows.length ≤ l.tot ∧ l.o + l.tot * l.sz ≤ cs.size ∧ (∀ (i : Nat) (row : List V), k.rows[i]? = some row → row.length = l.sz) ∧
    ∀ (i j : Nat) (row : List V) (u : V), k.rows[i]? = some row → row[j]? = some u → ∃ cv, cs[l.o + i * l.sz + j]? = some cv ∧ Is ρ D w u cv

/-- How the machine's memory M lies in the world w. w0: the world as the call began; I: blocks of w0 that the call was given to write; G: what package variables are taken for. -/
structure Rel (G : Nat → V) (X : Nat → Prop) (w0 : World) (I : Nat → Prop) (ρ : Names) (M : Mem) (w : World) : Prop where
  size : w0.heap.size ≤ w.heap.size
  os : w.os = w0.os
  tape : w.tape = w0.tape
  output : w.output = w0.output
  old : ∀ b, b < w0.heap.size → ¬ I b → w.heap[b]? = w0.heap[b]?
  live : ∀ nm k, M nm = some k → (k.rows = [] ∧ ρ nm = none) ∨ ∃ l, ρ nm = some l ∧ (I l.b ∨ w0.heap.size ≤ l.b) ∧ ¬ X l.b ∧ BlkAt ρ (Dom X ρ M) w l k
  inj : ∀ nm nm' l l', (M nm).isSome = true → (M nm').isSome = true → ρ nm = some l → ρ nm' = some l' → l.b = l'.b → nm = nm'
  hX : ∀ b, X b → b < w0.heap.size ∧ ¬ I b
  glob : ∀ g, Is ρ (Dom X ρ M) w (G g) (.pointer (some ⟨g, 0, none⟩))

theorem lt_of_heap {w : World} {b : Nat} {o : Obj} (h : w.heap[b]? = some o) : b < w.heap.size := by
  rcases Nat.lt_or_ge b w.heap.size with h' | h'
  · exact h'
  · simp [Array.getElem?_eq_none h'] at h

/-- A step of the world: names may be added, blocks of the call's own written, new blocks laid. -/
structure Moves (ρ : Names) (M : Mem) (w : World) (ρ' : Names) (M' : Mem) (w' : World) : Prop where
  names : ∀ nm l, ρ nm = some l → ρ' nm = some l
  size : w.heap.size ≤ w'.heap.size
  os : w'.os = w.os
  tape : w'.tape = w.tape
  output : w'.output = w.output
  kept : ∀ b, b < w.heap.size → (∀ nm l, (M nm).isSome = true → ρ nm = some l → l.b ≠ b) → w'.heap[b]? = w.heap[b]?
  dom : ∀ nm l, (M' nm).isSome = true → ρ' nm = some l → l.b < w.heap.size → ∃ nm' l', (M nm').isSome = true ∧ ρ nm' = some l' ∧ l'.b = l.b

section
variable {G : Nat → V} {X : Nat → Prop} {w0 : World} {I : Nat → Prop} {ρ ρ' : Names} {M M' : Mem} {w w' : World}
theorem Moves.is (m : Moves ρ M w ρ' M' w') {v : V} {cv : Value} (h : Is ρ (Dom X ρ M) w v cv) : Is ρ' (Dom X ρ' M') w' v cv := by
  refine h.step m.names m.size (fun b hb hd => m.kept b hb (fun nm l h1 h2 h3 => hd (.inr ⟨nm, l, h1, h2, h3⟩))) ?_
  rintro b hb (hx | ⟨nm, l, h1, h2, h3⟩)
  · exact .inl hx
  · subst h3
    obtain ⟨nm', l', k1, k2, k3⟩ := m.dom nm l h1 h2 hb
    exact .inr ⟨nm', l', k1, k2, k3⟩
theorem Rel.move (h : Rel G X w0 I ρ M w) (m : Moves ρ M w ρ' M' w')
    (hinj : ∀ nm nm' l l', (M' nm).isSome = true → (M' nm').isSome = true → ρ' nm = some l → ρ' nm' = some l' → l.b = l'.b → nm = nm')
    (hl : ∀ nm k, M' nm = some k → (M nm = some k ∧ (ρ nm = none → ρ' nm = none) ∧ ∀ l, ρ nm = some l → w'.heap[l.b]? = w.heap[l.b]?) ∨ (k.rows = [] ∧ ρ' nm = none) ∨
      ∃ l, ρ' nm = some l ∧ (I l.b ∨ w0.heap.size ≤ l.b) ∧ ¬ X l.b ∧ BlkAt ρ' (Dom X ρ' M') w' l k) : Rel G X w0 I ρ' M' w' where
  size := Nat.le_trans h.size m.size
  os := m.os.trans h.os
  tape := m.tape.trans h.tape
  output := m.output.trans h.output
  old := fun b hb hI => by
    rw [m.kept b (Nat.lt_of_lt_of_le hb h.size), h.old b hb hI]
    rintro nm l h1 h2 rfl
    obtain ⟨k, hk⟩ := Option.isSome_iff_exists.1 h1
    rcases h.live nm k hk with ⟨_, h3⟩ | ⟨l', h3, h4, _⟩
    · rw [h2] at h3; cases h3
    · rw [h2] at h3; cases h3
      rcases h4 with h4 | h4
      · exact hI h4
      · omega
  live := fun nm k hk => by
    rcases hl nm k hk with ⟨h1, h2, h3⟩ | h1 | h1
    · rcases h.live nm k h1 with ⟨h4, h5⟩ | ⟨l, h4, h5, h6, cs, e, h7, h8, h9, h10, h11, h12⟩
      · exact .inl ⟨h4, h2 h5⟩
      · refine .inr ⟨l, m.names _ _ h4, h5, h6, cs, e, (h3 l h4).trans h7, h8, h9, h10, h11, fun i j row u hi hj => ?_⟩
        obtain ⟨cv, h13, h14⟩ := h12 i j row u hi hj
        exact ⟨cv, h13, m.is h14⟩
    · exact .inl h1
    · exact .inr h1
  inj := hinj
  hX := h.hX
  glob := fun g => m.is (h.glob g)

/-- Names are dropped. -/
theorem Rel.drop (h : Rel G X w0 I ρ M w) (hM : ∀ nm k, M' nm = some k → M nm = some k) : Rel G X w0 I ρ M' w ∧ Moves ρ M w ρ M' w := by
  have hs : ∀ nm, (M' nm).isSome = true → (M nm).isSome = true := fun nm hn => by
    obtain ⟨k, hk⟩ := Option.isSome_iff_exists.1 hn
    rw [hM nm k hk]; rfl
  have m : Moves ρ M w ρ M' w := ⟨fun _ _ h => h, Nat.le_refl _, rfl, rfl, rfl, fun _ _ _ => rfl, fun nm l h1 h2 _ => ⟨nm, l, hs nm h1, h2, rfl⟩⟩
  exact ⟨h.move m (fun nm nm' l l' h1 h2 h3 h4 h5 => h.inj nm nm' l l' (hs _ h1) (hs _ h2) h3 h4 h5) (fun nm k hk => .inl ⟨hM nm k hk, id, fun _ _ => rfl⟩), m⟩
/-- The tape is asked. -/
theorem Rel.draw (h : Rel G X w0 I ρ M w) (n : Nat) : Rel G X w0 I ρ M { w with drawn := n } ∧ Moves ρ M w ρ M { w with drawn := n } := by
  have m : Moves ρ M w ρ M { w with drawn := n } := ⟨fun _ _ h => h, Nat.le_refl _, rfl, rfl, rfl, fun _ _ _ => rfl, fun nm l h1 h2 _ => ⟨nm, l, h1, h2, rfl⟩⟩
  exact ⟨h.move m h.inj (fun nm k hk => .inl ⟨hk, id, fun _ _ => rfl⟩), m⟩
end
theorem Moves.refl (ρ : Names) (M : Mem) (w : World) : Moves ρ M w ρ M w := ⟨fun _ _ h => h, Nat.le_refl _, rfl, rfl, rfl, fun _ _ _ => rfl, fun nm l h1 h2 _ => ⟨nm, l, h1, h2, rfl⟩⟩
theorem Moves.trans {ρ ρ' ρ'' : Names} {M M' M'' : Mem} {w w' w'' : World} (a : Moves ρ M w ρ' M' w') (b : Moves ρ' M' w' ρ'' M'' w'') : Moves ρ M w ρ'' M'' w'' where
  names := fun nm l h => b.names _ _ (a.names _ _ h)
  size := Nat.le_trans a.size b.size
  os := b.os.trans a.os
  tape := b.tape.trans a.tape
  output := b.output.trans a.output
  kept := fun k hk h => by
    rw [b.kept k (Nat.lt_of_lt_of_le hk a.size), a.kept k hk h]
    rintro nm l h1 h2 rfl
    obtain ⟨nm', l', k1, k2, k3⟩ := a.dom nm l h1 h2 hk
    exact h nm' l' k1 k2 k3
  dom := fun nm l h1 h2 h3 => by
    obtain ⟨nm', l', k1, k2, k3⟩ := b.dom nm l h1 h2 (Nat.lt_of_lt_of_le h3 a.size)
    obtain ⟨n2, l2, j1, j2, j3⟩ := a.dom nm' l' k1 k2 (by rw [k3]; exact h3)
    exact ⟨n2, l2, j1, j2, j3.trans k3⟩
end Go.Proofs.Ytdbbnhmnlgfjoaa.Vm
