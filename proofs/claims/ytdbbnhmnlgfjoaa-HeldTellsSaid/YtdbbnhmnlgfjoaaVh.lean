/-
  The machine of plain values: the smaller operations; literals of structs and slices. No program in sight.
-/
import Derived.Test.YtdbbnhmnlgfjoaaVg
import Derived.Great.FillDense
namespace Go.Proofs.Ytdbbnhmnlgfjoaa.Vm
set_option linter.unusedSimpArgs false
set_option linter.unusedVariables false
open Go Go.RowKit

section
variable {P : Program} {G : Nat → V} {X : Nat → Prop} {w0 : World} {I : Nat → Prop} {ρ : Names} {M : Mem} {w : World} {D : Nat → Prop}

def unV (op : UnOp) (x : V) : V := match op, x with
  | .not, .bool b => .bool (!b)
  | .not, .bit t f => .bit f t
  | .neg, .int k n => .int k (k.wrap (0 - n))
  | .xor, .int k n => intBin .xor k (if k.signed then -1 else k.max) n
  | _, _ => .any
def unOk (op : UnOp) (x : V) : Prop := match op, x with
  | .not, .bool _ => True
  | .not, .bit _ _ => True
  | .neg, .int _ _ => True
  | .xor, .int _ _ => True
  | _, _ => False
theorem un_sound (op : UnOp) {x : V} {cx : Value} (hx : Is ρ D w x cx) (hok : unOk op x) : ∃ c, (Op.unary op cx).run P w = .ok c w ∧ Is ρ D w (unV op x) c := by
  cases op <;> cases hx <;> simp only [unOk] at hok <;> try (exact hok.elim)
  · exact ⟨_, by simp only [Op.unary, Op.intArith, Sem.run_pure], .int _ _⟩
  · exact ⟨_, by simp only [Op.unary, Op.intBits, Sem.run_pure], .int _ _⟩
  · exact ⟨_, by simp only [Op.unary, Sem.run_pure], .bool _⟩
  · rename_i b ht hf
    exact ⟨.bool (!b), by simp only [Op.unary, Sem.run_pure], .bit (!b) (fun h => hf (by simpa using h)) (fun h => ht (by simpa using h))⟩

def pickV (c : Bool) (a b : V) : V := match a.strip c, b.strip (!c) with
  | .bool x, .bool y => .bool (if c then x else y)
  | a, b => if c then a else b
theorem pick_sound {c : Bool} {a b : V} {ca cb : Value} (ha : Is ρ D w a ca) (hb : Is ρ D w b cb) : Is ρ D w (pickV c a b) (if c then ca else cb) := by
  have h1 : c = true → Is ρ D w (a.strip c) ca := fun h => ha.strip h
  have h2 : c = false → Is ρ D w (b.strip (!c)) cb := fun h => hb.strip (by simp [h])
  unfold pickV
  split
  · rename_i x y e1 e2
    rw [e1] at h1; rw [e2] at h2
    cases c
    · simpa using h2 rfl
    · simpa using h1 rfl
  · cases c
    · simpa using h2 rfl
    · simpa using h1 rfl

def convIntV (P : Program) (dst : TypeId) (x : V) : V := match P.underlying dst, x with
  | some (.int k), .int _ n => .int k (k.wrap n)
  | _, x => x
def convIntOk (P : Program) (src dst : TypeId) (x : V) : Prop := match P.underlying src, P.underlying dst, x with
  | some (.int _), some (.int _), .int _ _ => True
  | some .string, some .string, .str _ => True
  | _, _, _ => False
theorem conv_sound {src dst : TypeId} {x : V} {cx : Value} (hx : Is ρ D w x cx) (hok : convIntOk P src dst x) : ∃ c, (convert src dst cx).run P w = .ok c w ∧ Is ρ D w (convIntV P dst x) c := by
  unfold convIntOk at hok
  split at hok
  · rename_i k1 k2 k n h1 h2
    cases hx
    refine ⟨.int k2 (k2.wrap n), by simp [convert, run_underlying h1, run_underlying h2, Conv.intToInt], ?_⟩
    simp only [convIntV, h2]
    exact .int _ _
  · rename_i s h1 h2
    cases hx
    refine ⟨.string ⟨s.toArray⟩, by simp [convert, run_underlying h1, run_underlying h2], ?_⟩
    simp only [convIntV, h2]
    exact .str _
  · exact hok.elim

def minmaxV (mx : Bool) : V → V → V
  | .int k a, .int _ b => .int k (if mx then max a b else min a b)
  | _, _ => .any
def minmaxOk : V → V → Prop
  | .int _ _, .int _ _ => True
  | _, _ => False
theorem max_sound {ts : Array TypeId} {t : TypeId} {a b : V} {ca cb : Value} (ha : Is ρ D w a ca) (hb : Is ρ D w b cb) (hok : minmaxOk a b) : ∃ c, (Builtin.max_ ts t #[ca, cb]).run P w = .ok c w ∧ Is ρ D w (minmaxV true a b) c := by
  cases ha <;> cases hb <;> simp only [minmaxOk] at hok
  rename_i k a k' b
  have e : (if b > a then b else a) = max a b := by omega
  refine ⟨.int k (max a b), by simp [Builtin.max_, Builtin.max2, e], ?_⟩
  simp only [minmaxV, if_true]
  exact .int _ _
theorem min_sound {ts : Array TypeId} {t : TypeId} {a b : V} {ca cb : Value} (ha : Is ρ D w a ca) (hb : Is ρ D w b cb) (hok : minmaxOk a b) : ∃ c, (Builtin.min_ ts t #[ca, cb]).run P w = .ok c w ∧ Is ρ D w (minmaxV false a b) c := by
  cases ha <;> cases hb <;> simp only [minmaxOk] at hok
  rename_i k a k' b
  have e : (if b < a then b else a) = min a b := by omega
  refine ⟨.int k (min a b), by simp [Builtin.min_, Builtin.min2, e], ?_⟩
  simp only [minmaxV, Bool.false_eq_true, if_false]
  exact .int _ _

def extractV (i : Nat) : V → V
  | .tup vs => (vs[i]?).getD .any
  | _ => .any
def extractOk (i : Nat) : V → Prop
  | .tup vs => i < vs.length
  | _ => False
theorem extract_sound {i : Nat} {x : V} {cx : Value} (hx : Is ρ D w x cx) (hok : extractOk i x) : ∃ c, (Instr.extract cx i).run P w = .ok c w ∧ Is ρ D w (extractV i x) c := by
  cases hx <;> simp only [extractOk] at hok
  rename_i vs cvs hn hu
  have h : i < cvs.size := by omega
  refine ⟨cvs[i], by simp only [Instr.extract, Array.getElem?_eq_getElem h, Sem.run_pure], ?_⟩
  simp only [extractV, List.getElem?_eq_getElem hok, Option.getD_some]
  exact hu i _ _ (List.getElem?_eq_getElem hok) (Array.getElem?_eq_getElem h)

/-! ### struct and array literals -/
/-- Of a struct or array type: its zero cells, and where each part lies. -/
def shapeT (P : Program) (t : TypeId) : Option (List V × List (Nat × Nat)) :=
  match P.info? t, P.underlying t with
  | some it, some (.struct fs) => match it.zero, fs.toList.mapM (fun f => (P.info? f.type).map fun i => (f.offset, i.size)) with
    | some z, some pl => some (z.cells.toList.map ofV1, pl)
    | _, _ => none
  | some it, some (.array n e) => match it.zero, P.info? e with
    | some z, some ie => some (z.cells.toList.map ofV1, (List.range n).map fun i => (i * ie.size, ie.size))
    | _, _ => none
  | _, _ => none
def buildL (pl : List (Nat × Nat)) (cells : List V) : List (Nat × V) → List V
  | [] => cells
  | (i, v) :: r => buildL pl (spliceL cells ((pl[i]?).getD (0, 0)).1 v.cellsV) r
def buildLOk (pl : List (Nat × Nat)) (n : Nat) : List (Nat × V) → Prop
  | [] => True
  | (i, v) :: r => (match pl[i]? with | some (o, s) => v.cellsV.length = s ∧ o + s ≤ n | none => False) ∧ v.cellsV.all V.one = true ∧ buildLOk pl n r
/-- Cells that read as plain ones. -/
def CellsAre (ρ : Names) (D : Nat → Prop) (w : World) (cells : List V) (cs : Array Value) : Prop := cells.length = cs.size ∧ ∀ (i : Nat) (u : V), cells[i]? = some u → ∃ c, cs[i]? = some c ∧ Is ρ D w u c
theorem CellsAre.splice {cells : List V} {cs : Array Value} (h : CellsAre ρ D w cells cs) {v : V} {cv : Value} (hv : Is ρ D w v cv) (hone : v.cellsV.all V.one = true) {o : Nat} (ho : o + v.cellsV.length ≤ cells.length) :
    CellsAre ρ D w (spliceL cells o v.cellsV) (cv.cells.zipIdx.foldl (fun cs (x : Value × Nat) => cs.setIfInBounds (o + x.2) x.1) cs) := by
  obtain ⟨h1, _, h3⟩ := hv.cells hone
  obtain ⟨g1, g2⟩ := Great.foldl_set o cv.cells.toList 0 cs
  have e : cv.cells.zipIdx.foldl (fun cs (x : Value × Nat) => cs.setIfInBounds (o + x.2) x.1) cs = (cv.cells.toList.zipIdx 0).foldl (fun cs (x : Value × Nat) => cs.setIfInBounds (o + x.2) x.1) cs := by
    rw [← Array.foldl_toList]; simp
  rw [e]
  refine ⟨by rw [spliceL_length ho, g1]; exact h.1, fun i u hi => ?_⟩
  rw [spliceL_get ho] at hi
  rw [g2]
  by_cases q1 : i < o
  · rw [if_pos q1] at hi
    rw [if_neg (by omega)]
    exact h.2 i u hi
  · rw [if_neg q1] at hi
    by_cases q2 : i < o + v.cellsV.length
    · rw [if_pos q2] at hi
      rw [if_pos ⟨by omega, by simp; omega, by have := h.1; omega⟩]
      obtain ⟨c, c1, c2⟩ := h3 _ u hi
      exact ⟨c, by simpa using c1, c2⟩
    · rw [if_neg q2] at hi
      rw [if_neg (by simp; omega)]
      exact h.2 i u hi
theorem fill_sound (pl : List (Nat × Nat)) (place : Nat → Option (Nat × Nat)) (hpl : ∀ i x, pl[i]? = some x → place i = some x) : ∀ (parts : List (Nat × V)) (cparts : List (Nat × Value)) (cells : List V) (cs : Array Value),
    CellsAre ρ D w cells cs → parts.length = cparts.length → (∀ (j : Nat) (a : Nat × V) (b : Nat × Value), parts[j]? = some a → cparts[j]? = some b → a.1 = b.1 ∧ Is ρ D w a.2 b.2) → buildLOk pl cells.length parts →
    ∃ cs', Instr.fill place cs cparts = some cs' ∧ CellsAre ρ D w (buildL pl cells parts) cs'
  | [], [], cells, cs, h, _, _, _ => ⟨cs, rfl, h⟩
  | [], _ :: _, _, _, _, hl, _, _ => by simp at hl
  | _ :: _, [], _, _, _, hl, _, _ => by simp at hl
  | (i, v) :: r, (i', cv) :: cr, cells, cs, h, hl, hp, hok => by
    obtain ⟨e1, hv⟩ := hp 0 (i, v) (i', cv) rfl rfl
    simp only at e1 hv; subst e1
    simp only [buildLOk] at hok
    obtain ⟨hok1, hone, hok2⟩ := hok
    cases hq : pl[i]? with
    | none => rw [hq] at hok1; exact hok1.elim
    | some y =>
      obtain ⟨o, s⟩ := y
      rw [hq] at hok1
      obtain ⟨hs, ho⟩ := hok1
      have hv1 := (hv.cells hone).1
      have hlen : o + v.cellsV.length ≤ cells.length := by omega
      have hsp := h.splice hv hone hlen
      obtain ⟨cs', f1, f2⟩ := fill_sound pl place hpl r cr _ _ hsp (by simpa using hl) (fun j a b ha hb => hp (j + 1) a b (by simpa using ha) (by simpa using hb)) (by rw [spliceL_length hlen]; exact hok2)
      refine ⟨cs', ?_, by simpa only [buildL, hq, Option.getD_some] using f2⟩
      simp only [Instr.fill, hpl i _ hq]
      rw [if_neg (by have := h.1; simp; omega)]
      exact f1
theorem zero_are (z : Value) : CellsAre ρ D w (z.cells.toList.map ofV1) z.cells := by
  refine ⟨by simp, fun i u hi => ?_⟩
  rw [List.getElem?_map] at hi
  obtain ⟨c, h2, rfl⟩ := Option.map_eq_some_iff.1 hi
  exact ⟨c, by simpa using h2, is_ofV1 _ _ _ _⟩
def buildV (P : Program) (t : TypeId) (parts : List (Nat × V)) : V := match shapeT P t with
  | some (z, pl) => .agg (buildL pl z parts)
  | none => .any
def buildOk (P : Program) (t : TypeId) (parts : List (Nat × V)) : Prop := match shapeT P t with
  | some (z, pl) => buildLOk pl z.length parts
  | none => False
theorem build_sound {t : TypeId} {parts : List (Nat × V)} {cparts : Array (Nat × Value)} (hl : parts.length = cparts.size) (hp : ∀ (j : Nat) (a : Nat × V) (b : Nat × Value), parts[j]? = some a → cparts[j]? = some b → a.1 = b.1 ∧ Is ρ D w a.2 b.2)
    (hok : buildOk P t parts) : ∃ c, (Instr.build t cparts).run P w = .ok c w ∧ Is ρ D w (buildV P t parts) c := by
  unfold buildOk at hok
  cases hsh : shapeT P t with
  | none => rw [hsh] at hok; exact hok.elim
  | some y =>
    obtain ⟨z, pl⟩ := y
    rw [hsh] at hok
    have hb : buildV P t parts = .agg (buildL pl z parts) := by simp only [buildV, hsh]
    rw [hb]
    have done : ∀ cells, P.built t cparts.toList = some cells → CellsAre ρ D w (buildL pl z parts) cells → ∃ c, (Instr.build t cparts).run P w = .ok c w ∧ Is ρ D w (.agg (buildL pl z parts)) c := fun cells h1 h2 =>
      ⟨.agg cells, run_build w t cparts cells h1, .agg h2.1 (fun i u cv hi hc => by obtain ⟨c, c1, c2⟩ := h2.2 i u hi; rw [c1] at hc; cases hc; exact c2)⟩
    unfold shapeT at hsh
    split at hsh
    · rename_i it fs hi hu
      split at hsh
      · rename_i zv pl' hz hpl
        simp only [Option.some.injEq, Prod.mk.injEq] at hsh
        obtain ⟨rfl, rfl⟩ := hsh
        obtain ⟨cs', f1, f2⟩ := fill_sound (ρ := ρ) (D := D) (w := w) pl' (fun x => pl'.toArray[x]?) (fun i x h => by simpa using h) parts cparts.toList _ _ (zero_are zv) (by simpa using hl) (fun j a b ha hb => hp j a b ha (by simpa using hb)) hok
        exact done cs' (by simp only [Program.built, hi, hu, hz, hpl]; exact f1) f2
      · cases hsh
    · rename_i it n e hi hu
      split at hsh
      · rename_i zv ie hz hie
        simp only [Option.some.injEq, Prod.mk.injEq] at hsh
        obtain ⟨rfl, rfl⟩ := hsh
        obtain ⟨cs', f1, f2⟩ := fill_sound (ρ := ρ) (D := D) (w := w) ((List.range n).map fun i => (i * ie.size, ie.size)) (fun i => some (i * ie.size, ie.size)) (fun i x h => by
          rw [List.getElem?_map] at h
          obtain ⟨y, h1, rfl⟩ := Option.map_eq_some_iff.1 h
          have := (List.getElem?_eq_some_iff.1 h1).2
          simp at this
          rw [this]) parts cparts.toList _ _ (zero_are zv) (by simpa using hl) (fun j a b ha hb => hp j a b ha (by simpa using hb)) hok
        exact done cs' (by simp only [Program.built, hi, hu, hz, hie]; exact f1) f2
      · cases hsh
    · cases hsh
end
end Go.Proofs.Ytdbbnhmnlgfjoaa.Vm
