/-
  The machine of plain values: from a function's code to its contract. No program in sight.
-/
import Derived.Test.YtdbbnhmnlgfjoaaVy
namespace Go.Proofs.Ytdbbnhmnlgfjoaa.Vm
set_option linter.unusedSimpArgs false
set_option linter.unusedVariables false
open Go Go.RowKit

mutual
/-- No name stands in it: it holds whatever becomes of the call's own blocks. -/
def V.plain : V → Bool
  | .ptr _ _ _ | .own _ _ _ => false
  | .rp cs => plainL cs
  | .sl _ _ rows => plainLL rows
  | .fn _ cs => plainL cs
  | .agg cs => plainL cs
  | .tup cs => plainL cs
  | .gd _ v => v.plain
  | _ => true
def plainL : List V → Bool
  | [] => true
  | v :: r => v.plain && plainL r
def plainLL : List (List V) → Bool
  | [] => true
  | r :: rs => plainL r && plainLL rs
end
theorem plainL_all (l : List V) : plainL l = l.all V.plain := by
  induction l with
  | nil => simp [plainL]
  | cons v r ih => simp [plainL, ih]
theorem plainLL_all (l : List (List V)) : plainLL l = l.all plainL := by
  induction l with
  | nil => simp [plainLL]
  | cons v r ih => simp [plainLL, ih]
theorem plainL_get {l : List V} (h : plainL l = true) {i : Nat} {u : V} (hi : l[i]? = some u) : u.plain = true := by
  rw [plainL_all, List.all_eq_true] at h
  exact h u (List.mem_of_getElem? hi)
theorem plainLL_get {l : List (List V)} (h : plainLL l = true) {i : Nat} {u : List V} (hi : l[i]? = some u) : plainL u = true := by
  rw [plainLL_all, List.all_eq_true] at h
  exact h u (List.mem_of_getElem? hi)
theorem Is.plain {ρ ρ' : Names} {D D' : Nat → Prop} {w w' : World} (hs : w.heap.size ≤ w'.heap.size) (hk : ∀ b, b < w.heap.size → ¬ D b → w'.heap[b]? = w.heap[b]?) (hD : ∀ b, b < w.heap.size → D' b → D b) {v : V} {cv : Value} (h : Is ρ D w v cv) (hp : v.plain = true) : Is ρ' D' w' v cv := by
  induction h with
  | any cv => exact .any _
  | bool b => exact .bool _
  | bit b ht hf => exact .bit b ht hf
  | int k n => exact .int _ _
  | str s => exact .str _
  | nilp => exact .nilp
  | ptr h => simp [V.plain] at hp
  | rp cv hd hb hc _ ih => exact .rp cv (fun h => hd (hD _ hb h)) (Nat.lt_of_lt_of_le hb hs) (fun j u hj => (World.cell?_of_block (w := w) (hk _ hb hd)).trans (hc j u hj)) (fun j u hj => ih j u hj (plainL_get (by simpa [V.plain] using hp) hj))
  | nils => exact .nils
  | sl0 ht => exact .sl0 ht
  | sl cv hc ht hd hb hr hx _ ih =>
    exact .sl cv hc ht (fun h => hd (hD _ hb h)) (Nat.lt_of_lt_of_le hb hs) hr (fun i j row u hi hj => (World.cell?_of_block (w := w) (hk _ hb hd)).trans (hx i j row u hi hj)) (fun i j row u hi hj => ih i j row u hi hj (plainL_get (plainLL_get (by simpa [V.plain] using hp) hi) hj))
  | own0 => simp [V.plain] at hp
  | own h hl hc => simp [V.plain] at hp
  | fn hn _ ih => exact .fn hn (fun i u cv hi hc => ih i u cv hi hc (plainL_get (by simpa [V.plain] using hp) hi))
  | agg hn _ ih => exact .agg hn (fun i u cv hi hc => ih i u cv hi hc (plainL_get (by simpa [V.plain] using hp) hi))
  | tup hn _ ih => exact .tup hn (fun i u cv hi hc => ih i u cv hi hc (plainL_get (by simpa [V.plain] using hp) hi))
  | gd _ ih => exact .gd (fun hb => ih hb (by simpa [V.plain] using hp))
  | val v => exact .val _

/-- The name under which a block goes on. -/
def newName (σ : List (Nat × Nat)) (nm : Nat) : Option Nat := (σ.find? (fun p => p.1 == nm)).map (·.2)
mutual
/-- A value as it is handed back: what goes on under a name, under that name; the rest as what nobody writes. -/
def V.fin (σ : List (Nat × Nat)) (M : Mem) : V → V
  | .own nm lo n => match newName σ nm with | some y => .own y lo n | none => .sl false (szOf M nm) (((rowsOf M nm).drop lo).take n)
  | .ptr nm i j => match newName σ nm with | some y => .ptr y i j | none => .rp ((rowOf M nm i).drop j)
  | .agg cs => .agg (finL σ M cs)
  | .tup cs => .tup (finL σ M cs)
  | .gd b v => .gd b (v.fin σ M)
  | v => v
def finL (σ : List (Nat × Nat)) (M : Mem) : List V → List V
  | [] => []
  | v :: r => v.fin σ M :: finL σ M r
end
mutual
def V.finOk (σ : List (Nat × Nat)) (M : Mem) : V → Prop
  | .own nm lo n => newName σ nm = none → (n = 0 ∨ (M nm).isSome = true ∧ lo + n ≤ (rowsOf M nm).length) ∧ plainLL (((rowsOf M nm).drop lo).take n) = true
  | .ptr nm i j => newName σ nm = none → (M nm).isSome = true ∧ plainL ((rowOf M nm i).drop j) = true
  | .agg cs => finLOk σ M cs
  | .tup cs => finLOk σ M cs
  | .gd _ v => v.finOk σ M
  | .rp cs => plainL cs = true
  | .sl _ _ rows => plainLL rows = true
  | .fn _ cs => plainL cs = true
  | _ => True
def finLOk (σ : List (Nat × Nat)) (M : Mem) : List V → Prop
  | [] => True
  | v :: r => v.finOk σ M ∧ finLOk σ M r
end
theorem finL_get {σ : List (Nat × Nat)} {M : Mem} {l : List V} {i : Nat} : (finL σ M l)[i]? = (l[i]?).map (V.fin σ M) := by
  induction l generalizing i with
  | nil => simp [finL]
  | cons v r ih => cases i <;> simp [finL, ih]
theorem finL_length {σ : List (Nat × Nat)} {M : Mem} {l : List V} : (finL σ M l).length = l.length := by
  induction l with
  | nil => simp [finL]
  | cons v r ih => simp [finL, ih]
theorem finLOk_get {σ : List (Nat × Nat)} {M : Mem} {l : List V} (h : finLOk σ M l) {i : Nat} {u : V} (hi : l[i]? = some u) : u.finOk σ M := by
  induction l generalizing i with
  | nil => simp at hi
  | cons v r ih =>
    simp only [finLOk] at h
    cases i with
    | zero => simp at hi; subst hi; exact h.1
    | succ i => exact ih h.2 (by simpa using hi)
section
variable {cx : Cx} {N : Nat} {X : Nat → Prop} {w0 : World} {I : Nat → Prop} {ρ ρ' : Names} {M : Mem} {w : World}
theorem fin_is (h : Rel cx.G X w0 I ρ M w) {σ : List (Nat × Nat)} {D' : Nat → Prop} (hσ : ∀ nm y, newName σ nm = some y → ρ' y = ρ nm) (hD : ∀ b, D' b → Dom X ρ M b) (hout : ∀ nm l, newName σ nm = none → (M nm).isSome = true → ρ nm = some l → ¬ D' l.b)
    {v : V} {cv : Value} (hv : Is ρ (Dom X ρ M) w v cv) (hok : v.finOk σ M) : Is ρ' D' w (v.fin σ M) cv := by
  have pl : ∀ {u : V} {c : Value}, Is ρ (Dom X ρ M) w u c → u.plain = true → Is ρ' D' w u c := fun hu hp => hu.plain (Nat.le_refl _) (fun _ _ _ => rfl) (fun b _ hb => hD b hb) hp
  have hcv := hv
  induction hv with
  | any cv => exact .any _
  | bool b => exact .bool _
  | bit b ht hf => exact .bit b ht hf
  | int k n => exact .int _ _
  | str s => exact .str _
  | nilp => exact .nilp
  | nils => exact .nils
  | val v => exact .val _
  | rp cv hd hb hc hu ih => simp only [V.finOk] at hok; simp only [V.fin]; exact pl hcv (by simpa [V.plain] using hok)
  | sl0 ht => exact .sl0 ht
  | sl cv hc ht hd hb hr hx hu ih => simp only [V.finOk] at hok; simp only [V.fin]; exact pl hcv (by simpa [V.plain] using hok)
  | fn hn hu ih => simp only [V.finOk] at hok; simp only [V.fin]; exact pl hcv (by simpa [V.plain] using hok)
  | agg hn hu ih =>
    simp only [V.finOk] at hok
    simp only [V.fin]
    refine .agg (by rw [finL_length]; exact hn) (fun i u cv hi hc => ?_)
    rw [finL_get] at hi
    obtain ⟨u', h1, rfl⟩ := Option.map_eq_some_iff.1 hi
    exact ih i u' cv h1 hc (finLOk_get hok h1) (hu i u' cv h1 hc)
  | tup hn hu ih =>
    simp only [V.finOk] at hok
    simp only [V.fin]
    refine .tup (by rw [finL_length]; exact hn) (fun i u cv hi hc => ?_)
    rw [finL_get] at hi
    obtain ⟨u', h1, rfl⟩ := Option.map_eq_some_iff.1 hi
    exact ih i u' cv h1 hc (finLOk_get hok h1) (hu i u' cv h1 hc)
  | gd hg ih =>
    simp only [V.finOk] at hok
    simp only [V.fin]
    exact .gd (fun hb => ih hb hok (hg hb))
  | ptr hl =>
    rename_i nm i j l
    simp only [V.finOk] at hok
    simp only [V.fin]
    cases hn : newName σ nm with
    | some y => exact .ptr (by rw [hσ nm y hn]; exact hl)
    | none =>
      obtain ⟨hM, hp⟩ := hok hn
      obtain ⟨k, hk⟩ := Option.isSome_iff_exists.1 hM
      obtain ⟨b, o, hb, hc⟩ := h.target hcv rfl
      cases hb
      have hbl := h.block_lt hM hl
      refine .rp (fun j' => (w.cell? ⟨l.b, l.o + i * l.sz + j + j', none⟩).getD undef) (hout nm l hn hM hl) hbl.1 (fun j' u hj => ?_) (fun j' u hj => ?_)
      · obtain ⟨c, c1, _⟩ := hc j' u hj
        rw [c1]; rfl
      · obtain ⟨c, c1, c2⟩ := hc j' u hj
        rw [c1]
        exact pl c2 (plainL_get hp hj)
  | own0 =>
    rename_i nm lo A
    simp only [V.fin]
    cases hn : newName σ nm with
    | some y => exact .own0
    | none =>
      simp only [List.take_zero]
      exact .sl0 (fun h => by cases h)
  | own hl hlc hnc =>
    rename_i nm lo n c l
    simp only [V.finOk] at hok
    simp only [V.fin]
    cases hn : newName σ nm with
    | some y => exact .own (by rw [hσ nm y hn]; exact hl) hlc hnc
    | none =>
      obtain ⟨h0, hp⟩ := hok hn
      rcases Nat.eq_zero_or_pos n with rfl | hpos
      · simp only [List.take_zero]
        exact .sl0 (fun h => by cases h)
      · rcases h0 with rfl | ⟨hM, hle⟩
        · omega
        · obtain ⟨k, hk⟩ := Option.isSome_iff_exists.1 hM
          have hro : rowsOf M nm = k.rows := by rw [rowsOf, hk]
          have hsz : szOf M nm = k.sz := by rw [szOf, hk]
          have hbl := h.block_lt hM hl
          rw [hro] at hle hp ⊢
          rw [hsz]
          rcases h.live nm k hk with ⟨_, a2⟩ | ⟨l2, a1, _, _, cs, e, a4, a5, a6, a7, a8, a9⟩
          · rw [hl] at a2; cases a2
          · rw [hl] at a1; cases a1
            have hg : ∀ (i : Nat) (row : List V), ((k.rows.drop lo).take n)[i]? = some row → k.rows[lo + i]? = some row := fun i row hi => by
              rw [List.getElem?_take] at hi
              split at hi
              · rwa [List.getElem?_drop] at hi
              · cases hi
            have hlen : ((k.rows.drop lo).take n).length = n := by simp; omega
            have hcell : ∀ (i j : Nat) (row : List V) (u : V), ((k.rows.drop lo).take n)[i]? = some row → row[j]? = some u → ∃ c, w.cell? ⟨l.b, l.o + lo * l.sz + i * l.sz + j, none⟩ = some c ∧ Is ρ (Dom X ρ M) w u c := fun i j row u hi hj => by
              obtain ⟨c', c1, c2⟩ := a9 _ j row u (hg i row hi) hj
              refine ⟨c', ?_, c2⟩
              rw [cell_of_row w l.b _ cs e _ a4, ← c1]
              congr 1
              rw [Nat.add_mul]; omega
            have := Is.sl (ρ := ρ') (D := D') (w := w) (t := false) (sz := k.sz) (rows := (k.rows.drop lo).take n) (b := l.b) (o := l.o + lo * l.sz) (c := c) (fun i j => (w.cell? ⟨l.b, l.o + lo * l.sz + i * l.sz + j, none⟩).getD undef) (by rw [hlen]; exact hnc) (fun h => by cases h) (hout nm l hn hM hl) hbl.1
              (fun i row hi => by rw [a5]; exact a8 _ row (hg i row hi)) (fun i j row u hi hj => by
                obtain ⟨c', c1, _⟩ := hcell i j row u hi hj
                rw [a5, c1]; rfl) (fun i j row u hi hj => by
                obtain ⟨c', c1, c2⟩ := hcell i j row u hi hj
                rw [c1]
                exact pl c2 (plainL_get (plainLL_get hp hi) hj))
            rwa [hlen] at this
end
/-! ### saying less of a value -/
mutual
/-- What u says of a value holds where v does. -/
def V.le : V → V → Prop
  | .nils, .own _ _ n => n = 0
  | .nils, .sl _ _ rows => rows = []
  | .agg xs, .agg ys => leL xs ys
  | .tup xs, .tup ys => leL xs ys
  | v, u => v = u
def leL : List V → List V → Prop
  | [], [] => True
  | x :: xs, y :: ys => x.le y ∧ leL xs ys
  | _, _ => False
end
theorem leL_get : ∀ {xs ys : List V}, leL xs ys → xs.length = ys.length ∧ ∀ (i : Nat) (u : V), ys[i]? = some u → ∃ v, xs[i]? = some v ∧ v.le u
  | [], [], _ => ⟨rfl, fun i u h => by simp at h⟩
  | x :: xs, y :: ys, h => by
    simp only [leL] at h
    obtain ⟨h1, h2⟩ := leL_get h.2
    refine ⟨by simp [h1], fun i u hu => ?_⟩
    cases i with
    | zero => simp at hu; subst hu; exact ⟨x, rfl, h.1⟩
    | succ i => exact h2 i u (by simpa using hu)
  | [], _ :: _, h => by simp [leL] at h
  | _ :: _, [], h => by simp [leL] at h
/-- Neither a nil slice nor a pack. -/
def V.solo : V → Bool
  | .nils | .agg _ | .tup _ => false
  | _ => true
theorem V.le_solo {v u : V} (h : v.solo = true) : v.le u ↔ v = u := by
  cases v <;> first | (simp [V.solo] at h; done) | simp only [V.le]
theorem Is.le {ρ : Names} {D : Nat → Prop} {w : World} {v : V} {cv : Value} (h : Is ρ D w v cv) : ∀ u : V, v.le u → Is ρ D w u cv := by
  have hcv := h
  induction h with
  | nils =>
    intro u hu
    cases u <;> simp only [V.le] at hu <;> try (cases hu; done)
    · exact hcv
    · subst hu; exact .sl0 (fun _ => rfl)
    · subst hu; exact .own0
  | agg hn hc ih =>
    intro u hu
    cases u <;> simp only [V.le] at hu <;> try (cases hu; done)
    obtain ⟨h1, h2⟩ := leL_get hu
    refine .agg (by omega) (fun i u cv hi hj => ?_)
    obtain ⟨v, h3, h4⟩ := h2 i u hi
    exact ih i v cv h3 hj (hc i v cv h3 hj) u h4
  | tup hn hc ih =>
    intro u hu
    cases u <;> simp only [V.le] at hu <;> try (cases hu; done)
    obtain ⟨h1, h2⟩ := leL_get hu
    refine .tup (by omega) (fun i u cv hi hj => ?_)
    obtain ⟨v, h3, h4⟩ := h2 i u hi
    exact ih i v cv h3 hj (hc i v cv h3 hj) u h4
  | _ => intro u hu; rw [V.le_solo rfl] at hu; subst hu; exact hcv
theorem le_nils : V.le .nils .nils = True := eq_true (by simp only [V.le])
theorem le_nils_own (y lo n : Nat) : V.le .nils (.own y lo n) = (n = 0) := by simp only [V.le]
theorem le_nils_sl (t : Bool) (s : Nat) (rows : List (List V)) : V.le .nils (.sl t s rows) = (rows = []) := by simp only [V.le]
theorem le_agg (xs ys : List V) : V.le (.agg xs) (.agg ys) = leL xs ys := by simp only [V.le]
theorem le_tup (xs ys : List V) : V.le (.tup xs) (.tup ys) = leL xs ys := by simp only [V.le]
theorem le_bool (b : Bool) (u : V) : V.le (.bool b) u = (.bool b = u) := propext (V.le_solo rfl)
theorem le_bit (b c : Bool) (u : V) : V.le (.bit b c) u = (.bit b c = u) := propext (V.le_solo rfl)
theorem le_int (k : IntKind) (n : Int) (u : V) : V.le (.int k n) u = (.int k n = u) := propext (V.le_solo rfl)
theorem le_str (s : List UInt8) (u : V) : V.le (.str s) u = (.str s = u) := propext (V.le_solo rfl)
theorem le_nilp (u : V) : V.le .nilp u = (.nilp = u) := propext (V.le_solo rfl)
theorem le_any (u : V) : V.le .any u = (.any = u) := propext (V.le_solo rfl)
theorem le_ptr (a b c : Nat) (u : V) : V.le (.ptr a b c) u = (.ptr a b c = u) := propext (V.le_solo rfl)
theorem le_rp (l : List V) (u : V) : V.le (.rp l) u = (.rp l = u) := propext (V.le_solo rfl)
theorem le_sl (t : Bool) (s : Nat) (l : List (List V)) (u : V) : V.le (.sl t s l) u = (.sl t s l = u) := propext (V.le_solo rfl)
theorem le_own (a b c : Nat) (u : V) : V.le (.own a b c) u = (.own a b c = u) := propext (V.le_solo rfl)
theorem le_fn (f : Nat) (l : List V) (u : V) : V.le (.fn f l) u = (.fn f l = u) := propext (V.le_solo rfl)
theorem le_gd (b : Bool) (v u : V) : V.le (.gd b v) u = (.gd b v = u) := propext (V.le_solo rfl)
theorem le_val (v : Value) (u : V) : V.le (.val v) u = (.val v = u) := propext (V.le_solo rfl)
theorem leL_nil : leL [] [] = True := eq_true (by simp only [leL])
theorem leL_cons (x y : V) (xs ys : List V) : leL (x :: xs) (y :: ys) = (x.le y ∧ leL xs ys) := by simp only [leL]
end Go.Proofs.Ytdbbnhmnlgfjoaa.Vm
