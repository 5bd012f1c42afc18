/-
  The machine of plain values: fields, places, parts of slices and texts, lengths. No program in sight.
-/
import Derived.Test.YtdbbnhmnlgfjoaaVd
namespace Go.Proofs.Ytdbbnhmnlgfjoaa.Vm
set_option linter.unusedSimpArgs false
set_option linter.unusedVariables false
open Go Go.RowKit

/-- A field of a struct type: where it lies, how many cells, is it a struct or an array (none: it has no cells). -/
def fld (P : Program) (t : TypeId) (f : Nat) : Option (Nat × Nat × Bool) :=
  match P.underlying t with
  | some (.struct fs) => match fs[f]? with
    | some x => match ty P x.type with
      | some (0, _) => none
      | some (s, g) => some (x.offset, s, g)
      | none => none
    | none => none
  | _ => none
/-- Of an array type its length, of a slice type none; the elements' size, and are they structs or arrays. -/
def elm (P : Program) (t : TypeId) : Option (Option Nat × Nat × Bool) :=
  match P.underlying t with
  | some (.array n e) => (ty P e).map fun x => (some n, x)
  | some (.slice e) => (ty P e).map fun x => (none, x)
  | _ => none

section
variable {P : Program} {G : Nat → V} {X : Nat → Prop} {w0 : World} {I : Nat → Prop} {ρ : Names} {M : Mem} {w : World} {D : Nat → Prop}
theorem Is.rp_drop {cells : List V} {b o : Nat} (h : Is ρ D w (.rp cells) (.pointer (some ⟨b, o, none⟩))) (k : Nat) : Is ρ D w (.rp (cells.drop k)) (.pointer (some ⟨b, o + k, none⟩)) := by
  cases h with
  | rp cv hD hb hc hu =>
    refine .rp (fun j => cv (k + j)) hD hb (fun j u hj => ?_) (fun j u hj => ?_)
    · rw [List.getElem?_drop] at hj
      rw [Nat.add_assoc]; exact hc _ u hj
    · rw [List.getElem?_drop] at hj
      exact hu _ u hj
def fieldAddrV (P : Program) (t f : Nat) : V → V
  | .ptr nm i j => .ptr nm i (j + (match fld P t f with | some (o, _) => o | none => 0))
  | .rp cells => .rp (cells.drop (match fld P t f with | some (o, _) => o | none => 0))
  | _ => .any
def fieldAddrOk (P : Program) (t f : Nat) (x : V) : Prop := x.isPtr = true ∧ (fld P t f).isSome = true
theorem fieldAddr_sound {t f : Nat} {x : V} {cx : Value} (hx : Is ρ D w x cx) (hok : fieldAddrOk P t f x) : ∃ c, (Instr.fieldAt t cx f).run P w = .ok c w ∧ Is ρ D w (fieldAddrV P t f x) c := by
  obtain ⟨hp, hf⟩ := hok
  obtain ⟨⟨o, s, g⟩, hfl⟩ := Option.isSome_iff_exists.1 hf
  have hfl' := hfl
  unfold fld at hfl
  split at hfl <;> try (cases hfl; done)
  rename_i fs hu
  split at hfl <;> try (cases hfl; done)
  rename_i fd hfd
  split at hfl <;> try (cases hfl; done)
  rename_i s' g' hn hty
  simp only [Option.some.injEq, Prod.mk.injEq] at hfl
  obtain ⟨rfl, rfl, rfl⟩ := hfl
  obtain ⟨h1, _, _⟩ := ty_spec hty w
  have hs0 : ¬ s' = 0 := hn
  have run : ∀ b o, (Instr.fieldAt t (.pointer (some ⟨b, o, none⟩)) f).run P w = .ok (.pointer (some ⟨b, o + fd.offset, none⟩)) w := fun b o => by
    simp only [Instr.fieldAt, Sem.run_bind, run_underlying hu w, Result.andThen_ok, hfd, Instr.sureAddr, Sem.run_pure, fieldPlace, h1, if_neg hs0, Addr.add_mid]
  cases hx <;> try (simp [V.isPtr] at hp; done)
  case ptr nm i j l hl =>
    refine ⟨_, run _ _, ?_⟩
    simp only [fieldAddrV, hfl', Nat.add_assoc]
    have := Is.ptr (D := D) (w := w) (i := i) (j := j + fd.offset) hl
    simpa [Nat.add_assoc] using this
  case rp cells b o cv hD hb hc hu =>
    refine ⟨_, run _ _, ?_⟩
    simp only [fieldAddrV, hfl']
    exact Is.rp_drop (.rp cv hD hb hc hu) _

/-- A part of a value of known cells. -/
def partV (o s : Nat) (g : Bool) (cells : List V) : V := if g then .agg ((cells.drop o).take s) else (cells[o]?).getD .any
theorem part_sound {t s : Nat} {g : Bool} (ht : ty P t = some (s, g)) {cells : List V} {cvs : Array Value} (hn : cells.length = cvs.size) (hu : ∀ (i : Nat) (u : V) (cv : Value), cells[i]? = some u → cvs[i]? = some cv → Is ρ D w u cv) {o : Nat} (hs : 0 < s) (ho : o + s ≤ cells.length) :
    ∃ c, (part t cvs o).run P w = .ok c w ∧ Is ρ D w (partV o s g cells) c := by
  obtain ⟨h1, h2, _⟩ := ty_spec ht w
  cases g with
  | true =>
    refine ⟨.agg (cvs.extract o (o + s)), by simp only [part, Sem.run_bind, h2, Result.andThen_ok, if_true, h1, Sem.run_pure], ?_⟩
    simp only [partV, if_true]
    refine .agg (by simp; omega) (fun i u cv hi hc => ?_)
    rw [List.getElem?_take] at hi
    split at hi
    · rw [List.getElem?_drop] at hi
      rw [Array.getElem?_extract] at hc
      split at hc
      · exact hu _ u cv hi hc
      · cases hc
    · cases hi
  | false =>
    have hlt : o < cvs.size := by omega
    refine ⟨cvs[o], by simp only [part, Sem.run_bind, h2, Result.andThen_ok, Bool.false_eq_true, if_false, Array.getElem?_eq_getElem hlt, Sem.run_pure], ?_⟩
    simp only [partV, Bool.false_eq_true, if_false, List.getElem?_eq_getElem (show o < cells.length by omega), Option.getD_some]
    exact hu o _ _ (List.getElem?_eq_getElem (by omega)) (Array.getElem?_eq_getElem hlt)
def fieldV (P : Program) (t f : Nat) : V → V
  | .agg cells => match fld P t f with | some (o, s, g) => partV o s g cells | none => .any
  | _ => .any
def fieldOk (P : Program) (t f : Nat) : V → Prop
  | .agg cells => match fld P t f with | some (o, s, _) => o + s ≤ cells.length | none => False
  | _ => False
theorem field_sound {t f : Nat} {x : V} {cx : Value} (hx : Is ρ D w x cx) (hok : fieldOk P t f x) : ∃ c, (Instr.field t cx f).run P w = .ok c w ∧ Is ρ D w (fieldV P t f x) c := by
  cases x <;> try (exact hok.elim)
  rename_i cells
  simp only [fieldOk] at hok
  simp only [fieldV]
  cases hfl : fld P t f with
  | some y =>
    obtain ⟨o, s, g⟩ := y
    rw [hfl] at hok
    have hfl' := hfl
    unfold fld at hfl
    split at hfl <;> try (cases hfl; done)
    rename_i fs hu
    split at hfl <;> try (cases hfl; done)
    rename_i fd hfd
    split at hfl <;> try (cases hfl; done)
    rename_i s' g' hnz hty
    simp only [Option.some.injEq, Prod.mk.injEq] at hfl
    obtain ⟨rfl, rfl, rfl⟩ := hfl
    have hs0 : 0 < s' := Nat.pos_of_ne_zero hnz
    cases hx with
    | agg hn hc =>
      obtain ⟨c, h1, h2⟩ := part_sound (P := P) (w := w) hty hn hc hs0 hok
      exact ⟨c, by simp only [Instr.field, Sem.run_bind, run_underlying hu w, Result.andThen_ok, hfd, asAgg, Sem.run_pure, h1], h2⟩
  | none => rw [hfl] at hok; exact hok.elim

/-! ### lengths -/
def lenV (M : Mem) : V → Nat
  | .str s => s.length
  | .sl _ _ rows => rows.length
  | .own _ _ n => n
  | _ => 0
def V.hasLen : V → Bool
  | .str _ | .sl _ _ _ | .own _ _ _ | .nils => true
  | _ => false
/-- Is a type a text's, or a slice's. -/
def lenKind (P : Program) (t : TypeId) : Bool := match P.underlying t with | some .string | some (.slice _) => true | _ => false
theorem len_sound {t : TypeId} {x : V} {cx : Value} (ht : lenKind P t = true) (hfit : (match P.underlying t, x with | some .string, .str _ => true | some (.slice _), .sl _ _ _ | some (.slice _), .own _ _ _ | some (.slice _), .nils => true | _, _ => false) = true) (ty : TypeId) (hx : Is ρ D w x cx) :
    (Builtin.len_ #[t] ty #[cx]).run P w = .ok (.int .i64 (lenV M x)) w := by
  unfold lenKind at ht
  cases hu : P.underlying t with
  | none => rw [hu] at ht; cases ht
  | some d =>
    rw [hu] at hfit
    cases hx <;> cases d <;> first | (simp at hfit; done) | (simp [Builtin.len_, run_underlying hu w, goInt, lenV]; done) | (simp [Builtin.len_, run_underlying hu w, goInt, lenV]; rfl)

/-! ### places -/
def intV : V → Option Int
  | .int _ n => some n
  | _ => none
theorem Is.int_inv {v : V} {n : Int} {cv : Value} (h : Is ρ D w v cv) (hv : intV v = some n) : ∃ k, v = .int k n ∧ cv = .int k n := by
  cases v <;> simp [intV] at hv
  subst hv
  cases h
  exact ⟨_, rfl, rfl⟩
def indexAddrV (P : Program) (t : TypeId) (M : Mem) (x : V) (n : Int) : V := match x with
  | .sl _ _ rows => .rp ((rows[n.toNat]?).getD [])
  | .own nm lo _ => .ptr nm (lo + n.toNat) 0
  | .ptr nm i j => .ptr nm i (j + n.toNat * (match elm P t with | some (_, s, _) => s | none => 0))
  | .rp cells => .rp (cells.drop (n.toNat * (match elm P t with | some (_, s, _) => s | none => 0)))
  | _ => .any
def szOf (M : Mem) (nm : Nat) : Nat := match M nm with | some k => k.sz | none => 0
def indexAddrOk (P : Program) (t : TypeId) (M : Mem) (x : V) (n : Int) : Prop := 0 ≤ n ∧ match elm P t, x with
  | some (none, s, _), .sl _ sz rows => sz = s ∧ n.toNat < rows.length
  | some (none, s, _), .own nm _ l => (M nm).isSome = true ∧ szOf M nm = s ∧ n.toNat < l
  | some (some l, _, _), .ptr _ _ _ => n.toNat < l
  | some (some l, _, _), .rp _ => n.toNat < l
  | _, _ => False
theorem indexAddr_sound (h : Rel G X w0 I ρ M w) {t : TypeId} {x i : V} {n : Int} {cx ci : Value} (hx : Is ρ (Dom X ρ M) w x cx) (hi : Is ρ (Dom X ρ M) w i ci) (hn : intV i = some n) (hok : indexAddrOk P t M x n) :
    ∃ c, (Instr.indexAt t cx ci).run P w = .ok c w ∧ Is ρ (Dom X ρ M) w (indexAddrV P t M x n) c := by
  obtain ⟨k, rfl, rfl⟩ := hi.int_inv hn
  obtain ⟨h0, hok⟩ := hok
  cases hel : elm P t with
  | none => rw [hel] at hok; exact hok.elim
  | some y =>
    obtain ⟨q, s, g⟩ := y
    have hel' := hel
    rw [hel] at hok
    unfold elm at hel
    split at hel <;> try (cases hel; done)
    · rename_i len e hu
      obtain ⟨⟨s', g'⟩, hty, he⟩ := Option.map_eq_some_iff.1 hel
      simp only [Prod.mk.injEq] at he
      obtain ⟨rfl, rfl, rfl⟩ := he
      obtain ⟨h1, _, _⟩ := ty_spec hty w
      have run : ∀ b o, n.toNat < len → (Instr.indexAt t (.pointer (some ⟨b, o, none⟩)) (.int k n)).run P w = .ok (.pointer (some ⟨b, o + n.toNat * s', none⟩)) w := fun b o hl => by
        have hlt : 0 ≤ n ∧ n < (len : Int) := ⟨h0, by omega⟩
        simp only [Instr.indexAt, asIntOf, Sem.run_bind, Sem.run_pure, Result.andThen_ok, run_underlying hu w, Instr.sureAddr, if_pos hlt, h1, Addr.add_mid]
      cases hx <;> try (exact hok.elim)
      case ptr nm i j l hl =>
        refine ⟨_, run _ _ hok, ?_⟩
        simp only [indexAddrV, hel']
        have := Is.ptr (D := Dom X ρ M) (w := w) (i := i) (j := j + n.toNat * s') hl
        simpa [Nat.add_assoc] using this
      case rp cells b o cv hD hb hc hu =>
        refine ⟨_, run _ _ hok, ?_⟩
        simp only [indexAddrV, hel']
        exact Is.rp_drop (.rp cv hD hb hc hu) _
    · rename_i e hu
      obtain ⟨⟨s', g'⟩, hty, he⟩ := Option.map_eq_some_iff.1 hel
      simp only [Prod.mk.injEq] at he
      obtain ⟨rfl, rfl, rfl⟩ := he
      obtain ⟨h1, _, _⟩ := ty_spec hty w
      have run : ∀ b o len cap, n.toNat < len → (Instr.indexAt t (.slice (some ⟨b, o, none⟩) len cap) (.int k n)).run P w = .ok (.pointer (some ⟨b, o + n.toNat * s', none⟩)) w := fun b o len cap hl => by
        have hlt : 0 ≤ n ∧ n < (len : Int) := ⟨h0, by omega⟩
        simp only [Instr.indexAt, asIntOf, Sem.run_bind, Sem.run_pure, Result.andThen_ok, run_underlying hu w, if_pos hlt, h1, Addr.add_mid]
      cases hx <;> try (exact hok.elim)
      case sl0 => obtain ⟨_, h⟩ := hok; simp at h
      case sl t' sz rows b o c cv hc ht hD hb hr hxx huu =>
        obtain ⟨rfl, hlt⟩ := hok
        refine ⟨_, run _ _ _ _ hlt, ?_⟩
        simp only [indexAddrV, List.getElem?_eq_getElem hlt, Option.getD_some]
        exact .rp (fun j => cv n.toNat j) hD hb (fun j u hj => hxx _ j _ u (List.getElem?_eq_getElem hlt) hj) (fun j u hj => huu _ j _ u (List.getElem?_eq_getElem hlt) hj)
      case own0 => obtain ⟨_, _, h⟩ := hok; omega
      case own nm lo l' c l hl hlc hc =>
        obtain ⟨hM, hsz, hlt⟩ := hok
        obtain ⟨kb, hkb⟩ := Option.isSome_iff_exists.1 hM
        have hls : l.sz = s' := by
          rcases h.live nm kb hkb with ⟨_, h2⟩ | ⟨l2, h2, _, _, cs, e2, h3, h4, _⟩
          · rw [hl] at h2; cases h2
          · rw [hl] at h2; cases h2
            rw [← h4, ← hsz, szOf, hkb]
        refine ⟨_, run _ _ _ _ hlt, ?_⟩
        simp only [indexAddrV]
        have := Is.ptr (D := Dom X ρ M) (w := w) (i := lo + n.toNat) (j := 0) hl
        simpa [Nat.add_mul, Nat.add_assoc, hls] using this

def indexV (P : Program) (t : TypeId) (x : V) (n : Int) : V := match x with
  | .str s => .int .u8 ((s[n.toNat]?).getD 0).toNat
  | .agg cells => match elm P t with | some (_, s, g) => partV (n.toNat * s) s g cells | none => .any
  | _ => .any
def indexOk (P : Program) (t : TypeId) (x : V) (n : Int) : Prop := 0 ≤ n ∧ match x with
  | .str s => P.underlying t = some .string ∧ n.toNat < s.length
  | .agg cells => match elm P t with | some (some l, s, _) => 0 < s ∧ n.toNat < l ∧ n.toNat * s + s ≤ cells.length | _ => False
  | _ => False
theorem index_sound {t : TypeId} {x i : V} {n : Int} {cx ci : Value} (hx : Is ρ D w x cx) (hi : Is ρ D w i ci) (hn : intV i = some n) (hok : indexOk P t x n) :
    ∃ c, (Instr.index t cx ci).run P w = .ok c w ∧ Is ρ D w (indexV P t x n) c := by
  obtain ⟨k, rfl, rfl⟩ := hi.int_inv hn
  obtain ⟨h0, hok⟩ := hok
  cases hx <;> try (exact hok.elim)
  case str s =>
    obtain ⟨hu, hlt⟩ := hok
    have hg : (⟨s.toArray⟩ : ByteArray)[n.toNat]? = some s[n.toNat] := by
      rw [getElem?_pos (⟨s.toArray⟩ : ByteArray) n.toNat (by simpa [ByteArray.size] using hlt)]; rfl
    refine ⟨.int .u8 s[n.toNat].toNat, ?_, ?_⟩
    · simp only [Instr.index, asIntOf, Sem.run_bind, Sem.run_pure, Result.andThen_ok, run_underlying hu w, if_pos h0, hg]
    · simp only [indexV, List.getElem?_eq_getElem hlt, Option.getD_some]
      exact .int _ _
  case agg cells cvs hnn hu' =>
    cases hel : elm P t with
    | none => rw [hel] at hok; exact hok.elim
    | some y =>
    obtain ⟨q, s, g⟩ := y
    rw [hel] at hok
    cases q with
    | none => exact hok.elim
    | some l =>
    obtain ⟨hs, hlt, hle⟩ := hok
    have hel' := hel
    unfold elm at hel
    split at hel <;> try (cases hel; done)
    · rename_i len e hu
      obtain ⟨⟨s', g'⟩, hty, he⟩ := Option.map_eq_some_iff.1 hel
      simp only [Prod.mk.injEq, Option.some.injEq] at he
      obtain ⟨rfl, rfl, rfl⟩ := he
      obtain ⟨h1, _, _⟩ := ty_spec hty w
      obtain ⟨c, c1, c2⟩ := part_sound (P := P) (w := w) hty hnn hu' hs hle
      have hlt' : 0 ≤ n ∧ n < (len : Int) := ⟨h0, by omega⟩
      refine ⟨c, ?_, ?_⟩
      · simp only [Instr.index, asIntOf, Sem.run_bind, Sem.run_pure, Result.andThen_ok, run_underlying hu w, if_pos hlt', h1, c1]
      · simpa only [indexV, hel'] using c2
    · rename_i e hu
      obtain ⟨⟨s', g'⟩, hty, he⟩ := Option.map_eq_some_iff.1 hel
      simp at he
end
end Go.Proofs.Ytdbbnhmnlgfjoaa.Vm
