/-
  The machine of plain values: parts of texts and slices, numbers, comparisons. No program in sight.
-/
import Derived.Test.YtdbbnhmnlgfjoaaVe
import Derived.Laws.Concat
import Derived.Laws.Strings
import Derived.Laws.Cover1
namespace Go.Proofs.Ytdbbnhmnlgfjoaa.Vm
set_option linter.unusedSimpArgs false
set_option linter.unusedVariables false
open Go Go.RowKit

section
variable {P : Program} {G : Nat → V} {X : Nat → Prop} {w0 : World} {I : Nat → Prop} {ρ : Names} {M : Mem} {w : World} {D : Nat → Prop}

/-! ### parts -/
/-- A bound, or what stands for it where it is left out. -/
def hiN (hi : Option Int) (n : Nat) : Nat := match hi with | some h => h.toNat | none => n
theorem hiN_some (h : Int) (n : Nat) : hiN (some h) n = h.toNat := rfl
theorem hiN_none (n : Nat) : hiN none n = n := rfl
/-- s[lo:hi:mx]: what is left out is none. -/
def sliceV (x : V) (lo hi mx : Option Int) : V :=
  let l := (lo.getD 0).toNat
  match x with
  | .str s => .str (match hi with | some h => (s.drop l).take (h.toNat - l) | none => s.drop l)
  | .sl t sz rows => match hi with
    | some h => .sl (match mx with | some m => decide (m = h) | none => t && decide (h.toNat = rows.length)) sz ((rows.drop l).take (h.toNat - l))
    | none => .sl t sz (rows.drop l)
  | .own nm b n => .own nm (b + l) ((hiN hi (n)) - l)
  | _ => .nils
def sliceOk (P : Program) (t : TypeId) (M : Mem) (x : V) (lo hi mx : Option Int) : Prop :=
  (∀ l, lo = some l → 0 ≤ l) ∧ (∀ h, hi = some h → 0 ≤ h) ∧ (∀ m, mx = some m → 0 ≤ m ∧ hi.isSome = true) ∧
  let l := (lo.getD 0).toNat
  match x with
  | .str s => P.underlying t = some .string ∧ mx = none ∧ (match hi with | some h => l ≤ h.toNat ∧ h.toNat ≤ s.length | none => l ≤ s.length)
  | .sl _ sz rows => (∃ g, elm P t = some (none, sz, g)) ∧ (match hi with | some h => l ≤ h.toNat ∧ h.toNat ≤ rows.length ∧ (∀ m, mx = some m → h ≤ m ∧ m.toNat ≤ rows.length) | none => l ≤ rows.length)
  | .own nm _ n => (∃ g, elm P t = some (none, szOf M nm, g)) ∧ (M nm).isSome = true ∧ (match hi with | some h => l ≤ h.toNat ∧ h.toNat ≤ n ∧ (∀ m, mx = some m → h ≤ m ∧ m.toNat ≤ n) | none => l ≤ n)
  | .nils => (∃ sz g, elm P t = some (none, sz, g)) ∧ l = 0 ∧ (∀ h, hi = some h → h = 0) ∧ (∀ m, mx = some m → m = 0)
  | _ => False
/-- Operands of a part: what concrete ones read as. -/
def IntO (v : Option Value) (n : Option Int) : Prop := (v = none ∧ n = none) ∨ ∃ k i, v = some (.int k i) ∧ n = some i
theorem run_sliceBound (k : IntKind) (i : Int) (y : Nat) (c : BoundsCode) (h0 : 0 ≤ i) (h : i.toNat ≤ y) : (Instr.sliceBound (.int k i) y c).run P w = .ok i.toNat w := by
  have : 0 ≤ i ∧ i ≤ (y : Int) := ⟨h0, by omega⟩
  simp only [Instr.sliceBound, asIntOf, Sem.run_bind, Sem.run_pure, Result.andThen_ok, if_pos this]
theorem run_sliceBounds (isS : Bool) (len cap : Nat) (hlc : len ≤ cap) {vl vh vm : Option Value} {lo hi mx : Option Int} (hl : IntO vl lo) (hh : IntO vh hi) (hm : IntO vm mx)
    (h1 : ∀ l, lo = some l → 0 ≤ l) (h2 : ∀ h, hi = some h → 0 ≤ h ∧ h.toNat ≤ len) (h3 : ∀ m, mx = some m → 0 ≤ m ∧ hi.isSome = true ∧ m.toNat ≤ cap) (h4 : ∀ m h, mx = some m → hi = some h → h ≤ m)
    (h5 : (lo.getD 0).toNat ≤ (hiN hi (len))) :
    (Instr.sliceBounds isS len cap vl vh vm).run P w = .ok ((lo.getD 0).toNat, (hiN hi (len)), (hiN mx (cap))) w := by
  rcases hm with ⟨rfl, rfl⟩ | ⟨km, m, rfl, rfl⟩ <;> rcases hh with ⟨rfl, rfl⟩ | ⟨kh, hv, rfl, rfl⟩ <;> rcases hl with ⟨rfl, rfl⟩ | ⟨kl, l, rfl, rfl⟩
  · simp [hiN, Instr.sliceBounds]
  · have := run_sliceBound (P := P) (w := w) kl l len .sliceB (h1 l rfl) (by simpa [hiN] using h5)
    simp [hiN, Instr.sliceBounds, this]
  · have := run_sliceBound (P := P) (w := w) kh hv cap (if isS then .sliceAcap else .sliceAlen) (h2 hv rfl).1 (by have := (h2 hv rfl).2; omega)
    simp [hiN, Instr.sliceBounds, this]
  · have a := run_sliceBound (P := P) (w := w) kh hv cap (if isS then .sliceAcap else .sliceAlen) (h2 hv rfl).1 (by have := (h2 hv rfl).2; omega)
    have b := run_sliceBound (P := P) (w := w) kl l hv.toNat .sliceB (h1 l rfl) (by simpa [hiN] using h5)
    simp [hiN, Instr.sliceBounds, a, b]
  · have := (h3 m rfl).2.1; cases this
  · have := (h3 m rfl).2.1; cases this
  · have a := run_sliceBound (P := P) (w := w) km m cap (if isS then .slice3Acap else .slice3Alen) (h3 m rfl).1 (h3 m rfl).2.2
    have b := run_sliceBound (P := P) (w := w) kh hv m.toNat .slice3B (h2 hv rfl).1 (by have := h4 m hv rfl rfl; have := (h3 m rfl).1; omega)
    simp [hiN, Instr.sliceBounds, a, b]
  · have a := run_sliceBound (P := P) (w := w) km m cap (if isS then .slice3Acap else .slice3Alen) (h3 m rfl).1 (h3 m rfl).2.2
    have b := run_sliceBound (P := P) (w := w) kh hv m.toNat .slice3B (h2 hv rfl).1 (by have := h4 m hv rfl rfl; have := (h3 m rfl).1; omega)
    have c := run_sliceBound (P := P) (w := w) kl l hv.toNat .slice3C (h1 l rfl) (by simpa [hiN] using h5)
    simp [hiN, Instr.sliceBounds, a, b, c]
theorem elm_slice {t s : Nat} {g : Bool} (h : elm P t = some (none, s, g)) : ∃ e, P.underlying t = some (.slice e) ∧ ty P e = some (s, g) := by
  unfold elm at h
  split at h <;> try (cases h; done)
  · obtain ⟨x, _, hx⟩ := Option.map_eq_some_iff.1 h; simp at hx
  · rename_i e hu
    obtain ⟨x, h1, hx⟩ := Option.map_eq_some_iff.1 h
    simp at hx; subst hx
    exact ⟨e, hu, h1⟩
theorem Is.sl_part {t t' : Bool} {sz : Nat} {rows : List (List V)} {A : Option Addr} {c l h m : Nat} (hi : Is ρ D w (.sl t sz rows) (.slice A rows.length c)) (h1 : l ≤ h) (h2 : h ≤ rows.length) (h3 : h ≤ m) (ht : t' = true → m = h) :
    Is ρ D w (.sl t' sz ((rows.drop l).take (h - l))) (.slice (if m = l then A else A.map (·.add (l * sz))) (h - l) (m - l)) := by
  by_cases he : h = l
  · subst he
    rw [Nat.sub_self, List.take_zero]
    exact .sl0 (fun e => by have := ht e; omega)
  · have hm : m ≠ l := by omega
    rw [if_neg hm]
    have hlen : ((rows.drop l).take (h - l)).length = h - l := by simp; omega
    generalize hq : rows.length = q at hi
    cases hi with
    | sl0 => simp at h2; omega
    | sl cv hc htt hD hb hr hx hu =>
      rename_i b o
      have hget : ∀ (i : Nat) (row : List V), ((rows.drop l).take (h - l))[i]? = some row → rows[l + i]? = some row := fun i row hi => by
        rw [List.getElem?_take] at hi
        split at hi
        · rwa [List.getElem?_drop] at hi
        · cases hi
      simp only [Option.map_some, Addr.add_mid]
      have hh := Is.sl (ρ := ρ) (D := D) (w := w) (t := t') (sz := sz) (rows := (rows.drop l).take (h - l)) (b := b) (o := o + l * sz) (c := m - l) (fun i j => cv (l + i) j) (by omega) (fun e => by have := ht e; omega) hD hb
        (fun i row hi => hr _ row (hget i row hi)) (fun i j row u hi hj => by have := hx _ j row u (hget i row hi) hj; rw [Nat.add_mul] at this; rw [← this]; congr 2; omega) (fun i j row u hi hj => hu _ j row u (hget i row hi) hj)
      rwa [hlen] at hh
theorem slice_sound (h : Rel G X w0 I ρ M w) {t : TypeId} {x : V} {cx : Value} {vl vh vm : Option Value} {lo hi mx : Option Int} (hl : IntO vl lo) (hh : IntO vh hi) (hm : IntO vm mx) (hx : Is ρ (Dom X ρ M) w x cx) (hok : sliceOk P t M x lo hi mx) :
    ∃ c, (Instr.sliceAt t cx vl vh vm).run P w = .ok c w ∧ Is ρ (Dom X ρ M) w (sliceV x lo hi mx) c := by
  obtain ⟨k1, k2, k3, hok⟩ := hok
  cases x <;> simp only at hok
  case str s =>
    obtain ⟨hu, rfl, hb⟩ := hok
    cases hx
    have hvm : vm = none := hm.elim (fun h => h.1) (fun ⟨_, _, _, h⟩ => by cases h)
    subst hvm
    have hbd : (lo.getD 0).toNat ≤ (hiN hi (s.length)) ∧ (hiN hi (s.length)) ≤ s.length := by cases hi <;> simp only [hiN_some, hiN_none] at hb ⊢ <;> omega
    have hr := run_sliceBounds (P := P) (w := w) false s.length s.length (Nat.le_refl _) hl hh (.inl ⟨rfl, rfl⟩) k1 (fun h e => ⟨k2 h e, by subst e; exact hbd.2⟩) (fun m e => by cases e) (fun m _ e _ => by cases e) hbd.1
    refine ⟨.string ((⟨s.toArray⟩ : ByteArray).extract (lo.getD 0).toNat (hiN hi (s.length))), ?_, ?_⟩
    · simp only [Instr.sliceAt, Sem.run_bind, run_underlying hu w, Result.andThen_ok, Instr.slice, Option.isSome_none, Bool.false_eq_true, if_false, show (⟨s.toArray⟩ : ByteArray).size = s.length by simp [ByteArray.size], hr, Sem.run_pure]
    · have e : (⟨s.toArray⟩ : ByteArray).extract (lo.getD 0).toNat (hiN hi (s.length)) = ⟨(match hi with | some h => (s.drop (lo.getD 0).toNat).take (h.toNat - (lo.getD 0).toNat) | none => s.drop (lo.getD 0).toNat).toArray⟩ := by
        cases hi with
        | some h =>
          simp only
          apply ByteArray.ext
          apply Array.ext'
          simp [hiN, ByteArray.extract, ByteArray.copySlice, List.extract_eq_take_drop]
        | none =>
          simp only
          apply ByteArray.ext
          apply Array.ext'
          simp [hiN, ByteArray.extract, ByteArray.copySlice, List.extract_eq_take_drop]
          exact List.take_of_length_le (by simp)
      rw [e]
      exact .str _
  case sl tt sz rows =>
    obtain ⟨⟨g, hel⟩, hb⟩ := hok
    obtain ⟨e, hu, hty⟩ := elm_slice hel
    obtain ⟨h1, _, _⟩ := ty_spec hty w
    have hcx : ∃ A c, cx = .slice A rows.length c ∧ rows.length ≤ c ∧ (tt = true → c = rows.length) := by
      cases hx with
      | sl0 ht => exact ⟨_, _, rfl, Nat.zero_le _, fun e => by simpa using ht e⟩
      | sl cv hc ht => exact ⟨_, _, rfl, hc, ht⟩
    obtain ⟨A, c, rfl, hc, htt⟩ := hcx
    have hbd : (lo.getD 0).toNat ≤ (hiN hi (rows.length)) ∧ (hiN hi (rows.length)) ≤ rows.length := by cases hi <;> simp only [hiN_some, hiN_none] at hb ⊢ <;> omega
    have hmx : ∀ m, mx = some m → ∃ h, hi = some h ∧ h ≤ m ∧ m.toNat ≤ rows.length := fun m e => by
      cases hi with
      | none => have := (k3 m e).2; cases this
      | some h => exact ⟨h, rfl, hb.2.2 m e⟩
    have hr := run_sliceBounds (P := P) (w := w) true rows.length c hc hl hh hm k1 (fun h e => ⟨k2 h e, by subst e; exact hbd.2⟩) (fun m e => ⟨(k3 m e).1, (k3 m e).2, by obtain ⟨_, _, _, h⟩ := hmx m e; omega⟩)
      (fun m h e e' => by obtain ⟨h', q1, q2, _⟩ := hmx m e; rw [e'] at q1; cases q1; exact q2) hbd.1
    refine ⟨_, by simp only [Instr.sliceAt, Sem.run_bind, run_underlying hu w, Result.andThen_ok, Instr.slice, hr, h1, Sem.run_pure]; rfl, ?_⟩
    simp only [sliceV]
    cases hi with
    | none =>
      have hmn : mx = none := by cases mx with | none => rfl | some m => obtain ⟨_, q, _⟩ := hmx m rfl; cases q
      subst hmn
      have hp := Is.sl_part (t' := tt) (l := (lo.getD 0).toNat) (h := rows.length) (m := c) hx hbd.1 (Nat.le_refl _) hc htt
      rwa [List.take_of_length_le (by simp)] at hp
    | some h =>
      simp only at hb ⊢
      refine Is.sl_part (l := (lo.getD 0).toNat) (h := h.toNat) hx hb.1 hb.2.1 ?_ ?_
      · cases mx with
        | none => simp only [hiN_none]; omega
        | some m => obtain ⟨_, q1, q2, _⟩ := hmx m rfl; cases q1; simp only [hiN_some]; omega
      · cases mx with
        | none => simp only [Bool.and_eq_true, decide_eq_true_eq]; rintro ⟨a, b⟩; rw [hiN_none, htt a, b]
        | some m => simp only [decide_eq_true_eq]; rintro rfl; rfl
  case own nm b n =>
    obtain ⟨⟨g, hel⟩, hM, hb⟩ := hok
    obtain ⟨e, hu, hty⟩ := elm_slice hel
    obtain ⟨h1, _, _⟩ := ty_spec hty w
    have hcx : ∃ A c, cx = .slice A n c ∧ n ≤ c := by
      cases hx with
      | own0 => exact ⟨_, _, rfl, Nat.le_refl _⟩
      | own _ _ hc => exact ⟨_, _, rfl, hc⟩
    obtain ⟨A, c, rfl, hc⟩ := hcx
    have hbd : (lo.getD 0).toNat ≤ (hiN hi (n)) ∧ (hiN hi (n)) ≤ n := by cases hi <;> simp only [hiN_some, hiN_none] at hb ⊢ <;> omega
    have hmx : ∀ m, mx = some m → ∃ h, hi = some h ∧ h ≤ m ∧ m.toNat ≤ n := fun m e => by
      cases hi with
      | none => have := (k3 m e).2; cases this
      | some h => exact ⟨h, rfl, hb.2.2 m e⟩
    have hr := run_sliceBounds (P := P) (w := w) true n c hc hl hh hm k1 (fun h e => ⟨k2 h e, by subst e; exact hbd.2⟩) (fun m e => ⟨(k3 m e).1, (k3 m e).2, by obtain ⟨_, _, _, h⟩ := hmx m e; omega⟩)
      (fun m h e e' => by obtain ⟨h', q1, q2, _⟩ := hmx m e; rw [e'] at q1; cases q1; exact q2) hbd.1
    have hmc : (hiN hi (n)) ≤ (hiN mx (c)) ∧ (hiN mx (c)) ≤ c := by
      cases mx with
      | none => simp only [hiN_none]; omega
      | some m => obtain ⟨_, q1, q2, q3⟩ := hmx m rfl; subst q1; simp only [hiN_some]; have := (k3 m rfl).1; omega
    refine ⟨_, by simp only [Instr.sliceAt, Sem.run_bind, run_underlying hu w, Result.andThen_ok, Instr.slice, hr, h1, Sem.run_pure]; rfl, ?_⟩
    have hsv : sliceV (.own nm b n) lo hi mx = .own nm (b + (lo.getD 0).toNat) ((hiN hi (n)) - (lo.getD 0).toNat) := rfl
    rw [hsv]
    generalize (hiN hi (n)) = hh' at *
    generalize (hiN mx (c)) = mm' at *
    generalize (lo.getD 0).toNat = ll' at *
    by_cases hml : mm' = ll'
    · have h0 : hh' - ll' = 0 := by omega
      rw [h0, show mm' - ll' = 0 by omega]
      exact .own0
    · rw [if_neg hml]
      cases hx with
      | own0 => omega
      | own hρ hlc hnc =>
        rename_i l
        have hls : l.sz = szOf M nm := by
          obtain ⟨kb, hkb⟩ := Option.isSome_iff_exists.1 hM
          rcases h.live nm kb hkb with ⟨_, h2⟩ | ⟨l2, h2, _, _, cs, e2, h3, h4, _⟩
          · rw [hρ] at h2; cases h2
          · rw [hρ] at h2; cases h2
            rw [← h4, szOf, hkb]
        have := Is.own (D := Dom X ρ M) (w := w) (lo := b + ll') (n := hh' - ll') (c := mm' - ll') hρ (by omega) (by omega)
        simp only [Option.map_some, Addr.add_mid]
        rw [← hls]
        rwa [Nat.add_mul, ← Nat.add_assoc] at this
  case nils =>
    obtain ⟨⟨sz, g, hel⟩, hl0, hh0, hm0⟩ := hok
    obtain ⟨e, hu, hty⟩ := elm_slice hel
    obtain ⟨h1, _, _⟩ := ty_spec hty w
    cases hx
    have hr := run_sliceBounds (P := P) (w := w) true 0 0 (Nat.le_refl _) hl hh hm k1 (fun h e => by rw [hh0 h e]; simp) (fun m e => by rw [hm0 m e]; exact ⟨by simp, (k3 m e).2, by simp⟩) (fun m h e e' => by rw [hm0 m e, hh0 h e']; simp) (by rw [hl0]; exact Nat.zero_le _)
    have e1 : hiN hi 0 = 0 := by cases hi with | none => rfl | some h => rw [hh0 h rfl]; rfl
    have e2 : hiN mx 0 = 0 := by cases mx with | none => rfl | some h => rw [hm0 h rfl]; rfl
    rw [e1, e2, hl0] at hr
    refine ⟨_, by simp only [Instr.sliceAt, Sem.run_bind, run_underlying hu w, Result.andThen_ok, Instr.slice, hr, h1, Sem.run_pure]; rfl, ?_⟩
    exact .nils
end
end Go.Proofs.Ytdbbnhmnlgfjoaa.Vm
