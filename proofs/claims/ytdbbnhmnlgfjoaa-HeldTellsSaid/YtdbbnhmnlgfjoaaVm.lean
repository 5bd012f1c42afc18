/-
  The machine of plain values: calls. What a callee is shown is a part of the memory; the rest stays. No program in sight.
-/
import Derived.Test.YtdbbnhmnlgfjoaaVl
namespace Go.Proofs.Ytdbbnhmnlgfjoaa.Vm
set_option linter.unusedSimpArgs false
set_option linter.unusedVariables false
open Go Go.RowKit

/-- The part of the memory with these names. -/
def Mem.only (M : Mem) (l : List Nat) : Mem := fun x => if x ∈ l then M x else none
def Mem.nil : Mem := fun _ => none
theorem Mem.only_nil (M : Mem) : M.only [] = Mem.nil := by funext x; simp [Mem.only, Mem.nil]
/-- The names of a list of changes. -/
def effNames (l : List (Nat × Option Blk)) : List Nat := l.map (·.1)
theorem Mem.app_of_notin {l : List (Nat × Option Blk)} : ∀ {M : Mem} {x : Nat}, x ∉ effNames l → (M.app l) x = M x := by
  induction l with
  | nil => intro M x _; rfl
  | cons p r ih =>
    obtain ⟨y, k⟩ := p
    intro M x hx
    simp only [effNames, List.map_cons, List.mem_cons, not_or] at hx
    simp only [Mem.app]
    rw [ih (by simpa [effNames] using hx.2), Mem.put_ne _ _ hx.1]
theorem Mem.app_congr {l : List (Nat × Option Blk)} : ∀ {M M' : Mem} {x : Nat}, (x ∉ effNames l → M x = M' x) → (M.app l) x = (M'.app l) x := by
  induction l with
  | nil => intro M M' x h; exact h (by simp [effNames])
  | cons p r ih =>
    obtain ⟨y, k⟩ := p
    intro M M' x h
    simp only [Mem.app]
    refine ih (fun hx => ?_)
    by_cases e : x = y
    · subst e; simp [Mem.put_same]
    · rw [Mem.put_ne _ _ e, Mem.put_ne _ _ e]
      exact h (by simp only [effNames, List.map_cons, List.mem_cons, not_or]; exact ⟨e, by simpa [effNames] using hx⟩)
/-- A name is one of those that a step may make: sixteen from nm on. -/
def Fresh (nm x : Nat) : Prop := nm ≤ x ∧ x < nm + 16
def StepsN (G : Nat → V) (X : Nat → Prop) (w0 : World) (I : Nat → Prop) (ρ : Names) (M : Mem) (w : World) (nm : Nat) (v : V) (M' : Mem) (cv : Value) (w' : World) : Prop :=
  ∃ ρ', Rel G X w0 I ρ' M' w' ∧ Moves ρ M w ρ' M' w' ∧ Is ρ' (Dom X ρ' M') w' v cv ∧ ∀ x, ¬ Fresh nm x → ρ' x = ρ x
theorem Steps1.n {G : Nat → V} {X : Nat → Prop} {w0 : World} {I : Nat → Prop} {ρ : Names} {M : Mem} {w : World} {nm : Nat} {v : V} {M' : Mem} {cv : Value} {w' : World} (h : Steps1 G X w0 I ρ M w nm v M' cv w') : StepsN G X w0 I ρ M w nm v M' cv w' := by
  obtain ⟨ρ', h1, h2, h3, h4⟩ := h
  exact ⟨ρ', h1, h2, h3, fun x hx => h4 x (fun e => hx (by subst e; exact ⟨Nat.le_refl _, by omega⟩))⟩

section
variable {G : Nat → V} {X : Nat → Prop} {w0 : World} {I : Nat → Prop} {ρ ρ' : Names} {M : Mem} {w w' : World}
/-- What is kept from a callee: what callers own, and what is not shown to it. -/
def FX (X : Nat → Prop) (ρ : Names) (M : Mem) (l : List Nat) (b : Nat) : Prop := X b ∨ ∃ nm q, (M nm).isSome = true ∧ nm ∉ l ∧ ρ nm = some q ∧ q.b = b
/-- The blocks of a memory. -/
def Blocks (ρ : Names) (M : Mem) (b : Nat) : Prop := ∃ nm q, (M nm).isSome = true ∧ ρ nm = some q ∧ q.b = b
theorem only_some {l : List Nat} {x : Nat} : ((M.only l) x).isSome = true ↔ (M x).isSome = true ∧ x ∈ l := by
  unfold Mem.only; by_cases h : x ∈ l <;> simp [h]
theorem only_eq {l : List Nat} {x : Nat} {k : Blk} : (M.only l) x = some k ↔ M x = some k ∧ x ∈ l := by
  unfold Mem.only; by_cases h : x ∈ l <;> simp [h]
theorem dom_focus (l : List Nat) (b : Nat) : Dom (FX X ρ M l) ρ (M.only l) b ↔ Dom X ρ M b := by
  constructor
  · rintro ((h | ⟨nm, q, h1, _, h3, h4⟩) | ⟨nm, q, h1, h2, h3⟩)
    · exact .inl h
    · exact .inr ⟨nm, q, h1, h3, h4⟩
    · exact .inr ⟨nm, q, (only_some.1 h1).1, h2, h3⟩
  · rintro (h | ⟨nm, q, h1, h2, h3⟩)
    · exact .inl (.inl h)
    · by_cases e : nm ∈ l
      · exact .inr ⟨nm, q, only_some.2 ⟨h1, e⟩, h2, h3⟩
      · exact .inl (.inr ⟨nm, q, h1, e, h2, h3⟩)
theorem Rel.block_lt (h : Rel G X w0 I ρ M w) {nm : Nat} {q : Loc} (hM : (M nm).isSome = true) (hq : ρ nm = some q) : q.b < w.heap.size ∧ ¬ X q.b ∧ (I q.b ∨ w0.heap.size ≤ q.b) := by
  obtain ⟨k, hk⟩ := Option.isSome_iff_exists.1 hM
  rcases h.live nm k hk with ⟨_, a⟩ | ⟨l', a1, a2, a3, cs, e, a4, _⟩
  · rw [hq] at a; cases a
  · rw [hq] at a1; cases a1; exact ⟨lt_of_heap a4, a3, a2⟩
theorem Rel.focus (h : Rel G X w0 I ρ M w) (l : List Nat) : Rel G (FX X ρ M l) w (Blocks ρ (M.only l)) ρ (M.only l) w where
  size := Nat.le_refl _
  os := rfl
  tape := rfl
  output := rfl
  old := fun _ _ _ => rfl
  live := fun nm k hk => by
    obtain ⟨h1, h2⟩ := only_eq.1 hk
    rcases h.live nm k h1 with a | ⟨q, a1, a2, a3, cs, e, a4, a5, a6, a7, a8, a9⟩
    · exact .inl a
    · refine .inr ⟨q, a1, .inl ⟨nm, q, only_some.2 ⟨by rw [h1]; rfl, h2⟩, a1, rfl⟩, ?_, cs, e, a4, a5, a6, a7, a8, fun i j row u hi hj => ?_⟩
      · rintro (hx | ⟨nm', q', b1, b2, b3, b4⟩)
        · exact a3 hx
        · exact b2 (by rw [h.inj nm' nm q' q b1 (by rw [h1]; rfl) b3 a1 b4]; exact h2)
      · obtain ⟨cv, c1, c2⟩ := a9 i j row u hi hj
        exact ⟨cv, c1, c2.step (fun _ _ h => h) (Nat.le_refl _) (fun _ _ _ => rfl) (fun b _ hb => (dom_focus l b).1 hb)⟩
  inj := fun a b q q' h1 h2 => h.inj a b q q' (only_some.1 h1).1 (only_some.1 h2).1
  hX := fun b hb => by
    rcases hb with hb | ⟨nm, q, h1, h2, h3, rfl⟩
    · refine ⟨Nat.lt_of_lt_of_le (h.hX b hb).1 h.size, ?_⟩
      rintro ⟨nm, q, h1, h3, rfl⟩
      exact (h.block_lt (only_some.1 h1).1 h3).2.1 hb
    · refine ⟨(h.block_lt h1 h3).1, ?_⟩
      rintro ⟨nm', q', b1, b3, b4⟩
      exact h2 (by rw [h.inj nm nm' q q' h1 (only_some.1 b1).1 h3 b3 b4.symm]; exact (only_some.1 b1).2)
  glob := fun g => (h.glob g).step (fun _ _ h => h) (Nat.le_refl _) (fun _ _ _ => rfl) (fun b _ hb => (dom_focus l b).1 hb)
theorem Is.focus {l : List Nat} {v : V} {cv : Value} (h : Is ρ (Dom X ρ M) w v cv) : Is ρ (Dom (FX X ρ M l) ρ (M.only l)) w v cv :=
  h.step (fun _ _ h => h) (Nat.le_refl _) (fun _ _ _ => rfl) (fun b _ hb => (dom_focus l b).1 hb)

/-- Back from a callee. -/
theorem Rel.unfocus (h : Rel G X w0 I ρ M w) {l : List Nat} {nm : Nat} (hf : ∀ x, Fresh nm x → M x = none) {eff : List (Nat × Option Blk)} (he : ∀ x ∈ effNames eff, x ∈ l ∨ Fresh nm x) {v : V} {cv : Value}
    (hs : StepsN G (FX X ρ M l) w (Blocks ρ (M.only l)) ρ (M.only l) w nm v ((M.only l).app eff) cv w') : StepsN G X w0 I ρ M w nm v (M.app eff) cv w' := by
  obtain ⟨ρ', r, m, hv, hn⟩ := hs
  -- a name of the whole: the callee's, or one that it was not shown
  have part : ∀ x k, (M.app eff) x = some k → ((M.only l).app eff) x = some k ∨ (M x = some k ∧ x ∉ l ∧ ¬ Fresh nm x) := fun x k hx => by
    by_cases hxe : x ∈ effNames eff
    · exact .inl ((Mem.app_congr (fun hne => absurd hxe hne)).trans hx)
    · rw [Mem.app_of_notin hxe] at hx
      by_cases hxl : x ∈ l
      · exact .inl (by rw [Mem.app_of_notin hxe]; exact only_eq.2 ⟨hx, hxl⟩)
      · exact .inr ⟨hx, hxl, fun hfr => by rw [hf x hfr] at hx; cases hx⟩
  have partS : ∀ x, ((M.app eff) x).isSome = true → (((M.only l).app eff) x).isSome = true ∨ ((M x).isSome = true ∧ x ∉ l ∧ ¬ Fresh nm x) := fun x hx => by
    obtain ⟨k, hk⟩ := Option.isSome_iff_exists.1 hx
    rcases part x k hk with h1 | ⟨h1, h2⟩
    · exact .inl (by rw [h1]; rfl)
    · exact .inr ⟨by rw [h1]; rfl, h2⟩
  have hdom : ∀ b, Dom X ρ' (M.app eff) b → Dom (FX X ρ M l) ρ' ((M.only l).app eff) b := by
    rintro b (hx | ⟨x, q, h1, h2, h3⟩)
    · exact .inl (.inl hx)
    · rcases partS x h1 with h4 | ⟨h4, h5, h6⟩
      · exact .inr ⟨x, q, h4, h2, h3⟩
      · exact .inl (.inr ⟨x, q, h4, h5, by rw [← hn x h6]; exact h2, h3⟩)
  have up : ∀ {u : V} {c : Value}, Is ρ' (Dom (FX X ρ M l) ρ' ((M.only l).app eff)) w' u c → Is ρ' (Dom X ρ' (M.app eff)) w' u c := fun hu =>
    hu.step (fun _ _ h => h) (Nat.le_refl _) (fun _ _ _ => rfl) (fun b _ hb => hdom b hb)
  have mv : Moves ρ M w ρ' (M.app eff) w' := by
    refine ⟨m.names, m.size, m.os, m.tape, m.output, fun b hb hk => m.kept b hb (fun x q h1 h2 => hk x q (only_some.1 h1).1 h2), fun x q h1 h2 h3 => ?_⟩
    rcases partS x h1 with h4 | ⟨h4, h5, h6⟩
    · obtain ⟨y, q', b1, b2, b3⟩ := m.dom x q h4 h2 h3
      exact ⟨y, q', (only_some.1 b1).1, b2, b3⟩
    · exact ⟨x, q, h4, by rw [← hn x h6]; exact h2, rfl⟩
  refine ⟨ρ', ?_, mv, up hv, hn⟩
  refine h.move mv ?_ ?_
  · intro x y q q' h1 h2 h3 h4 h5
    rcases partS x h1 with a | ⟨a1, a2, a3⟩ <;> rcases partS y h2 with b | ⟨b1, b2, b3⟩
    · exact r.inj x y q q' a b h3 h4 h5
    · exfalso
      exact (r.block_lt a h3).2.1 (.inr ⟨y, q', b1, b2, by rw [← hn y b3]; exact h4, h5.symm⟩)
    · exfalso
      exact (r.block_lt b h4).2.1 (.inr ⟨x, q, a1, a2, by rw [← hn x a3]; exact h3, h5⟩)
    · exact h.inj x y q q' a1 b1 (by rw [← hn x a3]; exact h3) (by rw [← hn y b3]; exact h4) h5
  · intro x k hx
    rcases part x k hx with a | ⟨a1, a2, a3⟩
    · rcases r.live x k a with a | ⟨q, a1, a2, a3, cs, e, a4, a5, a6, a7, a8, a9⟩
      · exact .inr (.inl a)
      · refine .inr (.inr ⟨q, a1, ?_, fun hx => a3 (.inl hx), cs, e, a4, a5, a6, a7, a8, fun i j row u hi hj => ?_⟩)
        · rcases a2 with ⟨y, q', b1, b3, b4⟩ | a2
          · rw [← b4]; exact (h.block_lt (only_some.1 b1).1 b3).2.2
          · exact .inr (Nat.le_trans h.size a2)
        · obtain ⟨c, c1, c2⟩ := a9 i j row u hi hj
          exact ⟨c, c1, up c2⟩
    · refine .inl ⟨a1, fun hnn => by rw [hn x a3]; exact hnn, fun q hq => ?_⟩
      have hlt := (h.block_lt (by rw [a1]; rfl) hq).1
      refine r.old q.b hlt ?_
      rintro ⟨y, q', b1, b3, b4⟩
      exact a2 (by rw [h.inj x y q q' (by rw [a1]; rfl) (only_some.1 b1).1 hq b3 b4.symm]; exact (only_some.1 b1).2)
end

/-- The contract of a function, in plain values: called with these, in a memory that holds these blocks, it yields v and these changes; names from nm on are its to give. -/
def Ev (cx : Cx) (f : FuncId) (nm : Nat) (args : List V) (M : Mem) (v : V) (eff : List (Nat × Option Blk)) : Prop :=
  (∀ cargs w, (callFunc f cargs).run cx.P w = .ok (.enter f cargs) w) ∧
  ∀ (X : Nat → Prop) (w : World) (ρ : Names) (cargs : Array Value) (B : Nat), Rel cx.G X w (Blocks ρ M) ρ M w → (∀ x, Fresh nm x → ρ x = none) → (∀ x, B ≤ x → M x = none ∧ ρ x = none) → args.length = cargs.size →
    (∀ (i : Nat) (u : V) (cv : Value), args[i]? = some u → cargs[i]? = some cv → Is ρ (Dom X ρ M) w u cv) →
    Calls cx.P f cargs w fun e w' => ∃ cv, e = .returned cv ∧ StepsN cx.G X w (Blocks ρ M) ρ M w nm v (M.app eff) cv w'
section
variable {cx : Cx} {X : Nat → Prop} {w0 : World} {I : Nat → Prop} {ρ : Names} {M : Mem} {w : World}
/-- A call, under its contract. -/
theorem call_sound {N : Nat} {e : Env} {a : Act} {c : Bool} {o : Oper} {nm : Nat} (h : Rel cx.G X w0 I ρ M w) (he : EnvAt ρ (Dom X ρ M) w N e a) (hc : c = true) (hx : ∀ x ∈ o.op.operands.toList, inN N x) (hf : ∀ x, Fresh nm x → M x = none ∧ ρ x = none) (hB : ∃ B, ∀ x, B ≤ x → M x = none ∧ ρ x = none)
    {fo : Operand} {args : Array Operand} {ats : Array TypeId} (ho : o.op = .call { callee := .value fo, args := args, argTypes := ats }) {f : FuncId} {caps : List V} (hfo : evalV cx.G c e fo = .fn f caps) {l : List Nat} {v : V} {eff : List (Nat × Option Blk)}
    (hev : Ev cx f nm (args.toList.map (evalV cx.G c e) ++ caps) (M.only l) v eff) (heff : ∀ x ∈ effNames eff, x ∈ l ∨ Fresh nm x) (Q : Exit → Act → World → Prop) (K : Act → World → Prop)
    (hK : ∀ cv w', StepsN cx.G X w0 I ρ M w nm v (M.app eff) cv w' → K (a.put o.dst cv) w') : o.wp cx.P a w K Q := by
  have hops : o.op.operands.toList = fo :: args.toList := by rw [ho]; simp [Op.operands, Call.operands]
  rw [hops] at hx
  have h1 := he.eval h hc (hx fo (by simp))
  rw [hfo] at h1
  cases hcf : a.eval fo <;> rw [hcf] at h1 <;> try (cases h1; done)
  cases h1 with
  | fn hn hu =>
    rename_i cvs
    have hargs := args_is h he hc args (fun x hxx => hx x (by simp [hxx]))
    obtain ⟨B, hB⟩ := hB
    have hcalls := hev.2 (FX X ρ M l) w ρ (args.map a.eval ++ cvs) B (h.focus l) (fun x hfx => (hf x hfx).2) (fun x hx => ⟨by unfold Mem.only; simp [(hB x hx).1], (hB x hx).2⟩) (by simp [hn]) (fun i u cv h3 h4 => by
      rw [List.getElem?_append] at h3
      split at h3
      · rename_i hlt
        rw [Array.getElem?_append_left (by simpa using hlt)] at h4
        exact (hargs i u cv h3 h4).focus
      · rename_i hge
        rw [Array.getElem?_append_right (by simpa using hge)] at h4
        exact (hu _ u cv h3 (by simpa using h4)).focus)
    unfold Oper.wp execOp
    simp only [ho, resolve, Deferred.ofValue, hcf, Sem.run_bind, Sem.run_pure, Result.andThen_ok, invoke, Array.empty_append, hev.1]
    refine hcalls.mono ?_
    rintro e' w' ⟨cv, rfl, hs⟩
    exact hK cv w' (h.unfocus (fun x hfx => (hf x hfx).1) heff hs)
end
end Go.Proofs.Ytdbbnhmnlgfjoaa.Vm
