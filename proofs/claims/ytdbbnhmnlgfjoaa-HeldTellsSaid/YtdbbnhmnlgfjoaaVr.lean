/-
  The machine of plain values: the contract of a function out of what is shown of its code. No program in sight.
-/
import Derived.Test.YtdbbnhmnlgfjoaaVq
namespace Go.Proofs.Ytdbbnhmnlgfjoaa.Vm
set_option linter.unusedSimpArgs false
set_option linter.unusedVariables false
open Go Go.RowKit

def resV1 (P : Program) (e : Env) (M : Mem) : ResultVar → V
  | .tmp t => (e t).strip true
  | .cell a t => loadV P t M ((e a).strip true)
def resOk1 (P : Program) (N : Nat) (e : Env) (M : Mem) : ResultVar → Prop
  | .tmp t => t < N
  | .cell a t => a < N ∧ loadOk P t M ((e a).strip true)
def resV (P : Program) (rs : List ResultVar) (e : Env) (M : Mem) : V := match rs with
  | [r] => resV1 P e M r
  | rs => .tup (rs.map (resV1 P e M))
def resOk (P : Program) (N : Nat) (rs : List ResultVar) (e : Env) (M : Mem) : Prop := match rs with
  | [] => True
  | r :: q => resOk1 P N e M r ∧ resOk P N q e M
/-- What is to be shown where a function ends. -/
def Fin (cx : Cx) (N : Nat) (rs : List ResultVar) (nm : Nat) (M0 : Mem) (v : V) (eff : List (Nat × Option Blk)) (b0 : Nat) (e : Env) (M : Mem) : Prop :=
  resOk cx.P N rs e M ∧ ∃ σ : List (Nat × Nat), (resV cx.P rs e M).finOk σ M ∧ ((resV cx.P rs e M).fin σ M).le v ∧ eff = σ.map (fun p => (p.2, M p.1)) ∧ (σ.map (·.1)).Nodup ∧ (σ.map (·.2)).Nodup ∧
    (∀ p ∈ σ, ((p.1 = p.2 ∧ (M0 p.2).isSome = true) ∨ (Fresh nm p.2 ∧ b0 ≤ p.1)) ∧ ∃ k, M p.1 = some k ∧ plainLL k.rows = true) ∧
    (∀ x, (M0 x).isSome = true → x ∈ σ.map (·.2))
/-- One result. -/
def resOne (tmps : Array Value) : ResultVar → Sem Value
  | .tmp t => pure (tmps.getD t undef)
  | .cell p t => do loadVar t (← asAddr (tmps.getD p undef))
def argsE (args : List V) : Env := fun t => (args[t]?).getD .any

section
variable {cx : Cx} {N : Nat} {X : Nat → Prop} {w0 : World} {I : Nat → Prop} {ρ ρ0 ρ' : Names} {M : Mem} {w : World} {b0 : Nat}
theorem res1_sound (h : Rel cx.G X w0 I ρ M w) {e : Env} {a : Act} (he : EnvAt ρ (Dom X ρ M) w N e a) (r : ResultVar) (hok : resOk1 cx.P N e M r) :
    ∃ c, (resOne a.tmps r).run cx.P w = .ok c w ∧ Is ρ (Dom X ρ M) w (resV1 cx.P e M r) c := by
  cases r with
  | tmp t => exact ⟨_, rfl, (he.is t hok).strip rfl⟩
  | cell p t =>
    obtain ⟨hp, hl⟩ := hok
    have hv := (he.is p hp).strip (c := true) rfl
    obtain ⟨c, h1, h2⟩ := load_sound (P := cx.P) h hv hl
    obtain ⟨b, o, hb, _⟩ := h.target hv hl.1
    refine ⟨c, ?_, h2⟩
    rw [hb] at h1
    simp only [resOne, hb]
    simpa [Instr.loadAt, Instr.sureAddr, asAddr] using h1
theorem res_list (h : Rel cx.G X w0 I ρ M w) {e : Env} {a : Act} (he : EnvAt ρ (Dom X ρ M) w N e a) : ∀ (rs : List ResultVar), resOk cx.P N rs e M →
    ∃ cs : List Value, (rs.mapM (resOne a.tmps)).run cx.P w = .ok cs w ∧ cs.length = rs.length ∧
      ∀ (i : Nat) (u : V) (c : Value), (rs.map (resV1 cx.P e M))[i]? = some u → cs[i]? = some c → Is ρ (Dom X ρ M) w u c
  | [], _ => ⟨[], rfl, rfl, fun i u c h => by simp at h⟩
  | r :: q, hok => by
    obtain ⟨c, h1, h2⟩ := res1_sound h he r hok.1
    obtain ⟨cs, h3, h4, h5⟩ := res_list h he q hok.2
    refine ⟨c :: cs, by simp only [List.mapM_cons, Sem.run_bind, h1, Result.andThen_ok, h3, Sem.run_pure], by simp [h4], ?_⟩
    intro i u c' hi hc
    cases i with
    | zero => simp at hi hc; subst hi; subst hc; exact h2
    | succ i => exact h5 i u c' (by simpa using hi) (by simpa using hc)
theorem res_sound (h : Rel cx.G X w0 I ρ M w) {e : Env} {a : Act} (he : EnvAt ρ (Dom X ρ M) w N e a) (fn : Func) (hok : resOk cx.P N fn.results.toList e M) :
    ∃ c, (results fn a.tmps).run cx.P w = .ok c w ∧ Is ρ (Dom X ρ M) w (resV cx.P fn.results.toList e M) c := by
  obtain ⟨cs, h1, h2, h3⟩ := res_list h he fn.results.toList hok
  have hrun : (results fn a.tmps).run cx.P w = .ok (if h : cs.toArray.size = 1 then cs.toArray[0] else .tuple cs.toArray) w := by
    have hres : results fn a.tmps = (do let vs ← fn.results.mapM (resOne a.tmps); pure (if h : vs.size = 1 then vs[0] else .tuple vs)) := by
      unfold results
      congr 1
    rw [hres, Sem.run_bind, Array.mapM_eq_mapM_toList, Sem.run_map, h1]
    rfl
  refine ⟨_, hrun, ?_⟩
  unfold resV
  split
  · rename_i r hr
    rw [hr] at h2 h3
    have hl : cs.length = 1 := by simpa using h2
    rw [dif_pos (by simpa using hl)]
    refine h3 0 _ _ (by simp) (by simp [hl])
  · rename_i hne
    have hl : cs.toArray.size ≠ 1 := by
      intro hl
      rw [List.size_toArray, h2] at hl
      match hq : fn.results.toList, hl with
      | [r], _ => exact hne r hq
    rw [dif_neg hl]
    exact .tup (by simp [h2]) (fun i u c hi hc => h3 i u c hi (by simpa using hc))

theorem newName_some {σ : List (Nat × Nat)} {nm y : Nat} (h : newName σ nm = some y) : (nm, y) ∈ σ := by
  unfold newName at h
  obtain ⟨p, h1, rfl⟩ := Option.map_eq_some_iff.1 h
  have h2 := List.mem_of_find?_eq_some h1
  have h3 := List.find?_some h1
  simp at h3
  subst h3
  exact h2
theorem newName_none {σ : List (Nat × Nat)} {nm : Nat} (h : newName σ nm = none) : nm ∉ σ.map (·.1) := by
  unfold newName at h
  rw [Option.map_eq_none_iff, List.find?_eq_none] at h
  intro hm
  obtain ⟨p, h1, rfl⟩ := List.mem_map.1 hm
  exact h p h1 (by simp)
/-- Names of the contract, back to the call's own. -/
def oldName (σ : List (Nat × Nat)) (y : Nat) : Option Nat := (σ.find? (fun p => p.2 == y)).map (·.1)
theorem oldName_some {σ : List (Nat × Nat)} {x y : Nat} (h : oldName σ y = some x) : (x, y) ∈ σ := by
  unfold oldName at h
  obtain ⟨p, h1, rfl⟩ := Option.map_eq_some_iff.1 h
  have h2 := List.mem_of_find?_eq_some h1
  have h3 := List.find?_some h1
  simp at h3
  subst h3
  exact h2
theorem oldName_none {σ : List (Nat × Nat)} {y : Nat} (h : oldName σ y = none) : y ∉ σ.map (·.2) := by
  unfold oldName at h
  rw [Option.map_eq_none_iff, List.find?_eq_none] at h
  intro hm
  obtain ⟨p, h1, rfl⟩ := List.mem_map.1 hm
  exact h p h1 (by simp)
theorem oldName_of {σ : List (Nat × Nat)} (hn : (σ.map (·.2)).Nodup) {x y : Nat} (h : (x, y) ∈ σ) : oldName σ y = some x := by
  cases ho : oldName σ y with
  | none => exact absurd (List.mem_map.2 ⟨_, h, rfl⟩) (oldName_none ho)
  | some x' =>
    have h' := oldName_some ho
    clear ho
    induction σ with
    | nil => cases h
    | cons p r ih =>
      simp only [List.map_cons, List.nodup_cons] at hn
      rcases List.mem_cons.1 h with h1 | h1 <;> rcases List.mem_cons.1 h' with h2 | h2
      · rw [← h1] at h2; cases h2; rfl
      · subst h1; exact absurd (List.mem_map.2 ⟨_, h2, rfl⟩) hn.1
      · subst h2; exact absurd (List.mem_map.2 ⟨_, h1, rfl⟩) hn.1
      · exact ih hn.2 h1 h2
theorem app_map {σ : List (Nat × Nat)} {Mf : Mem} : ∀ {M0 : Mem}, (σ.map (·.2)).Nodup → ∀ y, (M0.app (σ.map (fun p => (p.2, Mf p.1)))) y = match oldName σ y with | some x => Mf x | none => M0 y := by
  induction σ with
  | nil => intro M0 _ y; rfl
  | cons p r ih =>
    intro M0 hn y
    simp only [List.map_cons, List.nodup_cons] at hn
    simp only [List.map_cons, Mem.app]
    rw [ih hn.2]
    by_cases e : p.2 = y
    · have h1 : oldName (p :: r) y = some p.1 := by simp [oldName, e]
      have h2 : oldName r y = none := by
        cases ho : oldName r y with
        | none => rfl
        | some x => exact absurd (List.mem_map.2 ⟨_, oldName_some ho, rfl⟩) (by rw [← e]; exact hn.1)
      rw [h1, h2]
      simp only
      rw [← e, Mem.put_same]
    · have h1 : oldName (p :: r) y = oldName r y := by simp [oldName, List.find?_cons, e]
      rw [h1]
      split
      · rfl
      · rw [Mem.put_ne _ _ (fun h => e h.symm)]

/-- The last step. -/
theorem fin_sound {w00 : World} {rs : List ResultVar} {nm : Nat} {M0 : Mem} {v : V} {eff : List (Nat × Option Blk)} {n : Nat} {e : Env} {a : Act} (h0 : Rel cx.G X w00 (Blocks ρ0 M0) ρ0 M0 w00) (hfr : ∀ x, Fresh nm x → ρ0 x = none) (hb : ∀ x, b0 ≤ x → M0 x = none ∧ ρ0 x = none)
    (h : Lies cx N X w00 (Blocks ρ0 M0) ρ0 b0 n e M ρ a w) (hf : Fin cx N rs nm M0 v eff b0 e M) {cv : Value} (hcv : Is ρ (Dom X ρ M) w (resV cx.P rs e M) cv) : StepsN cx.G X w00 (Blocks ρ0 M0) ρ0 M0 w00 nm v (M0.app eff) cv w := by
  obtain ⟨_, σ, f1, f2, rfl, f4, f5, f6, f7⟩ := hf
  have hM' := app_map (σ := σ) (Mf := M) (M0 := M0) f5
  -- the new names
  let ρ1 : Names := fun y => match oldName σ y with | some x => ρ x | none => ρ0 y
  have hρ1 : ∀ y x, oldName σ y = some x → ρ1 y = ρ x := fun y x hy => by show (match oldName σ y with | some x => ρ x | none => ρ0 y) = _; rw [hy]
  have hρ1' : ∀ y, oldName σ y = none → ρ1 y = ρ0 y := fun y hy => by show (match oldName σ y with | some x => ρ x | none => ρ0 y) = _; rw [hy]
  -- a name of the contract's memory: one of the call's end, of the same block
  have src : ∀ y k, (M0.app (σ.map (fun p => (p.2, M p.1)))) y = some k → ∃ x, M x = some k ∧ ρ1 y = ρ x ∧ plainLL k.rows = true ∧ (x = y ∨ b0 ≤ x ∧ Fresh nm y) ∧ oldName σ y = some x := fun y k hy => by
    rw [hM'] at hy
    cases ho : oldName σ y with
    | some x =>
      rw [ho] at hy
      simp only at hy
      obtain ⟨g1, k', g2, g3⟩ := f6 _ (oldName_some ho)
      simp only at g2
      rw [hy] at g2; cases g2
      refine ⟨x, hy, hρ1 y x ho, g3, ?_, rfl⟩
      rcases g1 with ⟨g1, _⟩ | ⟨g1, g4⟩
      · exact .inl g1
      · exact .inr ⟨g4, g1⟩
    | none =>
      rw [ho] at hy
      simp only at hy
      exact absurd (f7 y (by rw [hy]; rfl)) (oldName_none ho)
  have hdom : ∀ b, Dom X ρ1 (M0.app (σ.map (fun p => (p.2, M p.1)))) b → Dom X ρ M b := by
    rintro b (hx | ⟨y, l, h1, h2, h3⟩)
    · exact .inl hx
    · obtain ⟨k, hk⟩ := Option.isSome_iff_exists.1 h1
      obtain ⟨x, g1, g2, _⟩ := src y k hk
      exact .inr ⟨x, l, by rw [g1]; rfl, by rw [← g2]; exact h2, h3⟩
  have hinj : ∀ y y' x, oldName σ y = some x → oldName σ y' = some x → y = y' := by
    have key : ∀ {τ : List (Nat × Nat)}, (τ.map (·.1)).Nodup → ∀ {x y y'}, (x, y) ∈ τ → (x, y') ∈ τ → y = y' := by
      intro τ hn
      induction τ with
      | nil => intro x y y' h1; cases h1
      | cons p r ih =>
        intro x y y' h1 h2
        simp only [List.map_cons, List.nodup_cons] at hn
        rcases List.mem_cons.1 h1 with g1 | g1 <;> rcases List.mem_cons.1 h2 with g2 | g2
        · rw [← g1] at g2; cases g2; rfl
        · exact absurd (List.mem_map.2 ⟨_, g2, by rw [← g1]⟩) hn.1
        · exact absurd (List.mem_map.2 ⟨_, g1, by rw [← g2]⟩) hn.1
        · exact ih hn.2 g1 g2
    intro y y' x h1 h2
    exact key f4 (oldName_some h1) (oldName_some h2)
  have mv : Moves ρ0 M0 w00 ρ1 (M0.app (σ.map (fun p => (p.2, M p.1)))) w := by
    refine ⟨fun y l hy => ?_, h.rel.size, h.rel.os, h.rel.tape, h.rel.output, fun b hbb hk => h.rel.old b hbb (fun ⟨nm', q, g1, g2, g3⟩ => hk nm' q g1 g2 g3), fun y l h1 h2 h3 => ?_⟩
    · cases ho : oldName σ y with
      | none => rw [hρ1' y ho]; exact hy
      | some x =>
        rw [hρ1 y x ho]
        rcases (f6 _ (oldName_some ho)).1 with ⟨g1, _⟩ | ⟨g1, _⟩
        · simp only at g1; subst g1; exact h.names _ _ hy
        · rw [hfr y g1] at hy; cases hy
    · obtain ⟨k, hk⟩ := Option.isSome_iff_exists.1 h1
      obtain ⟨x, g1, g2, _⟩ := src y k hk
      have hbl := h.rel.block_lt (nm := x) (by rw [g1]; rfl) (by rw [← g2]; exact h2)
      rcases hbl.2.2 with ⟨nm', q, c1, c2, c3⟩ | c
      · exact ⟨nm', q, c1, c2, c3⟩
      · omega
  refine ⟨ρ1, ?_, mv, ?_, fun y hy => ?_⟩
  · refine h0.move mv ?_ ?_
    · intro y y' l l' h1 h2 h3 h4 h5
      obtain ⟨k, hk⟩ := Option.isSome_iff_exists.1 h1
      obtain ⟨k', hk'⟩ := Option.isSome_iff_exists.1 h2
      obtain ⟨x, g1, g2, _, _, g5⟩ := src y k hk
      obtain ⟨x', g1', g2', _, _, g5'⟩ := src y' k' hk'
      have := h.rel.inj x x' l l' (by rw [g1]; rfl) (by rw [g1']; rfl) (by rw [← g2]; exact h3) (by rw [← g2']; exact h4) h5
      subst this
      exact hinj y y' x g5 g5'
    · intro y k hy
      obtain ⟨x, g1, g2, g3, _, _⟩ := src y k hy
      rcases h.rel.live x k g1 with ⟨a1, a2⟩ | ⟨l, a1, a2, a3, cs, e', a4, a5, a6, a7, a8, a9⟩
      · exact .inr (.inl ⟨a1, by rw [g2]; exact a2⟩)
      · refine .inr (.inr ⟨l, by rw [g2]; exact a1, a2, a3, cs, e', a4, a5, a6, a7, a8, fun i j row u hi hj => ?_⟩)
        obtain ⟨c, c1, c2⟩ := a9 i j row u hi hj
        exact ⟨c, c1, c2.plain (Nat.le_refl _) (fun _ _ _ => rfl) (fun b _ hb => hdom b hb) (plainL_get (plainLL_get g3 hi) hj)⟩
  · refine (fin_is h.rel (fun x y hxy => hρ1 y x (oldName_of f5 (newName_some hxy))) hdom ?_ hcv f1).le _ f2
    rintro x l hn hMx hl (hX | ⟨y, l', h1, h2, h3⟩)
    · exact (h.rel.block_lt hMx hl).2.1 hX
    · obtain ⟨k, hk⟩ := Option.isSome_iff_exists.1 h1
      obtain ⟨x', g1, g2, _, _, g5⟩ := src y k hk
      have := h.rel.inj x' x l' l (by rw [g1]; rfl) hMx (by rw [← g2]; exact h2) hl h3
      subst this
      exact newName_none hn (List.mem_map.2 ⟨_, oldName_some g5, rfl⟩)
  · cases ho : oldName σ y with
    | none => exact hρ1' y ho
    | some x =>
      rcases (f6 _ (oldName_some ho)).1 with ⟨g1, g2⟩ | ⟨g1, _⟩
      · simp only at g1 g2; subst g1
        rw [hρ1 x x ho]
        have hlt : x < b0 := by
          rcases Nat.lt_or_ge x b0 with h1 | h1
          · exact h1
          · rw [(hb x h1).1] at g2; cases g2
        exact h.low x hlt
      · exact absurd g1 hy
/-- Names for slices of no elements, of which no block need be there. -/
def Mem.ghosts (M : Mem) (n : Nat) : List Nat → Mem
  | [] => M
  | s :: r => (M.put n (some ⟨s, []⟩)).ghosts (n + 1) r
theorem Lies.ghosts : ∀ (gs : List Nat) {n : Nat} {M : Mem} {e : Env} {a : Act} {nm : Nat}, Lies cx N X w0 I ρ0 nm n e M ρ a w → Lies cx N X w0 I ρ0 nm (n + gs.length) e (M.ghosts n gs) ρ a w
  | [], n, M, e, a, nm, h => h
  | s :: r, n, M, e, a, nm, h => by
    have hf := h.free n (Nat.le_refl _)
    obtain ⟨r1, m1⟩ := h.rel.ghost hf.1 hf.2 s
    have h1 : Lies cx N X w0 I ρ0 nm (n + 1) e (M.put n (some ⟨s, []⟩)) ρ a w :=
      ⟨r1, h.env.moves m1, fun x hx => ⟨by rw [Mem.put_ne _ _ (by omega)]; exact (h.free x (by omega)).1, (h.free x (by omega)).2⟩, h.names, by have := h.base; omega, h.low⟩
    have := Lies.ghosts r h1
    rw [show n + (s :: r).length = n + 1 + r.length by simp; omega]
    exact this
end
end Go.Proofs.Ytdbbnhmnlgfjoaa.Vm
