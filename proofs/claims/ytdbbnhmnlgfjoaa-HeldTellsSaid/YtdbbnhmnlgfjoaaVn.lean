/-
  The machine of plain values: statements. 'vc' asks, of a code and a state, what is to be shown; if it is shown, the model does as the machine does. No program in sight.
-/
import Derived.Test.YtdbbnhmnlgfjoaaVm
namespace Go.Proofs.Ytdbbnhmnlgfjoaa.Vm
set_option linter.unusedSimpArgs false
set_option linter.unusedVariables false
open Go Go.RowKit

/-- Operations that leave the memory alone: a guard in front of them need not part the ways. -/
def soft : Op → Bool
  | .alloc _ | .box _ _ | .buildSlice _ _ _ | .store _ _ _ => false
  | .call { callee := .builtin b, .. } => match b with | .len | .max | .min => true | _ => false
  | .call _ => false
  | _ => true
def isCall : Op → Bool
  | .call { callee := .value _, .. } => true
  | _ => false
/-- A call: it has a contract. -/
def vcCall (cx : Cx) (c : Bool) (e : Env) (M : Mem) (nm : Nat) (o : Oper) (K : V → List (Nat × Option Blk) → List Nat → Prop) : Prop := match o.op with
  | .call { callee := .value fo, args, .. } => match evalV cx.G c e fo with
    | .fn g caps => ∃ l v eff, Ev cx g nm (args.toList.map (evalV cx.G c e) ++ caps) (M.only l) v eff ∧ (∀ x ∈ effNames eff, (x ∈ l ∧ (M x).isSome = true) ∨ Fresh nm x) ∧ K v eff l
    | _ => False
  | _ => False
/-- A call behind a guard: a contract without changes, for where the guard says yes. -/
def vcCallG (cx : Cx) (c : Bool) (e : Env) (M : Mem) (nm : Nat) (o : Oper) (K : V → List Nat → Prop) : Prop := match o.op with
  | .call { callee := .value fo, args, .. } => match evalV cx.G c e fo with
    | .fn g caps => ∃ l v, (c = true → Ev cx g nm (args.toList.map (evalV cx.G c e) ++ caps) (M.only l) v []) ∧ K v l
    | _ => False
  | _ => False
def guardV (ops : List Oper) (e : Env) (j : Nat) : V := match ops[j]? with
  | some o => match o.dst with | some t => (e t).strip true | none => .any
  | none => .any
def namesV : V → List Nat
  | .ptr nm _ _ | .own nm _ _ => [nm]
  | _ => []
/-- The names of the blocks that an operation touches. -/
def opF (cx : Cx) (c : Bool) (e : Env) (nm : Nat) (o : Oper) : List Nat := match o.op with
  | .load _ x | .indexAddr _ x _ | .slice _ x _ _ _ | .store _ x _ => namesV (evalV cx.G c e x)
  | .alloc _ | .box _ _ | .buildSlice _ _ _ => [nm]
  | .call { callee := .builtin .append, args, .. } => nm :: (args.toList.map (evalV cx.G c e)).flatMap namesV
  | _ => []
/-- The operations of a region, one behind the other; fs: what each has touched. -/
def vcOps (cx : Cx) (ops : List Oper) : List Oper → Nat → Nat → Env → Mem → List (List Nat) → (Nat → Env → Mem → List (List Nat) → Prop) → Prop
  | [], nm, i, e, M, fs, K => K (nm + 16 * i) e M fs
  | o :: r, nm, i, e, M, fs, K => match o.guard with
    | none => if isCall o.op = true then vcCall cx true e M (nm + 16 * i) o (fun v eff l => vcOps cx ops r nm (i + 1) (e.putD o.dst v) (M.app eff) (fs ++ [l ++ effNames eff]) K)
      else opOk cx true e M o ∧ vcOps cx ops r nm (i + 1) (e.putD o.dst (opV cx true e M (nm + 16 * i) o)) (M.app (opE cx true e M (nm + 16 * i) o)) (fs ++ [opF cx true e (nm + 16 * i) o]) K
    | some (j, want) => match guardV ops e j with
      | .bool b => if isCall o.op = true then vcCallG cx (b == want) e M (nm + 16 * i) o (fun v l => vcOps cx ops r nm (i + 1) (e.putD o.dst (.gd (b == want) v)) M (fs ++ [l]) K)
        else if soft o.op = true then ((b == want) = true → opOk cx (b == want) e M o) ∧ vcOps cx ops r nm (i + 1) (e.putD o.dst (.gd (b == want) (opV cx (b == want) e M (nm + 16 * i) o))) M (fs ++ [opF cx (b == want) e (nm + 16 * i) o]) K
        else ((b == want) = true → opOk cx true e M o ∧ vcOps cx ops r nm (i + 1) (e.putD o.dst (opV cx true e M (nm + 16 * i) o)) (M.app (opE cx true e M (nm + 16 * i) o)) (fs ++ [opF cx true e (nm + 16 * i) o]) K) ∧
          ((b == want) = false → vcOps cx ops r nm (i + 1) (e.putD o.dst .any) M (fs ++ [[]]) K)
      | _ => False

/-- Operands and places within the frame. -/
def tmpIn (N : Nat) : Operand → Bool
  | .tmp t => decide (t < N)
  | _ => true
/-- An operation's operands, as a list that the kernel lays quickly. -/
def opsL : Op → List Operand
  | .alloc _ | .ready _ | .waits _ => []
  | .move x | .assign x | .box _ x | .load _ x | .nilCheck x | .unOp _ _ x | .convert _ _ x | .sliceToArrayPointer _ x | .makeInterface _ x
  | .makeChan _ x | .fieldAddr _ x _ | .field _ x _ | .range _ x | .next x _ | .entry x | .typeAssert x _ _ _ | .extract x _ | .panic x | .recv _ x _ => [x]
  | .pick c a b => [c, a, b]
  | .build _ ps | .buildSlice _ _ ps => ps.toList.map (·.2)
  | .store _ a v | .binOp _ _ a v _ | .makeSlice _ a v | .indexAddr _ a v | .index _ a v | .lookup _ a v _ | .mapEntry _ a v | .send a v => [a, v]
  | .makeFunc _ first captured => first.toList ++ captured.toList
  | .makeMap _ r => r.toList
  | .slice _ x l h m => x :: (l.toList ++ h.toList ++ m.toList)
  | .mapUpdate _ m k v | .entryStore _ m k v | .insert _ m k v => [m, k, v]
  | .call c | .go c | .defer c => (match c.callee with | .value f => [f] | .invoke r _ => [r] | .builtin _ => []) ++ c.args.toList
  | .select cs _ => (cs.flatMap fun c => #[c.chan] ++ c.send.toArray).toList
theorem opsL_eq (op : Op) : op.operands.toList = opsL op := by
  cases op <;> simp [Op.operands, opsL, Call.operands]
  all_goals (rename_i c; cases c.callee <;> simp)
def opIn (N : Nat) (o : Oper) : Bool := (opsL o.op).all (tmpIn N) && (match o.dst with | some d => decide (d < N) | none => true)
theorem inN_of {N : Nat} {x : Operand} (h : tmpIn N x = true) : inN N x := by
  cases x <;> simp_all [tmpIn, inN]

/-- How a state of the machine lies in the model's. -/
structure Lies (cx : Cx) (N : Nat) (X : Nat → Prop) (w0 : World) (I : Nat → Prop) (ρ0 : Names) (b0 : Nat) (nm : Nat) (e : Env) (M : Mem) (ρ : Names) (a : Act) (w : World) : Prop where
  rel : Rel cx.G X w0 I ρ M w
  env : EnvAt ρ (Dom X ρ M) w N e a
  free : ∀ x, nm ≤ x → M x = none ∧ ρ x = none
  names : ∀ x l, ρ0 x = some l → ρ x = some l
  base : b0 ≤ nm
  low : ∀ x, x < b0 → ρ x = ρ0 x
section
variable {cx : Cx} {N : Nat} {X : Nat → Prop} {w0 : World} {I : Nat → Prop} {ρ0 ρ : Names} {b0 : Nat} {nm : Nat} {e : Env} {M : Mem} {a : Act} {w : World}
theorem EnvAt.put {D : Nat → Prop} (he : EnvAt ρ D w N e a) (d : Option Nat) (hd : ∀ t, d = some t → t < N) {v : V} {cv : Value} (hv : Is ρ D w v cv) : EnvAt ρ D w N (e.putD d v) (a.put d cv) := by
  cases d with
  | none => exact he
  | some t =>
    refine ⟨by simp [Act.put, he.size], he.defers, fun x hx => ?_⟩
    have ht := hd t rfl
    simp only [Env.putD, Env.put, Act.put]
    by_cases e1 : x = t
    · subst e1
      rw [if_pos rfl]
      have : (a.tmps.setIfInBounds x cv).getD x undef = cv := by
        simp [Array.getD_eq_getD_getElem?, he.size, ht]
      rw [this]; exact hv
    · rw [if_neg e1]
      have : (a.tmps.setIfInBounds t cv).getD x undef = a.tmps.getD x undef := by
        simp only [Array.getD_eq_getD_getElem?, Array.getElem?_setIfInBounds]
        rw [if_neg (fun h => e1 h.symm)]
      rw [this]; exact he.is x hx
theorem EnvAt.moves {ρ' : Names} {M' : Mem} {w' : World} (he : EnvAt ρ (Dom X ρ M) w N e a) (m : Moves ρ M w ρ' M' w') : EnvAt ρ' (Dom X ρ' M') w' N e a := ⟨he.size, he.defers, fun t ht => m.is (he.is t ht)⟩
/-- Behind a step. -/
theorem Lies.step (h : Lies cx N X w0 I ρ0 b0 nm e M ρ a w) {d : Option Nat} (hd : ∀ t, d = some t → t < N) {v u : V} {eff : List (Nat × Option Blk)} {cv : Value} {w' : World} {n : Nat} (hn : nm ≤ n) (hs : StepsN cx.G X w0 I ρ M w n v (M.app eff) cv w') (he : ∀ x ∈ effNames eff, x < n + 16)
    (hu : ∀ {ρ' : Names} {D' : Nat → Prop}, Is ρ' D' w' v cv → Is ρ' D' w' u cv) : ∃ ρ', Lies cx N X w0 I ρ0 b0 (n + 16) (e.putD d u) (M.app eff) ρ' (a.put d cv) w' := by
  obtain ⟨ρ', r, m, hv, hnn⟩ := hs
  refine ⟨ρ', r, (h.env.moves m).put d hd (hu hv), fun x hx => ⟨?_, ?_⟩, fun x l hx => m.names x l (h.names x l hx), by have := h.base; omega, fun x hx => by
    have hb := h.base
    rw [hnn x (fun hf => by have := hf.1; omega), h.low x hx]⟩
  · rw [Mem.app_of_notin (fun hxe => by have := he x hxe; omega)]
    exact (h.free x (by omega)).1
  · rw [hnn x (fun hf => by have := hf.2; omega)]
    exact (h.free x (by omega)).2
theorem Lies.mono (h : Lies cx N X w0 I ρ0 b0 nm e M ρ a w) {n : Nat} (hn : nm ≤ n) : Lies cx N X w0 I ρ0 b0 n e M ρ a w := ⟨h.rel, h.env, fun x hx => h.free x (Nat.le_trans hn hx), h.names, Nat.le_trans h.base hn, h.low⟩
theorem Lies.skip (h : Lies cx N X w0 I ρ0 b0 nm e M ρ a w) {d : Option Nat} (hd : ∀ t, d = some t → t < N) {v : V} {cv : Value} (hv : Is ρ (Dom X ρ M) w v cv) : Lies cx N X w0 I ρ0 b0 nm (e.putD d v) M ρ (a.put d cv) w :=
  ⟨h.rel, h.env.put d hd hv, h.free, h.names, h.base, h.low⟩
/-- The names that an operation's changes touch. -/
theorem opE_live {o : Oper} {n : Nat} (c : Bool) (hok : opOk cx c e M o) : ∀ x ∈ effNames (opE cx c e M n o), (M x).isSome = true ∨ x = n := by
  intro x hx
  obtain ⟨dst, op, type, pos, after, guard⟩ := o
  cases op <;> simp only [opE, effNames, List.map_nil, List.map_cons, List.not_mem_nil, List.mem_singleton] at hx <;> try (exact .inr hx)
  case store t p v =>
    split at hx
    · rename_i q i j hq
      simp only [List.map_cons, List.map_nil, List.mem_singleton] at hx
      subst hx
      left
      simp only [opOk, hq, storeOk] at hok
      split at hok
      · obtain ⟨h1, _, _, h2⟩ := hok
        cases hM : M x with
        | none => rw [rowOf, hM] at h2; simp at h2; omega
        | some k => rfl
      · exact hok.elim
    · simp at hx
  case call cl =>
    obtain ⟨callee, args, argTypes⟩ := cl
    cases callee <;> simp only at hx <;> try (simp at hx; done)
    rename_i b
    simp only [opOk] at hok
    revert hx hok
    generalize args.toList.map (evalV cx.G c e) = l
    intro hok hx
    unfold builtinE at hx
    split at hx
    · rename_i ns lo k x'
      simp only [List.map_cons, List.map_nil, List.mem_cons, List.not_mem_nil, or_false] at hx
      rcases hx with rfl | rfl
      · left
        unfold builtinOk at hok
        split at hok <;> try (exact hok.elim)
        · cases ‹_ = [_]›
        · rename_i he1
          cases he1
          obtain ⟨_, hok⟩ := hok
          split at hok
          · exact hok.1.1
          · exact hok.elim
        · rename_i hb _; cases hb
        · rename_i hb _; cases hb
      · exact .inr rfl
    · simp only [List.map_cons, List.map_nil, List.mem_cons, List.not_mem_nil, or_false] at hx
      exact .inr hx
    · simp at hx
end
end Go.Proofs.Ytdbbnhmnlgfjoaa.Vm
