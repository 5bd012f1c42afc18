/-
  The machine of plain values: one operation, whatever it is. No program in sight.
-/
import Derived.Test.YtdbbnhmnlgfjoaaVk
namespace Go.Proofs.Ytdbbnhmnlgfjoaa.Vm
set_option linter.unusedSimpArgs false
set_option linter.unusedVariables false
open Go Go.RowKit

structure Cx where
  P : Program
  G : Nat → V
def Mem.app (M : Mem) : List (Nat × Option Blk) → Mem
  | [] => M
  | (x, k) :: r => (M.put x k).app r
def intsV (c : Bool) (G : Nat → V) (e : Env) (x : Option Operand) : Option Int := match x with
  | some o => match evalV G c e o with | .int _ n => some n | _ => none
  | none => none
def partsV (G : Nat → V) (c : Bool) (e : Env) (ps : Array (Nat × Operand)) : List (Nat × V) := ps.toList.map fun p => (p.1, evalV G c e p.2)
def builtinV (cx : Cx) (M : Mem) (nm : Nat) (b : Builtin) (t : TypeId) (args : List V) : V := match b, args with
  | .len, [x] => .int .i64 (lenV M x)
  | .append, [s, x] => appendV M nm s x
  | .max, [a, b] => minmaxV true a b
  | .min, [a, b] => minmaxV false a b
  | _, _ => .any
def builtinE (cx : Cx) (M : Mem) (nm : Nat) (b : Builtin) (t : TypeId) (args : List V) : List (Nat × Option Blk) := match b, args with
  | .append, [.own ns lo n, x] => [(ns, none), (nm, some (appendK cx.P t M (.own ns lo n) x))]
  | .append, [s, x] => [(nm, some (appendK cx.P t M s x))]
  | _, _ => []
def lenFits (P : Program) (t : TypeId) (x : V) : Bool := match P.underlying t, x with
  | some .string, .str _ => true
  | some (.slice _), .sl _ _ _ => true
  | some (.slice _), .own _ _ _ => true
  | some (.slice _), .nils => true
  | _, _ => false
def builtinOk (cx : Cx) (M : Mem) (b : Builtin) (ts : List TypeId) (args : List V) : Prop := match b, ts, args with
  | .len, [t], [x] => lenFits cx.P t x = true
  | .append, [t, t2], [s, x] => appendOk cx.P t t2 M s x
  | .max, _, [a, b] => minmaxOk a b
  | .min, _, [a, b] => minmaxOk a b
  | _, _, _ => False
/-- The value that an operation yields. -/
def opV (cx : Cx) (c : Bool) (e : Env) (M : Mem) (nm : Nat) (o : Oper) : V := match o.op with
  | .move x | .assign x | .nilCheck x => evalV cx.G c e x
  | .pick x a b => match evalV cx.G c e x with | .bool q => pickV q (evalV cx.G c e a) (evalV cx.G c e b) | _ => .any
  | .alloc _ | .box _ _ => .ptr nm 0 0
  | .build t ps => buildV cx.P t (partsV cx.G c e ps)
  | .buildSlice _ n _ => .own nm 0 n
  | .load t x => loadV cx.P t M (evalV cx.G c e x)
  | .binOp op t x y _ => binV cx.P op t (evalV cx.G c e x) (evalV cx.G c e y)
  | .unOp op _ x => unV op (evalV cx.G c e x)
  | .convert _ d x => convIntV cx.P d (evalV cx.G c e x)
  | .slice _ x l h m => sliceV (evalV cx.G c e x) (intsV c cx.G e l) (intsV c cx.G e h) (intsV c cx.G e m)
  | .fieldAddr t x f => fieldAddrV cx.P t f (evalV cx.G c e x)
  | .field t x f => fieldV cx.P t f (evalV cx.G c e x)
  | .indexAddr t x i => indexAddrV cx.P t M (evalV cx.G c e x) ((intV (evalV cx.G c e i)).getD 0)
  | .index t x i => indexV cx.P t (evalV cx.G c e x) ((intV (evalV cx.G c e i)).getD 0)
  | .extract x i => extractV i (evalV cx.G c e x)
  | .makeFunc (.func f) _ caps => .fn f (caps.toList.map (evalV cx.G c e))
  | .call { callee := .builtin b, args, argTypes } => builtinV cx M nm b (argTypes.toList.headD 0) (args.toList.map (evalV cx.G c e))
  | _ => .any
/-- What it makes of the memory. -/
def opE (cx : Cx) (c : Bool) (e : Env) (M : Mem) (nm : Nat) (o : Oper) : List (Nat × Option Blk) := match o.op with
  | .alloc t => [(nm, some (boxK ((zeroL cx.P t).getD [])))]
  | .box _ x => [(nm, some (boxK (evalV cx.G c e x).cellsV))]
  | .buildSlice t n ps => [(nm, some (buildSliceK cx.P t n (partsV cx.G c e ps)))]
  | .store _ x v => match evalV cx.G c e x with
    | .ptr p i j => [(p, (M p).map fun k => ⟨k.sz, k.rows.set i (setRowV (rowOf M p i) j (evalV cx.G c e v))⟩)]
    | _ => []
  | .call { callee := .builtin b, args, argTypes } => builtinE cx M nm b (argTypes.toList.headD 0) (args.toList.map (evalV cx.G c e))
  | _ => []
def optInt (c : Bool) (G : Nat → V) (e : Env) (x : Option Operand) : Prop := match x with
  | some o => (intV (evalV G c e o)).isSome = true
  | none => True
/-- May it be carried out? -/
def opOk (cx : Cx) (c : Bool) (e : Env) (M : Mem) (o : Oper) : Prop := match o.op with
  | .move _ | .assign _ => True
  | .nilCheck x => (evalV cx.G c e x).isPtr = true
  | .pick x _ _ => match evalV cx.G c e x with | .bool _ => True | _ => False
  | .alloc t => (zeroL cx.P t).isSome = true
  | .box _ x => (evalV cx.G c e x).cellsV.all V.one = true
  | .build t ps => buildOk cx.P t (partsV cx.G c e ps)
  | .buildSlice t n ps => buildSliceOk cx.P t n (partsV cx.G c e ps)
  | .load t x => loadOk cx.P t M (evalV cx.G c e x)
  | .store t x v => storeOk cx.P t M (evalV cx.G c e x) (evalV cx.G c e v)
  | .binOp op t x y _ => binOk cx.P op t (evalV cx.G c e x) (evalV cx.G c e y)
  | .unOp op _ x => unOk op (evalV cx.G c e x)
  | .convert s d x => convIntOk cx.P s d (evalV cx.G c e x)
  | .slice t x l h m => sliceOk cx.P t M (evalV cx.G c e x) (intsV c cx.G e l) (intsV c cx.G e h) (intsV c cx.G e m) ∧ optInt c cx.G e l ∧ optInt c cx.G e h ∧ optInt c cx.G e m
  | .fieldAddr t x f => fieldAddrOk cx.P t f (evalV cx.G c e x)
  | .field t x f => fieldOk cx.P t f (evalV cx.G c e x)
  | .indexAddr t x i => (intV (evalV cx.G c e i)).isSome = true ∧ indexAddrOk cx.P t M (evalV cx.G c e x) ((intV (evalV cx.G c e i)).getD 0)
  | .index t x i => (intV (evalV cx.G c e i)).isSome = true ∧ indexOk cx.P t (evalV cx.G c e x) ((intV (evalV cx.G c e i)).getD 0)
  | .extract x i => extractOk i (evalV cx.G c e x)
  | .makeFunc (.func _) first _ => first = #[]
  | .call { callee := .builtin b, args, argTypes } => builtinOk cx M b argTypes.toList (args.toList.map (evalV cx.G c e))
  | _ => False

section
variable {cx : Cx} {X : Nat → Prop} {w0 : World} {I : Nat → Prop} {ρ : Names} {M : Mem} {w : World} {D : Nat → Prop}
theorem args_is {N : Nat} {e : Env} {a : Act} {c : Bool} (h : Rel cx.G X w0 I ρ M w) (he : EnvAt ρ (Dom X ρ M) w N e a) (hc : c = true) (xs : Array Operand) (hx : ∀ x ∈ xs.toList, inN N x) :
    ∀ (i : Nat) (u : V) (cv : Value), (xs.toList.map (evalV cx.G c e))[i]? = some u → (xs.map a.eval)[i]? = some cv → Is ρ (Dom X ρ M) w u cv := by
  intro i u cv h1 h2
  rw [List.getElem?_map] at h1
  obtain ⟨x, h3, rfl⟩ := Option.map_eq_some_iff.1 h1
  rw [Array.getElem?_map] at h2
  obtain ⟨y, h4, rfl⟩ := Option.map_eq_some_iff.1 h2
  rw [Array.getElem?_toList] at h3
  rw [h3] at h4; cases h4
  exact he.eval h hc (hx _ (List.mem_of_getElem? (by rw [Array.getElem?_toList]; exact h3)))
theorem parts_are {N : Nat} {e : Env} {a : Act} {c : Bool} (h : Rel cx.G X w0 I ρ M w) (he : EnvAt ρ (Dom X ρ M) w N e a) (hc : c = true) (ps : Array (Nat × Operand)) (hx : ∀ p ∈ ps.toList, inN N p.2) :
    (partsV cx.G c e ps).length = (ps.map fun p => (p.1, a.eval p.2)).size ∧ ∀ (j : Nat) (u : Nat × V) (b : Nat × Value), (partsV cx.G c e ps)[j]? = some u → (ps.map fun p => (p.1, a.eval p.2))[j]? = some b → u.1 = b.1 ∧ Is ρ (Dom X ρ M) w u.2 b.2 := by
  refine ⟨by simp [partsV], ?_⟩
  intro j u b h1 h2
  simp only [partsV, List.getElem?_map] at h1
  obtain ⟨x, h3, rfl⟩ := Option.map_eq_some_iff.1 h1
  rw [Array.getElem?_map] at h2
  obtain ⟨y, h4, rfl⟩ := Option.map_eq_some_iff.1 h2
  rw [Array.getElem?_toList] at h3
  rw [h3] at h4; cases h4
  exact ⟨rfl, he.eval h hc (hx _ (List.mem_of_getElem? (by rw [Array.getElem?_toList]; exact h3)))⟩
theorem intO_of {N : Nat} {e : Env} {a : Act} {c : Bool} (h : Rel cx.G X w0 I ρ M w) (he : EnvAt ρ (Dom X ρ M) w N e a) (hc : c = true) (x : Option Operand) (hx : ∀ o, x = some o → inN N o) (hi : optInt c cx.G e x) :
    IntO (x.map a.eval) (intsV c cx.G e x) := by
  cases x with
  | none => exact .inl ⟨rfl, rfl⟩
  | some o =>
    have hv := he.eval h hc (hx o rfl)
    simp only [optInt] at hi
    obtain ⟨n, hn⟩ := Option.isSome_iff_exists.1 hi
    obtain ⟨k, h1, h2⟩ := hv.int_inv hn
    refine .inr ⟨k, n, by rw [Option.map_some, h2], ?_⟩
    simp only [intsV, h1]
/-- The step of one operation. -/
theorem op_sound {N : Nat} {e : Env} {a : Act} {c : Bool} {o : Oper} {nm : Nat} (h : Rel cx.G X w0 I ρ M w) (he : EnvAt ρ (Dom X ρ M) w N e a) (hc : c = true) (hx : ∀ x ∈ o.op.operands.toList, inN N x) (hM : M nm = none) (hρ : ρ nm = none)
    (hok : opOk cx c e M o) : ∃ cv w', Steps1 cx.G X w0 I ρ M w nm (opV cx c e M nm o) (M.app (opE cx c e M nm o)) cv w' ∧ ∀ K Q, K (a.put o.dst cv) w' → o.wp cx.P a w K Q := by
  obtain ⟨dst, op, type, pos, after, guard⟩ := o
  have val : ∀ {s : Sem Value} {cv : Value} {w' : World}, (execOp a.eval ⟨dst, op, type, pos, after, guard⟩ = (do pure (.value (← s)))) → s.run cx.P w = .ok cv w' → ∀ K Q, K (a.put dst cv) w' → (⟨dst, op, type, pos, after, guard⟩ : Oper).wp cx.P a w K Q := by
    intro s cv w' h1 h2 K Q h3
    unfold Oper.wp
    rw [h1, Sem.run_bind, h2]
    exact h3
  cases op <;> simp only [opOk] at hok <;> try (exact hok.elim)
  case move x =>
    refine ⟨a.eval x, w, .still h (he.eval h hc (hx x (by simp [Op.operands]))), ?_⟩
    intro K Q h3; exact h3
  case assign x =>
    refine ⟨a.eval x, w, .still h (he.eval h hc (hx x (by simp [Op.operands]))), ?_⟩
    intro K Q h3; exact h3
  case pick x y z =>
    have h1 := he.eval h hc (hx x (by simp [Op.operands]))
    have h2 := he.eval h hc (hx y (by simp [Op.operands]))
    have h3 := he.eval h hc (hx z (by simp [Op.operands]))
    simp only [opV, opE]
    split at hok
    · rename_i q hq
      rw [hq] at h1
      cases hcx : a.eval x <;> rw [hcx] at h1 <;> try (cases h1; done)
      cases h1
      refine ⟨_, w, .still h (pick_sound h2 h3), ?_⟩
      intro K Q h4
      unfold Oper.wp execOp
      simp only [hcx, asBool, Sem.run_bind, Sem.run_pure, Result.andThen_ok]
      exact h4
    · exact hok.elim
  case alloc t =>
    obtain ⟨cells, hz⟩ := Option.isSome_iff_exists.1 hok
    obtain ⟨cv, w', hr, hs⟩ := alloc_sound h hM hρ t hz
    refine ⟨cv, w', ?_, val rfl hr⟩
    simpa only [opV, opE, hz, Option.getD_some, Mem.app] using hs
  case box t x =>
    obtain ⟨cv, w', hr, hs⟩ := box_sound (P := cx.P) h hM hρ t (he.eval h hc (hx x (by simp [Op.operands]))) hok
    exact ⟨cv, w', hs, val rfl hr⟩
  case build t ps =>
    obtain ⟨p1, p2⟩ := parts_are h he hc ps (fun p hp => hx _ (by simpa [Op.operands] using ⟨p.1, by simpa using hp⟩))
    obtain ⟨cv, hr, hs⟩ := build_sound (P := cx.P) p1 p2 hok
    exact ⟨cv, w, .still h hs, val rfl hr⟩
  case buildSlice t n ps =>
    obtain ⟨p1, p2⟩ := parts_are h he hc ps (fun p hp => hx _ (by simpa [Op.operands] using ⟨p.1, by simpa using hp⟩))
    obtain ⟨cv, w', hr, hs⟩ := buildSlice_sound (P := cx.P) h hM hρ p1 p2 hok
    exact ⟨cv, w', hs, val rfl hr⟩
  case load t x =>
    obtain ⟨cv, hr, hs⟩ := load_sound (P := cx.P) h (he.eval h hc (hx x (by simp [Op.operands]))) hok
    exact ⟨cv, w, .still h hs, val rfl hr⟩
  case store t x y =>
    obtain ⟨w', hr, hs, hm⟩ := store_sound (P := cx.P) h (he.eval h hc (hx x (by simp [Op.operands]))) (he.eval h hc (hx y (by simp [Op.operands]))) hok
    refine ⟨undef, w', ⟨ρ, ?_, ?_, .any _, fun _ _ => rfl⟩, ?_⟩
    · simp only [opE]
      unfold storeM at hs
      split at hs
      · rename_i hq; simpa only [hq, Mem.app] using hs
      · rename_i hq
        unfold storeOk at hok
        split at hok
        · rename_i h1; exact absurd h1 (hq _ _ _)
        · exact hok.elim
    · simp only [opE]
      unfold storeM at hm
      split at hm
      · rename_i hq; simpa only [hq, Mem.app] using hm
      · rename_i hq
        unfold storeOk at hok
        split at hok
        · rename_i h1; exact absurd h1 (hq _ _ _)
        · exact hok.elim
    · intro K Q h4
      unfold Oper.wp execOp
      simp only [Sem.run_bind, hr, Result.andThen_ok, Sem.run_pure]
      exact h4
  case nilCheck x =>
    have h1 := he.eval h hc (hx x (by simp [Op.operands]))
    obtain ⟨b, q, hb, _⟩ := h.target h1 hok
    refine ⟨a.eval x, w, .still h h1, ?_⟩
    intro K Q h4
    unfold Oper.wp execOp
    simp only [hb]
    rw [hb] at h4
    exact h4
  case binOp op t x y yt =>
    obtain ⟨cv, hr, hs⟩ := bin_sound (P := cx.P) op t x y (he.eval h hc (hx x (by simp [Op.operands]))) (he.eval h hc (hx y (by simp [Op.operands]))) hok
    exact ⟨cv, w, .still h hs, val rfl hr⟩
  case unOp op t x =>
    obtain ⟨cv, hr, hs⟩ := un_sound (P := cx.P) op (he.eval h hc (hx x (by simp [Op.operands]))) hok
    exact ⟨cv, w, .still h hs, val rfl hr⟩
  case convert s d x =>
    obtain ⟨cv, hr, hs⟩ := conv_sound (P := cx.P) (he.eval h hc (hx x (by simp [Op.operands]))) hok
    exact ⟨cv, w, .still h hs, val rfl hr⟩
  case makeFunc f first caps =>
    cases f <;> simp only at hok <;> try (exact hok.elim)
    rename_i f
    subst hok
    refine ⟨.func (.func f) #[] (caps.map a.eval), w, .still h ?_, val (s := Instr.makeFunc (.func f) (#[].map a.eval) (caps.map a.eval)) rfl (by simp [Instr.makeFunc])⟩
    exact .fn (by simp) (args_is h he hc caps (fun x hxx => hx x (by simpa [Op.operands] using hxx)))
  case slice t x l hh m =>
    obtain ⟨h1, h2, h3, h4⟩ := hok
    obtain ⟨cv, hr, hs⟩ := slice_sound (P := cx.P) h (intO_of h he hc l (fun o e => hx o (by subst e; simp [Op.operands])) h2) (intO_of h he hc hh (fun o e => hx o (by subst e; simp [Op.operands])) h3) (intO_of h he hc m (fun o e => hx o (by subst e; simp [Op.operands])) h4)
      (he.eval h hc (hx x (by simp [Op.operands]))) h1
    exact ⟨cv, w, .still h hs, val rfl hr⟩
  case fieldAddr t x f =>
    obtain ⟨cv, hr, hs⟩ := fieldAddr_sound (P := cx.P) (he.eval h hc (hx x (by simp [Op.operands]))) hok
    exact ⟨cv, w, .still h hs, val rfl hr⟩
  case field t x f =>
    obtain ⟨cv, hr, hs⟩ := field_sound (P := cx.P) (he.eval h hc (hx x (by simp [Op.operands]))) hok
    exact ⟨cv, w, .still h hs, val rfl hr⟩
  case indexAddr t x i =>
    obtain ⟨h1, h2⟩ := hok
    obtain ⟨n, hn⟩ := Option.isSome_iff_exists.1 h1
    rw [hn, Option.getD_some] at h2
    obtain ⟨cv, hr, hs⟩ := indexAddr_sound (P := cx.P) h (he.eval h hc (hx x (by simp [Op.operands]))) (he.eval h hc (hx i (by simp [Op.operands]))) hn h2
    refine ⟨cv, w, .still h ?_, val rfl hr⟩
    simpa only [opV, hn, Option.getD_some] using hs
  case index t x i =>
    obtain ⟨h1, h2⟩ := hok
    obtain ⟨n, hn⟩ := Option.isSome_iff_exists.1 h1
    rw [hn, Option.getD_some] at h2
    obtain ⟨cv, hr, hs⟩ := index_sound (P := cx.P) (he.eval h hc (hx x (by simp [Op.operands]))) (he.eval h hc (hx i (by simp [Op.operands]))) hn h2
    refine ⟨cv, w, .still h ?_, val rfl hr⟩
    simpa only [opV, hn, Option.getD_some] using hs
  case extract x i =>
    obtain ⟨cv, hr, hs⟩ := extract_sound (P := cx.P) (he.eval h hc (hx x (by simp [Op.operands]))) hok
    exact ⟨cv, w, .still h hs, val rfl hr⟩
  case call cl =>
    obtain ⟨callee, args, argTypes⟩ := cl
    cases callee <;> simp only at hok <;> try (exact hok.elim)
    rename_i b
    have hin : ∀ x ∈ args.toList, inN N x := fun x hxx => hx x (by simpa [Op.operands, Call.operands] using hxx)
    have bval : ∀ {s : Sem Value} {cv : Value} {w' : World}, (∀ consts, builtin b argTypes type consts (args.map a.eval) = (do pure (.value (← s)))) → s.run cx.P w = .ok cv w' → ∀ K Q, K (a.put dst cv) w' → (⟨dst, .call ⟨.builtin b, args, argTypes⟩, type, pos, after, guard⟩ : Oper).wp cx.P a w K Q := by
      intro s cv w' h1 h2 K Q h3
      unfold Oper.wp execOp
      simp only [resolve, Sem.run_bind, Sem.run_pure, Result.andThen_ok, invoke, h1, h2]
      exact h3
    have hargs := args_is h he hc args hin
    have h1 : ∀ {x : Operand}, args.toList = [x] → args.map a.eval = #[a.eval x] := fun e => by rw [← Array.toList_inj]; simp [e]
    have h2 : ∀ {x y : Operand}, args.toList = [x, y] → args.map a.eval = #[a.eval x, a.eval y] := fun e => by rw [← Array.toList_inj]; simp [e]
    unfold builtinOk at hok
    split at hok
    · rename_i t x0 hts hxs
      obtain ⟨x, hx1, rfl⟩ : ∃ x, args.toList = [x] ∧ evalV cx.G c e x = x0 := by
        cases hl : args.toList with
        | nil => rw [hl] at hxs; simp at hxs
        | cons x r => rw [hl] at hxs; simp at hxs; obtain ⟨p, q⟩ := hxs; subst q; exact ⟨x, rfl, p⟩
      have ht : argTypes = #[t] := by rw [← Array.toList_inj, hts]
      have hlk : lenKind cx.P t = true := by
        unfold lenFits at hok
        unfold lenKind
        split at hok <;> simp_all
      have hfit : (match cx.P.underlying t, evalV cx.G c e x with | some .string, .str _ => true | some (.slice _), .sl _ _ _ | some (.slice _), .own _ _ _ | some (.slice _), .nils => true | _, _ => false) = true := by
        unfold lenFits at hok
        split at hok <;> simp_all
      have hr := len_sound (P := cx.P) (M := M) (w := w) hlk hfit type (he.eval h hc (hin x (by rw [hx1]; simp)))
      subst ht
      refine ⟨_, w, .still h ?_, bval (s := Builtin.len_ #[t] type (args.map a.eval)) (fun _ => rfl) (by rw [h1 hx1]; exact hr)⟩
      simp only [opV, builtinV, hxs]
      exact .int _ _
    · rename_i t t2 s0 x0 hts hxs
      obtain ⟨s, x, hx1, rfl, rfl⟩ : ∃ s x, args.toList = [s, x] ∧ evalV cx.G c e s = s0 ∧ evalV cx.G c e x = x0 := by
        cases hl : args.toList with
        | nil => rw [hl] at hxs; simp at hxs
        | cons x r => cases r with
          | nil => rw [hl] at hxs; simp at hxs
          | cons y r => rw [hl] at hxs; simp at hxs; obtain ⟨p, q, r'⟩ := hxs; subst r'; exact ⟨x, y, rfl, p, q⟩
      have ht : argTypes = #[t, t2] := by rw [← Array.toList_inj, hts]
      subst ht
      obtain ⟨cv, w', hr, hs⟩ := append_sound (P := cx.P) (ty := type) h hM hρ (he.eval h hc (hin s (by rw [hx1]; simp))) (he.eval h hc (hin x (by rw [hx1]; simp))) hok
      refine ⟨cv, w', ?_, bval (s := Builtin.append_ #[t, t2] type (args.map a.eval)) (fun _ => rfl) (by rw [h2 hx1]; exact hr)⟩
      simp only [opV, opE, builtinV, hxs, List.headD_cons]
      have e1 : M.app (builtinE cx M nm .append t [evalV cx.G c e s, evalV cx.G c e x]) = appendM cx.P t M nm (evalV cx.G c e s) (evalV cx.G c e x) := by
        cases evalV cx.G c e s <;> rfl
      rw [e1]; exact hs
    · rename_i x0 y0 hxs
      obtain ⟨s, x, hx1, rfl, rfl⟩ : ∃ s x, args.toList = [s, x] ∧ evalV cx.G c e s = x0 ∧ evalV cx.G c e x = y0 := by
        cases hl : args.toList with
        | nil => rw [hl] at hxs; simp at hxs
        | cons x r => cases r with
          | nil => rw [hl] at hxs; simp at hxs
          | cons y r => rw [hl] at hxs; simp at hxs; obtain ⟨p, q, r'⟩ := hxs; subst r'; exact ⟨x, y, rfl, p, q⟩
      obtain ⟨cv, hr, hs⟩ := max_sound (P := cx.P) (ts := argTypes) (t := type) (he.eval h hc (hin s (by rw [hx1]; simp))) (he.eval h hc (hin x (by rw [hx1]; simp))) hok
      refine ⟨cv, w, .still h ?_, bval (s := Builtin.max_ argTypes type (args.map a.eval)) (fun _ => rfl) (by rw [h2 hx1]; exact hr)⟩
      simp only [opV, builtinV, hxs]; exact hs
    · rename_i x0 y0 hxs
      obtain ⟨s, x, hx1, rfl, rfl⟩ : ∃ s x, args.toList = [s, x] ∧ evalV cx.G c e s = x0 ∧ evalV cx.G c e x = y0 := by
        cases hl : args.toList with
        | nil => rw [hl] at hxs; simp at hxs
        | cons x r => cases r with
          | nil => rw [hl] at hxs; simp at hxs
          | cons y r => rw [hl] at hxs; simp at hxs; obtain ⟨p, q, r'⟩ := hxs; subst r'; exact ⟨x, y, rfl, p, q⟩
      obtain ⟨cv, hr, hs⟩ := min_sound (P := cx.P) (ts := argTypes) (t := type) (he.eval h hc (hin s (by rw [hx1]; simp))) (he.eval h hc (hin x (by rw [hx1]; simp))) hok
      refine ⟨cv, w, .still h ?_, bval (s := Builtin.min_ argTypes type (args.map a.eval)) (fun _ => rfl) (by rw [h2 hx1]; exact hr)⟩
      simp only [opV, builtinV, hxs]; exact hs
    · exact hok.elim
end
end Go.Proofs.Ytdbbnhmnlgfjoaa.Vm
