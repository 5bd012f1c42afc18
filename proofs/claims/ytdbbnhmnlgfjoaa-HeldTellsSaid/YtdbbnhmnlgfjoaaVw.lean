/-
  The machine of plain values: a region that draws its order: what is shown in the text's order holds in every order, if operations that touch one block wait for each other. No program in sight.
-/
import Derived.Test.YtdbbnhmnlgfjoaaVp
namespace Go.Proofs.Ytdbbnhmnlgfjoaa.Vm
set_option linter.unusedSimpArgs false
set_option linter.unusedVariables false
open Go Go.RowKit

/-! ### which operations wait for which -/
def maskL (acc : List Nat) : List Edge → Nat
  | [] => 0
  | e :: r => if Region.binds .any e = true then (2 ^ e.on ||| acc.getD e.on 0) ||| maskL acc r else maskL acc r
def masks : List Oper → List Nat → List Nat
  | [], acc => acc
  | o :: r, acc => masks r (acc ++ [maskL acc o.after.toList])
/-- Does operation k wait for operation i? -/
def ob (ms : List Nat) (i k : Nat) : Bool := (ms.getD k 0).testBit i
theorem masks_prefix : ∀ (r : List Oper) (acc : List Nat), ∃ s, masks r acc = acc ++ s ∧ s.length = r.length
  | [], acc => ⟨[], by simp [masks], rfl⟩
  | o :: r, acc => by
    obtain ⟨s, h1, h2⟩ := masks_prefix r (acc ++ [maskL acc o.after.toList])
    exact ⟨maskL acc o.after.toList :: s, by simp [masks, h1], by simp [h2]⟩
theorem masks_at : ∀ (r : List Oper) (acc : List Nat) (j : Nat) (o : Oper), r[j]? = some o → (masks r acc)[acc.length + j]? = some (maskL ((masks r acc).take (acc.length + j)) o.after.toList)
  | [], _, j, o, h => by simp at h
  | p :: r, acc, 0, o, h => by
    simp at h; subst h
    obtain ⟨s, h1, h2⟩ := masks_prefix (p :: r) acc
    obtain ⟨s', h3, h4⟩ := masks_prefix r (acc ++ [maskL acc p.after.toList])
    simp only [masks, h3, Nat.add_zero]
    rw [List.append_assoc, List.getElem?_append_right (Nat.le_refl _), List.take_left]
    simp
  | p :: r, acc, j + 1, o, h => by
    have := masks_at r (acc ++ [maskL acc p.after.toList]) j o (by simpa using h)
    simp only [masks]
    rw [show acc.length + (j + 1) = (acc ++ [maskL acc p.after.toList]).length + j by simp; omega]
    exact this
theorem maskL_bit {acc : List Nat} {i : Nat} : ∀ (es : List Edge), (maskL acc es).testBit i = true → ∃ e ∈ es, Region.binds .any e = true ∧ (e.on = i ∨ (acc.getD e.on 0).testBit i = true)
  | [], h => by simp [maskL] at h
  | e :: r, h => by
    unfold maskL at h
    split at h
    · rename_i hb
      rw [Nat.testBit_or, Nat.testBit_or, Bool.or_eq_true, Bool.or_eq_true] at h
      rcases h with (h | h) | h
      · rw [Nat.testBit_two_pow] at h
        exact ⟨e, by simp, hb, .inl (by simpa using h)⟩
      · exact ⟨e, by simp, hb, .inr h⟩
      · obtain ⟨e', h1, h2, h3⟩ := maskL_bit r h
        exact ⟨e', by simp [h1], h2, h3⟩
    · obtain ⟨e', h1, h2, h3⟩ := maskL_bit r h
      exact ⟨e', by simp [h1], h2, h3⟩
theorem ob_spec {ops : List Oper} {i k : Nat} {o : Oper} (ho : ops[k]? = some o) (h : ob (masks ops []) i k = true) : ∃ e ∈ o.after.toList, Region.binds .any e = true ∧ (e.on = i ∨ (e.on < k ∧ ob (masks ops []) i e.on = true)) := by
  have h1 := masks_at ops [] k o ho
  simp only [List.length_nil, Nat.zero_add] at h1
  unfold ob at h
  rw [List.getD_eq_getElem?_getD, h1, Option.getD_some] at h
  obtain ⟨e, h2, h3, h4⟩ := maskL_bit _ h
  refine ⟨e, h2, h3, h4.imp id (fun h5 => ?_)⟩
  rw [List.getD_eq_getElem?_getD, List.getElem?_take] at h5
  split at h5
  · rename_i hlt
    exact ⟨hlt, by unfold ob; rw [List.getD_eq_getElem?_getD]; exact h5⟩
  · simp at h5

def tmpClash (ops : List Oper) (a b : Oper) : Bool :=
  (match a.dst with | some d => (looksAt ops b).contains d || b.dst == some d | none => false) || (match b.dst with | some d => (looksAt ops a).contains d | none => false)
def clashAt (ops : List Oper) (ms : List Nat) (i k : Nat) : Bool := match ops[i]?, ops[k]? with
  | some a, some b => !(tmpClash ops a b) || ob ms i k
  | _, _ => true
def edgesOk (k : Nat) (o : Oper) : Bool := o.after.toList.all fun e => !(Region.binds .any e) || decide (e.on < k)
def drawOkWith (ops : List Oper) (ms : List Nat) : Bool := (List.range ops.length).all fun k => (match ops[k]? with | some o => edgesOk k o | none => true) && (List.range k).all fun i => clashAt ops ms i k
/-- A region whose operations wait for each other where temporaries ask for it. -/
def drawOk (ops : List Oper) : Bool := drawOkWith ops (masks ops [])
def pairAt (ops : List Oper) (ms : List Nat) (i k : Nat) : Bool := match ops[i]?, ops[k]? with
  | some a, some b => ((writerOp a.op && memOp b.op) || (memOp a.op && writerOp b.op)) && !(ob ms i k)
  | _, _ => false
def pairsWith (ops : List Oper) (ms : List Nat) : List (Nat × Nat) := (List.range ops.length).flatMap fun k => (List.range k).filterMap fun i => if pairAt ops ms i k then some (i, k) else none
/-- The operations that touch memory, one of them writing, and do not wait for each other. -/
def pairs (ops : List Oper) : List (Nat × Nat) := pairsWith ops (masks ops [])
def pairsOk (ops : List Oper) (fs : List (List Nat)) : Prop := ∀ p ∈ pairs ops, ∀ x ∈ fs.getD p.1 [], x ∉ fs.getD p.2 []
theorem pairs_none {ops : List Oper} {fs : List (List Nat)} (h : pairs ops = []) : pairsOk ops fs := by
  intro p hp; rw [h] at hp; cases hp

/-! ### the trace of the text's order -/
structure T where
  v : V
  eff : List (Nat × Option Blk)
  ft : List Nat
def Tr (cx : Cx) (N : Nat) (ops : List Oper) (nm : Nat) : List Oper → List T → Nat → Env → Mem → Prop
  | [], [], _, _, _ => True
  | o :: r, t :: ts, i, e, M => OpDoes cx N ops o (nm + 16 * i) e M t.v t.eff t.ft ∧ Tr cx N ops nm r ts (i + 1) (e.putD o.dst t.v) (M.app t.eff)
  | _, _, _, _, _ => False
/-- The temporaries behind those operations that D names. -/
def doneE (D : Nat → Bool) : List Oper → List T → Nat → Env → Env
  | o :: r, t :: ts, i, e => doneE D r ts (i + 1) (if D i then e.putD o.dst t.v else e)
  | _, _, _, e => e
def doneM (D : Nat → Bool) : List T → Nat → Mem → Mem
  | t :: ts, i, M => doneM D ts (i + 1) (if D i then M.app t.eff else M)
  | [], _, M => M
section
variable {cx : Cx} {N : Nat}
theorem Mem.free_app {nm i : Nat} {o : Oper} {ops : List Oper} {e : Env} {M : Mem} {v : V} {eff : List (Nat × Option Blk)} {ft : List Nat} (hd : OpDoes cx N ops o (nm + 16 * i) e M v eff ft) (hf : ∀ x, nm + 16 * i ≤ x → M x = none) : ∀ x, nm + 16 * (i + 1) ≤ x → (M.app eff) x = none := fun x hx => by
  rw [Mem.app_of_notin]
  · exact hf x (by omega)
  · intro hxe
    rcases hd.live x hxe with h | h
    · rw [hf x (by omega)] at h; cases h
    · have := h.2; omega
theorem trace {ops : List Oper} (hin : ∀ o ∈ ops, opIn N o = true) {K : Nat → Env → Mem → List (List Nat) → Prop} {nm : Nat} : ∀ (r : List Oper) (i : Nat) (e : Env) (M : Mem) (fs : List (List Nat)), (∀ o ∈ r, opIn N o = true) → (∀ x, nm + 16 * i ≤ x → M x = none) → vcOps cx ops r nm i e M fs K →
    ∃ ts : List T, Tr cx N ops nm r ts i e M ∧ ts.length = r.length ∧ K (nm + 16 * (i + r.length)) (doneE (fun _ => true) r ts i e) (doneM (fun _ => true) ts i M) (fs ++ ts.map (·.ft))
  | [], i, e, M, fs, _, _, h => ⟨[], trivial, rfl, by simpa [vcOps, doneE, doneM] using h⟩
  | o :: r, i, e, M, fs, hr, hf, h => by
    obtain ⟨v, eff, ft, hd, h'⟩ := op_sem hin (hr o (by simp)) hf h
    obtain ⟨ts, h1, h2, h3⟩ := trace hin r (i + 1) _ _ _ (fun o ho => hr o (by simp [ho])) (Mem.free_app hd hf) h'
    refine ⟨⟨v, eff, ft⟩ :: ts, ⟨hd, h1⟩, by simp [h2], ?_⟩
    simp only [doneE, doneM, if_true, List.map_cons, List.length_cons]
    rw [show i + (r.length + 1) = i + 1 + r.length by omega]
    simpa using h3
/-- Each operation's own line of the trace. -/
theorem Tr.at {ops : List Oper} {nm : Nat} : ∀ {r : List Oper} {ts : List T} {i : Nat} {e : Env} {M : Mem}, Tr cx N ops nm r ts i e M → ∀ {j : Nat} {o : Oper} {t : T}, r[j]? = some o → ts[j]? = some t →
    OpDoes cx N ops o (nm + 16 * (i + j)) (doneE (fun k => decide (k < i + j)) r ts i e) (doneM (fun k => decide (k < i + j)) ts i M) t.v t.eff t.ft
  | [], _, _, _, _, _, _, _, _, h, _ => by simp at h
  | _ :: _, [], _, _, _, h, _, _, _, _, _ => h.elim
  | o' :: r, t' :: ts, i, e, M, h, 0, o, t, ho, ht => by
    simp at ho ht; subst ho; subst ht
    have stopE : ∀ (r : List Oper) (ts : List T) (k : Nat) (e : Env), i ≤ k → doneE (fun k => decide (k < i)) r ts k e = e := by
      intro r
      induction r with
      | nil => intro ts k e _; cases ts <;> rfl
      | cons p r ih =>
        intro ts k e hk
        cases ts with
        | nil => rfl
        | cons t ts => simp only [doneE]; rw [if_neg (by simp; omega)]; exact ih ts (k + 1) e (by omega)
    have stopM : ∀ (ts : List T) (k : Nat) (M : Mem), i ≤ k → doneM (fun k => decide (k < i)) ts k M = M := by
      intro ts
      induction ts with
      | nil => intro k M _; rfl
      | cons t ts ih => intro k M hk; simp only [doneM]; rw [if_neg (by simp; omega)]; exact ih (k + 1) M (by omega)
    simp only [Nat.add_zero]
    rw [stopE _ _ _ _ (Nat.le_refl _), stopM _ _ _ (Nat.le_refl _)]
    exact h.1
  | o' :: r, t' :: ts, i, e, M, h, j + 1, o, t, ho, ht => by
    have := Tr.at h.2 (j := j) (o := o) (t := t) (by simpa using ho) (by simpa using ht)
    simp only [doneE, doneM]
    rw [if_pos (by simp), if_pos (by simp), show i + (j + 1) = i + 1 + j by omega]
    exact this
/-- A temporary hangs on those that write it. -/
theorem doneE_agree {D D' : Nat → Bool} {t : Nat} : ∀ (r : List Oper) (ts : List T) (i : Nat) (e e' : Env), e t = e' t → (∀ j o, r[j]? = some o → o.dst = some t → D (i + j) = D' (i + j)) → doneE D r ts i e t = doneE D' r ts i e' t
  | [], ts, i, e, e', h, _ => by cases ts <;> exact h
  | o :: r, [], i, e, e', h, _ => h
  | o :: r, t' :: ts, i, e, e', h, hD => by
    simp only [doneE]
    refine doneE_agree r ts (i + 1) _ _ ?_ (fun j o' hj hd => by have := hD (j + 1) o' (by simpa using hj) hd; rwa [show i + (j + 1) = i + 1 + j by omega] at this)
    have h0 := hD 0 o rfl
    simp only [Nat.add_zero] at h0
    by_cases hd : o.dst = some t
    · rw [h0 hd]
      split
      · rw [hd]; simp [Env.putD, Env.put]
      · exact h
    · have he : ∀ (e : Env), (e.putD o.dst t'.v) t = e t := fun e => by
        cases ho : o.dst with
        | none => rfl
        | some d =>
          have : t ≠ d := fun q => hd (by rw [ho, q])
          simp [Env.putD, Env.put, this]
      split <;> split <;> simp only [he, h]
theorem doneM_agree {D D' : Nat → Bool} {x : Nat} : ∀ (ts : List T) (i : Nat) (M M' : Mem), M x = M' x → (∀ j t, ts[j]? = some t → x ∈ effNames t.eff → D (i + j) = D' (i + j)) → doneM D ts i M x = doneM D' ts i M' x
  | [], i, M, M', h, _ => h
  | t :: ts, i, M, M', h, hD => by
    simp only [doneM]
    refine doneM_agree ts (i + 1) _ _ ?_ (fun j t' hj hd => by have := hD (j + 1) t' (by simpa using hj) hd; rwa [show i + (j + 1) = i + 1 + j by omega] at this)
    have h0 := hD 0 t rfl
    simp only [Nat.add_zero] at h0
    by_cases hx : x ∈ effNames t.eff
    · rw [h0 hx]
      split
      · exact Mem.app_congr (fun hn => absurd hx hn)
      · exact h
    · split <;> split <;> simp only [Mem.app_of_notin hx, h]
/-- What the last to write it has left. -/
theorem doneE_last {D : Nat → Bool} {t : Nat} : ∀ (r : List Oper) (ts : List T) (i : Nat) (e : Env) (j : Nat) (o : Oper) (q : T), r[j]? = some o → ts[j]? = some q → o.dst = some t → D (i + j) = true → (∀ k o', r[k]? = some o' → j < k → o'.dst = some t → D (i + k) = false) → doneE D r ts i e t = q.v
  | [], _, _, _, j, _, _, h, _, _, _, _ => by simp at h
  | _ :: _, [], _, _, j, _, _, _, h, _, _, _ => by simp at h
  | o' :: r, t' :: ts, i, e, 0, o, q, ho, hq, hd, hD, hl => by
    simp at ho hq; subst ho; subst hq
    simp only [doneE, Nat.add_zero] at hD ⊢
    rw [if_pos hD]
    have := doneE_agree (D := D) (D' := fun _ => false) (t := t) r ts (i + 1) (e.putD o'.dst t'.v) (e.putD o'.dst t'.v) rfl (fun k o2 hk hd2 => by have := hl (k + 1) o2 (by simpa using hk) (by omega) hd2; rwa [show i + (k + 1) = i + 1 + k by omega] at this)
    rw [this]
    have none : ∀ (r : List Oper) (ts : List T) (i : Nat) (e : Env), doneE (fun _ => false) r ts i e = e := by
      intro r
      induction r with
      | nil => intro ts i e; cases ts <;> rfl
      | cons o r ih => intro ts i e; cases ts with | nil => rfl | cons t ts => simp only [doneE, Bool.false_eq_true, if_false]; exact ih _ _ _
    rw [none, hd]
    simp [Env.putD, Env.put]
  | o' :: r, t' :: ts, i, e, j + 1, o, q, ho, hq, hd, hD, hl => by
    simp only [doneE]
    exact doneE_last r ts (i + 1) _ j o q (by simpa using ho) (by simpa using hq) hd (by rwa [show i + (j + 1) = i + 1 + j by omega] at hD) (fun k o2 hk hjk hd2 => by have := hl (k + 1) o2 (by simpa using hk) (by omega) hd2; rwa [show i + (k + 1) = i + 1 + k by omega] at this)
theorem doneM_last {D : Nat → Bool} {x : Nat} : ∀ (ts : List T) (i : Nat) (M : Mem) (j : Nat) (q : T), ts[j]? = some q → x ∈ effNames q.eff → D (i + j) = true → (∀ k t', ts[k]? = some t' → j < k → x ∈ effNames t'.eff → D (i + k) = false) → ∀ M' : Mem, doneM D ts i M x = (M'.app q.eff) x
  | [], _, _, j, _, h, _, _, _, _ => by simp at h
  | t' :: ts, i, M, 0, q, hq, hx, hD, hl, M' => by
    simp at hq; subst hq
    simp only [doneM, Nat.add_zero] at hD ⊢
    rw [if_pos hD]
    have := doneM_agree (D := D) (D' := fun _ => false) (x := x) ts (i + 1) (M.app t'.eff) (M.app t'.eff) rfl (fun k o2 hk hd2 => by have := hl (k + 1) o2 (by simpa using hk) (by omega) hd2; rwa [show i + (k + 1) = i + 1 + k by omega] at this)
    rw [this]
    have none : ∀ (ts : List T) (i : Nat) (M : Mem), doneM (fun _ => false) ts i M = M := by
      intro ts
      induction ts with
      | nil => intro i M; rfl
      | cons t ts ih => intro i M; simp only [doneM, Bool.false_eq_true, if_false]; exact ih _ _
    rw [none]
    exact Mem.app_congr (fun hn => absurd hx hn)
  | t' :: ts, i, M, j + 1, q, hq, hx, hD, hl, M' => by
    simp only [doneM]
    exact doneM_last ts (i + 1) _ j q (by simpa using hq) hx (by rwa [show i + (j + 1) = i + 1 + j by omega] at hD) (fun k o2 hk hjk hd2 => by have := hl (k + 1) o2 (by simpa using hk) (by omega) hd2; rwa [show i + (k + 1) = i + 1 + k by omega] at this) M'
/-- A block there now was there ahead, or somebody has laid it. -/
theorem doneM_some {D : Nat → Bool} {x : Nat} : ∀ (ts : List T) (i : Nat) (M : Mem), (doneM D ts i M x).isSome = true → (M x).isSome = true ∨ ∃ j t, ts[j]? = some t ∧ D (i + j) = true ∧ x ∈ effNames t.eff
  | [], i, M, h => .inl h
  | t :: ts, i, M, h => by
    simp only [doneM] at h
    rcases doneM_some ts (i + 1) _ h with h1 | ⟨j, t', h1, h2, h3⟩
    · by_cases hx : D i = true ∧ x ∈ effNames t.eff
      · exact .inr ⟨0, t, rfl, by simpa using hx.1, hx.2⟩
      · left
        split at h1
        · rename_i hd
          rwa [Mem.app_of_notin (fun hn => hx ⟨hd, hn⟩)] at h1
        · exact h1
    · exact .inr ⟨j + 1, t', by simpa using h1, by rwa [show i + (j + 1) = i + 1 + j by omega], h3⟩
end
end Go.Proofs.Ytdbbnhmnlgfjoaa.Vm
