/-
  Texts joined: XLd, XLe, XLf, XLg.
-/
import Derived.Test.YtanahnknjboplaaMh
/-
  Layer 9 by the machine: which tokens may be.
-/
namespace Go.Proofs.Ytanahnknjboplaa
set_option linter.unusedSimpArgs false
set_option linter.unusedVariables false
open Go Go.RowKit Go.Proofs.Ytanahnknjboplaa.Vm Go.Lib

def Tk.okTo (t : Tk) (l : Nat) : Prop := t.attrs.length ≤ l ∧ t.name.length ≤ l ∧ t.text.length ≤ l ∧ ∀ a ∈ t.attrs, a.name.length ≤ l ∧ a.value.length ≤ l
theorem tok_kinds (n : Nat) : (n = 1) ∨ (n = 3) ∨ (n = 2) ∨ (n = 4) ∨ (n ≠ 1 ∧ n ≠ 3 ∧ n ≠ 2 ∧ n ≠ 4) := by omega
theorem isEmpty_beq {α : Type} [BEq α] (l : List α) : (l == []) = l.isEmpty := by cases l <;> rfl
theorem len_zero {α : Type} (l : List α) : ((l.length : Int) == 0) = l.isEmpty := by
  cases l with
  | nil => rfl
  | cons a l => simp only [List.length_cons, List.isEmpty_cons]; exact beq_false_of_ne (by omega)
theorem attrs_long {l : List Pr} (h : 16 < l.length) : attrsL l = false := by
  cases ha : attrsL l with
  | false => rfl
  | true => have := (attrs_iff.1 ha).1; omega
theorem err_nil : ptsErr [] = 0 := by unfold ptsErr; rfl
/-- What is asked ahead of the attributes. -/
def headOk (t : Tk) : Bool :=
  (if t.kind = 1 ∨ t.kind = 3 then fullL t.name && t.text.isEmpty
  else if t.kind = 2 then fullL t.name && t.attrs.isEmpty && t.text.isEmpty
  else if t.kind = 4 then t.name.isEmpty && t.attrs.isEmpty && !t.text.isEmpty && decide (ptsErr t.text = 0)
  else false) && decide (t.attrs.length ≤ 16)
theorem tok_head (t : Tk) : tokL t = (headOk t && attrsL t.attrs) := by
  unfold tokL headOk
  by_cases hl : t.attrs.length ≤ 16
  · simp only [hl, decide_true, Bool.and_true]
    by_cases h1 : t.kind = 1 ∨ t.kind = 3
    · simp only [h1, if_true]
      cases fullL t.name <;> cases t.text.isEmpty <;> simp
    · simp only [h1, if_false]
      have hnil : t.attrs.isEmpty = true → attrsL t.attrs = true := fun h => by
        rw [List.isEmpty_iff] at h; rw [h]; rfl
      by_cases h2 : t.kind = 2
      · simp only [h2, if_true]
        cases he : t.attrs.isEmpty with
        | false => simp
        | true => simp [hnil he]
      · simp only [h2, if_false]
        by_cases h4 : t.kind = 4
        · simp only [h4, if_true]
          cases he : t.attrs.isEmpty with
          | false => simp
          | true => simp [hnil he]
        · simp only [h4, if_false, Bool.false_and]
  · have hf := attrs_long (by omega : 16 < t.attrs.length)
    simp only [hl, decide_false, Bool.and_false, Bool.false_and, hf]
    split
    · rfl
    · split
      · have : t.attrs.isEmpty = false := by cases h : t.attrs with | nil => rw [h] at hl; simp at hl | cons a b => rfl
        simp [this]
      · split
        · have : t.attrs.isEmpty = false := by cases h : t.attrs with | nil => rw [h] at hl; simp at hl | cons a b => rfl
          simp [this]
        · rfl
/-- The ways through the first condition. -/
theorem check_leaves : ∀ k1 k3 k2 k4 e n x f g z : Bool, ((k1 = true ∧ k3 = false ∧ k2 = false ∧ k4 = false) ∨ (k1 = false ∧ k3 = true ∧ k2 = false ∧ k4 = false) ∨ (k1 = false ∧ k3 = false ∧ k2 = true ∧ k4 = false) ∨ (k1 = false ∧ k3 = false ∧ k2 = false ∧ k4 = true) ∨ (k1 = false ∧ k3 = false ∧ k2 = false ∧ k4 = false)) →
    (k1 = true ∧ k3 = false ∧ k2 = false ∧ k4 = false ∧ f = false) ∨ (k1 = true ∧ k3 = false ∧ k2 = false ∧ k4 = false ∧ f = true ∧ x = false) ∨ (k1 = true ∧ k3 = false ∧ k2 = false ∧ k4 = false ∧ f = true ∧ x = true ∧ g = true) ∨ (k1 = true ∧ k3 = false ∧ k2 = false ∧ k4 = false ∧ f = true ∧ x = true ∧ g = false ∧ z = true) ∨ (k1 = true ∧ k3 = false ∧ k2 = false ∧ k4 = false ∧ f = true ∧ x = true ∧ g = false ∧ z = false) ∨ (k1 = false ∧ k3 = true ∧ k2 = false ∧ k4 = false ∧ f = false) ∨ (k1 = false ∧ k3 = true ∧ k2 = false ∧ k4 = false ∧ f = true ∧ x = false) ∨ (k1 = false ∧ k3 = true ∧ k2 = false ∧ k4 = false ∧ f = true ∧ x = true ∧ g = true) ∨ (k1 = false ∧ k3 = true ∧ k2 = false ∧ k4 = false ∧ f = true ∧ x = true ∧ g = false ∧ z = true) ∨ (k1 = false ∧ k3 = true ∧ k2 = false ∧ k4 = false ∧ f = true ∧ x = true ∧ g = false ∧ z = false) ∨ (k1 = false ∧ k3 = false ∧ k2 = true ∧ k4 = false ∧ e = false) ∨ (k1 = false ∧ k3 = false ∧ k2 = true ∧ k4 = false ∧ e = true ∧ f = false) ∨ (k1 = false ∧ k3 = false ∧ k2 = true ∧ k4 = false ∧ e = true ∧ f = true ∧ x = false) ∨ (k1 = false ∧ k3 = false ∧ k2 = true ∧ k4 = false ∧ e = true ∧ f = true ∧ x = true ∧ g = true) ∨ (k1 = false ∧ k3 = false ∧ k2 = true ∧ k4 = false ∧ e = true ∧ f = true ∧ x = true ∧ g = false ∧ z = true) ∨ (k1 = false ∧ k3 = false ∧ k2 = true ∧ k4 = false ∧ e = true ∧ f = true ∧ x = true ∧ g = false ∧ z = false) ∨ (k1 = false ∧ k3 = false ∧ k2 = false ∧ k4 = true ∧ n = false) ∨ (k1 = false ∧ k3 = false ∧ k2 = false ∧ k4 = true ∧ n = true ∧ e = false) ∨ (k1 = false ∧ k3 = false ∧ k2 = false ∧ k4 = true ∧ n = true ∧ e = true ∧ x = true) ∨ (k1 = false ∧ k3 = false ∧ k2 = false ∧ k4 = true ∧ n = true ∧ e = true ∧ x = false ∧ g = true) ∨ (k1 = false ∧ k3 = false ∧ k2 = false ∧ k4 = true ∧ n = true ∧ e = true ∧ x = false ∧ g = false ∧ z = true) ∨ (k1 = false ∧ k3 = false ∧ k2 = false ∧ k4 = true ∧ n = true ∧ e = true ∧ x = false ∧ g = false ∧ z = false) ∨ (k1 = false ∧ k3 = false ∧ k2 = false ∧ k4 = false) := by
  intro k1 k3 k2 k4 e n x f g z h
  rcases h with ⟨rfl, rfl, rfl, rfl⟩ | ⟨rfl, rfl, rfl, rfl⟩ | ⟨rfl, rfl, rfl, rfl⟩ | ⟨rfl, rfl, rfl, rfl⟩ | ⟨rfl, rfl, rfl, rfl⟩ <;> cases e <;> cases n <;> cases x <;> cases f <;> cases g <;> cases z <;> simp
theorem kind_bools (n : Nat) : ((((n : Int) == 1) = true ∧ ((n : Int) == 3) = false ∧ ((n : Int) == 2) = false ∧ ((n : Int) == 4) = false ∧ n = 1) ∨ (((n : Int) == 1) = false ∧ ((n : Int) == 3) = true ∧ ((n : Int) == 2) = false ∧ ((n : Int) == 4) = false ∧ n = 3) ∨ (((n : Int) == 1) = false ∧ ((n : Int) == 3) = false ∧ ((n : Int) == 2) = true ∧ ((n : Int) == 4) = false ∧ n = 2) ∨
    (((n : Int) == 1) = false ∧ ((n : Int) == 3) = false ∧ ((n : Int) == 2) = false ∧ ((n : Int) == 4) = true ∧ n = 4) ∨ (((n : Int) == 1) = false ∧ ((n : Int) == 3) = false ∧ ((n : Int) == 2) = false ∧ ((n : Int) == 4) = false ∧ n ≠ 1 ∧ n ≠ 3 ∧ n ≠ 2 ∧ n ≠ 4)) := by
  rcases tok_kinds n with rfl | rfl | rfl | rfl | ⟨h1, h3, h2, h4⟩
  · left; exact ⟨rfl, rfl, rfl, rfl, rfl⟩
  · right; left; exact ⟨rfl, rfl, rfl, rfl, rfl⟩
  · right; right; left; exact ⟨rfl, rfl, rfl, rfl, rfl⟩
  · right; right; right; left; exact ⟨rfl, rfl, rfl, rfl, rfl⟩
  · right; right; right; right
    exact ⟨beq_false_of_ne (by omega), beq_false_of_ne (by omega), beq_false_of_ne (by omega), beq_false_of_ne (by omega), h1, h3, h2, h4⟩
theorem head_bools (t : Tk) : headOk t = (((((t.kind : Int) == 1 || (t.kind : Int) == 3) && fullL t.name && t.text.isEmpty) || ((t.kind : Int) == 2 && fullL t.name && t.attrs.isEmpty && t.text.isEmpty) || ((t.kind : Int) == 4 && t.name.isEmpty && t.attrs.isEmpty && !t.text.isEmpty && !(ptsErr t.text != 0))) && !decide (16 < t.attrs.length)) := by
  have hz : decide (ptsErr t.text = 0) = !(ptsErr t.text != 0) := by rw [Bool.eq_iff_iff]; simp
  have hg : decide (t.attrs.length ≤ 16) = !decide (16 < t.attrs.length) := by rw [Bool.eq_iff_iff]; simp
  unfold headOk
  rw [hz, hg]
  rcases kind_bools t.kind with ⟨q1, q3, q2, q4, hk⟩ | ⟨q1, q3, q2, q4, hk⟩ | ⟨q1, q3, q2, q4, hk⟩ | ⟨q1, q3, q2, q4, hk⟩ | ⟨q1, q3, q2, q4, hk, hk3, hk2, hk4⟩
  · rw [q1, q3, q2, q4]; simp [hk]
  · rw [q1, q3, q2, q4]; simp [hk]
  · rw [q1, q3, q2, q4]; simp [hk]
  · rw [q1, q3, q2, q4]; simp [hk]
  · rw [q1, q3, q2, q4]; simp [hk, hk3, hk2, hk4]
theorem kind_excl (n : Nat) : ((((n : Int) == 1) = true ∧ ((n : Int) == 3) = false ∧ ((n : Int) == 2) = false ∧ ((n : Int) == 4) = false) ∨ (((n : Int) == 1) = false ∧ ((n : Int) == 3) = true ∧ ((n : Int) == 2) = false ∧ ((n : Int) == 4) = false) ∨ (((n : Int) == 1) = false ∧ ((n : Int) == 3) = false ∧ ((n : Int) == 2) = true ∧ ((n : Int) == 4) = false) ∨
    (((n : Int) == 1) = false ∧ ((n : Int) == 3) = false ∧ ((n : Int) == 2) = false ∧ ((n : Int) == 4) = true) ∨ (((n : Int) == 1) = false ∧ ((n : Int) == 3) = false ∧ ((n : Int) == 2) = false ∧ ((n : Int) == 4) = false)) := by
  rcases kind_bools n with h | h | h | h | h <;> simp [h]
set_option maxRecDepth 100000 in
set_option maxHeartbeats 8000000 in
theorem check_bad (t : Tk) (h : t.okTo lim) (ho : headOk t = false) (nm : Nat) : Ev cx 13 nm [.agg (tkC t)] Mem.nil (.int .i64 8) [] := by
  obtain ⟨hl, hnl, htl, hal⟩ := h
  have hee : ((t.attrs.length : Int) == 0) = t.attrs.isEmpty := len_zero _
  have hne := isEmpty_beq t.name
  have hxe := isEmpty_beq t.text
  have hge : decide ((16 : Int) < (t.attrs.length : Int)) = decide (16 < t.attrs.length) := by
    rw [Bool.eq_iff_iff]; simp; omega
  have hfull := full_ev t.name hnl
  have hchk := tCheck_ev t.text htl
  rw [head_bools] at ho
  have hex := kind_excl t.kind
  generalize h1 : ((t.kind : Int) == 1) = k1 at ho hex
  generalize h3 : ((t.kind : Int) == 3) = k3 at ho hex
  generalize h2 : ((t.kind : Int) == 2) = k2 at ho hex
  generalize h4 : ((t.kind : Int) == 4) = k4 at ho hex
  generalize he : t.attrs.isEmpty = e at ho hee
  generalize hn : t.name.isEmpty = n at ho hne
  have hxb : (t.text != []) = !t.text.isEmpty := congrArg not hxe
  generalize hx : t.text.isEmpty = x at ho hxe hxb
  generalize hf : fullL t.name = f at ho hfull
  generalize hg : decide (16 < t.attrs.length) = g at ho hge
  generalize hz : (ptsErr t.text != 0) = z at ho
  rcases check_leaves k1 k3 k2 k4 e n x f g z hex with ⟨rfl, rfl, rfl, rfl, rfl⟩ | ⟨rfl, rfl, rfl, rfl, rfl, rfl⟩ | ⟨rfl, rfl, rfl, rfl, rfl, rfl, rfl⟩ | ⟨rfl, rfl, rfl, rfl, rfl, rfl, rfl, rfl⟩ | ⟨rfl, rfl, rfl, rfl, rfl, rfl, rfl, rfl⟩ | ⟨rfl, rfl, rfl, rfl, rfl⟩ | ⟨rfl, rfl, rfl, rfl, rfl, rfl⟩ | ⟨rfl, rfl, rfl, rfl, rfl, rfl, rfl⟩ | ⟨rfl, rfl, rfl, rfl, rfl, rfl, rfl, rfl⟩ | ⟨rfl, rfl, rfl, rfl, rfl, rfl, rfl, rfl⟩ | ⟨rfl, rfl, rfl, rfl, rfl⟩ | ⟨rfl, rfl, rfl, rfl, rfl, rfl⟩ | ⟨rfl, rfl, rfl, rfl, rfl, rfl, rfl⟩ | ⟨rfl, rfl, rfl, rfl, rfl, rfl, rfl, rfl⟩ | ⟨rfl, rfl, rfl, rfl, rfl, rfl, rfl, rfl, rfl⟩ | ⟨rfl, rfl, rfl, rfl, rfl, rfl, rfl, rfl, rfl⟩ | ⟨rfl, rfl, rfl, rfl, rfl⟩ | ⟨rfl, rfl, rfl, rfl, rfl, rfl⟩ | ⟨rfl, rfl, rfl, rfl, rfl, rfl, rfl⟩ | ⟨rfl, rfl, rfl, rfl, rfl, rfl, rfl, rfl⟩ | ⟨rfl, rfl, rfl, rfl, rfl, rfl, rfl, rfl, rfl⟩ | ⟨rfl, rfl, rfl, rfl, rfl, rfl, rfl, rfl, rfl⟩ | ⟨rfl, rfl, rfl, rfl⟩
  all_goals (try (exfalso; simp at ho; done))
  all_goals (
    refine ev_go (fun cargs w => Try.call13 cargs w) Try.func13 rfl mixed (by kernel_rfl) rfl ?_; intro b0 hb0
    ((repeat' first | simp only [Try.results13, Try.ntmps13, Nat.reducePow, wks, tkC, hee, hne, hxe, hxb, Bool.not_true, Bool.not_false, hge, hz, h1, h2, h3, h4, List.length_map, vcs, Nat.reduceAdd, Nat.reduceMul, Nat.reduceEqDiff, Nat.reduceLeDiff, Nat.reduceSub, Nat.reduceLT, Int.reduceToNat, Int.reduceLE, Int.reduceLT, Int.reduceAdd, Int.reduceSub, Int.reduceMul, Int.reduceNeg, reduceCtorEq, reduceIte, Int.reduceBEq, Int.reduceBNe, Int.reduceEq, Int.reduceNe, Nat.reduceBEq, Nat.reduceBNe, tys, pick_false, pick_true, goGuard_sgd] | exact rfl | ((first | (refine call_fn ?_ (hfull _) ?_) | (refine call_fn_g ?_ (fun _ => hfull _) ?_) | (refine call_fn ?_ (hchk _) ?_) | (refine call_fn_g ?_ (fun _ => hchk _) ?_)); (focus (simp only [Try.results13, Try.ntmps13, Nat.reducePow, wks, tkC, hee, hne, hxe, hxb, Bool.not_true, Bool.not_false, hge, hz, h1, h2, h3, h4, List.length_map, vcs, Nat.reduceAdd, Nat.reduceMul, Nat.reduceEqDiff, Nat.reduceLeDiff, Nat.reduceSub, Nat.reduceLT, Int.reduceToNat, Int.reduceLE, Int.reduceLT, Int.reduceAdd, Int.reduceSub, Int.reduceMul, Int.reduceNeg, reduceCtorEq, reduceIte, Int.reduceBEq, Int.reduceBNe, Int.reduceEq, Int.reduceNe, Nat.reduceBEq, Nat.reduceBNe, tys, pick_false, pick_true, goGuard_sgd] <;> exact rfl))) | (refine call_off (v := .any) ?_) | (first | (refine call_val (g := ?_) ?_ ?_) | (refine call_valg (g := ?_) ?_ ?_); rotate_left 1; (focus (simp only [Try.results13, Try.ntmps13, Nat.reducePow, wks, tkC, hee, hne, hxe, hxb, Bool.not_true, Bool.not_false, hge, hz, h1, h2, h3, h4, List.length_map, vcs, Nat.reduceAdd, Nat.reduceMul, Nat.reduceEqDiff, Nat.reduceLeDiff, Nat.reduceSub, Nat.reduceLT, Int.reduceToNat, Int.reduceLE, Int.reduceLT, Int.reduceAdd, Int.reduceSub, Int.reduceMul, Int.reduceNeg, reduceCtorEq, reduceIte, Int.reduceBEq, Int.reduceBNe, Int.reduceEq, Int.reduceNe, Nat.reduceBEq, Nat.reduceBNe, tys, pick_false, pick_true, goGuard_sgd] <;> exact rfl))) | refine draw_end (by decide +kernel) ?_ | refine cond_bool (fun hb => ?_) (fun hb => ?_) | refine cond_bit (fun hb => ?_) (fun hb => ?_) | refine And.intro (by omega) ?_ | refine And.intro (fun hb => ?_) (fun hb => ?_) | fail); (all_goals (first | (refine Fin.pure ?_ ?_ ?_ <;> (try simp only [Try.results13, Try.ntmps13, tkC, hee, hne, hxe, hxb, Bool.not_true, Bool.not_false, hge, hz, h1, h2, h3, h4, List.length_map, vcs, Nat.reduceAdd, Nat.reduceMul, Nat.reduceEqDiff, Nat.reduceLeDiff, Nat.reduceSub, Nat.reduceLT, Int.reduceToNat, Int.reduceLE, Int.reduceLT, Int.reduceAdd, Int.reduceSub, Int.reduceMul, Int.reduceNeg, reduceCtorEq, reduceIte, Int.reduceBEq, Int.reduceBNe, Int.reduceEq, Int.reduceNe, Nat.reduceBEq, Nat.reduceBNe, tys, pick_false, pick_true, goGuard_sgd]) <;> (try simp only [injs])) | skip))))
end Go.Proofs.Ytanahnknjboplaa
/-
  Layer 9 by the machine: lex.Check; the document's answer.
-/
namespace Go.Proofs.Ytanahnknjboplaa
set_option linter.unusedSimpArgs false
set_option linter.unusedVariables false
open Go Go.RowKit Go.Proofs.Ytanahnknjboplaa.Vm Go.Lib

theorem plain_tkR (a b c : V) (l : List Pr) : plainLL [[a, b, .sl false 2 (l.map prC), c]] = (a.plain && (b.plain && c.plain)) := by simp [plainLL, plainL, V.plain, plain_pr]
set_option maxRecDepth 100000 in
set_option maxHeartbeats 16000000 in
theorem check_good (t : Tk) (h : t.okTo lim) (ho : headOk t = true) (nm : Nat) : Ev cx 13 nm [.agg (tkC t)] Mem.nil (.int .i64 (if attrsL t.attrs = true then 0 else 8)) [] := by
  obtain ⟨hl, hnl, htl, hal⟩ := h
  have hl' := hl
  unfold lim at hl'
  have h16 : t.attrs.length ≤ 16 := by
    unfold headOk at ho
    simp only [Bool.and_eq_true, decide_eq_true_eq] at ho
    exact ho.2
  have hee : ((t.attrs.length : Int) == 0) = t.attrs.isEmpty := len_zero _
  have hne := isEmpty_beq t.name
  have hxe := isEmpty_beq t.text
  have hge : decide ((16 : Int) < (t.attrs.length : Int)) = decide (16 < t.attrs.length) := by
    rw [Bool.eq_iff_iff]; simp; omega
  have hfull := full_ev t.name hnl
  have hchk := tCheck_ev t.text htl
  rw [head_bools] at ho
  have hex := kind_excl t.kind
  generalize h1 : ((t.kind : Int) == 1) = k1 at ho hex
  generalize h3 : ((t.kind : Int) == 3) = k3 at ho hex
  generalize h2 : ((t.kind : Int) == 2) = k2 at ho hex
  generalize h4 : ((t.kind : Int) == 4) = k4 at ho hex
  generalize he : t.attrs.isEmpty = e at ho hee
  generalize hn : t.name.isEmpty = n at ho hne
  have hxb : (t.text != []) = !t.text.isEmpty := congrArg not hxe
  have hxz : t.text.isEmpty = true → (ptsErr t.text != 0) = false := fun h => by rw [List.isEmpty_iff.1 h]; rfl
  generalize hx : t.text.isEmpty = x at ho hxe hxb hxz
  generalize hf : fullL t.name = f at ho hfull
  generalize hg : decide (16 < t.attrs.length) = g at ho hge
  generalize hz : (ptsErr t.text != 0) = z at ho hxz
  rcases check_leaves k1 k3 k2 k4 e n x f g z hex with ⟨rfl, rfl, rfl, rfl, rfl⟩ | ⟨rfl, rfl, rfl, rfl, rfl, rfl⟩ | ⟨rfl, rfl, rfl, rfl, rfl, rfl, rfl⟩ | ⟨rfl, rfl, rfl, rfl, rfl, rfl, rfl, rfl⟩ | ⟨rfl, rfl, rfl, rfl, rfl, rfl, rfl, rfl⟩ | ⟨rfl, rfl, rfl, rfl, rfl⟩ | ⟨rfl, rfl, rfl, rfl, rfl, rfl⟩ | ⟨rfl, rfl, rfl, rfl, rfl, rfl, rfl⟩ | ⟨rfl, rfl, rfl, rfl, rfl, rfl, rfl, rfl⟩ | ⟨rfl, rfl, rfl, rfl, rfl, rfl, rfl, rfl⟩ | ⟨rfl, rfl, rfl, rfl, rfl⟩ | ⟨rfl, rfl, rfl, rfl, rfl, rfl⟩ | ⟨rfl, rfl, rfl, rfl, rfl, rfl, rfl⟩ | ⟨rfl, rfl, rfl, rfl, rfl, rfl, rfl, rfl⟩ | ⟨rfl, rfl, rfl, rfl, rfl, rfl, rfl, rfl, rfl⟩ | ⟨rfl, rfl, rfl, rfl, rfl, rfl, rfl, rfl, rfl⟩ | ⟨rfl, rfl, rfl, rfl, rfl⟩ | ⟨rfl, rfl, rfl, rfl, rfl, rfl⟩ | ⟨rfl, rfl, rfl, rfl, rfl, rfl, rfl⟩ | ⟨rfl, rfl, rfl, rfl, rfl, rfl, rfl, rfl⟩ | ⟨rfl, rfl, rfl, rfl, rfl, rfl, rfl, rfl, rfl⟩ | ⟨rfl, rfl, rfl, rfl, rfl, rfl, rfl, rfl, rfl⟩ | ⟨rfl, rfl, rfl, rfl⟩
  all_goals (try (exfalso; simp at ho; done))
  all_goals (try (exfalso; exact absurd (hxz rfl) (by decide)))
  all_goals (
    refine ev_go (fun cargs w => Try.call13 cargs w) Try.func13 rfl mixed (by kernel_rfl) rfl ?_; intro b0 hb0
    repeat' first | simp only [Try.results13, Try.ntmps13, Nat.reducePow, wks, tkC, hee, hne, hxe, hxb, Bool.not_true, Bool.not_false, hge, hz, h1, h2, h3, h4, List.length_map, vcs, Nat.reduceAdd, Nat.reduceMul, Nat.reduceEqDiff, Nat.reduceLeDiff, Nat.reduceSub, Nat.reduceLT, Int.reduceToNat, Int.reduceLE, Int.reduceLT, Int.reduceAdd, Int.reduceSub, Int.reduceMul, Int.reduceNeg, reduceCtorEq, reduceIte, Int.reduceBEq, Int.reduceBNe, Int.reduceEq, Int.reduceNe, Nat.reduceBEq, Nat.reduceBNe, tys, pick_false, pick_true, goGuard_sgd] | exact rfl | ((first | (refine call_fn ?_ (hfull _) ?_) | (refine call_fn_g ?_ (fun _ => hfull _) ?_) | (refine call_fn ?_ (hchk _) ?_) | (refine call_fn_g ?_ (fun _ => hchk _) ?_)); (focus (simp only [Try.results13, Try.ntmps13, Nat.reducePow, wks, tkC, hee, hne, hxe, hxb, Bool.not_true, Bool.not_false, hge, hz, h1, h2, h3, h4, List.length_map, vcs, Nat.reduceAdd, Nat.reduceMul, Nat.reduceEqDiff, Nat.reduceLeDiff, Nat.reduceSub, Nat.reduceLT, Int.reduceToNat, Int.reduceLE, Int.reduceLT, Int.reduceAdd, Int.reduceSub, Int.reduceMul, Int.reduceNeg, reduceCtorEq, reduceIte, Int.reduceBEq, Int.reduceBNe, Int.reduceEq, Int.reduceNe, Nat.reduceBEq, Nat.reduceBNe, tys, pick_false, pick_true, goGuard_sgd] <;> exact rfl))) | (refine call_off (v := .any) ?_) | (first | (refine call_val (g := ?_) ?_ ?_) | (refine call_valg (g := ?_) ?_ ?_); rotate_left 1; (focus (simp only [Try.results13, Try.ntmps13, Nat.reducePow, wks, tkC, hee, hne, hxe, hxb, Bool.not_true, Bool.not_false, hge, hz, h1, h2, h3, h4, List.length_map, vcs, Nat.reduceAdd, Nat.reduceMul, Nat.reduceEqDiff, Nat.reduceLeDiff, Nat.reduceSub, Nat.reduceLT, Int.reduceToNat, Int.reduceLE, Int.reduceLT, Int.reduceAdd, Int.reduceSub, Int.reduceMul, Int.reduceNeg, reduceCtorEq, reduceIte, Int.reduceBEq, Int.reduceBNe, Int.reduceEq, Int.reduceNe, Nat.reduceBEq, Nat.reduceBNe, tys, pick_false, pick_true, goGuard_sgd] <;> exact rfl))) | refine draw_end (by decide +kernel) ?_ | refine cond_bool (fun hb => ?_) (fun hb => ?_) | refine cond_bit (fun hb => ?_) (fun hb => ?_) | refine And.intro (by omega) ?_ | refine And.intro (fun hb => ?_) (fun hb => ?_) | fail)
  all_goals (
    (refine loop_can2 cxG (fun x : Nat => t.attrs.length - x) (fun x => x ≤ t.attrs.length ∧ attrsTo t.attrs x) (b0 + 16) (fun x => [(1, .ptr b0 0 0), (76, .sl false 2 (t.attrs.map prC)), (77, .int .i64 t.attrs.length), (78, .int .i64 x)]) (fun x => [(b0, ⟨4, [tkC t]⟩)]) (0) [some b0] ?_ ?_ ?_ ?_; rotate_left 1; (focus (show b0 ≤ _; omega)); (focus (refine ⟨?_, ?_⟩ <;> (try simp only [cans, plain_pr, plain_tkR, tkC, List.length_map, vcs, Nat.reduceAdd, Nat.reduceMul, Nat.reduceEqDiff, Nat.reduceLeDiff, Nat.reduceSub, Nat.reduceLT, Int.reduceToNat, Int.reduceLE, Int.reduceLT, Int.reduceAdd, Int.reduceSub, Int.reduceMul, Int.reduceNeg, reduceCtorEq, reduceIte, Int.reduceBEq, Int.reduceBNe, Int.reduceEq, Int.reduceNe, Nat.reduceBEq, Nat.reduceBNe, tys, pick_false, pick_true, goGuard_sgd, injs]) <;> (try omega))); rotate_left 1))
  all_goals (first | exact ⟨Nat.zero_le _, fun i a hi => by omega⟩ | skip)
  all_goals (
    rintro k ⟨hk, hn⟩
    by_cases hlt : k < t.attrs.length
    · obtain ⟨a, ha⟩ : ∃ a, t.attrs[k]? = some a := ⟨_, List.getElem?_eq_getElem hlt⟩
      obtain ⟨hs1, hs2⟩ := hal a (List.mem_of_getElem? ha)
      have hat := pr_at ha
      have hd : decide (k < t.attrs.length) = true := decide_eq_true hlt
      have hwk : IntKind.i64.wrap ((k : Int) + 1) = ((k + 1 : Nat) : Int) := wrap_in (by omega) (by omega)
      have hki : (k : Int) ≤ (t.attrs.length : Int) := by omega
      have htk : (t.attrs.map prC).take k = (t.attrs.take k).map prC := by rw [List.map_take]
      have hlen : (t.attrs.take k).length ≤ lim := by rw [List.length_take]; unfold lim; omega
      have hf2 := full_ev a.name hs1
      have hc2 := tCheck_ev a.value hs2
      have hh2 := containspr_ev (t.attrs.take k) 42 [.rp (prC a)] (fun b => a.name == b.name) (fun b _ nm => check1_ev a b nm) hlen rfl
      have hok : okP (t.attrs.take k) a = (!((t.attrs.take k).any fun b => a.name == b.name) && fullL a.name && decide (ptsErr a.value = 0)) := rfl
      have hz2 : decide (ptsErr a.value = 0) = !(ptsErr a.value != 0) := by rw [Bool.eq_iff_iff]; simp
      rw [hz2] at hok
      generalize hb1 : ((t.attrs.take k).any fun b => a.name == b.name) = b1 at hh2 hok
      generalize hb2 : fullL a.name = b2 at hf2 hok
      generalize hb3 : (ptsErr a.value != 0) = b3 at hok
      cases ho2 : okP (t.attrs.take k) a with
      | false =>
        have hr := attrs_false ha ho2
        rw [ho2] at hok
        cases b1 <;> cases b2 <;> cases b3
        all_goals (try (exfalso; simp at hok; done))
        all_goals (((repeat' first | simp only [Try.results13, Try.ntmps13, Nat.reducePow, wks, plain_pr, tkC, hat, prC, hd, hlt, hk, hki, htk, hb3, hr, Bool.not_true, Bool.not_false, List.length_map, Nat.zero_add, vcs, Nat.reduceAdd, Nat.reduceMul, Nat.reduceEqDiff, Nat.reduceLeDiff, Nat.reduceSub, Nat.reduceLT, Int.reduceToNat, Int.reduceLE, Int.reduceLT, Int.reduceAdd, Int.reduceSub, Int.reduceMul, Int.reduceNeg, reduceCtorEq, reduceIte, Int.reduceBEq, Int.reduceBNe, Int.reduceEq, Int.reduceNe, Nat.reduceBEq, Nat.reduceBNe, tys, pick_false, pick_true, goGuard_sgd] | exact rfl | ((first | (refine call_fn ?_ (hf2 _) ?_) | (refine call_fn_g ?_ (fun _ => hf2 _) ?_) | (refine call_fn ?_ (hc2 _) ?_) | (refine call_fn_g ?_ (fun _ => hc2 _) ?_)); (focus (simp only [Try.results13, Try.ntmps13, Nat.reducePow, wks, plain_pr, tkC, hat, prC, hd, hlt, hk, hki, htk, hb3, hr, Bool.not_true, Bool.not_false, List.length_map, Nat.zero_add, vcs, Nat.reduceAdd, Nat.reduceMul, Nat.reduceEqDiff, Nat.reduceLeDiff, Nat.reduceSub, Nat.reduceLT, Int.reduceToNat, Int.reduceLE, Int.reduceLT, Int.reduceAdd, Int.reduceSub, Int.reduceMul, Int.reduceNeg, reduceCtorEq, reduceIte, Int.reduceBEq, Int.reduceBNe, Int.reduceEq, Int.reduceNe, Nat.reduceBEq, Nat.reduceBNe, tys, pick_false, pick_true, goGuard_sgd] <;> exact rfl))) | ((refine call_fn_vx (xs := ?_) [b0 + 80] ?_ ?_ ?_ rfl (hh2 _) ?_); rotate_left 1; iterate 3 (focus (simp only [fins, mems, Try.results13, Try.ntmps13, Nat.reducePow, wks, plain_pr, tkC, hat, prC, hd, hlt, hk, hki, htk, hb3, hr, Bool.not_true, Bool.not_false, List.length_map, Nat.zero_add, vcs, Nat.reduceAdd, Nat.reduceMul, Nat.reduceEqDiff, Nat.reduceLeDiff, Nat.reduceSub, Nat.reduceLT, Int.reduceToNat, Int.reduceLE, Int.reduceLT, Int.reduceAdd, Int.reduceSub, Int.reduceMul, Int.reduceNeg, reduceCtorEq, reduceIte, Int.reduceBEq, Int.reduceBNe, Int.reduceEq, Int.reduceNe, Nat.reduceBEq, Nat.reduceBNe, tys, pick_false, pick_true, goGuard_sgd] <;> (first | exact rfl | omega)))) | (refine call_off (v := .any) ?_) | (first | (refine call_val (g := ?_) ?_ ?_) | (refine call_valg (g := ?_) ?_ ?_); rotate_left 1; (focus (simp only [Try.results13, Try.ntmps13, Nat.reducePow, wks, plain_pr, tkC, hat, prC, hd, hlt, hk, hki, htk, hb3, hr, Bool.not_true, Bool.not_false, List.length_map, Nat.zero_add, vcs, Nat.reduceAdd, Nat.reduceMul, Nat.reduceEqDiff, Nat.reduceLeDiff, Nat.reduceSub, Nat.reduceLT, Int.reduceToNat, Int.reduceLE, Int.reduceLT, Int.reduceAdd, Int.reduceSub, Int.reduceMul, Int.reduceNeg, reduceCtorEq, reduceIte, Int.reduceBEq, Int.reduceBNe, Int.reduceEq, Int.reduceNe, Nat.reduceBEq, Nat.reduceBNe, tys, pick_false, pick_true, goGuard_sgd] <;> exact rfl))) | refine draw_end (by decide +kernel) ?_ | refine cond_bool (fun hb => ?_) (fun hb => ?_) | refine cond_bit (fun hb => ?_) (fun hb => ?_) | refine And.intro (by omega) ?_ | refine And.intro (fun hb => ?_) (fun hb => ?_) | fail); (all_goals (first | (refine Fin.pure ?_ ?_ ?_ <;> (try simp only [Try.results13, Try.ntmps13, plain_pr, tkC, hat, prC, hd, hlt, hk, hki, htk, hb3, hr, Bool.not_true, Bool.not_false, List.length_map, Nat.zero_add, vcs, Nat.reduceAdd, Nat.reduceMul, Nat.reduceEqDiff, Nat.reduceLeDiff, Nat.reduceSub, Nat.reduceLT, Int.reduceToNat, Int.reduceLE, Int.reduceLT, Int.reduceAdd, Int.reduceSub, Int.reduceMul, Int.reduceNeg, reduceCtorEq, reduceIte, Int.reduceBEq, Int.reduceBNe, Int.reduceEq, Int.reduceNe, Nat.reduceBEq, Nat.reduceBNe, tys, pick_false, pick_true, goGuard_sgd]) <;> (try simp only [injs])) | skip))))
      | true =>
        have hn' := attrsTo_succ hn ha ho2
        rw [ho2] at hok
        cases b1 <;> cases b2 <;> cases b3
        all_goals (try (exfalso; simp at hok; done))
        all_goals (repeat' first | simp only [Try.results13, Try.ntmps13, Nat.reducePow, wks, plain_pr, tkC, hat, prC, hd, hlt, hk, hki, htk, hb3, hwk, Bool.not_true, Bool.not_false, List.length_map, Nat.zero_add, vcs, Nat.reduceAdd, Nat.reduceMul, Nat.reduceEqDiff, Nat.reduceLeDiff, Nat.reduceSub, Nat.reduceLT, Int.reduceToNat, Int.reduceLE, Int.reduceLT, Int.reduceAdd, Int.reduceSub, Int.reduceMul, Int.reduceNeg, reduceCtorEq, reduceIte, Int.reduceBEq, Int.reduceBNe, Int.reduceEq, Int.reduceNe, Nat.reduceBEq, Nat.reduceBNe, tys, pick_false, pick_true, goGuard_sgd] | exact rfl | ((first | (refine call_fn ?_ (hf2 _) ?_) | (refine call_fn_g ?_ (fun _ => hf2 _) ?_) | (refine call_fn ?_ (hc2 _) ?_) | (refine call_fn_g ?_ (fun _ => hc2 _) ?_)); (focus (simp only [Try.results13, Try.ntmps13, Nat.reducePow, wks, plain_pr, tkC, hat, prC, hd, hlt, hk, hki, htk, hb3, hwk, Bool.not_true, Bool.not_false, List.length_map, Nat.zero_add, vcs, Nat.reduceAdd, Nat.reduceMul, Nat.reduceEqDiff, Nat.reduceLeDiff, Nat.reduceSub, Nat.reduceLT, Int.reduceToNat, Int.reduceLE, Int.reduceLT, Int.reduceAdd, Int.reduceSub, Int.reduceMul, Int.reduceNeg, reduceCtorEq, reduceIte, Int.reduceBEq, Int.reduceBNe, Int.reduceEq, Int.reduceNe, Nat.reduceBEq, Nat.reduceBNe, tys, pick_false, pick_true, goGuard_sgd] <;> exact rfl))) | ((refine call_fn_vx (xs := ?_) [b0 + 80] ?_ ?_ ?_ rfl (hh2 _) ?_); rotate_left 1; iterate 3 (focus (simp only [fins, mems, Try.results13, Try.ntmps13, Nat.reducePow, wks, plain_pr, tkC, hat, prC, hd, hlt, hk, hki, htk, hb3, hwk, Bool.not_true, Bool.not_false, List.length_map, Nat.zero_add, vcs, Nat.reduceAdd, Nat.reduceMul, Nat.reduceEqDiff, Nat.reduceLeDiff, Nat.reduceSub, Nat.reduceLT, Int.reduceToNat, Int.reduceLE, Int.reduceLT, Int.reduceAdd, Int.reduceSub, Int.reduceMul, Int.reduceNeg, reduceCtorEq, reduceIte, Int.reduceBEq, Int.reduceBNe, Int.reduceEq, Int.reduceNe, Nat.reduceBEq, Nat.reduceBNe, tys, pick_false, pick_true, goGuard_sgd] <;> (first | exact rfl | omega)))) | (first | (refine call_val (g := ?_) ?_ ?_) | (refine call_valg (g := ?_) ?_ ?_); rotate_left 1; (focus (simp only [Try.results13, Try.ntmps13, Nat.reducePow, wks, plain_pr, tkC, hat, prC, hd, hlt, hk, hki, htk, hb3, hwk, Bool.not_true, Bool.not_false, List.length_map, Nat.zero_add, vcs, Nat.reduceAdd, Nat.reduceMul, Nat.reduceEqDiff, Nat.reduceLeDiff, Nat.reduceSub, Nat.reduceLT, Int.reduceToNat, Int.reduceLE, Int.reduceLT, Int.reduceAdd, Int.reduceSub, Int.reduceMul, Int.reduceNeg, reduceCtorEq, reduceIte, Int.reduceBEq, Int.reduceBNe, Int.reduceEq, Int.reduceNe, Nat.reduceBEq, Nat.reduceBNe, tys, pick_false, pick_true, goGuard_sgd] <;> exact rfl))) | refine draw_end (by decide +kernel) ?_ | refine cond_bool (fun hb => ?_) (fun hb => ?_) | refine cond_bit (fun hb => ?_) (fun hb => ?_) | refine And.intro (by omega) ?_ | refine And.intro (fun hb => ?_) (fun hb => ?_) | fail)
        all_goals ((refine again_can2 cxG (k + 1) [some b0] ?_ ?_ ?_ ?_; rotate_left 2; (focus (show b0 ≤ _; omega)); (focus (refine ⟨?_, ?_⟩ <;> (try simp only [cans, plain_pr, plain_tkR, tkC, hwk, vcs, Nat.reduceAdd, Nat.reduceMul, Nat.reduceEqDiff, Nat.reduceLeDiff, Nat.reduceSub, Nat.reduceLT, Int.reduceToNat, Int.reduceLE, Int.reduceLT, Int.reduceAdd, Int.reduceSub, Int.reduceMul, Int.reduceNeg, reduceCtorEq, reduceIte, Int.reduceBEq, Int.reduceBNe, Int.reduceEq, Int.reduceNe, Nat.reduceBEq, Nat.reduceBNe, tys, pick_false, pick_true, goGuard_sgd, injs]) <;> (try omega)))))
        all_goals (first | (show t.attrs.length - (k + 1) < t.attrs.length - k; omega) | exact ⟨hlt, hn'⟩ | skip)
    · have hke : k = t.attrs.length := by omega
      subst hke
      have hd : decide (t.attrs.length < t.attrs.length) = false := decide_eq_false (by omega)
      have hr : attrsL t.attrs = true := attrs_iff.2 ⟨h16, hn⟩
      ((repeat' first | simp only [Try.results13, Try.ntmps13, Nat.reducePow, wks, hd, hr, List.length_map, vcs, Nat.reduceAdd, Nat.reduceMul, Nat.reduceEqDiff, Nat.reduceLeDiff, Nat.reduceSub, Nat.reduceLT, Int.reduceToNat, Int.reduceLE, Int.reduceLT, Int.reduceAdd, Int.reduceSub, Int.reduceMul, Int.reduceNeg, reduceCtorEq, reduceIte, Int.reduceBEq, Int.reduceBNe, Int.reduceEq, Int.reduceNe, Nat.reduceBEq, Nat.reduceBNe, tys, pick_false, pick_true, goGuard_sgd] | exact rfl | (first | (refine call_val (g := ?_) ?_ ?_) | (refine call_valg (g := ?_) ?_ ?_); rotate_left 1; (focus (simp only [Try.results13, Try.ntmps13, Nat.reducePow, wks, hd, hr, List.length_map, vcs, Nat.reduceAdd, Nat.reduceMul, Nat.reduceEqDiff, Nat.reduceLeDiff, Nat.reduceSub, Nat.reduceLT, Int.reduceToNat, Int.reduceLE, Int.reduceLT, Int.reduceAdd, Int.reduceSub, Int.reduceMul, Int.reduceNeg, reduceCtorEq, reduceIte, Int.reduceBEq, Int.reduceBNe, Int.reduceEq, Int.reduceNe, Nat.reduceBEq, Nat.reduceBNe, tys, pick_false, pick_true, goGuard_sgd] <;> exact rfl))) | refine draw_end (by decide +kernel) ?_ | refine cond_bool (fun hb => ?_) (fun hb => ?_) | refine cond_bit (fun hb => ?_) (fun hb => ?_) | refine And.intro (by omega) ?_ | refine And.intro (fun hb => ?_) (fun hb => ?_) | fail); (all_goals (first | (refine Fin.pure ?_ ?_ ?_ <;> (try simp only [Try.results13, Try.ntmps13, hd, hr, List.length_map, vcs, Nat.reduceAdd, Nat.reduceMul, Nat.reduceEqDiff, Nat.reduceLeDiff, Nat.reduceSub, Nat.reduceLT, Int.reduceToNat, Int.reduceLE, Int.reduceLT, Int.reduceAdd, Int.reduceSub, Int.reduceMul, Int.reduceNeg, reduceCtorEq, reduceIte, Int.reduceBEq, Int.reduceBNe, Int.reduceEq, Int.reduceNe, Nat.reduceBEq, Nat.reduceBNe, tys, pick_false, pick_true, goGuard_sgd]) <;> (try simp only [injs])) | skip))))
end Go.Proofs.Ytanahnknjboplaa
/-
  Layer 9 by the machine: lex.Check, and the document's answer May, Check.
-/
namespace Go.Proofs.Ytanahnknjboplaa
set_option linter.unusedSimpArgs false
set_option linter.unusedVariables false
open Go Go.RowKit Go.Proofs.Ytanahnknjboplaa.Vm Go.Lib

theorem check_ev (t : Tk) (h : t.okTo lim) (nm : Nat) : Ev cx 13 nm [.agg (tkC t)] Mem.nil (.int .i64 (tokE t)) [] := by
  unfold tokE
  rw [tok_head]
  cases ho : headOk t with
  | false => exact check_bad t h ho nm
  | true =>
    have := check_good t h ho nm
    simpa using this
set_option maxRecDepth 100000 in
set_option maxHeartbeats 8000000 in
theorem rMayT_ev (t : Tk) (h : t.okTo lim) (nm : Nat) : Ev cx 43 nm [.agg (tkC t)] Mem.nil (.bool (tokL t)) [] := by
  obtain ⟨hl, hnl, htl, hal⟩ := h
  have hee : ((t.attrs.length : Int) == 0) = t.attrs.isEmpty := len_zero _
  have hne := isEmpty_beq t.name
  have hxe := isEmpty_beq t.text
  have hxb : (t.text != []) = !t.text.isEmpty := congrArg not hxe
  have hz : decide (ptsErr t.text = 0) = (ptsErr t.text == 0) := by rw [Bool.eq_iff_iff]; simp
  have hfull := rFull_ev t.name hnl
  have hchk := rCheck_ev t.text htl
  have hat := rAttrs_ev t.attrs hl hal
  have hk : tokL t = (if t.kind = 1 ∨ t.kind = 3 then fullL t.name && attrsL t.attrs && t.text.isEmpty
    else if t.kind = 2 then fullL t.name && t.attrs.isEmpty && t.text.isEmpty
    else if t.kind = 4 then t.name.isEmpty && t.attrs.isEmpty && !t.text.isEmpty && (ptsErr t.text == 0)
    else false) := by rw [← hz]; rfl
  generalize he : t.attrs.isEmpty = e at hk hee
  generalize hn : t.name.isEmpty = n at hk hne
  generalize hx : t.text.isEmpty = x at hk hxe hxb
  generalize hf : fullL t.name = f at hk hfull
  generalize hg : attrsL t.attrs = g at hk hat
  generalize hy : (ptsErr t.text == 0) = z at hk
  rw [hk]
  rcases kind_bools t.kind with ⟨q1, q3, q2, q4, hkd⟩ | ⟨q1, q3, q2, q4, hkd⟩ | ⟨q1, q3, q2, q4, hkd⟩ | ⟨q1, q3, q2, q4, hkd⟩ | ⟨q1, q3, q2, q4, hk1, hk3, hk2, hk4⟩
  · rw [if_pos (.inl hkd)]
    cases f <;> cases g <;> (
      refine ev_go (fun cargs w => Try.call43 cargs w) Try.func43 rfl mixed (by kernel_rfl) rfl ?_; intro b0 hb0
      ((repeat' first | simp only [Try.results43, Try.ntmps43, Nat.reducePow, wks, plain_pr, tkC, hxe, q1, q2, q3, q4, vcs, Nat.reduceAdd, Nat.reduceMul, Nat.reduceEqDiff, Nat.reduceLeDiff, Nat.reduceSub, Nat.reduceLT, Int.reduceToNat, Int.reduceLE, Int.reduceLT, Int.reduceAdd, Int.reduceSub, Int.reduceMul, Int.reduceNeg, reduceCtorEq, reduceIte, Int.reduceBEq, Int.reduceBNe, Int.reduceEq, Int.reduceNe, Nat.reduceBEq, Nat.reduceBNe, tys, pick_false, pick_true, goGuard_sgd] | exact rfl | ((first | (refine call_fn ?_ (hfull _) ?_) | (refine call_fn_g ?_ (fun _ => hfull _) ?_) | (refine call_fn ?_ (hat _) ?_) | (refine call_fn_g ?_ (fun _ => hat _) ?_)); (focus (simp only [Try.results43, Try.ntmps43, Nat.reducePow, wks, plain_pr, tkC, hxe, q1, q2, q3, q4, vcs, Nat.reduceAdd, Nat.reduceMul, Nat.reduceEqDiff, Nat.reduceLeDiff, Nat.reduceSub, Nat.reduceLT, Int.reduceToNat, Int.reduceLE, Int.reduceLT, Int.reduceAdd, Int.reduceSub, Int.reduceMul, Int.reduceNeg, reduceCtorEq, reduceIte, Int.reduceBEq, Int.reduceBNe, Int.reduceEq, Int.reduceNe, Nat.reduceBEq, Nat.reduceBNe, tys, pick_false, pick_true, goGuard_sgd] <;> exact rfl))) | (refine call_off (v := .any) ?_) | (first | (refine call_val (g := ?_) ?_ ?_) | (refine call_valg (g := ?_) ?_ ?_); rotate_left 1; (focus (simp only [Try.results43, Try.ntmps43, Nat.reducePow, wks, plain_pr, tkC, hxe, q1, q2, q3, q4, vcs, Nat.reduceAdd, Nat.reduceMul, Nat.reduceEqDiff, Nat.reduceLeDiff, Nat.reduceSub, Nat.reduceLT, Int.reduceToNat, Int.reduceLE, Int.reduceLT, Int.reduceAdd, Int.reduceSub, Int.reduceMul, Int.reduceNeg, reduceCtorEq, reduceIte, Int.reduceBEq, Int.reduceBNe, Int.reduceEq, Int.reduceNe, Nat.reduceBEq, Nat.reduceBNe, tys, pick_false, pick_true, goGuard_sgd] <;> exact rfl))) | refine draw_end (by decide +kernel) ?_ | refine cond_bool (fun hb => ?_) (fun hb => ?_) | refine cond_bit (fun hb => ?_) (fun hb => ?_) | refine And.intro (by omega) ?_ | refine And.intro (fun hb => ?_) (fun hb => ?_) | fail); (all_goals (first | (refine Fin.pure ?_ ?_ ?_ <;> (try simp only [Try.results43, Try.ntmps43, plain_pr, tkC, hxe, q1, q2, q3, q4, vcs, Nat.reduceAdd, Nat.reduceMul, Nat.reduceEqDiff, Nat.reduceLeDiff, Nat.reduceSub, Nat.reduceLT, Int.reduceToNat, Int.reduceLE, Int.reduceLT, Int.reduceAdd, Int.reduceSub, Int.reduceMul, Int.reduceNeg, reduceCtorEq, reduceIte, Int.reduceBEq, Int.reduceBNe, Int.reduceEq, Int.reduceNe, Nat.reduceBEq, Nat.reduceBNe, tys, pick_false, pick_true, goGuard_sgd]) <;> (try simp only [injs])) | skip))))
  · rw [if_pos (.inr hkd)]
    cases f <;> cases g <;> (
      refine ev_go (fun cargs w => Try.call43 cargs w) Try.func43 rfl mixed (by kernel_rfl) rfl ?_; intro b0 hb0
      ((repeat' first | simp only [Try.results43, Try.ntmps43, Nat.reducePow, wks, plain_pr, tkC, hxe, q1, q2, q3, q4, vcs, Nat.reduceAdd, Nat.reduceMul, Nat.reduceEqDiff, Nat.reduceLeDiff, Nat.reduceSub, Nat.reduceLT, Int.reduceToNat, Int.reduceLE, Int.reduceLT, Int.reduceAdd, Int.reduceSub, Int.reduceMul, Int.reduceNeg, reduceCtorEq, reduceIte, Int.reduceBEq, Int.reduceBNe, Int.reduceEq, Int.reduceNe, Nat.reduceBEq, Nat.reduceBNe, tys, pick_false, pick_true, goGuard_sgd] | exact rfl | ((first | (refine call_fn ?_ (hfull _) ?_) | (refine call_fn_g ?_ (fun _ => hfull _) ?_) | (refine call_fn ?_ (hat _) ?_) | (refine call_fn_g ?_ (fun _ => hat _) ?_)); (focus (simp only [Try.results43, Try.ntmps43, Nat.reducePow, wks, plain_pr, tkC, hxe, q1, q2, q3, q4, vcs, Nat.reduceAdd, Nat.reduceMul, Nat.reduceEqDiff, Nat.reduceLeDiff, Nat.reduceSub, Nat.reduceLT, Int.reduceToNat, Int.reduceLE, Int.reduceLT, Int.reduceAdd, Int.reduceSub, Int.reduceMul, Int.reduceNeg, reduceCtorEq, reduceIte, Int.reduceBEq, Int.reduceBNe, Int.reduceEq, Int.reduceNe, Nat.reduceBEq, Nat.reduceBNe, tys, pick_false, pick_true, goGuard_sgd] <;> exact rfl))) | (refine call_off (v := .any) ?_) | (first | (refine call_val (g := ?_) ?_ ?_) | (refine call_valg (g := ?_) ?_ ?_); rotate_left 1; (focus (simp only [Try.results43, Try.ntmps43, Nat.reducePow, wks, plain_pr, tkC, hxe, q1, q2, q3, q4, vcs, Nat.reduceAdd, Nat.reduceMul, Nat.reduceEqDiff, Nat.reduceLeDiff, Nat.reduceSub, Nat.reduceLT, Int.reduceToNat, Int.reduceLE, Int.reduceLT, Int.reduceAdd, Int.reduceSub, Int.reduceMul, Int.reduceNeg, reduceCtorEq, reduceIte, Int.reduceBEq, Int.reduceBNe, Int.reduceEq, Int.reduceNe, Nat.reduceBEq, Nat.reduceBNe, tys, pick_false, pick_true, goGuard_sgd] <;> exact rfl))) | refine draw_end (by decide +kernel) ?_ | refine cond_bool (fun hb => ?_) (fun hb => ?_) | refine cond_bit (fun hb => ?_) (fun hb => ?_) | refine And.intro (by omega) ?_ | refine And.intro (fun hb => ?_) (fun hb => ?_) | fail); (all_goals (first | (refine Fin.pure ?_ ?_ ?_ <;> (try simp only [Try.results43, Try.ntmps43, plain_pr, tkC, hxe, q1, q2, q3, q4, vcs, Nat.reduceAdd, Nat.reduceMul, Nat.reduceEqDiff, Nat.reduceLeDiff, Nat.reduceSub, Nat.reduceLT, Int.reduceToNat, Int.reduceLE, Int.reduceLT, Int.reduceAdd, Int.reduceSub, Int.reduceMul, Int.reduceNeg, reduceCtorEq, reduceIte, Int.reduceBEq, Int.reduceBNe, Int.reduceEq, Int.reduceNe, Nat.reduceBEq, Nat.reduceBNe, tys, pick_false, pick_true, goGuard_sgd]) <;> (try simp only [injs])) | skip))))
  · rw [if_neg (by omega), if_pos hkd]
    cases f <;> cases e <;> (
      refine ev_go (fun cargs w => Try.call43 cargs w) Try.func43 rfl mixed (by kernel_rfl) rfl ?_; intro b0 hb0
      ((repeat' first | simp only [Try.results43, Try.ntmps43, Nat.reducePow, wks, plain_pr, tkC, hxe, hee, List.length_map, q1, q2, q3, q4, vcs, Nat.reduceAdd, Nat.reduceMul, Nat.reduceEqDiff, Nat.reduceLeDiff, Nat.reduceSub, Nat.reduceLT, Int.reduceToNat, Int.reduceLE, Int.reduceLT, Int.reduceAdd, Int.reduceSub, Int.reduceMul, Int.reduceNeg, reduceCtorEq, reduceIte, Int.reduceBEq, Int.reduceBNe, Int.reduceEq, Int.reduceNe, Nat.reduceBEq, Nat.reduceBNe, tys, pick_false, pick_true, goGuard_sgd] | exact rfl | ((first | (refine call_fn ?_ (hfull _) ?_) | (refine call_fn_g ?_ (fun _ => hfull _) ?_)); (focus (simp only [Try.results43, Try.ntmps43, Nat.reducePow, wks, plain_pr, tkC, hxe, hee, List.length_map, q1, q2, q3, q4, vcs, Nat.reduceAdd, Nat.reduceMul, Nat.reduceEqDiff, Nat.reduceLeDiff, Nat.reduceSub, Nat.reduceLT, Int.reduceToNat, Int.reduceLE, Int.reduceLT, Int.reduceAdd, Int.reduceSub, Int.reduceMul, Int.reduceNeg, reduceCtorEq, reduceIte, Int.reduceBEq, Int.reduceBNe, Int.reduceEq, Int.reduceNe, Nat.reduceBEq, Nat.reduceBNe, tys, pick_false, pick_true, goGuard_sgd] <;> exact rfl))) | (refine call_off (v := .any) ?_) | (first | (refine call_val (g := ?_) ?_ ?_) | (refine call_valg (g := ?_) ?_ ?_); rotate_left 1; (focus (simp only [Try.results43, Try.ntmps43, Nat.reducePow, wks, plain_pr, tkC, hxe, hee, List.length_map, q1, q2, q3, q4, vcs, Nat.reduceAdd, Nat.reduceMul, Nat.reduceEqDiff, Nat.reduceLeDiff, Nat.reduceSub, Nat.reduceLT, Int.reduceToNat, Int.reduceLE, Int.reduceLT, Int.reduceAdd, Int.reduceSub, Int.reduceMul, Int.reduceNeg, reduceCtorEq, reduceIte, Int.reduceBEq, Int.reduceBNe, Int.reduceEq, Int.reduceNe, Nat.reduceBEq, Nat.reduceBNe, tys, pick_false, pick_true, goGuard_sgd] <;> exact rfl))) | refine draw_end (by decide +kernel) ?_ | refine cond_bool (fun hb => ?_) (fun hb => ?_) | refine cond_bit (fun hb => ?_) (fun hb => ?_) | refine And.intro (by omega) ?_ | refine And.intro (fun hb => ?_) (fun hb => ?_) | fail); (all_goals (first | (refine Fin.pure ?_ ?_ ?_ <;> (try simp only [Try.results43, Try.ntmps43, plain_pr, tkC, hxe, hee, List.length_map, q1, q2, q3, q4, vcs, Nat.reduceAdd, Nat.reduceMul, Nat.reduceEqDiff, Nat.reduceLeDiff, Nat.reduceSub, Nat.reduceLT, Int.reduceToNat, Int.reduceLE, Int.reduceLT, Int.reduceAdd, Int.reduceSub, Int.reduceMul, Int.reduceNeg, reduceCtorEq, reduceIte, Int.reduceBEq, Int.reduceBNe, Int.reduceEq, Int.reduceNe, Nat.reduceBEq, Nat.reduceBNe, tys, pick_false, pick_true, goGuard_sgd]) <;> (try simp only [injs])) | skip))))
  · rw [if_neg (by omega), if_neg (by omega), if_pos hkd]
    cases n <;> cases e <;> cases x <;> cases z <;> (
      refine ev_go (fun cargs w => Try.call43 cargs w) Try.func43 rfl mixed (by kernel_rfl) rfl ?_; intro b0 hb0
      ((repeat' first | simp only [Try.results43, Try.ntmps43, Nat.reducePow, wks, plain_pr, tkC, hxe, hxb, hne, hee, hy, List.length_map, q1, q2, q3, q4, vcs, Nat.reduceAdd, Nat.reduceMul, Nat.reduceEqDiff, Nat.reduceLeDiff, Nat.reduceSub, Nat.reduceLT, Int.reduceToNat, Int.reduceLE, Int.reduceLT, Int.reduceAdd, Int.reduceSub, Int.reduceMul, Int.reduceNeg, reduceCtorEq, reduceIte, Int.reduceBEq, Int.reduceBNe, Int.reduceEq, Int.reduceNe, Nat.reduceBEq, Nat.reduceBNe, tys, pick_false, pick_true, goGuard_sgd] | exact rfl | ((first | (refine call_fn ?_ (hchk _) ?_) | (refine call_fn_g ?_ (fun _ => hchk _) ?_)); (focus (simp only [Try.results43, Try.ntmps43, Nat.reducePow, wks, plain_pr, tkC, hxe, hxb, hne, hee, hy, List.length_map, q1, q2, q3, q4, vcs, Nat.reduceAdd, Nat.reduceMul, Nat.reduceEqDiff, Nat.reduceLeDiff, Nat.reduceSub, Nat.reduceLT, Int.reduceToNat, Int.reduceLE, Int.reduceLT, Int.reduceAdd, Int.reduceSub, Int.reduceMul, Int.reduceNeg, reduceCtorEq, reduceIte, Int.reduceBEq, Int.reduceBNe, Int.reduceEq, Int.reduceNe, Nat.reduceBEq, Nat.reduceBNe, tys, pick_false, pick_true, goGuard_sgd] <;> exact rfl))) | (refine call_off (v := .any) ?_) | (first | (refine call_val (g := ?_) ?_ ?_) | (refine call_valg (g := ?_) ?_ ?_); rotate_left 1; (focus (simp only [Try.results43, Try.ntmps43, Nat.reducePow, wks, plain_pr, tkC, hxe, hxb, hne, hee, hy, List.length_map, q1, q2, q3, q4, vcs, Nat.reduceAdd, Nat.reduceMul, Nat.reduceEqDiff, Nat.reduceLeDiff, Nat.reduceSub, Nat.reduceLT, Int.reduceToNat, Int.reduceLE, Int.reduceLT, Int.reduceAdd, Int.reduceSub, Int.reduceMul, Int.reduceNeg, reduceCtorEq, reduceIte, Int.reduceBEq, Int.reduceBNe, Int.reduceEq, Int.reduceNe, Nat.reduceBEq, Nat.reduceBNe, tys, pick_false, pick_true, goGuard_sgd] <;> exact rfl))) | refine draw_end (by decide +kernel) ?_ | refine cond_bool (fun hb => ?_) (fun hb => ?_) | refine cond_bit (fun hb => ?_) (fun hb => ?_) | refine And.intro (by omega) ?_ | refine And.intro (fun hb => ?_) (fun hb => ?_) | fail); (all_goals (first | (refine Fin.pure ?_ ?_ ?_ <;> (try simp only [Try.results43, Try.ntmps43, plain_pr, tkC, hxe, hxb, hne, hee, hy, List.length_map, q1, q2, q3, q4, vcs, Nat.reduceAdd, Nat.reduceMul, Nat.reduceEqDiff, Nat.reduceLeDiff, Nat.reduceSub, Nat.reduceLT, Int.reduceToNat, Int.reduceLE, Int.reduceLT, Int.reduceAdd, Int.reduceSub, Int.reduceMul, Int.reduceNeg, reduceCtorEq, reduceIte, Int.reduceBEq, Int.reduceBNe, Int.reduceEq, Int.reduceNe, Nat.reduceBEq, Nat.reduceBNe, tys, pick_false, pick_true, goGuard_sgd]) <;> (try simp only [injs])) | skip))))
  · rw [if_neg (by omega), if_neg hk2, if_neg hk4]
    refine ev_go (fun cargs w => Try.call43 cargs w) Try.func43 rfl mixed (by kernel_rfl) rfl ?_; intro b0 hb0
    ((repeat' first | simp only [Try.results43, Try.ntmps43, Nat.reducePow, wks, plain_pr, tkC, q1, q2, q3, q4, vcs, Nat.reduceAdd, Nat.reduceMul, Nat.reduceEqDiff, Nat.reduceLeDiff, Nat.reduceSub, Nat.reduceLT, Int.reduceToNat, Int.reduceLE, Int.reduceLT, Int.reduceAdd, Int.reduceSub, Int.reduceMul, Int.reduceNeg, reduceCtorEq, reduceIte, Int.reduceBEq, Int.reduceBNe, Int.reduceEq, Int.reduceNe, Nat.reduceBEq, Nat.reduceBNe, tys, pick_false, pick_true, goGuard_sgd] | exact rfl | (first | (refine call_val (g := ?_) ?_ ?_) | (refine call_valg (g := ?_) ?_ ?_); rotate_left 1; (focus (simp only [Try.results43, Try.ntmps43, Nat.reducePow, wks, plain_pr, tkC, q1, q2, q3, q4, vcs, Nat.reduceAdd, Nat.reduceMul, Nat.reduceEqDiff, Nat.reduceLeDiff, Nat.reduceSub, Nat.reduceLT, Int.reduceToNat, Int.reduceLE, Int.reduceLT, Int.reduceAdd, Int.reduceSub, Int.reduceMul, Int.reduceNeg, reduceCtorEq, reduceIte, Int.reduceBEq, Int.reduceBNe, Int.reduceEq, Int.reduceNe, Nat.reduceBEq, Nat.reduceBNe, tys, pick_false, pick_true, goGuard_sgd] <;> exact rfl))) | refine draw_end (by decide +kernel) ?_ | refine cond_bool (fun hb => ?_) (fun hb => ?_) | refine cond_bit (fun hb => ?_) (fun hb => ?_) | refine And.intro (by omega) ?_ | refine And.intro (fun hb => ?_) (fun hb => ?_) | fail); (all_goals (first | (refine Fin.pure ?_ ?_ ?_ <;> (try simp only [Try.results43, Try.ntmps43, plain_pr, tkC, q1, q2, q3, q4, vcs, Nat.reduceAdd, Nat.reduceMul, Nat.reduceEqDiff, Nat.reduceLeDiff, Nat.reduceSub, Nat.reduceLT, Int.reduceToNat, Int.reduceLE, Int.reduceLT, Int.reduceAdd, Int.reduceSub, Int.reduceMul, Int.reduceNeg, reduceCtorEq, reduceIte, Int.reduceBEq, Int.reduceBNe, Int.reduceEq, Int.reduceNe, Nat.reduceBEq, Nat.reduceBNe, tys, pick_false, pick_true, goGuard_sgd]) <;> (try simp only [injs])) | skip)))
set_option maxRecDepth 100000 in
theorem rCheckT_ev (t : Tk) (h : t.okTo lim) (nm : Nat) : Ev cx 14 nm [.agg (tkC t)] Mem.nil (.int .i64 (tokE t)) [] := by
  have hm := rMayT_ev t h
  unfold tokE
  generalize tokL t = b at hm ⊢
  cases b <;> (
    refine ev_go (fun cargs w => Try.call14 cargs w) Try.func14 rfl mixed (by kernel_rfl) rfl ?_; intro b0 hb0
    ((repeat' first | simp only [Try.results14, Try.ntmps14, Nat.reducePow, wks, plain_pr, tkC, vcs, Nat.reduceAdd, Nat.reduceMul, Nat.reduceEqDiff, Nat.reduceLeDiff, Nat.reduceSub, Nat.reduceLT, Int.reduceToNat, Int.reduceLE, Int.reduceLT, Int.reduceAdd, Int.reduceSub, Int.reduceMul, Int.reduceNeg, reduceCtorEq, reduceIte, Int.reduceBEq, Int.reduceBNe, Int.reduceEq, Int.reduceNe, Nat.reduceBEq, Nat.reduceBNe, tys, pick_false, pick_true, goGuard_sgd] | exact rfl | ((first | (refine call_fn ?_ (hm _) ?_) | (refine call_fn_g ?_ (fun _ => hm _) ?_)); (focus (simp only [Try.results14, Try.ntmps14, Nat.reducePow, wks, plain_pr, tkC, vcs, Nat.reduceAdd, Nat.reduceMul, Nat.reduceEqDiff, Nat.reduceLeDiff, Nat.reduceSub, Nat.reduceLT, Int.reduceToNat, Int.reduceLE, Int.reduceLT, Int.reduceAdd, Int.reduceSub, Int.reduceMul, Int.reduceNeg, reduceCtorEq, reduceIte, Int.reduceBEq, Int.reduceBNe, Int.reduceEq, Int.reduceNe, Nat.reduceBEq, Nat.reduceBNe, tys, pick_false, pick_true, goGuard_sgd] <;> exact rfl))) | (first | (refine call_val (g := ?_) ?_ ?_) | (refine call_valg (g := ?_) ?_ ?_); rotate_left 1; (focus (simp only [Try.results14, Try.ntmps14, Nat.reducePow, wks, plain_pr, tkC, vcs, Nat.reduceAdd, Nat.reduceMul, Nat.reduceEqDiff, Nat.reduceLeDiff, Nat.reduceSub, Nat.reduceLT, Int.reduceToNat, Int.reduceLE, Int.reduceLT, Int.reduceAdd, Int.reduceSub, Int.reduceMul, Int.reduceNeg, reduceCtorEq, reduceIte, Int.reduceBEq, Int.reduceBNe, Int.reduceEq, Int.reduceNe, Nat.reduceBEq, Nat.reduceBNe, tys, pick_false, pick_true, goGuard_sgd] <;> exact rfl))) | refine draw_end (by decide +kernel) ?_ | refine cond_bool (fun hb => ?_) (fun hb => ?_) | refine cond_bit (fun hb => ?_) (fun hb => ?_) | refine And.intro (by omega) ?_ | refine And.intro (fun hb => ?_) (fun hb => ?_) | fail); (all_goals (first | (refine Fin.pure ?_ ?_ ?_ <;> (try simp only [Try.results14, Try.ntmps14, plain_pr, tkC, vcs, Nat.reduceAdd, Nat.reduceMul, Nat.reduceEqDiff, Nat.reduceLeDiff, Nat.reduceSub, Nat.reduceLT, Int.reduceToNat, Int.reduceLE, Int.reduceLT, Int.reduceAdd, Int.reduceSub, Int.reduceMul, Int.reduceNeg, reduceCtorEq, reduceIte, Int.reduceBEq, Int.reduceBNe, Int.reduceEq, Int.reduceNe, Nat.reduceBEq, Nat.reduceBNe, tys, pick_false, pick_true, goGuard_sgd]) <;> (try simp only [injs])) | skip))))
end Go.Proofs.Ytanahnknjboplaa
/-
  Layer 9 by the machine: a text as it is written, some of it at a time; a token's text.
-/
namespace Go.Proofs.Ytanahnknjboplaa
set_option linter.unusedSimpArgs false
set_option linter.unusedVariables false
open Go Go.RowKit Go.Proofs.Ytanahnknjboplaa.Vm Go.Lib

theorem isSome_pts {s : List UInt8} (h : (dec s).isSome = true) (hl : s.length ≤ 16384) : ptsErr s = 0 := ptsErr_iff.2 ⟨hl, h⟩
theorem put_small {s : List UInt8} (q : Bool) (h : (dec s).isSome = true) (hl : s.length ≤ 1027) : putE q s = 0 ∧ putT q s = escW q s := by
  have hw := escW_length q s
  have h0 : putE q s = 0 := by
    unfold putE
    rw [if_neg (fun e => e (isSome_pts h (by omega))), if_neg (by omega)]
  exact ⟨h0, by unfold putT; rw [if_pos h0]⟩
theorem take_snoc_put {q : Bool} {d r : List UInt8} (n : Nat) : escW q (d ++ r.take n) = escW q d ++ escW q (r.take n) := escW_append q d _
theorem cont_and (c : UInt8) : (IntKind.u8.wrap ((BitVec.ofInt IntKind.u8.bits (c.toNat : Int) &&& BitVec.ofInt IntKind.u8.bits 192).toNat : Int) == 128) = contB c := by
  have : ∀ n : Fin 256, (IntKind.u8.wrap ((BitVec.ofInt IntKind.u8.bits (n.val : Int) &&& BitVec.ofInt IntKind.u8.bits 192).toNat : Int) == 128) = (decide (128 ≤ n.val) && decide (n.val < 192)) := by decide +kernel
  exact this ⟨c.toNat, c.toNat_lt⟩
theorem getLt {r : List UInt8} {n : Nat} (h : n < r.length) : ∃ b, r[n]? = some b := ⟨_, List.getElem?_eq_getElem h⟩
set_option maxRecDepth 100000 in
set_option maxHeartbeats 8000000 in
theorem lput_ev (s : List UInt8) (q : Bool) (hd : (dec s).isSome = true) (hs : s.length ≤ 1000000) (nm : Nat) : Ev cx 83 nm [.str s, .bool q] Mem.nil (.str (escW q s)) [] := by
  refine ev_go (fun cargs w => Try.call83 cargs w) Try.func83 rfl mixed (by kernel_rfl) rfl ?_; intro b0 hb0
  repeat' first | simp only [Try.results83, Try.ntmps83, Nat.reducePow, wks, vcs, Nat.reduceAdd, Nat.reduceMul, Nat.reduceEqDiff, Nat.reduceLeDiff, Nat.reduceSub, Nat.reduceLT, Int.reduceToNat, Int.reduceLE, Int.reduceLT, Int.reduceAdd, Int.reduceSub, Int.reduceMul, Int.reduceNeg, reduceCtorEq, reduceIte, Int.reduceBEq, Int.reduceBNe, Int.reduceEq, Int.reduceNe, Nat.reduceBEq, Nat.reduceBNe, tys, pick_false, pick_true, goGuard_sgd] | exact rfl | (first | (refine call_val (g := ?_) ?_ ?_) | (refine call_valg (g := ?_) ?_ ?_); rotate_left 1; (focus (simp only [Try.results83, Try.ntmps83, Nat.reducePow, wks, vcs, Nat.reduceAdd, Nat.reduceMul, Nat.reduceEqDiff, Nat.reduceLeDiff, Nat.reduceSub, Nat.reduceLT, Int.reduceToNat, Int.reduceLE, Int.reduceLT, Int.reduceAdd, Int.reduceSub, Int.reduceMul, Int.reduceNeg, reduceCtorEq, reduceIte, Int.reduceBEq, Int.reduceBNe, Int.reduceEq, Int.reduceNe, Nat.reduceBEq, Nat.reduceBNe, tys, pick_false, pick_true, goGuard_sgd] <;> exact rfl))) | refine draw_end (by decide +kernel) ?_ | refine cond_bool (fun hb => ?_) (fun hb => ?_) | refine cond_bit (fun hb => ?_) (fun hb => ?_) | refine And.intro (by omega) ?_ | refine And.intro (fun hb => ?_) (fun hb => ?_) | fail
  (refine loop_can2 cxG (fun x : List UInt8 × List UInt8 => x.2.length) (fun x => s = x.1 ++ x.2 ∧ (dec x.2).isSome = true) (b0 + 16) (fun x => [(0, .str x.2), (1, .bool q), (5, .ptr b0 0 0)]) (fun x => [(b0, bS false b0 (b0 + 1) (escW q x.1)), (b0 + 1, rK (escW q x.1))]) (([], s)) [some (b0 + 16), none] ?_ ?_ ?_ ?_; rotate_left 1; (focus (show b0 ≤ _; omega)); (focus (refine ⟨?_, ?_⟩ <;> (try simp only [cans, bS_new, escW_nil, rK_nil, rK_row, ren_mkT, renOk_mkT, ren_rK, renOk_rK, plain_bs, vcs, Nat.reduceAdd, Nat.reduceMul, Nat.reduceEqDiff, Nat.reduceLeDiff, Nat.reduceSub, Nat.reduceLT, Int.reduceToNat, Int.reduceLE, Int.reduceLT, Int.reduceAdd, Int.reduceSub, Int.reduceMul, Int.reduceNeg, reduceCtorEq, reduceIte, Int.reduceBEq, Int.reduceBNe, Int.reduceEq, Int.reduceNe, Nat.reduceBEq, Nat.reduceBNe, tys, pick_false, pick_true, goGuard_sgd, injs]) <;> (try omega))); rotate_left 1)
  · exact ⟨rfl, hd⟩
  · rintro ⟨d, r⟩ ⟨hsr, hr⟩
    simp only at hsr hr
    have hlen : d.length + r.length ≤ 1000000 := by rw [hsr] at hs; simpa using hs
    have hwd := escW_length q d
    by_cases hne : r = []
    · subst hne
      have e0 : (([] : List UInt8) == []) = true := rfl
      have e1 : d = s := by rw [hsr]; simp
      subst e1
      have hll : (escW q d).length ≤ lim := by unfold lim; omega
      ((repeat' first | simp only [Try.results83, Try.ntmps83, Nat.reducePow, wks, e0, vcs, Nat.reduceAdd, Nat.reduceMul, Nat.reduceEqDiff, Nat.reduceLeDiff, Nat.reduceSub, Nat.reduceLT, Int.reduceToNat, Int.reduceLE, Int.reduceLT, Int.reduceAdd, Int.reduceSub, Int.reduceMul, Int.reduceNeg, reduceCtorEq, reduceIte, Int.reduceBEq, Int.reduceBNe, Int.reduceEq, Int.reduceNe, Nat.reduceBEq, Nat.reduceBNe, tys, pick_false, pick_true, goGuard_sgd] | exact rfl | ((refine call_fn_full ?_ [b0, b0 + 1] (bStr_ev false b0 (b0 + 1) (escW q d) _ _ hll (by omega) ?_ ?_ only_mem (by omega) (by omega)) ?_ ?_); iterate 4 (focus (simp only [mems, Try.results83, Try.ntmps83, Nat.reducePow, wks, e0, vcs, Nat.reduceAdd, Nat.reduceMul, Nat.reduceEqDiff, Nat.reduceLeDiff, Nat.reduceSub, Nat.reduceLT, Int.reduceToNat, Int.reduceLE, Int.reduceLT, Int.reduceAdd, Int.reduceSub, Int.reduceMul, Int.reduceNeg, reduceCtorEq, reduceIte, Int.reduceBEq, Int.reduceBNe, Int.reduceEq, Int.reduceNe, Nat.reduceBEq, Nat.reduceBNe, tys, pick_false, pick_true, goGuard_sgd] <;> exact rfl))) | (first | (refine call_val (g := ?_) ?_ ?_) | (refine call_valg (g := ?_) ?_ ?_); rotate_left 1; (focus (simp only [Try.results83, Try.ntmps83, Nat.reducePow, wks, e0, vcs, Nat.reduceAdd, Nat.reduceMul, Nat.reduceEqDiff, Nat.reduceLeDiff, Nat.reduceSub, Nat.reduceLT, Int.reduceToNat, Int.reduceLE, Int.reduceLT, Int.reduceAdd, Int.reduceSub, Int.reduceMul, Int.reduceNeg, reduceCtorEq, reduceIte, Int.reduceBEq, Int.reduceBNe, Int.reduceEq, Int.reduceNe, Nat.reduceBEq, Nat.reduceBNe, tys, pick_false, pick_true, goGuard_sgd] <;> exact rfl))) | refine draw_end (by decide +kernel) ?_ | refine cond_bool (fun hb => ?_) (fun hb => ?_) | refine cond_bit (fun hb => ?_) (fun hb => ?_) | refine And.intro (by omega) ?_ | refine And.intro (fun hb => ?_) (fun hb => ?_) | fail); (all_goals (first | (refine Fin.pure ?_ ?_ ?_ <;> (try simp only [Try.results83, Try.ntmps83, e0, vcs, Nat.reduceAdd, Nat.reduceMul, Nat.reduceEqDiff, Nat.reduceLeDiff, Nat.reduceSub, Nat.reduceLT, Int.reduceToNat, Int.reduceLE, Int.reduceLT, Int.reduceAdd, Int.reduceSub, Int.reduceMul, Int.reduceNeg, reduceCtorEq, reduceIte, Int.reduceBEq, Int.reduceBNe, Int.reduceEq, Int.reduceNe, Nat.reduceBEq, Nat.reduceBNe, tys, pick_false, pick_true, goGuard_sgd]) <;> (try simp only [injs])) | skip)))
    · have e0 : (r == []) = false := beq_false_of_ne hne
      have hrl : 0 < r.length := List.length_pos_iff.2 hne
      obtain ⟨j, j1, j2, j3, j4⟩ := text_near hr (k := min r.length 1024) (by omega)
      have hmin : min (r.length : Int) 1024 = ((min r.length 1024 : Nat) : Int) := by omega
      generalize hk0 : min r.length 1024 = k0 at *
      repeat' first | simp only [Try.results83, Try.ntmps83, Nat.reducePow, wks, e0, hmin, Bool.not_false, vcs, Nat.reduceAdd, Nat.reduceMul, Nat.reduceEqDiff, Nat.reduceLeDiff, Nat.reduceSub, Nat.reduceLT, Int.reduceToNat, Int.reduceLE, Int.reduceLT, Int.reduceAdd, Int.reduceSub, Int.reduceMul, Int.reduceNeg, reduceCtorEq, reduceIte, Int.reduceBEq, Int.reduceBNe, Int.reduceEq, Int.reduceNe, Nat.reduceBEq, Nat.reduceBNe, tys, pick_false, pick_true, goGuard_sgd] | exact rfl | (first | (refine call_val (g := ?_) ?_ ?_) | (refine call_valg (g := ?_) ?_ ?_); rotate_left 1; (focus (simp only [Try.results83, Try.ntmps83, Nat.reducePow, wks, e0, hmin, Bool.not_false, vcs, Nat.reduceAdd, Nat.reduceMul, Nat.reduceEqDiff, Nat.reduceLeDiff, Nat.reduceSub, Nat.reduceLT, Int.reduceToNat, Int.reduceLE, Int.reduceLT, Int.reduceAdd, Int.reduceSub, Int.reduceMul, Int.reduceNeg, reduceCtorEq, reduceIte, Int.reduceBEq, Int.reduceBNe, Int.reduceEq, Int.reduceNe, Nat.reduceBEq, Nat.reduceBNe, tys, pick_false, pick_true, goGuard_sgd] <;> exact rfl))) | refine draw_end (by decide +kernel) ?_ | refine cond_bool (fun hb => ?_) (fun hb => ?_) | refine cond_bit (fun hb => ?_) (fun hb => ?_) | refine And.intro (by omega) ?_ | refine And.intro (fun hb => ?_) (fun hb => ?_) | fail
      (refine loop_can2 cxG (fun x : Nat => j - x) (fun x => k0 ≤ x ∧ x ≤ j) (b0 + 16) (fun x => [(0, .str r), (1, .bool q), (5, .ptr b0 0 0), (6, .int .i64 x)]) (fun x => [(b0, bS false b0 (b0 + 1) (escW q d)), (b0 + 1, rK (escW q d))]) (k0) [some b0, some (b0 + 1)] ?_ ?_ ?_ ?_; rotate_left 1; (focus (show b0 ≤ _; omega)); (focus (refine ⟨?_, ?_⟩ <;> (try simp only [cans, ren_bS, renOk_bS, ren_rK, renOk_rK, Option.getD_some, Option.isSome_some, vcs, Nat.reduceAdd, Nat.reduceMul, Nat.reduceEqDiff, Nat.reduceLeDiff, Nat.reduceSub, Nat.reduceLT, Int.reduceToNat, Int.reduceLE, Int.reduceLT, Int.reduceAdd, Int.reduceSub, Int.reduceMul, Int.reduceNeg, reduceCtorEq, reduceIte, Int.reduceBEq, Int.reduceBNe, Int.reduceEq, Int.reduceNe, Nat.reduceBEq, Nat.reduceBNe, tys, pick_false, pick_true, goGuard_sgd, injs]) <;> (try omega))); rotate_left 1)
      · exact ⟨Nat.le_refl _, j1⟩
      · rintro n ⟨hn1, hn2⟩
        have hnr : n ≤ r.length := by omega
        by_cases hgo : n < r.length ∧ ∀ b, r[n]? = some b → contB b = true
        · obtain ⟨hlt, hcb⟩ := hgo
          obtain ⟨b, hb⟩ := getLt hlt
          have hc := hcb b hb
          have hca := cont_and b
          rw [hc] at hca
          have hnj : n ≠ j := fun e => by
            subst e
            have := j4 b hb
            rw [hc] at this; cases this
          have hd1 : decide (n < r.length) = true := decide_eq_true hlt
          have hwk : IntKind.i64.wrap ((n : Int) + 1) = ((n + 1 : Nat) : Int) := wrap_in (by omega) (by omega)
          repeat' first | simp only [Try.results83, Try.ntmps83, Nat.reducePow, wks, hb, hd1, hlt, hca, hwk, vcs, Nat.reduceAdd, Nat.reduceMul, Nat.reduceEqDiff, Nat.reduceLeDiff, Nat.reduceSub, Nat.reduceLT, Int.reduceToNat, Int.reduceLE, Int.reduceLT, Int.reduceAdd, Int.reduceSub, Int.reduceMul, Int.reduceNeg, reduceCtorEq, reduceIte, Int.reduceBEq, Int.reduceBNe, Int.reduceEq, Int.reduceNe, Nat.reduceBEq, Nat.reduceBNe, tys, pick_false, pick_true, goGuard_sgd] | exact rfl | (first | (refine call_val (g := ?_) ?_ ?_) | (refine call_valg (g := ?_) ?_ ?_); rotate_left 1; (focus (simp only [Try.results83, Try.ntmps83, Nat.reducePow, wks, hb, hd1, hlt, hca, hwk, vcs, Nat.reduceAdd, Nat.reduceMul, Nat.reduceEqDiff, Nat.reduceLeDiff, Nat.reduceSub, Nat.reduceLT, Int.reduceToNat, Int.reduceLE, Int.reduceLT, Int.reduceAdd, Int.reduceSub, Int.reduceMul, Int.reduceNeg, reduceCtorEq, reduceIte, Int.reduceBEq, Int.reduceBNe, Int.reduceEq, Int.reduceNe, Nat.reduceBEq, Nat.reduceBNe, tys, pick_false, pick_true, goGuard_sgd] <;> exact rfl))) | refine draw_end (by decide +kernel) ?_ | refine cond_bool (fun hb => ?_) (fun hb => ?_) | refine cond_bit (fun hb => ?_) (fun hb => ?_) | refine And.intro (by omega) ?_ | refine And.intro (fun hb => ?_) (fun hb => ?_) | fail
          all_goals ((refine again_can2 cxG (n + 1) [some b0, some (b0 + 1)] ?_ ?_ ?_ ?_; rotate_left 2; (focus (show b0 ≤ _; omega)); (focus (refine ⟨?_, ?_⟩ <;> (try simp only [cans, ren_bS, renOk_bS, ren_rK, renOk_rK, hwk, Option.getD_some, Option.isSome_some, vcs, Nat.reduceAdd, Nat.reduceMul, Nat.reduceEqDiff, Nat.reduceLeDiff, Nat.reduceSub, Nat.reduceLT, Int.reduceToNat, Int.reduceLE, Int.reduceLT, Int.reduceAdd, Int.reduceSub, Int.reduceMul, Int.reduceNeg, reduceCtorEq, reduceIte, Int.reduceBEq, Int.reduceBNe, Int.reduceEq, Int.reduceNe, Nat.reduceBEq, Nat.reduceBNe, tys, pick_false, pick_true, goGuard_sgd, injs]) <;> (try omega)))))
          all_goals (first | (show j - (n + 1) < j - n; omega) | (show k0 ≤ n + 1 ∧ n + 1 ≤ j; omega) | skip)
        · have hstop : ∀ b, r[n]? = some b → contB b = false := by
            intro b hb
            cases hc : contB b with
            | false => rfl
            | true => exact absurd ⟨(List.getElem?_eq_some_iff.1 hb).1, fun b' hb' => by rw [hb] at hb'; cases hb'; exact hc⟩ hgo
          obtain ⟨hc1, hc2⟩ := text_cut hr hnr hstop
          have hn27 : n ≤ 1027 := by omega
          have htl : (r.take n).length = n := by rw [List.length_take]; omega
          obtain ⟨hp1, hp2⟩ := put_small q hc1 (by omega)
          have hput := ePut_ev (r.take n) q (by unfold lim; omega)
          rw [hp1, hp2] at hput
          have hw2 := escW_length q (r.take n)
          have hne2 : escW q (r.take n) ≠ [] := by
            intro e
            have := congrArg List.length e
            simp only [List.length_nil] at this
            omega
          have hll : (escW q d).length + (escW q (r.take n)).length ≤ lim := by unfold lim; omega
          have hint : (n : Int) ≤ (r.length : Int) := by omega
          have hx : escW q d ++ escW q (r.take n) = escW q (d ++ r.take n) := (take_snoc_put n).symm
          have hdl : (r.drop n).length = r.length - n := by simp
          by_cases hlt : n < r.length
          · obtain ⟨b, hb⟩ := getLt hlt
            have hca := cont_and b
            rw [hstop b hb] at hca
            have hd1 : decide (n < r.length) = true := decide_eq_true hlt
            repeat' first | simp only [Try.results83, Try.ntmps83, Nat.reducePow, wks, hb, hd1, hlt, hca, hnr, hint, fresh_self, List.take_zero, vcs, Nat.reduceAdd, Nat.reduceMul, Nat.reduceEqDiff, Nat.reduceLeDiff, Nat.reduceSub, Nat.reduceLT, Int.reduceToNat, Int.reduceLE, Int.reduceLT, Int.reduceAdd, Int.reduceSub, Int.reduceMul, Int.reduceNeg, reduceCtorEq, reduceIte, Int.reduceBEq, Int.reduceBNe, Int.reduceEq, Int.reduceNe, Nat.reduceBEq, Nat.reduceBNe, tys, pick_false, pick_true, goGuard_sgd] | exact rfl | ((first | (refine call_fn ?_ (hput _) ?_) | (refine call_fn_g ?_ (fun _ => hput _) ?_)); (focus (simp only [Try.results83, Try.ntmps83, Nat.reducePow, wks, hb, hd1, hlt, hca, hnr, hint, fresh_self, List.take_zero, vcs, Nat.reduceAdd, Nat.reduceMul, Nat.reduceEqDiff, Nat.reduceLeDiff, Nat.reduceSub, Nat.reduceLT, Int.reduceToNat, Int.reduceLE, Int.reduceLT, Int.reduceAdd, Int.reduceSub, Int.reduceMul, Int.reduceNeg, reduceCtorEq, reduceIte, Int.reduceBEq, Int.reduceBNe, Int.reduceEq, Int.reduceNe, Nat.reduceBEq, Nat.reduceBNe, tys, pick_false, pick_true, goGuard_sgd] <;> exact rfl))) | ((refine call_fn_full ?_ [b0, b0 + 1] (wStr_ev false b0 (b0 + 1) (escW q d) _ _ (escW q (r.take n)) hne2 hll (by omega) ?_ ?_ only_mem (by omega) (by omega)) ?_ ?_); iterate 4 (focus (simp only [mems, Try.results83, Try.ntmps83, Nat.reducePow, wks, hb, hd1, hlt, hca, hnr, hint, fresh_self, List.take_zero, vcs, Nat.reduceAdd, Nat.reduceMul, Nat.reduceEqDiff, Nat.reduceLeDiff, Nat.reduceSub, Nat.reduceLT, Int.reduceToNat, Int.reduceLE, Int.reduceLT, Int.reduceAdd, Int.reduceSub, Int.reduceMul, Int.reduceNeg, reduceCtorEq, reduceIte, Int.reduceBEq, Int.reduceBNe, Int.reduceEq, Int.reduceNe, Nat.reduceBEq, Nat.reduceBNe, tys, pick_false, pick_true, goGuard_sgd] <;> exact rfl))) | (first | (refine call_val (g := ?_) ?_ ?_) | (refine call_valg (g := ?_) ?_ ?_); rotate_left 1; (focus (simp only [Try.results83, Try.ntmps83, Nat.reducePow, wks, hb, hd1, hlt, hca, hnr, hint, fresh_self, List.take_zero, vcs, Nat.reduceAdd, Nat.reduceMul, Nat.reduceEqDiff, Nat.reduceLeDiff, Nat.reduceSub, Nat.reduceLT, Int.reduceToNat, Int.reduceLE, Int.reduceLT, Int.reduceAdd, Int.reduceSub, Int.reduceMul, Int.reduceNeg, reduceCtorEq, reduceIte, Int.reduceBEq, Int.reduceBNe, Int.reduceEq, Int.reduceNe, Nat.reduceBEq, Nat.reduceBNe, tys, pick_false, pick_true, goGuard_sgd] <;> exact rfl))) | refine draw_end (by decide +kernel) ?_ | refine cond_bool (fun hb => ?_) (fun hb => ?_) | refine cond_bit (fun hb => ?_) (fun hb => ?_) | refine And.intro (by omega) ?_ | refine And.intro (fun hb => ?_) (fun hb => ?_) | fail
            all_goals ((refine again_can2 cxG ((d ++ r.take n, r.drop n)) [some b0, some (b0 + 368)] ?_ ?_ ?_ ?_; rotate_left 2; (focus (show b0 ≤ _; omega)); (focus (refine ⟨?_, ?_⟩ <;> (try simp only [cans, ren_bS, renOk_bS, ren_rK, renOk_rK, hx, Option.getD_some, Option.isSome_some, vcs, Nat.reduceAdd, Nat.reduceMul, Nat.reduceEqDiff, Nat.reduceLeDiff, Nat.reduceSub, Nat.reduceLT, Int.reduceToNat, Int.reduceLE, Int.reduceLT, Int.reduceAdd, Int.reduceSub, Int.reduceMul, Int.reduceNeg, reduceCtorEq, reduceIte, Int.reduceBEq, Int.reduceBNe, Int.reduceEq, Int.reduceNe, Nat.reduceBEq, Nat.reduceBNe, tys, pick_false, pick_true, goGuard_sgd, injs]) <;> (try omega)))))
            all_goals (first | (show (r.drop n).length < r.length; omega) | (refine ⟨?_, hc2⟩; rw [hsr, List.append_assoc, List.take_append_drop]) | skip)
          · have hd1 : decide (n < r.length) = false := decide_eq_false hlt
            repeat' first | simp only [Try.results83, Try.ntmps83, Nat.reducePow, wks, hd1, hlt, hnr, hint, fresh_self, List.take_zero, vcs, Nat.reduceAdd, Nat.reduceMul, Nat.reduceEqDiff, Nat.reduceLeDiff, Nat.reduceSub, Nat.reduceLT, Int.reduceToNat, Int.reduceLE, Int.reduceLT, Int.reduceAdd, Int.reduceSub, Int.reduceMul, Int.reduceNeg, reduceCtorEq, reduceIte, Int.reduceBEq, Int.reduceBNe, Int.reduceEq, Int.reduceNe, Nat.reduceBEq, Nat.reduceBNe, tys, pick_false, pick_true, goGuard_sgd] | exact rfl | ((first | (refine call_fn ?_ (hput _) ?_) | (refine call_fn_g ?_ (fun _ => hput _) ?_)); (focus (simp only [Try.results83, Try.ntmps83, Nat.reducePow, wks, hd1, hlt, hnr, hint, fresh_self, List.take_zero, vcs, Nat.reduceAdd, Nat.reduceMul, Nat.reduceEqDiff, Nat.reduceLeDiff, Nat.reduceSub, Nat.reduceLT, Int.reduceToNat, Int.reduceLE, Int.reduceLT, Int.reduceAdd, Int.reduceSub, Int.reduceMul, Int.reduceNeg, reduceCtorEq, reduceIte, Int.reduceBEq, Int.reduceBNe, Int.reduceEq, Int.reduceNe, Nat.reduceBEq, Nat.reduceBNe, tys, pick_false, pick_true, goGuard_sgd] <;> exact rfl))) | ((refine call_fn_full ?_ [b0, b0 + 1] (wStr_ev false b0 (b0 + 1) (escW q d) _ _ (escW q (r.take n)) hne2 hll (by omega) ?_ ?_ only_mem (by omega) (by omega)) ?_ ?_); iterate 4 (focus (simp only [mems, Try.results83, Try.ntmps83, Nat.reducePow, wks, hd1, hlt, hnr, hint, fresh_self, List.take_zero, vcs, Nat.reduceAdd, Nat.reduceMul, Nat.reduceEqDiff, Nat.reduceLeDiff, Nat.reduceSub, Nat.reduceLT, Int.reduceToNat, Int.reduceLE, Int.reduceLT, Int.reduceAdd, Int.reduceSub, Int.reduceMul, Int.reduceNeg, reduceCtorEq, reduceIte, Int.reduceBEq, Int.reduceBNe, Int.reduceEq, Int.reduceNe, Nat.reduceBEq, Nat.reduceBNe, tys, pick_false, pick_true, goGuard_sgd] <;> exact rfl))) | (first | (refine call_val (g := ?_) ?_ ?_) | (refine call_valg (g := ?_) ?_ ?_); rotate_left 1; (focus (simp only [Try.results83, Try.ntmps83, Nat.reducePow, wks, hd1, hlt, hnr, hint, fresh_self, List.take_zero, vcs, Nat.reduceAdd, Nat.reduceMul, Nat.reduceEqDiff, Nat.reduceLeDiff, Nat.reduceSub, Nat.reduceLT, Int.reduceToNat, Int.reduceLE, Int.reduceLT, Int.reduceAdd, Int.reduceSub, Int.reduceMul, Int.reduceNeg, reduceCtorEq, reduceIte, Int.reduceBEq, Int.reduceBNe, Int.reduceEq, Int.reduceNe, Nat.reduceBEq, Nat.reduceBNe, tys, pick_false, pick_true, goGuard_sgd] <;> exact rfl))) | refine draw_end (by decide +kernel) ?_ | refine cond_bool (fun hb => ?_) (fun hb => ?_) | refine cond_bit (fun hb => ?_) (fun hb => ?_) | refine And.intro (by omega) ?_ | refine And.intro (fun hb => ?_) (fun hb => ?_) | fail
            all_goals ((refine again_can2 cxG ((d ++ r.take n, r.drop n)) [some b0, some (b0 + 368)] ?_ ?_ ?_ ?_; rotate_left 2; (focus (show b0 ≤ _; omega)); (focus (refine ⟨?_, ?_⟩ <;> (try simp only [cans, ren_bS, renOk_bS, ren_rK, renOk_rK, hx, Option.getD_some, Option.isSome_some, vcs, Nat.reduceAdd, Nat.reduceMul, Nat.reduceEqDiff, Nat.reduceLeDiff, Nat.reduceSub, Nat.reduceLT, Int.reduceToNat, Int.reduceLE, Int.reduceLT, Int.reduceAdd, Int.reduceSub, Int.reduceMul, Int.reduceNeg, reduceCtorEq, reduceIte, Int.reduceBEq, Int.reduceBNe, Int.reduceEq, Int.reduceNe, Nat.reduceBEq, Nat.reduceBNe, tys, pick_false, pick_true, goGuard_sgd, injs]) <;> (try omega)))))
            all_goals (first | (show (r.drop n).length < r.length; omega) | (refine ⟨?_, hc2⟩; rw [hsr, List.append_assoc, List.take_append_drop]) | skip)
end Go.Proofs.Ytanahnknjboplaa
