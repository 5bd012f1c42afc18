/-
  Texts joined: XLd, XLe, XLf, XLo, XLj, XLq.
-/
import Derived.Test.YtanahnknjboplaaDoorMg
/-
  Layer 9 by the machine: which tokens may be.
-/
namespace Go.Proofs.YtanahnknjboplaaDoor
set_option linter.unusedSimpArgs false
set_option linter.unusedVariables false
open Nat renaming reduceAdd → κa, reduceMul → κb, reduceEqDiff → κc, reduceLeDiff → κd, reduceSub → κe, reduceLT → κf, reduceBEq → κr, reduceBNe → κs, reducePow → κt
open Int renaming reduceToNat → κg, reduceLE → κh, reduceLT → κi, reduceAdd → κj, reduceSub → κk, reduceMul → κl, reduceNeg → κm, reduceBEq → κn, reduceBNe → κo, reduceEq → κp, reduceNe → κq
open Go Go.RowKit Go.Proofs.YtanahnknjboplaaDoor.Vm Go.Lib

def Tk.okTo (t : Tk) (l : Nat) : Prop := t.attrs.length ≤ l ∧ t.name.length ≤ l ∧ t.text.length ≤ l ∧ ∀ a ∈ t.attrs, a.name.length ≤ l ∧ a.value.length ≤ l
theorem tok_kinds (n : Nat) : (n = 1) ∨ (n = 3) ∨ (n = 2) ∨ (n = 4) ∨ (n ≠ 1 ∧ n ≠ 3 ∧ n ≠ 2 ∧ n ≠ 4) := by omega
theorem isEmpty_beq {α : Type} [BEq α] (l : List α) : (l == []) = l.isEmpty := by cases l <;> rfl
theorem len_zero {α : Type} (l : List α) : ((l.length : Int) == 0) = l.isEmpty := by
  cases l with
  | nil => rfl
  | cons a l => simp only [List.length_cons, List.isEmpty_cons]; exact beq_false_of_ne (by omega)
theorem attrs_long {l : List Pr} (h : 16 < l.length) : attrsL l = false := by
  cases ha : attrsL l with
  | false => rfl
  | true => have := (attrs_iff.1 ha).1; omega
theorem err_nil : ptsErr [] = 0 := by unfold ptsErr; rfl
/-- What is asked ahead of the attributes. -/
def headOk (t : Tk) : Bool :=
  (if t.kind = 1 ∨ t.kind = 3 then fullL t.name && t.text.isEmpty
  else if t.kind = 2 then fullL t.name && t.attrs.isEmpty && t.text.isEmpty
  else if t.kind = 4 then t.name.isEmpty && t.attrs.isEmpty && !t.text.isEmpty && decide (ptsErr t.text = 0)
  else false) && decide (t.attrs.length ≤ 16)
theorem tok_head (t : Tk) : tokL t = (headOk t && attrsL t.attrs) := by
  unfold tokL headOk
  by_cases hl : t.attrs.length ≤ 16
  · simp only [hl, decide_true, Bool.and_true]
    by_cases h1 : t.kind = 1 ∨ t.kind = 3
    · simp only [h1, if_true]
      cases fullL t.name <;> cases t.text.isEmpty <;> simp
    · simp only [h1, if_false]
      have hnil : t.attrs.isEmpty = true → attrsL t.attrs = true := fun h => by
        rw [List.isEmpty_iff] at h; rw [h]; rfl
      by_cases h2 : t.kind = 2
      · simp only [h2, if_true]
        cases he : t.attrs.isEmpty with
        | false => simp
        | true => simp [hnil he]
      · simp only [h2, if_false]
        by_cases h4 : t.kind = 4
        · simp only [h4, if_true]
          cases he : t.attrs.isEmpty with
          | false => simp
          | true => simp [hnil he]
        · simp only [h4, if_false, Bool.false_and]
  · have hf := attrs_long (by omega : 16 < t.attrs.length)
    simp only [hl, decide_false, Bool.and_false, Bool.false_and, hf]
    split
    · rfl
    · split
      · have : t.attrs.isEmpty = false := by cases h : t.attrs with | nil => rw [h] at hl; simp at hl | cons a b => rfl
        simp [this]
      · split
        · have : t.attrs.isEmpty = false := by cases h : t.attrs with | nil => rw [h] at hl; simp at hl | cons a b => rfl
          simp [this]
        · rfl
/-- The ways through the first condition. -/
theorem check_leaves : ∀ k1 k3 k2 k4 e n x f g z : Bool, ((k1 = true ∧ k3 = false ∧ k2 = false ∧ k4 = false) ∨ (k1 = false ∧ k3 = true ∧ k2 = false ∧ k4 = false) ∨ (k1 = false ∧ k3 = false ∧ k2 = true ∧ k4 = false) ∨ (k1 = false ∧ k3 = false ∧ k2 = false ∧ k4 = true) ∨ (k1 = false ∧ k3 = false ∧ k2 = false ∧ k4 = false)) →
    (k1 = true ∧ k3 = false ∧ k2 = false ∧ k4 = false ∧ f = false) ∨ (k1 = true ∧ k3 = false ∧ k2 = false ∧ k4 = false ∧ f = true ∧ x = false) ∨ (k1 = true ∧ k3 = false ∧ k2 = false ∧ k4 = false ∧ f = true ∧ x = true ∧ g = true) ∨ (k1 = true ∧ k3 = false ∧ k2 = false ∧ k4 = false ∧ f = true ∧ x = true ∧ g = false ∧ z = true) ∨ (k1 = true ∧ k3 = false ∧ k2 = false ∧ k4 = false ∧ f = true ∧ x = true ∧ g = false ∧ z = false) ∨ (k1 = false ∧ k3 = true ∧ k2 = false ∧ k4 = false ∧ f = false) ∨ (k1 = false ∧ k3 = true ∧ k2 = false ∧ k4 = false ∧ f = true ∧ x = false) ∨ (k1 = false ∧ k3 = true ∧ k2 = false ∧ k4 = false ∧ f = true ∧ x = true ∧ g = true) ∨ (k1 = false ∧ k3 = true ∧ k2 = false ∧ k4 = false ∧ f = true ∧ x = true ∧ g = false ∧ z = true) ∨ (k1 = false ∧ k3 = true ∧ k2 = false ∧ k4 = false ∧ f = true ∧ x = true ∧ g = false ∧ z = false) ∨ (k1 = false ∧ k3 = false ∧ k2 = true ∧ k4 = false ∧ e = false) ∨ (k1 = false ∧ k3 = false ∧ k2 = true ∧ k4 = false ∧ e = true ∧ f = false) ∨ (k1 = false ∧ k3 = false ∧ k2 = true ∧ k4 = false ∧ e = true ∧ f = true ∧ x = false) ∨ (k1 = false ∧ k3 = false ∧ k2 = true ∧ k4 = false ∧ e = true ∧ f = true ∧ x = true ∧ g = true) ∨ (k1 = false ∧ k3 = false ∧ k2 = true ∧ k4 = false ∧ e = true ∧ f = true ∧ x = true ∧ g = false ∧ z = true) ∨ (k1 = false ∧ k3 = false ∧ k2 = true ∧ k4 = false ∧ e = true ∧ f = true ∧ x = true ∧ g = false ∧ z = false) ∨ (k1 = false ∧ k3 = false ∧ k2 = false ∧ k4 = true ∧ n = false) ∨ (k1 = false ∧ k3 = false ∧ k2 = false ∧ k4 = true ∧ n = true ∧ e = false) ∨ (k1 = false ∧ k3 = false ∧ k2 = false ∧ k4 = true ∧ n = true ∧ e = true ∧ x = true) ∨ (k1 = false ∧ k3 = false ∧ k2 = false ∧ k4 = true ∧ n = true ∧ e = true ∧ x = false ∧ g = true) ∨ (k1 = false ∧ k3 = false ∧ k2 = false ∧ k4 = true ∧ n = true ∧ e = true ∧ x = false ∧ g = false ∧ z = true) ∨ (k1 = false ∧ k3 = false ∧ k2 = false ∧ k4 = true ∧ n = true ∧ e = true ∧ x = false ∧ g = false ∧ z = false) ∨ (k1 = false ∧ k3 = false ∧ k2 = false ∧ k4 = false) := by
  intro k1 k3 k2 k4 e n x f g z h
  rcases h with ⟨rfl, rfl, rfl, rfl⟩ | ⟨rfl, rfl, rfl, rfl⟩ | ⟨rfl, rfl, rfl, rfl⟩ | ⟨rfl, rfl, rfl, rfl⟩ | ⟨rfl, rfl, rfl, rfl⟩ <;> cases e <;> cases n <;> cases x <;> cases f <;> cases g <;> cases z <;> simp
theorem kind_bools (n : Nat) : ((((n : Int) == 1) = true ∧ ((n : Int) == 3) = false ∧ ((n : Int) == 2) = false ∧ ((n : Int) == 4) = false ∧ n = 1) ∨ (((n : Int) == 1) = false ∧ ((n : Int) == 3) = true ∧ ((n : Int) == 2) = false ∧ ((n : Int) == 4) = false ∧ n = 3) ∨ (((n : Int) == 1) = false ∧ ((n : Int) == 3) = false ∧ ((n : Int) == 2) = true ∧ ((n : Int) == 4) = false ∧ n = 2) ∨
    (((n : Int) == 1) = false ∧ ((n : Int) == 3) = false ∧ ((n : Int) == 2) = false ∧ ((n : Int) == 4) = true ∧ n = 4) ∨ (((n : Int) == 1) = false ∧ ((n : Int) == 3) = false ∧ ((n : Int) == 2) = false ∧ ((n : Int) == 4) = false ∧ n ≠ 1 ∧ n ≠ 3 ∧ n ≠ 2 ∧ n ≠ 4)) := by
  rcases tok_kinds n with rfl | rfl | rfl | rfl | ⟨h1, h3, h2, h4⟩
  · left; exact ⟨rfl, rfl, rfl, rfl, rfl⟩
  · right; left; exact ⟨rfl, rfl, rfl, rfl, rfl⟩
  · right; right; left; exact ⟨rfl, rfl, rfl, rfl, rfl⟩
  · right; right; right; left; exact ⟨rfl, rfl, rfl, rfl, rfl⟩
  · right; right; right; right
    exact ⟨beq_false_of_ne (by omega), beq_false_of_ne (by omega), beq_false_of_ne (by omega), beq_false_of_ne (by omega), h1, h3, h2, h4⟩
theorem head_bools (t : Tk) : headOk t = (((((t.kind : Int) == 1 || (t.kind : Int) == 3) && fullL t.name && t.text.isEmpty) || ((t.kind : Int) == 2 && fullL t.name && t.attrs.isEmpty && t.text.isEmpty) || ((t.kind : Int) == 4 && t.name.isEmpty && t.attrs.isEmpty && !t.text.isEmpty && !(ptsErr t.text != 0))) && !decide (16 < t.attrs.length)) := by
  have hz : decide (ptsErr t.text = 0) = !(ptsErr t.text != 0) := by rw [Bool.eq_iff_iff]; simp
  have hg : decide (t.attrs.length ≤ 16) = !decide (16 < t.attrs.length) := by rw [Bool.eq_iff_iff]; simp
  unfold headOk
  rw [hz, hg]
  rcases kind_bools t.kind with ⟨q1, q3, q2, q4, hk⟩ | ⟨q1, q3, q2, q4, hk⟩ | ⟨q1, q3, q2, q4, hk⟩ | ⟨q1, q3, q2, q4, hk⟩ | ⟨q1, q3, q2, q4, hk, hk3, hk2, hk4⟩
  · rw [q1, q3, q2, q4]; simp [hk]
  · rw [q1, q3, q2, q4]; simp [hk]
  · rw [q1, q3, q2, q4]; simp [hk]
  · rw [q1, q3, q2, q4]; simp [hk]
  · rw [q1, q3, q2, q4]; simp [hk, hk3, hk2, hk4]
theorem kind_excl (n : Nat) : ((((n : Int) == 1) = true ∧ ((n : Int) == 3) = false ∧ ((n : Int) == 2) = false ∧ ((n : Int) == 4) = false) ∨ (((n : Int) == 1) = false ∧ ((n : Int) == 3) = true ∧ ((n : Int) == 2) = false ∧ ((n : Int) == 4) = false) ∨ (((n : Int) == 1) = false ∧ ((n : Int) == 3) = false ∧ ((n : Int) == 2) = true ∧ ((n : Int) == 4) = false) ∨
    (((n : Int) == 1) = false ∧ ((n : Int) == 3) = false ∧ ((n : Int) == 2) = false ∧ ((n : Int) == 4) = true) ∨ (((n : Int) == 1) = false ∧ ((n : Int) == 3) = false ∧ ((n : Int) == 2) = false ∧ ((n : Int) == 4) = false)) := by
  rcases kind_bools n with h | h | h | h | h <;> simp [h]
set_option maxRecDepth 100000 in
set_option maxHeartbeats 8000000 in
theorem check_bad (t : Tk) (h : t.okTo lim) (ho : headOk t = false) (nm : Nat) : Ev cx 26 nm [.agg (tkC t)] Mem.nil (.int .i64 8) [] := by
  obtain ⟨hl, hnl, htl, hal⟩ := h
  have hee : ((t.attrs.length : Int) == 0) = t.attrs.isEmpty := len_zero _
  have hne := isEmpty_beq t.name
  have hxe := isEmpty_beq t.text
  have hge : decide ((16 : Int) < (t.attrs.length : Int)) = decide (16 < t.attrs.length) := by
    rw [Bool.eq_iff_iff]; simp; omega
  have hfull := full_ev t.name hnl
  have hchk := tCheck_ev t.text htl
  rw [head_bools] at ho
  have hex := kind_excl t.kind
  generalize h1 : ((t.kind : Int) == 1) = k1 at ho hex
  generalize h3 : ((t.kind : Int) == 3) = k3 at ho hex
  generalize h2 : ((t.kind : Int) == 2) = k2 at ho hex
  generalize h4 : ((t.kind : Int) == 4) = k4 at ho hex
  generalize he : t.attrs.isEmpty = e at ho hee
  generalize hn : t.name.isEmpty = n at ho hne
  have hxb : (t.text != []) = !t.text.isEmpty := congrArg not hxe
  generalize hx : t.text.isEmpty = x at ho hxe hxb
  generalize hf : fullL t.name = f at ho hfull
  generalize hg : decide (16 < t.attrs.length) = g at ho hge
  generalize hz : (ptsErr t.text != 0) = z at ho
  rcases check_leaves k1 k3 k2 k4 e n x f g z hex with ⟨rfl, rfl, rfl, rfl, rfl⟩ | ⟨rfl, rfl, rfl, rfl, rfl, rfl⟩ | ⟨rfl, rfl, rfl, rfl, rfl, rfl, rfl⟩ | ⟨rfl, rfl, rfl, rfl, rfl, rfl, rfl, rfl⟩ | ⟨rfl, rfl, rfl, rfl, rfl, rfl, rfl, rfl⟩ | ⟨rfl, rfl, rfl, rfl, rfl⟩ | ⟨rfl, rfl, rfl, rfl, rfl, rfl⟩ | ⟨rfl, rfl, rfl, rfl, rfl, rfl, rfl⟩ | ⟨rfl, rfl, rfl, rfl, rfl, rfl, rfl, rfl⟩ | ⟨rfl, rfl, rfl, rfl, rfl, rfl, rfl, rfl⟩ | ⟨rfl, rfl, rfl, rfl, rfl⟩ | ⟨rfl, rfl, rfl, rfl, rfl, rfl⟩ | ⟨rfl, rfl, rfl, rfl, rfl, rfl, rfl⟩ | ⟨rfl, rfl, rfl, rfl, rfl, rfl, rfl, rfl⟩ | ⟨rfl, rfl, rfl, rfl, rfl, rfl, rfl, rfl, rfl⟩ | ⟨rfl, rfl, rfl, rfl, rfl, rfl, rfl, rfl, rfl⟩ | ⟨rfl, rfl, rfl, rfl, rfl⟩ | ⟨rfl, rfl, rfl, rfl, rfl, rfl⟩ | ⟨rfl, rfl, rfl, rfl, rfl, rfl, rfl⟩ | ⟨rfl, rfl, rfl, rfl, rfl, rfl, rfl, rfl⟩ | ⟨rfl, rfl, rfl, rfl, rfl, rfl, rfl, rfl, rfl⟩ | ⟨rfl, rfl, rfl, rfl, rfl, rfl, rfl, rfl, rfl⟩ | ⟨rfl, rfl, rfl, rfl⟩
  all_goals (try (exfalso; simp at ho; done))
  all_goals (
    refine ev_go (fun cargs w => Tryd.call26 cargs w) Tryd.func26 rfl mixed (by kernel_rfl) rfl ?_; intro b0 hb0
    ((repeat' first | simp only [Tryd.results26, Tryd.ntmps26, κt, wks, tkC, hee, hne, hxe, hxb, Bool.not_true, Bool.not_false, hge, hz, h1, h2, h3, h4, List.length_map, vcs, κa, κb, κc, κd, κe, κf, κg, κh, κi, κj, κk, κl, κm, reduceCtorEq, reduceIte, κn, κo, κp, κq, κr, κs, tys] | exact rfl | ((first | (refine call_fn ?_ (hfull _) ?_) | (refine call_fn_g ?_ (fun _ => hfull _) ?_) | (refine call_fn ?_ (hchk _) ?_) | (refine call_fn_g ?_ (fun _ => hchk _) ?_)); (focus (simp only [Tryd.results26, Tryd.ntmps26, κt, wks, tkC, hee, hne, hxe, hxb, Bool.not_true, Bool.not_false, hge, hz, h1, h2, h3, h4, List.length_map, vcs, κa, κb, κc, κd, κe, κf, κg, κh, κi, κj, κk, κl, κm, reduceCtorEq, reduceIte, κn, κo, κp, κq, κr, κs, tys] <;> exact rfl))) | (refine call_off (v := .any) ?_) | ((first | (refine call_val (g := ?_) ?_ ?_) | (refine call_valg (g := ?_) ?_ ?_)); rotate_left 1; (focus (simp only [Tryd.results26, Tryd.ntmps26, κt, wks, tkC, hee, hne, hxe, hxb, Bool.not_true, Bool.not_false, hge, hz, h1, h2, h3, h4, List.length_map, vcs, κa, κb, κc, κd, κe, κf, κg, κh, κi, κj, κk, κl, κm, reduceCtorEq, reduceIte, κn, κo, κp, κq, κr, κs, tys] <;> exact rfl))) | refine draw_end (by decide +kernel) ?_ | refine cond_bool (fun hb => ?_) (fun hb => ?_) | refine cond_bit (fun hb => ?_) (fun hb => ?_) | refine And.intro (by omega) ?_ | refine And.intro (fun hb => ?_) (fun hb => ?_) | fail); (all_goals (first | (refine Fin.pure ?_ ?_ ?_ <;> (try simp only [Tryd.results26, Tryd.ntmps26, wks, tkC, hee, hne, hxe, hxb, Bool.not_true, Bool.not_false, hge, hz, h1, h2, h3, h4, List.length_map, vcs, κa, κb, κc, κd, κe, κf, κg, κh, κi, κj, κk, κl, κm, reduceCtorEq, reduceIte, κn, κo, κp, κq, κr, κs, tys]) <;> (try simp only [injs])) | skip))))
end Go.Proofs.YtanahnknjboplaaDoor
/-
  Layer 9 by the machine: lex.Check; the document's answer.
-/
namespace Go.Proofs.YtanahnknjboplaaDoor
set_option linter.unusedSimpArgs false
set_option linter.unusedVariables false
open Nat renaming reduceAdd → κa, reduceMul → κb, reduceEqDiff → κc, reduceLeDiff → κd, reduceSub → κe, reduceLT → κf, reduceBEq → κr, reduceBNe → κs, reducePow → κt
open Int renaming reduceToNat → κg, reduceLE → κh, reduceLT → κi, reduceAdd → κj, reduceSub → κk, reduceMul → κl, reduceNeg → κm, reduceBEq → κn, reduceBNe → κo, reduceEq → κp, reduceNe → κq
open Go Go.RowKit Go.Proofs.YtanahnknjboplaaDoor.Vm Go.Lib

theorem plain_tkR (a b c : V) (l : List Pr) : plainLL [[a, b, .sl false 2 (l.map prC), c]] = (a.plain && (b.plain && c.plain)) := by simp [plainLL, plainL, V.plain, plain_pr]
set_option maxRecDepth 100000 in
set_option maxHeartbeats 16000000 in
theorem check_good (t : Tk) (h : t.okTo lim) (ho : headOk t = true) (nm : Nat) : Ev cx 26 nm [.agg (tkC t)] Mem.nil (.int .i64 (if attrsL t.attrs = true then 0 else 8)) [] := by
  obtain ⟨hl, hnl, htl, hal⟩ := h
  have hl' := hl
  unfold lim at hl'
  have h16 : t.attrs.length ≤ 16 := by
    unfold headOk at ho
    simp only [Bool.and_eq_true, decide_eq_true_eq] at ho
    exact ho.2
  have hee : ((t.attrs.length : Int) == 0) = t.attrs.isEmpty := len_zero _
  have hne := isEmpty_beq t.name
  have hxe := isEmpty_beq t.text
  have hge : decide ((16 : Int) < (t.attrs.length : Int)) = decide (16 < t.attrs.length) := by
    rw [Bool.eq_iff_iff]; simp; omega
  have hfull := full_ev t.name hnl
  have hchk := tCheck_ev t.text htl
  rw [head_bools] at ho
  have hex := kind_excl t.kind
  generalize h1 : ((t.kind : Int) == 1) = k1 at ho hex
  generalize h3 : ((t.kind : Int) == 3) = k3 at ho hex
  generalize h2 : ((t.kind : Int) == 2) = k2 at ho hex
  generalize h4 : ((t.kind : Int) == 4) = k4 at ho hex
  generalize he : t.attrs.isEmpty = e at ho hee
  generalize hn : t.name.isEmpty = n at ho hne
  have hxb : (t.text != []) = !t.text.isEmpty := congrArg not hxe
  have hxz : t.text.isEmpty = true → (ptsErr t.text != 0) = false := fun h => by rw [List.isEmpty_iff.1 h]; rfl
  generalize hx : t.text.isEmpty = x at ho hxe hxb hxz
  generalize hf : fullL t.name = f at ho hfull
  generalize hg : decide (16 < t.attrs.length) = g at ho hge
  generalize hz : (ptsErr t.text != 0) = z at ho hxz
  rcases check_leaves k1 k3 k2 k4 e n x f g z hex with ⟨rfl, rfl, rfl, rfl, rfl⟩ | ⟨rfl, rfl, rfl, rfl, rfl, rfl⟩ | ⟨rfl, rfl, rfl, rfl, rfl, rfl, rfl⟩ | ⟨rfl, rfl, rfl, rfl, rfl, rfl, rfl, rfl⟩ | ⟨rfl, rfl, rfl, rfl, rfl, rfl, rfl, rfl⟩ | ⟨rfl, rfl, rfl, rfl, rfl⟩ | ⟨rfl, rfl, rfl, rfl, rfl, rfl⟩ | ⟨rfl, rfl, rfl, rfl, rfl, rfl, rfl⟩ | ⟨rfl, rfl, rfl, rfl, rfl, rfl, rfl, rfl⟩ | ⟨rfl, rfl, rfl, rfl, rfl, rfl, rfl, rfl⟩ | ⟨rfl, rfl, rfl, rfl, rfl⟩ | ⟨rfl, rfl, rfl, rfl, rfl, rfl⟩ | ⟨rfl, rfl, rfl, rfl, rfl, rfl, rfl⟩ | ⟨rfl, rfl, rfl, rfl, rfl, rfl, rfl, rfl⟩ | ⟨rfl, rfl, rfl, rfl, rfl, rfl, rfl, rfl, rfl⟩ | ⟨rfl, rfl, rfl, rfl, rfl, rfl, rfl, rfl, rfl⟩ | ⟨rfl, rfl, rfl, rfl, rfl⟩ | ⟨rfl, rfl, rfl, rfl, rfl, rfl⟩ | ⟨rfl, rfl, rfl, rfl, rfl, rfl, rfl⟩ | ⟨rfl, rfl, rfl, rfl, rfl, rfl, rfl, rfl⟩ | ⟨rfl, rfl, rfl, rfl, rfl, rfl, rfl, rfl, rfl⟩ | ⟨rfl, rfl, rfl, rfl, rfl, rfl, rfl, rfl, rfl⟩ | ⟨rfl, rfl, rfl, rfl⟩
  all_goals (try (exfalso; simp at ho; done))
  all_goals (try (exfalso; exact absurd (hxz rfl) (by decide)))
  all_goals (
    refine ev_go (fun cargs w => Tryd.call26 cargs w) Tryd.func26 rfl mixed (by kernel_rfl) rfl ?_; intro b0 hb0
    repeat' first | simp only [Tryd.results26, Tryd.ntmps26, κt, wks, tkC, hee, hne, hxe, hxb, Bool.not_true, Bool.not_false, hge, hz, h1, h2, h3, h4, List.length_map, vcs, κa, κb, κc, κd, κe, κf, κg, κh, κi, κj, κk, κl, κm, reduceCtorEq, reduceIte, κn, κo, κp, κq, κr, κs, tys] | exact rfl | ((first | (refine call_fn ?_ (hfull _) ?_) | (refine call_fn_g ?_ (fun _ => hfull _) ?_) | (refine call_fn ?_ (hchk _) ?_) | (refine call_fn_g ?_ (fun _ => hchk _) ?_)); (focus (simp only [Tryd.results26, Tryd.ntmps26, κt, wks, tkC, hee, hne, hxe, hxb, Bool.not_true, Bool.not_false, hge, hz, h1, h2, h3, h4, List.length_map, vcs, κa, κb, κc, κd, κe, κf, κg, κh, κi, κj, κk, κl, κm, reduceCtorEq, reduceIte, κn, κo, κp, κq, κr, κs, tys] <;> exact rfl))) | (refine call_off (v := .any) ?_) | ((first | (refine call_val (g := ?_) ?_ ?_) | (refine call_valg (g := ?_) ?_ ?_)); rotate_left 1; (focus (simp only [Tryd.results26, Tryd.ntmps26, κt, wks, tkC, hee, hne, hxe, hxb, Bool.not_true, Bool.not_false, hge, hz, h1, h2, h3, h4, List.length_map, vcs, κa, κb, κc, κd, κe, κf, κg, κh, κi, κj, κk, κl, κm, reduceCtorEq, reduceIte, κn, κo, κp, κq, κr, κs, tys] <;> exact rfl))) | refine draw_end (by decide +kernel) ?_ | refine cond_bool (fun hb => ?_) (fun hb => ?_) | refine cond_bit (fun hb => ?_) (fun hb => ?_) | refine And.intro (by omega) ?_ | refine And.intro (fun hb => ?_) (fun hb => ?_) | fail)
  all_goals (
    (refine loop_can2 cxG (fun x : Nat => t.attrs.length - x) (fun x => x ≤ t.attrs.length ∧ attrsTo t.attrs x) (b0 + 16) (fun x => [(1, .ptr b0 0 0), (76, .sl false 2 (t.attrs.map prC)), (77, .int .i64 t.attrs.length), (78, .int .i64 x)]) (fun x => [(b0, ⟨4, [tkC t]⟩)]) (0) [some b0] ?_ ?_ ?_ ?_; rotate_left 1; (focus (show b0 ≤ _; omega)); (focus (refine ⟨?_, ?_⟩ <;> (try simp only [cans, plain_pr, plain_tkR, tkC, List.length_map, vcs, κa, κb, κc, κd, κe, κf, κg, κh, κi, κj, κk, κl, κm, reduceCtorEq, reduceIte, κn, κo, κp, κq, κr, κs, tys, injs]) <;> (try omega))); rotate_left 1))
  all_goals (first | exact ⟨Nat.zero_le _, fun i a hi => by omega⟩ | skip)
  all_goals (
    rintro k ⟨hk, hn⟩
    by_cases hlt : k < t.attrs.length
    · obtain ⟨a, ha⟩ : ∃ a, t.attrs[k]? = some a := ⟨_, List.getElem?_eq_getElem hlt⟩
      obtain ⟨hs1, hs2⟩ := hal a (List.mem_of_getElem? ha)
      have hat := pr_at ha
      have hd : decide (k < t.attrs.length) = true := decide_eq_true hlt
      have hwk : IntKind.i64.wrap ((k : Int) + 1) = ((k + 1 : Nat) : Int) := wrap_in (by omega) (by omega)
      have hki : (k : Int) ≤ (t.attrs.length : Int) := by omega
      have htk : (t.attrs.map prC).take k = (t.attrs.take k).map prC := by rw [List.map_take]
      have hlen : (t.attrs.take k).length ≤ lim := by rw [List.length_take]; unfold lim; omega
      have hf2 := full_ev a.name hs1
      have hc2 := tCheck_ev a.value hs2
      have hh2 := containspr_ev (t.attrs.take k) 51 [.rp (prC a)] (fun b => a.name == b.name) (fun b _ nm => check1_ev a b nm) hlen rfl
      have hok : okP (t.attrs.take k) a = (!((t.attrs.take k).any fun b => a.name == b.name) && fullL a.name && decide (ptsErr a.value = 0)) := rfl
      have hz2 : decide (ptsErr a.value = 0) = !(ptsErr a.value != 0) := by rw [Bool.eq_iff_iff]; simp
      rw [hz2] at hok
      generalize hb1 : ((t.attrs.take k).any fun b => a.name == b.name) = b1 at hh2 hok
      generalize hb2 : fullL a.name = b2 at hf2 hok
      generalize hb3 : (ptsErr a.value != 0) = b3 at hok
      cases ho2 : okP (t.attrs.take k) a with
      | false =>
        have hr := attrs_false ha ho2
        rw [ho2] at hok
        cases b1 <;> cases b2 <;> cases b3
        all_goals (try (exfalso; simp at hok; done))
        all_goals (((repeat' first | simp only [Tryd.results26, Tryd.ntmps26, κt, wks, plain_pr, tkC, hat, prC, hd, hlt, hk, hki, htk, hb3, hr, Bool.not_true, Bool.not_false, List.length_map, Nat.zero_add, vcs, κa, κb, κc, κd, κe, κf, κg, κh, κi, κj, κk, κl, κm, reduceCtorEq, reduceIte, κn, κo, κp, κq, κr, κs, tys] | exact rfl | ((first | (refine call_fn ?_ (hf2 _) ?_) | (refine call_fn_g ?_ (fun _ => hf2 _) ?_) | (refine call_fn ?_ (hc2 _) ?_) | (refine call_fn_g ?_ (fun _ => hc2 _) ?_)); (focus (simp only [Tryd.results26, Tryd.ntmps26, κt, wks, plain_pr, tkC, hat, prC, hd, hlt, hk, hki, htk, hb3, hr, Bool.not_true, Bool.not_false, List.length_map, Nat.zero_add, vcs, κa, κb, κc, κd, κe, κf, κg, κh, κi, κj, κk, κl, κm, reduceCtorEq, reduceIte, κn, κo, κp, κq, κr, κs, tys] <;> exact rfl))) | ((refine call_fn_vx (xs := ?_) [b0 + 80] ?_ ?_ ?_ rfl (hh2 _) ?_); rotate_left 1; iterate 3 (focus (simp only [fins, mems, Tryd.results26, Tryd.ntmps26, κt, wks, plain_pr, tkC, hat, prC, hd, hlt, hk, hki, htk, hb3, hr, Bool.not_true, Bool.not_false, List.length_map, Nat.zero_add, vcs, κa, κb, κc, κd, κe, κf, κg, κh, κi, κj, κk, κl, κm, reduceCtorEq, reduceIte, κn, κo, κp, κq, κr, κs, tys] <;> (first | exact rfl | omega)))) | (refine call_off (v := .any) ?_) | ((first | (refine call_val (g := ?_) ?_ ?_) | (refine call_valg (g := ?_) ?_ ?_)); rotate_left 1; (focus (simp only [Tryd.results26, Tryd.ntmps26, κt, wks, plain_pr, tkC, hat, prC, hd, hlt, hk, hki, htk, hb3, hr, Bool.not_true, Bool.not_false, List.length_map, Nat.zero_add, vcs, κa, κb, κc, κd, κe, κf, κg, κh, κi, κj, κk, κl, κm, reduceCtorEq, reduceIte, κn, κo, κp, κq, κr, κs, tys] <;> exact rfl))) | refine draw_end (by decide +kernel) ?_ | refine cond_bool (fun hb => ?_) (fun hb => ?_) | refine cond_bit (fun hb => ?_) (fun hb => ?_) | refine And.intro (by omega) ?_ | refine And.intro (fun hb => ?_) (fun hb => ?_) | fail); (all_goals (first | (refine Fin.pure ?_ ?_ ?_ <;> (try simp only [Tryd.results26, Tryd.ntmps26, wks, plain_pr, tkC, hat, prC, hd, hlt, hk, hki, htk, hb3, hr, Bool.not_true, Bool.not_false, List.length_map, Nat.zero_add, vcs, κa, κb, κc, κd, κe, κf, κg, κh, κi, κj, κk, κl, κm, reduceCtorEq, reduceIte, κn, κo, κp, κq, κr, κs, tys]) <;> (try simp only [injs])) | skip))))
      | true =>
        have hn' := attrsTo_succ hn ha ho2
        rw [ho2] at hok
        cases b1 <;> cases b2 <;> cases b3
        all_goals (try (exfalso; simp at hok; done))
        all_goals (repeat' first | simp only [Tryd.results26, Tryd.ntmps26, κt, wks, plain_pr, tkC, hat, prC, hd, hlt, hk, hki, htk, hb3, hwk, Bool.not_true, Bool.not_false, List.length_map, Nat.zero_add, vcs, κa, κb, κc, κd, κe, κf, κg, κh, κi, κj, κk, κl, κm, reduceCtorEq, reduceIte, κn, κo, κp, κq, κr, κs, tys] | exact rfl | ((first | (refine call_fn ?_ (hf2 _) ?_) | (refine call_fn_g ?_ (fun _ => hf2 _) ?_) | (refine call_fn ?_ (hc2 _) ?_) | (refine call_fn_g ?_ (fun _ => hc2 _) ?_)); (focus (simp only [Tryd.results26, Tryd.ntmps26, κt, wks, plain_pr, tkC, hat, prC, hd, hlt, hk, hki, htk, hb3, hwk, Bool.not_true, Bool.not_false, List.length_map, Nat.zero_add, vcs, κa, κb, κc, κd, κe, κf, κg, κh, κi, κj, κk, κl, κm, reduceCtorEq, reduceIte, κn, κo, κp, κq, κr, κs, tys] <;> exact rfl))) | ((refine call_fn_vx (xs := ?_) [b0 + 80] ?_ ?_ ?_ rfl (hh2 _) ?_); rotate_left 1; iterate 3 (focus (simp only [fins, mems, Tryd.results26, Tryd.ntmps26, κt, wks, plain_pr, tkC, hat, prC, hd, hlt, hk, hki, htk, hb3, hwk, Bool.not_true, Bool.not_false, List.length_map, Nat.zero_add, vcs, κa, κb, κc, κd, κe, κf, κg, κh, κi, κj, κk, κl, κm, reduceCtorEq, reduceIte, κn, κo, κp, κq, κr, κs, tys] <;> (first | exact rfl | omega)))) | ((first | (refine call_val (g := ?_) ?_ ?_) | (refine call_valg (g := ?_) ?_ ?_)); rotate_left 1; (focus (simp only [Tryd.results26, Tryd.ntmps26, κt, wks, plain_pr, tkC, hat, prC, hd, hlt, hk, hki, htk, hb3, hwk, Bool.not_true, Bool.not_false, List.length_map, Nat.zero_add, vcs, κa, κb, κc, κd, κe, κf, κg, κh, κi, κj, κk, κl, κm, reduceCtorEq, reduceIte, κn, κo, κp, κq, κr, κs, tys] <;> exact rfl))) | refine draw_end (by decide +kernel) ?_ | refine cond_bool (fun hb => ?_) (fun hb => ?_) | refine cond_bit (fun hb => ?_) (fun hb => ?_) | refine And.intro (by omega) ?_ | refine And.intro (fun hb => ?_) (fun hb => ?_) | fail)
        all_goals ((refine again_can2 cxG (k + 1) [some b0] ?_ ?_ ?_ ?_; rotate_left 2; (focus (show b0 ≤ _; omega)); (focus (refine ⟨?_, ?_⟩ <;> (try simp only [cans, plain_pr, plain_tkR, tkC, hwk, vcs, κa, κb, κc, κd, κe, κf, κg, κh, κi, κj, κk, κl, κm, reduceCtorEq, reduceIte, κn, κo, κp, κq, κr, κs, tys, injs]) <;> (try omega)))))
        all_goals (first | (show t.attrs.length - (k + 1) < t.attrs.length - k; omega) | exact ⟨hlt, hn'⟩ | skip)
    · have hke : k = t.attrs.length := by omega
      subst hke
      have hd : decide (t.attrs.length < t.attrs.length) = false := decide_eq_false (by omega)
      have hr : attrsL t.attrs = true := attrs_iff.2 ⟨h16, hn⟩
      ((repeat' first | simp only [Tryd.results26, Tryd.ntmps26, κt, wks, hd, hr, List.length_map, vcs, κa, κb, κc, κd, κe, κf, κg, κh, κi, κj, κk, κl, κm, reduceCtorEq, reduceIte, κn, κo, κp, κq, κr, κs, tys] | exact rfl | ((first | (refine call_val (g := ?_) ?_ ?_) | (refine call_valg (g := ?_) ?_ ?_)); rotate_left 1; (focus (simp only [Tryd.results26, Tryd.ntmps26, κt, wks, hd, hr, List.length_map, vcs, κa, κb, κc, κd, κe, κf, κg, κh, κi, κj, κk, κl, κm, reduceCtorEq, reduceIte, κn, κo, κp, κq, κr, κs, tys] <;> exact rfl))) | refine draw_end (by decide +kernel) ?_ | refine cond_bool (fun hb => ?_) (fun hb => ?_) | refine cond_bit (fun hb => ?_) (fun hb => ?_) | refine And.intro (by omega) ?_ | refine And.intro (fun hb => ?_) (fun hb => ?_) | fail); (all_goals (first | (refine Fin.pure ?_ ?_ ?_ <;> (try simp only [Tryd.results26, Tryd.ntmps26, wks, hd, hr, List.length_map, vcs, κa, κb, κc, κd, κe, κf, κg, κh, κi, κj, κk, κl, κm, reduceCtorEq, reduceIte, κn, κo, κp, κq, κr, κs, tys]) <;> (try simp only [injs])) | skip))))
end Go.Proofs.YtanahnknjboplaaDoor
/-
  Layer 9 by the machine: lex.Check, and the document's answer May, Check.
-/
namespace Go.Proofs.YtanahnknjboplaaDoor
set_option linter.unusedSimpArgs false
set_option linter.unusedVariables false
open Nat renaming reduceAdd → κa, reduceMul → κb, reduceEqDiff → κc, reduceLeDiff → κd, reduceSub → κe, reduceLT → κf, reduceBEq → κr, reduceBNe → κs, reducePow → κt
open Int renaming reduceToNat → κg, reduceLE → κh, reduceLT → κi, reduceAdd → κj, reduceSub → κk, reduceMul → κl, reduceNeg → κm, reduceBEq → κn, reduceBNe → κo, reduceEq → κp, reduceNe → κq
open Go Go.RowKit Go.Proofs.YtanahnknjboplaaDoor.Vm Go.Lib

theorem check_ev (t : Tk) (h : t.okTo lim) (nm : Nat) : Ev cx 26 nm [.agg (tkC t)] Mem.nil (.int .i64 (tokE t)) [] := by
  unfold tokE
  rw [tok_head]
  cases ho : headOk t with
  | false => exact check_bad t h ho nm
  | true =>
    have := check_good t h ho nm
    simpa using this
set_option maxRecDepth 100000 in
set_option maxHeartbeats 8000000 in
theorem rMayT_ev (t : Tk) (h : t.okTo lim) (nm : Nat) : Ev cx 30 nm [.agg (tkC t)] Mem.nil (.bool (tokL t)) [] := by
  obtain ⟨hl, hnl, htl, hal⟩ := h
  have hee : ((t.attrs.length : Int) == 0) = t.attrs.isEmpty := len_zero _
  have hne := isEmpty_beq t.name
  have hxe := isEmpty_beq t.text
  have hxb : (t.text != []) = !t.text.isEmpty := congrArg not hxe
  have hz : decide (ptsErr t.text = 0) = (ptsErr t.text == 0) := by rw [Bool.eq_iff_iff]; simp
  have hfull := rFull_ev t.name hnl
  have hchk := rCheck_ev t.text htl
  have hat := rAttrs_ev t.attrs hl hal
  have hk : tokL t = (if t.kind = 1 ∨ t.kind = 3 then fullL t.name && attrsL t.attrs && t.text.isEmpty
    else if t.kind = 2 then fullL t.name && t.attrs.isEmpty && t.text.isEmpty
    else if t.kind = 4 then t.name.isEmpty && t.attrs.isEmpty && !t.text.isEmpty && (ptsErr t.text == 0)
    else false) := by rw [← hz]; rfl
  generalize he : t.attrs.isEmpty = e at hk hee
  generalize hn : t.name.isEmpty = n at hk hne
  generalize hx : t.text.isEmpty = x at hk hxe hxb
  generalize hf : fullL t.name = f at hk hfull
  generalize hg : attrsL t.attrs = g at hk hat
  generalize hy : (ptsErr t.text == 0) = z at hk
  rw [hk]
  rcases kind_bools t.kind with ⟨q1, q3, q2, q4, hkd⟩ | ⟨q1, q3, q2, q4, hkd⟩ | ⟨q1, q3, q2, q4, hkd⟩ | ⟨q1, q3, q2, q4, hkd⟩ | ⟨q1, q3, q2, q4, hk1, hk3, hk2, hk4⟩
  · rw [if_pos (.inl hkd)]
    cases f <;> cases g <;> (
      refine ev_go (fun cargs w => Tryd.call30 cargs w) Tryd.func30 rfl mixed (by kernel_rfl) rfl ?_; intro b0 hb0
      ((repeat' first | simp only [Tryd.results30, Tryd.ntmps30, κt, wks, plain_pr, tkC, hxe, q1, q2, q3, q4, vcs, κa, κb, κc, κd, κe, κf, κg, κh, κi, κj, κk, κl, κm, reduceCtorEq, reduceIte, κn, κo, κp, κq, κr, κs, tys] | exact rfl | ((first | (refine call_fn ?_ (hfull _) ?_) | (refine call_fn_g ?_ (fun _ => hfull _) ?_) | (refine call_fn ?_ (hat _) ?_) | (refine call_fn_g ?_ (fun _ => hat _) ?_)); (focus (simp only [Tryd.results30, Tryd.ntmps30, κt, wks, plain_pr, tkC, hxe, q1, q2, q3, q4, vcs, κa, κb, κc, κd, κe, κf, κg, κh, κi, κj, κk, κl, κm, reduceCtorEq, reduceIte, κn, κo, κp, κq, κr, κs, tys] <;> exact rfl))) | (refine call_off (v := .any) ?_) | ((first | (refine call_val (g := ?_) ?_ ?_) | (refine call_valg (g := ?_) ?_ ?_)); rotate_left 1; (focus (simp only [Tryd.results30, Tryd.ntmps30, κt, wks, plain_pr, tkC, hxe, q1, q2, q3, q4, vcs, κa, κb, κc, κd, κe, κf, κg, κh, κi, κj, κk, κl, κm, reduceCtorEq, reduceIte, κn, κo, κp, κq, κr, κs, tys] <;> exact rfl))) | refine draw_end (by decide +kernel) ?_ | refine cond_bool (fun hb => ?_) (fun hb => ?_) | refine cond_bit (fun hb => ?_) (fun hb => ?_) | refine And.intro (by omega) ?_ | refine And.intro (fun hb => ?_) (fun hb => ?_) | fail); (all_goals (first | (refine Fin.pure ?_ ?_ ?_ <;> (try simp only [Tryd.results30, Tryd.ntmps30, wks, plain_pr, tkC, hxe, q1, q2, q3, q4, vcs, κa, κb, κc, κd, κe, κf, κg, κh, κi, κj, κk, κl, κm, reduceCtorEq, reduceIte, κn, κo, κp, κq, κr, κs, tys]) <;> (try simp only [injs])) | skip))))
  · rw [if_pos (.inr hkd)]
    cases f <;> cases g <;> (
      refine ev_go (fun cargs w => Tryd.call30 cargs w) Tryd.func30 rfl mixed (by kernel_rfl) rfl ?_; intro b0 hb0
      ((repeat' first | simp only [Tryd.results30, Tryd.ntmps30, κt, wks, plain_pr, tkC, hxe, q1, q2, q3, q4, vcs, κa, κb, κc, κd, κe, κf, κg, κh, κi, κj, κk, κl, κm, reduceCtorEq, reduceIte, κn, κo, κp, κq, κr, κs, tys] | exact rfl | ((first | (refine call_fn ?_ (hfull _) ?_) | (refine call_fn_g ?_ (fun _ => hfull _) ?_) | (refine call_fn ?_ (hat _) ?_) | (refine call_fn_g ?_ (fun _ => hat _) ?_)); (focus (simp only [Tryd.results30, Tryd.ntmps30, κt, wks, plain_pr, tkC, hxe, q1, q2, q3, q4, vcs, κa, κb, κc, κd, κe, κf, κg, κh, κi, κj, κk, κl, κm, reduceCtorEq, reduceIte, κn, κo, κp, κq, κr, κs, tys] <;> exact rfl))) | (refine call_off (v := .any) ?_) | ((first | (refine call_val (g := ?_) ?_ ?_) | (refine call_valg (g := ?_) ?_ ?_)); rotate_left 1; (focus (simp only [Tryd.results30, Tryd.ntmps30, κt, wks, plain_pr, tkC, hxe, q1, q2, q3, q4, vcs, κa, κb, κc, κd, κe, κf, κg, κh, κi, κj, κk, κl, κm, reduceCtorEq, reduceIte, κn, κo, κp, κq, κr, κs, tys] <;> exact rfl))) | refine draw_end (by decide +kernel) ?_ | refine cond_bool (fun hb => ?_) (fun hb => ?_) | refine cond_bit (fun hb => ?_) (fun hb => ?_) | refine And.intro (by omega) ?_ | refine And.intro (fun hb => ?_) (fun hb => ?_) | fail); (all_goals (first | (refine Fin.pure ?_ ?_ ?_ <;> (try simp only [Tryd.results30, Tryd.ntmps30, wks, plain_pr, tkC, hxe, q1, q2, q3, q4, vcs, κa, κb, κc, κd, κe, κf, κg, κh, κi, κj, κk, κl, κm, reduceCtorEq, reduceIte, κn, κo, κp, κq, κr, κs, tys]) <;> (try simp only [injs])) | skip))))
  · rw [if_neg (by omega), if_pos hkd]
    cases f <;> cases e <;> (
      refine ev_go (fun cargs w => Tryd.call30 cargs w) Tryd.func30 rfl mixed (by kernel_rfl) rfl ?_; intro b0 hb0
      ((repeat' first | simp only [Tryd.results30, Tryd.ntmps30, κt, wks, plain_pr, tkC, hxe, hee, List.length_map, q1, q2, q3, q4, vcs, κa, κb, κc, κd, κe, κf, κg, κh, κi, κj, κk, κl, κm, reduceCtorEq, reduceIte, κn, κo, κp, κq, κr, κs, tys] | exact rfl | ((first | (refine call_fn ?_ (hfull _) ?_) | (refine call_fn_g ?_ (fun _ => hfull _) ?_)); (focus (simp only [Tryd.results30, Tryd.ntmps30, κt, wks, plain_pr, tkC, hxe, hee, List.length_map, q1, q2, q3, q4, vcs, κa, κb, κc, κd, κe, κf, κg, κh, κi, κj, κk, κl, κm, reduceCtorEq, reduceIte, κn, κo, κp, κq, κr, κs, tys] <;> exact rfl))) | (refine call_off (v := .any) ?_) | ((first | (refine call_val (g := ?_) ?_ ?_) | (refine call_valg (g := ?_) ?_ ?_)); rotate_left 1; (focus (simp only [Tryd.results30, Tryd.ntmps30, κt, wks, plain_pr, tkC, hxe, hee, List.length_map, q1, q2, q3, q4, vcs, κa, κb, κc, κd, κe, κf, κg, κh, κi, κj, κk, κl, κm, reduceCtorEq, reduceIte, κn, κo, κp, κq, κr, κs, tys] <;> exact rfl))) | refine draw_end (by decide +kernel) ?_ | refine cond_bool (fun hb => ?_) (fun hb => ?_) | refine cond_bit (fun hb => ?_) (fun hb => ?_) | refine And.intro (by omega) ?_ | refine And.intro (fun hb => ?_) (fun hb => ?_) | fail); (all_goals (first | (refine Fin.pure ?_ ?_ ?_ <;> (try simp only [Tryd.results30, Tryd.ntmps30, wks, plain_pr, tkC, hxe, hee, List.length_map, q1, q2, q3, q4, vcs, κa, κb, κc, κd, κe, κf, κg, κh, κi, κj, κk, κl, κm, reduceCtorEq, reduceIte, κn, κo, κp, κq, κr, κs, tys]) <;> (try simp only [injs])) | skip))))
  · rw [if_neg (by omega), if_neg (by omega), if_pos hkd]
    cases n <;> cases e <;> cases x <;> cases z <;> (
      refine ev_go (fun cargs w => Tryd.call30 cargs w) Tryd.func30 rfl mixed (by kernel_rfl) rfl ?_; intro b0 hb0
      ((repeat' first | simp only [Tryd.results30, Tryd.ntmps30, κt, wks, plain_pr, tkC, hxe, hxb, hne, hee, hy, List.length_map, q1, q2, q3, q4, vcs, κa, κb, κc, κd, κe, κf, κg, κh, κi, κj, κk, κl, κm, reduceCtorEq, reduceIte, κn, κo, κp, κq, κr, κs, tys] | exact rfl | ((first | (refine call_fn ?_ (hchk _) ?_) | (refine call_fn_g ?_ (fun _ => hchk _) ?_)); (focus (simp only [Tryd.results30, Tryd.ntmps30, κt, wks, plain_pr, tkC, hxe, hxb, hne, hee, hy, List.length_map, q1, q2, q3, q4, vcs, κa, κb, κc, κd, κe, κf, κg, κh, κi, κj, κk, κl, κm, reduceCtorEq, reduceIte, κn, κo, κp, κq, κr, κs, tys] <;> exact rfl))) | (refine call_off (v := .any) ?_) | ((first | (refine call_val (g := ?_) ?_ ?_) | (refine call_valg (g := ?_) ?_ ?_)); rotate_left 1; (focus (simp only [Tryd.results30, Tryd.ntmps30, κt, wks, plain_pr, tkC, hxe, hxb, hne, hee, hy, List.length_map, q1, q2, q3, q4, vcs, κa, κb, κc, κd, κe, κf, κg, κh, κi, κj, κk, κl, κm, reduceCtorEq, reduceIte, κn, κo, κp, κq, κr, κs, tys] <;> exact rfl))) | refine draw_end (by decide +kernel) ?_ | refine cond_bool (fun hb => ?_) (fun hb => ?_) | refine cond_bit (fun hb => ?_) (fun hb => ?_) | refine And.intro (by omega) ?_ | refine And.intro (fun hb => ?_) (fun hb => ?_) | fail); (all_goals (first | (refine Fin.pure ?_ ?_ ?_ <;> (try simp only [Tryd.results30, Tryd.ntmps30, wks, plain_pr, tkC, hxe, hxb, hne, hee, hy, List.length_map, q1, q2, q3, q4, vcs, κa, κb, κc, κd, κe, κf, κg, κh, κi, κj, κk, κl, κm, reduceCtorEq, reduceIte, κn, κo, κp, κq, κr, κs, tys]) <;> (try simp only [injs])) | skip))))
  · rw [if_neg (by omega), if_neg hk2, if_neg hk4]
    refine ev_go (fun cargs w => Tryd.call30 cargs w) Tryd.func30 rfl mixed (by kernel_rfl) rfl ?_; intro b0 hb0
    ((repeat' first | simp only [Tryd.results30, Tryd.ntmps30, κt, wks, plain_pr, tkC, q1, q2, q3, q4, vcs, κa, κb, κc, κd, κe, κf, κg, κh, κi, κj, κk, κl, κm, reduceCtorEq, reduceIte, κn, κo, κp, κq, κr, κs, tys] | exact rfl | ((first | (refine call_val (g := ?_) ?_ ?_) | (refine call_valg (g := ?_) ?_ ?_)); rotate_left 1; (focus (simp only [Tryd.results30, Tryd.ntmps30, κt, wks, plain_pr, tkC, q1, q2, q3, q4, vcs, κa, κb, κc, κd, κe, κf, κg, κh, κi, κj, κk, κl, κm, reduceCtorEq, reduceIte, κn, κo, κp, κq, κr, κs, tys] <;> exact rfl))) | refine draw_end (by decide +kernel) ?_ | refine cond_bool (fun hb => ?_) (fun hb => ?_) | refine cond_bit (fun hb => ?_) (fun hb => ?_) | refine And.intro (by omega) ?_ | refine And.intro (fun hb => ?_) (fun hb => ?_) | fail); (all_goals (first | (refine Fin.pure ?_ ?_ ?_ <;> (try simp only [Tryd.results30, Tryd.ntmps30, wks, plain_pr, tkC, q1, q2, q3, q4, vcs, κa, κb, κc, κd, κe, κf, κg, κh, κi, κj, κk, κl, κm, reduceCtorEq, reduceIte, κn, κo, κp, κq, κr, κs, tys]) <;> (try simp only [injs])) | skip)))
end Go.Proofs.YtanahnknjboplaaDoor
/-
  The document's answer for layer 9 by the machine: two lists compared.
-/
namespace Go.Proofs.YtanahnknjboplaaDoor
set_option linter.unusedSimpArgs false
set_option linter.unusedVariables false
open Nat renaming reduceAdd → κa, reduceMul → κb, reduceEqDiff → κc, reduceLeDiff → κd, reduceSub → κe, reduceLT → κf, reduceBEq → κr, reduceBNe → κs, reducePow → κt
open Int renaming reduceToNat → κg, reduceLE → κh, reduceLT → κi, reduceAdd → κj, reduceSub → κk, reduceMul → κl, reduceNeg → κm, reduceBEq → κn, reduceBNe → κo, reduceEq → κp, reduceNe → κq
open Go Go.RowKit Go.Proofs.YtanahnknjboplaaDoor.Vm Go.Lib

/-- Are two lists the same to a place. -/
def sameTo {α : Type} (a b : List α) (k : Nat) : Prop := ∀ i, i < k → a[i]? = b[i]?
theorem same_all {α : Type} {a b : List α} (hl : a.length = b.length) (h : sameTo a b a.length) : a = b := by
  refine List.ext_getElem? fun i => ?_
  by_cases hi : i < a.length
  · exact h i hi
  · rw [List.getElem?_eq_none (by omega), List.getElem?_eq_none (by omega)]
theorem sameTo_succ {α : Type} {a b : List α} {k : Nat} {x : α} (h : sameTo a b k) (ha : a[k]? = some x) (hb : b[k]? = some x) : sameTo a b (k + 1) := by
  intro i hi
  by_cases e : i = k
  · subst e; rw [ha, hb]
  · exact h i (by omega)
theorem same_no {α : Type} {a b : List α} {k : Nat} {x y : α} (ha : a[k]? = some x) (hb : b[k]? = some y) (h : x ≠ y) : a ≠ b := by
  rintro rfl
  rw [ha] at hb; cases hb; exact h rfl
theorem len_beq (n m : Nat) : ((n : Int) == (m : Int)) = decide (n = m) := by
  rw [Bool.eq_iff_iff, beq_iff_eq, decide_eq_true_iff]; omega
theorem len_bne_eq {n m : Nat} (h : n = m) : ((n : Int) != (m : Int)) = false := by subst h; simp
theorem len_bne_ne {n m : Nat} (h : n ≠ m) : ((n : Int) != (m : Int)) = true := by rw [bne_iff_ne]; omega
theorem str_beq (a b : List UInt8) : (a == b) = decide (a = b) := by
  rw [Bool.eq_iff_iff, beq_iff_eq, decide_eq_true_iff]
set_option maxRecDepth 100000 in
set_option maxHeartbeats 8000000 in
theorem samePr_ev (a b : List Pr) (ha : a.length ≤ lim) (hb : b.length ≤ lim) (nm : Nat) : Ev cx 33 nm [.sl false 2 (a.map prC), .sl false 2 (b.map prC)] Mem.nil (.bool (decide (a = b))) [] := by
  unfold lim at ha hb
  by_cases hl : a.length = b.length
  · have e1 : (((a.length : Nat) : Int) != ((b.length : Nat) : Int)) = false := len_bne_eq hl
    refine ev_go (fun cargs w => Tryd.call33 cargs w) Tryd.func33 rfl mixed (by kernel_rfl) rfl ?_; intro b0 hb0
    repeat' first | simp only [Tryd.results33, Tryd.ntmps33, κt, wks, e1, Bool.not_true, List.length_map, vcs, κa, κb, κc, κd, κe, κf, κg, κh, κi, κj, κk, κl, κm, reduceCtorEq, reduceIte, κn, κo, κp, κq, κr, κs, tys] | exact rfl | ((first | (refine call_val (g := ?_) ?_ ?_) | (refine call_valg (g := ?_) ?_ ?_)); rotate_left 1; (focus (simp only [Tryd.results33, Tryd.ntmps33, κt, wks, e1, Bool.not_true, List.length_map, vcs, κa, κb, κc, κd, κe, κf, κg, κh, κi, κj, κk, κl, κm, reduceCtorEq, reduceIte, κn, κo, κp, κq, κr, κs, tys] <;> exact rfl))) | refine draw_end (by decide +kernel) ?_ | refine cond_bool (fun hb => ?_) (fun hb => ?_) | refine cond_bit (fun hb => ?_) (fun hb => ?_) | refine And.intro (by omega) ?_ | refine And.intro (fun hb => ?_) (fun hb => ?_) | fail
    (refine loop_can2 cxG (fun x : Nat => a.length - x) (fun x => x ≤ a.length ∧ sameTo a b x) (b0 + 16) (fun x => [(0, .sl false 2 (a.map prC)), (1, .sl false 2 (b.map prC)), (5, .int .i64 x)]) (fun x => []) (0) [] ?_ ?_ ?_ ?_; rotate_left 1; (focus (show b0 ≤ _; omega)); (focus (refine ⟨?_, ?_⟩ <;> (try simp only [cans, plain_pr, List.length_map, vcs, κa, κb, κc, κd, κe, κf, κg, κh, κi, κj, κk, κl, κm, reduceCtorEq, reduceIte, κn, κo, κp, κq, κr, κs, tys, injs]) <;> (try omega))); rotate_left 1)
    · exact ⟨Nat.zero_le _, fun i hi => by omega⟩
    · rintro k ⟨hk, hsm⟩
      by_cases hlt : k < a.length
      · obtain ⟨x, hx⟩ : ∃ x, a[k]? = some x := ⟨_, List.getElem?_eq_getElem hlt⟩
        obtain ⟨y, hy⟩ : ∃ y, b[k]? = some y := ⟨_, List.getElem?_eq_getElem (hl ▸ hlt)⟩
        have hax := pr_at hx
        have hby := pr_at hy
        have hd : decide (k < a.length) = true := decide_eq_true hlt
        have hlt2 : k < b.length := hl ▸ hlt
        have hwk : IntKind.i64.wrap ((k : Int) + 1) = ((k + 1 : Nat) : Int) := wrap_in (by omega) (by omega)
        by_cases hxy : x = y
        · subst hxy
          have hsm' := sameTo_succ hsm hx hy
          repeat' first | simp only [Tryd.results33, Tryd.ntmps33, κt, wks, plain_pr, hax, hby, prC, hd, hlt, hlt2, beq_self_eq_true, Bool.and_self, Bool.not_true, List.length_map, vcs, κa, κb, κc, κd, κe, κf, κg, κh, κi, κj, κk, κl, κm, reduceCtorEq, reduceIte, κn, κo, κp, κq, κr, κs, tys] | exact rfl | ((first | (refine call_val (g := ?_) ?_ ?_) | (refine call_valg (g := ?_) ?_ ?_)); rotate_left 1; (focus (simp only [Tryd.results33, Tryd.ntmps33, κt, wks, plain_pr, hax, hby, prC, hd, hlt, hlt2, beq_self_eq_true, Bool.and_self, Bool.not_true, List.length_map, vcs, κa, κb, κc, κd, κe, κf, κg, κh, κi, κj, κk, κl, κm, reduceCtorEq, reduceIte, κn, κo, κp, κq, κr, κs, tys] <;> exact rfl))) | refine draw_end (by decide +kernel) ?_ | refine cond_bool (fun hb => ?_) (fun hb => ?_) | refine cond_bit (fun hb => ?_) (fun hb => ?_) | refine And.intro (by omega) ?_ | refine And.intro (fun hb => ?_) (fun hb => ?_) | fail
          all_goals ((refine again_can2 cxG (k + 1) [] ?_ ?_ ?_ ?_; rotate_left 2; (focus (show b0 ≤ _; omega)); (focus (refine ⟨?_, ?_⟩ <;> (try simp only [cans, plain_pr, hwk, List.length_map, vcs, κa, κb, κc, κd, κe, κf, κg, κh, κi, κj, κk, κl, κm, reduceCtorEq, reduceIte, κn, κo, κp, κq, κr, κs, tys, injs]) <;> (try omega)))))
          all_goals (first | (show a.length - (k + 1) < a.length - k; omega) | exact ⟨hlt, hsm'⟩ | skip)
        · have hr : decide (a = b) = false := decide_eq_false (same_no hx hy hxy)
          have e2 : ((x.name == y.name) && (x.value == y.value)) = false := by
            cases x with | mk xn xv => cases y with | mk yn yv =>
            simp only [Pr.mk.injEq, not_and] at hxy
            by_cases h1 : xn = yn
            · have := hxy h1
              simp [this]
            · simp [h1]
          ((repeat' first | simp only [Tryd.results33, Tryd.ntmps33, κt, wks, plain_pr, hax, hby, prC, hd, hlt, hlt2, hr, e2, Bool.and_true, Bool.not_false, List.length_map, vcs, κa, κb, κc, κd, κe, κf, κg, κh, κi, κj, κk, κl, κm, reduceCtorEq, reduceIte, κn, κo, κp, κq, κr, κs, tys] | exact rfl | ((first | (refine call_val (g := ?_) ?_ ?_) | (refine call_valg (g := ?_) ?_ ?_)); rotate_left 1; (focus (simp only [Tryd.results33, Tryd.ntmps33, κt, wks, plain_pr, hax, hby, prC, hd, hlt, hlt2, hr, e2, Bool.and_true, Bool.not_false, List.length_map, vcs, κa, κb, κc, κd, κe, κf, κg, κh, κi, κj, κk, κl, κm, reduceCtorEq, reduceIte, κn, κo, κp, κq, κr, κs, tys] <;> exact rfl))) | refine draw_end (by decide +kernel) ?_ | refine cond_bool (fun hb => ?_) (fun hb => ?_) | refine cond_bit (fun hb => ?_) (fun hb => ?_) | refine And.intro (by omega) ?_ | refine And.intro (fun hb => ?_) (fun hb => ?_) | fail); (all_goals (first | (refine Fin.pure ?_ ?_ ?_ <;> (try simp only [Tryd.results33, Tryd.ntmps33, wks, plain_pr, hax, hby, prC, hd, hlt, hlt2, hr, e2, Bool.and_true, Bool.not_false, List.length_map, vcs, κa, κb, κc, κd, κe, κf, κg, κh, κi, κj, κk, κl, κm, reduceCtorEq, reduceIte, κn, κo, κp, κq, κr, κs, tys]) <;> (try simp only [injs])) | skip)))
      · have hke : k = a.length := by omega
        subst hke
        have hr : decide (a = b) = true := decide_eq_true (same_all hl hsm)
        have hd : decide (a.length < a.length) = false := decide_eq_false (by omega)
        ((repeat' first | simp only [Tryd.results33, Tryd.ntmps33, κt, wks, hd, hr, List.length_map, vcs, κa, κb, κc, κd, κe, κf, κg, κh, κi, κj, κk, κl, κm, reduceCtorEq, reduceIte, κn, κo, κp, κq, κr, κs, tys] | exact rfl | ((first | (refine call_val (g := ?_) ?_ ?_) | (refine call_valg (g := ?_) ?_ ?_)); rotate_left 1; (focus (simp only [Tryd.results33, Tryd.ntmps33, κt, wks, hd, hr, List.length_map, vcs, κa, κb, κc, κd, κe, κf, κg, κh, κi, κj, κk, κl, κm, reduceCtorEq, reduceIte, κn, κo, κp, κq, κr, κs, tys] <;> exact rfl))) | refine draw_end (by decide +kernel) ?_ | refine cond_bool (fun hb => ?_) (fun hb => ?_) | refine cond_bit (fun hb => ?_) (fun hb => ?_) | refine And.intro (by omega) ?_ | refine And.intro (fun hb => ?_) (fun hb => ?_) | fail); (all_goals (first | (refine Fin.pure ?_ ?_ ?_ <;> (try simp only [Tryd.results33, Tryd.ntmps33, wks, hd, hr, List.length_map, vcs, κa, κb, κc, κd, κe, κf, κg, κh, κi, κj, κk, κl, κm, reduceCtorEq, reduceIte, κn, κo, κp, κq, κr, κs, tys]) <;> (try simp only [injs])) | skip)))
  · have e1 : (((a.length : Nat) : Int) != ((b.length : Nat) : Int)) = true := len_bne_ne hl
    have hr : decide (a = b) = false := decide_eq_false (fun e => hl (congrArg List.length e))
    refine ev_go (fun cargs w => Tryd.call33 cargs w) Tryd.func33 rfl mixed (by kernel_rfl) rfl ?_; intro b0 hb0
    ((repeat' first | simp only [Tryd.results33, Tryd.ntmps33, κt, wks, e1, hr, Bool.not_false, List.length_map, vcs, κa, κb, κc, κd, κe, κf, κg, κh, κi, κj, κk, κl, κm, reduceCtorEq, reduceIte, κn, κo, κp, κq, κr, κs, tys] | exact rfl | ((first | (refine call_val (g := ?_) ?_ ?_) | (refine call_valg (g := ?_) ?_ ?_)); rotate_left 1; (focus (simp only [Tryd.results33, Tryd.ntmps33, κt, wks, e1, hr, Bool.not_false, List.length_map, vcs, κa, κb, κc, κd, κe, κf, κg, κh, κi, κj, κk, κl, κm, reduceCtorEq, reduceIte, κn, κo, κp, κq, κr, κs, tys] <;> exact rfl))) | refine draw_end (by decide +kernel) ?_ | refine cond_bool (fun hb => ?_) (fun hb => ?_) | refine cond_bit (fun hb => ?_) (fun hb => ?_) | refine And.intro (by omega) ?_ | refine And.intro (fun hb => ?_) (fun hb => ?_) | fail); (all_goals (first | (refine Fin.pure ?_ ?_ ?_ <;> (try simp only [Tryd.results33, Tryd.ntmps33, wks, e1, hr, Bool.not_false, List.length_map, vcs, κa, κb, κc, κd, κe, κf, κg, κh, κi, κj, κk, κl, κm, reduceCtorEq, reduceIte, κn, κo, κp, κq, κr, κs, tys]) <;> (try simp only [injs])) | skip)))
end Go.Proofs.YtanahnknjboplaaDoor
/-
  The document's answer for layer 9 by the machine: lists of tokens compared; are they great.
-/
namespace Go.Proofs.YtanahnknjboplaaDoor
set_option linter.unusedSimpArgs false
set_option linter.unusedVariables false
open Nat renaming reduceAdd → κa, reduceMul → κb, reduceEqDiff → κc, reduceLeDiff → κd, reduceSub → κe, reduceLT → κf, reduceBEq → κr, reduceBNe → κs, reducePow → κt
open Int renaming reduceToNat → κg, reduceLE → κh, reduceLT → κi, reduceAdd → κj, reduceSub → κk, reduceMul → κl, reduceNeg → κm, reduceBEq → κn, reduceBNe → κo, reduceEq → κp, reduceNe → κq
open Go Go.RowKit Go.Proofs.YtanahnknjboplaaDoor.Vm Go.Lib

theorem tk_eq {x y : Tk} : x = y ↔ x.kind = y.kind ∧ x.name = y.name ∧ x.text = y.text ∧ x.attrs = y.attrs := by
  cases x; cases y; simp only [Tk.mk.injEq]; constructor
  · rintro ⟨h1, h2, h3, h4⟩; exact ⟨h1, h2, h4, h3⟩
  · rintro ⟨h1, h2, h3, h4⟩; exact ⟨h1, h2, h4, h3⟩
set_option maxRecDepth 100000 in
set_option maxHeartbeats 8000000 in
theorem sameTk_ev (a b : List Tk) (ha : a.length ≤ lim) (hb : b.length ≤ lim) (ha2 : ∀ t ∈ a, t.attrs.length ≤ lim) (hb2 : ∀ t ∈ b, t.attrs.length ≤ lim) (nm : Nat) : Ev cx 12 nm [.sl false 4 (a.map tkC), .sl false 4 (b.map tkC)] Mem.nil (.bool (decide (a = b))) [] := by
  unfold lim at ha hb
  by_cases hl : a.length = b.length
  · have e1 : (((a.length : Nat) : Int) != ((b.length : Nat) : Int)) = false := len_bne_eq hl
    refine ev_go (fun cargs w => Tryd.call12 cargs w) Tryd.func12 rfl mixed (by kernel_rfl) rfl ?_; intro b0 hb0
    repeat' first | simp only [Tryd.results12, Tryd.ntmps12, κt, wks, e1, List.length_map, vcs, κa, κb, κc, κd, κe, κf, κg, κh, κi, κj, κk, κl, κm, reduceCtorEq, reduceIte, κn, κo, κp, κq, κr, κs, tys] | exact rfl | ((first | (refine call_val (g := ?_) ?_ ?_) | (refine call_valg (g := ?_) ?_ ?_)); rotate_left 1; (focus (simp only [Tryd.results12, Tryd.ntmps12, κt, wks, e1, List.length_map, vcs, κa, κb, κc, κd, κe, κf, κg, κh, κi, κj, κk, κl, κm, reduceCtorEq, reduceIte, κn, κo, κp, κq, κr, κs, tys] <;> exact rfl))) | refine draw_end (by decide +kernel) ?_ | refine cond_bool (fun hb => ?_) (fun hb => ?_) | refine cond_bit (fun hb => ?_) (fun hb => ?_) | refine And.intro (by omega) ?_ | refine And.intro (fun hb => ?_) (fun hb => ?_) | fail
    (refine loop_can2 cxG (fun x : Nat => a.length - x) (fun x => x ≤ a.length ∧ sameTo a b x) (b0 + 16) (fun x => [(0, .sl false 4 (a.map tkC)), (1, .sl false 4 (b.map tkC)), (5, .int .i64 x)]) (fun x => []) (0) [] ?_ ?_ ?_ ?_; rotate_left 1; (focus (show b0 ≤ _; omega)); (focus (refine ⟨?_, ?_⟩ <;> (try simp only [cans, plain_tk, List.length_map, vcs, κa, κb, κc, κd, κe, κf, κg, κh, κi, κj, κk, κl, κm, reduceCtorEq, reduceIte, κn, κo, κp, κq, κr, κs, tys, injs]) <;> (try omega))); rotate_left 1)
    · exact ⟨Nat.zero_le _, fun i hi => by omega⟩
    · rintro k ⟨hk, hsm⟩
      by_cases hlt : k < a.length
      · obtain ⟨x, hx⟩ : ∃ x, a[k]? = some x := ⟨_, List.getElem?_eq_getElem hlt⟩
        obtain ⟨y, hy⟩ : ∃ y, b[k]? = some y := ⟨_, List.getElem?_eq_getElem (hl ▸ hlt)⟩
        have hax := tk_at hx
        have hby := tk_at hy
        have hd : decide (k < a.length) = true := decide_eq_true hlt
        have hlt2 : k < b.length := hl ▸ hlt
        have hwk : IntKind.i64.wrap ((k : Int) + 1) = ((k + 1 : Nat) : Int) := wrap_in (by omega) (by omega)
        have hsp := samePr_ev x.attrs y.attrs (ha2 x (List.mem_of_getElem? hx)) (hb2 y (List.mem_of_getElem? hy))
        by_cases hxy : x = y
        · subst hxy
          have hsm' := sameTo_succ hsm hx hy
          have hz : decide (x.attrs = x.attrs) = true := decide_eq_true rfl
          rw [hz] at hsp
          repeat' first | simp only [Tryd.results12, Tryd.ntmps12, κt, wks, plain_pr, hax, hby, tkC, hd, hlt, hlt2, beq_self_eq_true, bne_self_eq_false, Bool.and_self, Bool.not_true, List.length_map, vcs, κa, κb, κc, κd, κe, κf, κg, κh, κi, κj, κk, κl, κm, reduceCtorEq, reduceIte, κn, κo, κp, κq, κr, κs, tys] | exact rfl | ((first | (refine call_fn ?_ (hsp _) ?_) | (refine call_fn_g ?_ (fun _ => hsp _) ?_)); (focus (simp only [Tryd.results12, Tryd.ntmps12, κt, wks, plain_pr, hax, hby, tkC, hd, hlt, hlt2, beq_self_eq_true, bne_self_eq_false, Bool.and_self, Bool.not_true, List.length_map, vcs, κa, κb, κc, κd, κe, κf, κg, κh, κi, κj, κk, κl, κm, reduceCtorEq, reduceIte, κn, κo, κp, κq, κr, κs, tys] <;> exact rfl))) | ((first | (refine call_val (g := ?_) ?_ ?_) | (refine call_valg (g := ?_) ?_ ?_)); rotate_left 1; (focus (simp only [Tryd.results12, Tryd.ntmps12, κt, wks, plain_pr, hax, hby, tkC, hd, hlt, hlt2, beq_self_eq_true, bne_self_eq_false, Bool.and_self, Bool.not_true, List.length_map, vcs, κa, κb, κc, κd, κe, κf, κg, κh, κi, κj, κk, κl, κm, reduceCtorEq, reduceIte, κn, κo, κp, κq, κr, κs, tys] <;> exact rfl))) | refine draw_end (by decide +kernel) ?_ | refine cond_bool (fun hb => ?_) (fun hb => ?_) | refine cond_bit (fun hb => ?_) (fun hb => ?_) | refine And.intro (by omega) ?_ | refine And.intro (fun hb => ?_) (fun hb => ?_) | fail
          all_goals ((refine again_can2 cxG (k + 1) [] ?_ ?_ ?_ ?_; rotate_left 2; (focus (show b0 ≤ _; omega)); (focus (refine ⟨?_, ?_⟩ <;> (try simp only [cans, plain_tk, hwk, List.length_map, vcs, κa, κb, κc, κd, κe, κf, κg, κh, κi, κj, κk, κl, κm, reduceCtorEq, reduceIte, κn, κo, κp, κq, κr, κs, tys, injs]) <;> (try omega)))))
          all_goals (first | (show a.length - (k + 1) < a.length - k; omega) | exact ⟨hlt, hsm'⟩ | skip)
        · have hr : decide (a = b) = false := decide_eq_false (same_no hx hy hxy)
          have hcs : ((x.kind : Int) != (y.kind : Int)) = true ∨ (((x.kind : Int) != (y.kind : Int)) = false ∧ (x.name == y.name) = false) ∨ (((x.kind : Int) != (y.kind : Int)) = false ∧ (x.name == y.name) = true ∧ (x.text == y.text) = false) ∨ (((x.kind : Int) != (y.kind : Int)) = false ∧ (x.name == y.name) = true ∧ (x.text == y.text) = true ∧ decide (x.attrs = y.attrs) = false) := by
            by_cases h1 : x.kind = y.kind
            · have k1 := len_bne_eq h1
              by_cases h2 : x.name = y.name
              · have k2 : (x.name == y.name) = true := by rw [h2]; simp
                by_cases h3 : x.text = y.text
                · have k3 : (x.text == y.text) = true := by rw [h3]; simp
                  right; right; right
                  exact ⟨k1, k2, k3, decide_eq_false (fun h4 => hxy (tk_eq.2 ⟨h1, h2, h3, h4⟩))⟩
                · right; right; left; exact ⟨k1, k2, beq_false_of_ne h3⟩
              · right; left; exact ⟨k1, beq_false_of_ne h2⟩
            · left; exact len_bne_ne h1
          generalize hg1 : ((x.kind : Int) != (y.kind : Int)) = g1 at hcs
          generalize hg2 : (x.name == y.name) = g2 at hcs
          generalize hg3 : (x.text == y.text) = g3 at hcs
          generalize hg4 : decide (x.attrs = y.attrs) = g4 at hcs hsp
          rcases hcs with rfl | ⟨rfl, rfl⟩ | ⟨rfl, rfl, rfl⟩ | ⟨rfl, rfl, rfl, rfl⟩
          all_goals (((repeat' first | simp only [Tryd.results12, Tryd.ntmps12, κt, wks, plain_pr, hax, hby, tkC, hd, hlt, hlt2, hr, hg1, hg2, hg3, Bool.not_true, Bool.not_false, List.length_map, vcs, κa, κb, κc, κd, κe, κf, κg, κh, κi, κj, κk, κl, κm, reduceCtorEq, reduceIte, κn, κo, κp, κq, κr, κs, tys] | exact rfl | ((first | (refine call_fn ?_ (hsp _) ?_) | (refine call_fn_g ?_ (fun _ => hsp _) ?_)); (focus (simp only [Tryd.results12, Tryd.ntmps12, κt, wks, plain_pr, hax, hby, tkC, hd, hlt, hlt2, hr, hg1, hg2, hg3, Bool.not_true, Bool.not_false, List.length_map, vcs, κa, κb, κc, κd, κe, κf, κg, κh, κi, κj, κk, κl, κm, reduceCtorEq, reduceIte, κn, κo, κp, κq, κr, κs, tys] <;> exact rfl))) | (refine call_off (v := .any) ?_) | ((first | (refine call_val (g := ?_) ?_ ?_) | (refine call_valg (g := ?_) ?_ ?_)); rotate_left 1; (focus (simp only [Tryd.results12, Tryd.ntmps12, κt, wks, plain_pr, hax, hby, tkC, hd, hlt, hlt2, hr, hg1, hg2, hg3, Bool.not_true, Bool.not_false, List.length_map, vcs, κa, κb, κc, κd, κe, κf, κg, κh, κi, κj, κk, κl, κm, reduceCtorEq, reduceIte, κn, κo, κp, κq, κr, κs, tys] <;> exact rfl))) | refine draw_end (by decide +kernel) ?_ | refine cond_bool (fun hb => ?_) (fun hb => ?_) | refine cond_bit (fun hb => ?_) (fun hb => ?_) | refine And.intro (by omega) ?_ | refine And.intro (fun hb => ?_) (fun hb => ?_) | fail); (all_goals (first | (refine Fin.pure ?_ ?_ ?_ <;> (try simp only [Tryd.results12, Tryd.ntmps12, wks, plain_pr, hax, hby, tkC, hd, hlt, hlt2, hr, hg1, hg2, hg3, Bool.not_true, Bool.not_false, List.length_map, vcs, κa, κb, κc, κd, κe, κf, κg, κh, κi, κj, κk, κl, κm, reduceCtorEq, reduceIte, κn, κo, κp, κq, κr, κs, tys]) <;> (try simp only [injs])) | skip))))
      · have hke : k = a.length := by omega
        subst hke
        have hr : decide (a = b) = true := decide_eq_true (same_all hl hsm)
        have hd : decide (a.length < a.length) = false := decide_eq_false (by omega)
        ((repeat' first | simp only [Tryd.results12, Tryd.ntmps12, κt, wks, hd, hr, List.length_map, vcs, κa, κb, κc, κd, κe, κf, κg, κh, κi, κj, κk, κl, κm, reduceCtorEq, reduceIte, κn, κo, κp, κq, κr, κs, tys] | exact rfl | ((first | (refine call_val (g := ?_) ?_ ?_) | (refine call_valg (g := ?_) ?_ ?_)); rotate_left 1; (focus (simp only [Tryd.results12, Tryd.ntmps12, κt, wks, hd, hr, List.length_map, vcs, κa, κb, κc, κd, κe, κf, κg, κh, κi, κj, κk, κl, κm, reduceCtorEq, reduceIte, κn, κo, κp, κq, κr, κs, tys] <;> exact rfl))) | refine draw_end (by decide +kernel) ?_ | refine cond_bool (fun hb => ?_) (fun hb => ?_) | refine cond_bit (fun hb => ?_) (fun hb => ?_) | refine And.intro (by omega) ?_ | refine And.intro (fun hb => ?_) (fun hb => ?_) | fail); (all_goals (first | (refine Fin.pure ?_ ?_ ?_ <;> (try simp only [Tryd.results12, Tryd.ntmps12, wks, hd, hr, List.length_map, vcs, κa, κb, κc, κd, κe, κf, κg, κh, κi, κj, κk, κl, κm, reduceCtorEq, reduceIte, κn, κo, κp, κq, κr, κs, tys]) <;> (try simp only [injs])) | skip)))
  · have e1 : (((a.length : Nat) : Int) != ((b.length : Nat) : Int)) = true := len_bne_ne hl
    have hr : decide (a = b) = false := decide_eq_false (fun e => hl (congrArg List.length e))
    refine ev_go (fun cargs w => Tryd.call12 cargs w) Tryd.func12 rfl mixed (by kernel_rfl) rfl ?_; intro b0 hb0
    ((repeat' first | simp only [Tryd.results12, Tryd.ntmps12, κt, wks, e1, hr, List.length_map, vcs, κa, κb, κc, κd, κe, κf, κg, κh, κi, κj, κk, κl, κm, reduceCtorEq, reduceIte, κn, κo, κp, κq, κr, κs, tys] | exact rfl | ((first | (refine call_val (g := ?_) ?_ ?_) | (refine call_valg (g := ?_) ?_ ?_)); rotate_left 1; (focus (simp only [Tryd.results12, Tryd.ntmps12, κt, wks, e1, hr, List.length_map, vcs, κa, κb, κc, κd, κe, κf, κg, κh, κi, κj, κk, κl, κm, reduceCtorEq, reduceIte, κn, κo, κp, κq, κr, κs, tys] <;> exact rfl))) | refine draw_end (by decide +kernel) ?_ | refine cond_bool (fun hb => ?_) (fun hb => ?_) | refine cond_bit (fun hb => ?_) (fun hb => ?_) | refine And.intro (by omega) ?_ | refine And.intro (fun hb => ?_) (fun hb => ?_) | fail); (all_goals (first | (refine Fin.pure ?_ ?_ ?_ <;> (try simp only [Tryd.results12, Tryd.ntmps12, wks, e1, hr, List.length_map, vcs, κa, κb, κc, κd, κe, κf, κg, κh, κi, κj, κk, κl, κm, reduceCtorEq, reduceIte, κn, κo, κp, κq, κr, κs, tys]) <;> (try simp only [injs])) | skip)))
theorem tksN_nil : tksN [] = 0 := rfl
theorem prsN_nil : prsN [] = 0 := rfl
theorem prN_le (a : Pr) : prN a ≤ 40000 := by unfold prN; omega
theorem sum_le {α : Type} {f : α → Nat} {n : Nat} (h : ∀ x, f x ≤ n) (l : List α) : (l.map f).sum ≤ l.length * n := by
  induction l with
  | nil => simp
  | cons x l ih => simp only [List.map_cons, List.sum_cons, List.length_cons, Nat.succ_mul]; have := h x; omega
theorem tkN_le (t : Tk) : tkN t ≤ 1240000 := by
  have h := sum_le prN_le (t.attrs.take 30)
  have h2 : (t.attrs.take 30).length ≤ 30 := by simp; omega
  have h3 := Nat.mul_le_mul_right 40000 h2
  unfold tkN prsN
  omega
theorem tksN_le (l : List Tk) (k : Nat) (hk : k ≤ 600) : tksN (l.take k) ≤ 744000000 := by
  have h := sum_le tkN_le (l.take k)
  have h2 : (l.take k).length ≤ 600 := by simp; omega
  have h3 := Nat.mul_le_mul_right 1240000 h2
  unfold tksN
  omega
theorem great_yes {l : List Tk} {most k : Nat} {t : Tk} (hk : k < 600) (ht : l[k]? = some t) (h : 30 < t.attrs.length ∨ most < tksN (l.take (k + 1))) : greatL l most = true := by
  have ht6 : (l.take 600)[k]? = some t := by rw [List.getElem?_take, if_pos hk]; exact ht
  unfold greatL
  simp only [Bool.or_eq_true, Bool.and_eq_true, decide_eq_true_eq]
  rcases h with h | h
  · left; left
    exact List.any_eq_true.2 ⟨t, List.mem_of_getElem? ht6, decide_eq_true h⟩
  · left; right
    refine ⟨List.length_pos_of_mem (List.mem_of_getElem? ht6), Nat.lt_of_lt_of_le h ?_⟩
    have := sum_take_le (f := tkN) (l.take 600) (k + 1)
    rw [List.take_take, Nat.min_eq_left (by omega)] at this
    exact this
theorem great_no {l : List Tk} {most k : Nat} (hk : k = min l.length 600) (h : greatTo l most k) : greatL l most = decide (600 < l.length) := by
  have e1 : (l.take 600).any (fun t => decide (30 < t.attrs.length)) = false := by
    rw [List.any_eq_false]
    intro t ht
    obtain ⟨i, hi⟩ := List.mem_iff_getElem?.1 ht
    have hi6 := (List.getElem?_eq_some_iff.1 hi).1
    rw [List.length_take] at hi6
    rw [List.getElem?_take, if_pos (by omega)] at hi
    have := (h i t (by omega) hi).1
    simp; omega
  have e2 : (decide (0 < (l.take 600).length) && decide (most < tksN (l.take 600))) = false := by
    by_cases h0 : 0 < (l.take 600).length
    · have hk0 : 0 < k := by rw [List.length_take] at h0; omega
      obtain ⟨t, ht⟩ : ∃ t, l[k - 1]? = some t := ⟨_, List.getElem?_eq_getElem (by omega)⟩
      have := (h (k - 1) t (by omega) ht).2
      rw [Nat.sub_add_cancel hk0] at this
      have hkl : l.take k = l.take 600 := by
        by_cases h6 : l.length ≤ 600
        · rw [List.take_of_length_le (by omega), List.take_of_length_le h6]
        · rw [show k = 600 by omega]
      rw [hkl] at this
      rw [decide_eq_false (by omega : ¬ most < tksN (l.take 600)), Bool.and_false]
    · rw [decide_eq_false h0, Bool.false_and]
  unfold greatL
  rw [e1, e2]; rfl
theorem prs_take {l : List Pr} {k : Nat} {a : Pr} (h : l[k]? = some a) : prsN (l.take (k + 1)) = prsN (l.take k) + prN a := sum_snoc h
theorem tks_take {l : List Tk} {k : Nat} {a : Tk} (h : l[k]? = some a) : tksN (l.take (k + 1)) = tksN (l.take k) + tkN a := sum_snoc h
theorem prs_le30 (l : List Pr) {k : Nat} (hk : k ≤ 30) : prsN (l.take k) ≤ 1200000 := by
  have h := sum_le prN_le (l.take k)
  have h2 : (l.take k).length ≤ 30 := by simp; omega
  have h3 := Nat.mul_le_mul_right 40000 h2
  unfold prsN
  omega
set_option maxRecDepth 100000 in
set_option maxHeartbeats 8000000 in
theorem great_ev (l : List Tk) (most : Nat) (hm : most ≤ 1000000) (hl : l.length ≤ lim) (hs : ∀ t ∈ l, t.okTo lim) (nm : Nat) : Ev cx 8 nm [.sl false 4 (l.map tkC), .int .i64 most] Mem.nil (.bool (greatL l most)) [] := by
  unfold lim at hl
  refine ev_go (fun cargs w => Tryd.call8 cargs w) Tryd.func8 rfl mixed (by kernel_rfl) rfl ?_; intro b0 hb0
  repeat' first | simp only [Tryd.results8, Tryd.ntmps8, κt, wks, vcs, κa, κb, κc, κd, κe, κf, κg, κh, κi, κj, κk, κl, κm, reduceCtorEq, reduceIte, κn, κo, κp, κq, κr, κs, tys] | exact rfl | ((first | (refine call_val (g := ?_) ?_ ?_) | (refine call_valg (g := ?_) ?_ ?_)); rotate_left 1; (focus (simp only [Tryd.results8, Tryd.ntmps8, κt, wks, vcs, κa, κb, κc, κd, κe, κf, κg, κh, κi, κj, κk, κl, κm, reduceCtorEq, reduceIte, κn, κo, κp, κq, κr, κs, tys] <;> exact rfl))) | refine draw_end (by decide +kernel) ?_ | refine cond_bool (fun hb => ?_) (fun hb => ?_) | refine cond_bit (fun hb => ?_) (fun hb => ?_) | refine And.intro (by omega) ?_ | refine And.intro (fun hb => ?_) (fun hb => ?_) | fail
  (refine loop_can2 cxG (fun x : Nat => l.length - x) (fun x => x ≤ l.length ∧ x ≤ 600 ∧ greatTo l most x) (b0 + 16) (fun x => [(0, .sl false 4 (l.map tkC)), (1, .int .i64 most), (5, .int .i64 (tksN (l.take x))), (6, .int .i64 x)]) (fun x => []) (0) [] ?_ ?_ ?_ ?_; rotate_left 1; (focus (show b0 ≤ _; omega)); (focus (refine ⟨?_, ?_⟩ <;> (try simp only [cans, plain_tk, List.length_map, List.take_zero, tksN_nil, vcs, κa, κb, κc, κd, κe, κf, κg, κh, κi, κj, κk, κl, κm, reduceCtorEq, reduceIte, κn, κo, κp, κq, κr, κs, tys, injs]) <;> (try omega))); rotate_left 1)
  · exact ⟨Nat.zero_le _, Nat.zero_le _, fun i t hi => by omega⟩
  · rintro k ⟨hk, hk6, hgt⟩
    by_cases hlt : k < l.length ∧ k < 600
    · obtain ⟨hlt, hlt6⟩ := hlt
      obtain ⟨t, ht⟩ : ∃ t, l[k]? = some t := ⟨_, List.getElem?_eq_getElem hlt⟩
      obtain ⟨s1, s2, s3, s4⟩ := hs t (List.mem_of_getElem? ht)
      unfold lim at s1 s2 s3 s4
      have hat := tk_at ht
      have hd : decide (k < l.length) = true := decide_eq_true hlt
      have hd6 : decide ((k : Int) < 600) = true := decide_eq_true (by omega)
      have hwk : IntKind.i64.wrap ((k : Int) + 1) = ((k + 1 : Nat) : Int) := wrap_in (by omega) (by omega)
      have hb := tksN_le l k hk6
      have m1 : min (t.name.length : Int) 20000 = ((min t.name.length 20000 : Nat) : Int) := by omega
      have m2 : min (t.text.length : Int) 20000 = ((min t.text.length 20000 : Nat) : Int) := by omega
      have hnx := tks_take ht
      have htn : tkN t = min t.name.length 20000 + min t.text.length 20000 + prsN (t.attrs.take 30) := rfl
      generalize hT : tksN (l.take k) = T at *
      generalize hq1 : min t.name.length 20000 = n1 at *
      generalize hq2 : min t.text.length 20000 = n2 at *
      have hn1 : n1 ≤ 20000 := by omega
      have hn2 : n2 ≤ 20000 := by omega
      have w1 : IntKind.i64.wrap ((T : Int) + n1) = ((T + n1 : Nat) : Int) := by rw [wrap_in (by omega) (by omega)]; omega
      have w2 : IntKind.i64.wrap (((T + n1 : Nat) : Int) + n2) = ((T + n1 + n2 : Nat) : Int) := by rw [wrap_in (by omega) (by omega)]; omega
      repeat' first | simp only [Tryd.results8, Tryd.ntmps8, κt, wks, plain_pr, hat, tkC, hd, hd6, hlt, m1, m2, w1, w2, List.length_map, vcs, κa, κb, κc, κd, κe, κf, κg, κh, κi, κj, κk, κl, κm, reduceCtorEq, reduceIte, κn, κo, κp, κq, κr, κs, tys] | exact rfl | ((first | (refine call_val (g := ?_) ?_ ?_) | (refine call_valg (g := ?_) ?_ ?_)); rotate_left 1; (focus (simp only [Tryd.results8, Tryd.ntmps8, κt, wks, plain_pr, hat, tkC, hd, hd6, hlt, m1, m2, w1, w2, List.length_map, vcs, κa, κb, κc, κd, κe, κf, κg, κh, κi, κj, κk, κl, κm, reduceCtorEq, reduceIte, κn, κo, κp, κq, κr, κs, tys] <;> exact rfl))) | refine draw_end (by decide +kernel) ?_ | refine cond_bool (fun hb => ?_) (fun hb => ?_) | refine cond_bit (fun hb => ?_) (fun hb => ?_) | refine And.intro (by omega) ?_ | refine And.intro (fun hb => ?_) (fun hb => ?_) | fail
      (refine loop_can2 cxG (fun x : Nat => 30 - x) (fun x => x ≤ t.attrs.length ∧ x ≤ 30) (b0 + 16) (fun x => [(0, .sl false 4 (l.map tkC)), (1, .int .i64 most), (5, .int .i64 ((T + n1 + n2 + prsN (t.attrs.take x) : Nat) : Int)), (6, .int .i64 k), (7, .int .i64 x)]) (fun x => []) (0) [] ?_ ?_ ?_ ?_; rotate_left 1; (focus (show b0 ≤ _; omega)); (focus (refine ⟨?_, ?_⟩ <;> (try simp only [cans, plain_tk, List.length_map, List.take_zero, prsN_nil, Nat.add_zero, vcs, κa, κb, κc, κd, κe, κf, κg, κh, κi, κj, κk, κl, κm, reduceCtorEq, reduceIte, κn, κo, κp, κq, κr, κs, tys, injs]) <;> (try omega))); rotate_left 1)
      · exact ⟨Nat.zero_le _, Nat.zero_le _⟩
      · rintro j ⟨hj, hj30⟩
        have hpb := prs_le30 t.attrs hj30
        by_cases hjl : j < t.attrs.length ∧ j < 30
        · obtain ⟨hj1, hj2⟩ := hjl
          obtain ⟨a, ha⟩ : ∃ a, t.attrs[j]? = some a := ⟨_, List.getElem?_eq_getElem hj1⟩
          obtain ⟨u1, u2⟩ := s4 a (List.mem_of_getElem? ha)
          have hap := pr_at ha
          have hd1 : decide (j < t.attrs.length) = true := decide_eq_true hj1
          have hd2 : decide ((j : Int) < 30) = true := decide_eq_true (by omega)
          have hwj : IntKind.i64.wrap ((j : Int) + 1) = ((j + 1 : Nat) : Int) := wrap_in (by omega) (by omega)
          have m3 : min (a.name.length : Int) 20000 = ((min a.name.length 20000 : Nat) : Int) := by omega
          have m4 : min (a.value.length : Int) 20000 = ((min a.value.length 20000 : Nat) : Int) := by omega
          have hpx := prs_take ha
          have hpa : prN a = min a.name.length 20000 + min a.value.length 20000 := rfl
          generalize hS : T + n1 + n2 + prsN (t.attrs.take j) = S at *
          have w3 : IntKind.i64.wrap ((S : Int) + ((min a.name.length 20000 : Nat) : Int)) = ((S + min a.name.length 20000 : Nat) : Int) := by rw [wrap_in (by omega) (by omega)]; omega
          have w4 : IntKind.i64.wrap (((S + min a.name.length 20000 : Nat) : Int) + ((min a.value.length 20000 : Nat) : Int)) = ((T + n1 + n2 + prsN (t.attrs.take (j + 1)) : Nat) : Int) := by rw [wrap_in (by omega) (by omega), hpx, hpa]; omega
          repeat' first | simp only [Tryd.results8, Tryd.ntmps8, κt, wks, plain_pr, hat, tkC, hap, prC, hlt, hd1, hd2, hj1, m3, m4, w3, w4, List.length_map, vcs, κa, κb, κc, κd, κe, κf, κg, κh, κi, κj, κk, κl, κm, reduceCtorEq, reduceIte, κn, κo, κp, κq, κr, κs, tys] | exact rfl | ((first | (refine call_val (g := ?_) ?_ ?_) | (refine call_valg (g := ?_) ?_ ?_)); rotate_left 1; (focus (simp only [Tryd.results8, Tryd.ntmps8, κt, wks, plain_pr, hat, tkC, hap, prC, hlt, hd1, hd2, hj1, m3, m4, w3, w4, List.length_map, vcs, κa, κb, κc, κd, κe, κf, κg, κh, κi, κj, κk, κl, κm, reduceCtorEq, reduceIte, κn, κo, κp, κq, κr, κs, tys] <;> exact rfl))) | refine draw_end (by decide +kernel) ?_ | refine cond_bool (fun hb => ?_) (fun hb => ?_) | refine cond_bit (fun hb => ?_) (fun hb => ?_) | refine And.intro (by omega) ?_ | refine And.intro (fun hb => ?_) (fun hb => ?_) | fail
          all_goals ((refine again_can2 cxG (j + 1) [] ?_ ?_ ?_ ?_; rotate_left 2; (focus (show b0 ≤ _; omega)); (focus (refine ⟨?_, ?_⟩ <;> (try simp only [cans, plain_tk, hwj, List.length_map, vcs, κa, κb, κc, κd, κe, κf, κg, κh, κi, κj, κk, κl, κm, reduceCtorEq, reduceIte, κn, κo, κp, κq, κr, κs, tys, injs]) <;> (try omega)))))
          all_goals (first | (show 30 - (j + 1) < 30 - j; omega) | (show j + 1 ≤ t.attrs.length ∧ j + 1 ≤ 30; omega) | skip)
        · have htot : ((T + n1 + n2 + prsN (t.attrs.take j) : Nat) : Int) = ((tksN (l.take (k + 1)) : Nat) : Int) := by
            have : prsN (t.attrs.take j) = prsN (t.attrs.take 30) := by
              by_cases h30 : j < t.attrs.length
              · rw [show j = 30 by omega]
              · rw [List.take_of_length_le (by omega), List.take_of_length_le (by omega)]
            rw [hnx, htn, this]; omega
          have htot2 : T + n1 + n2 + prsN (t.attrs.take j) = tksN (l.take (k + 1)) := by omega
          have hz1 : decide ((30 : Int) < (t.attrs.length : Int)) = decide (30 < t.attrs.length) := by rw [Bool.eq_iff_iff]; simp; omega
          have hz2 : decide (most < tksN (l.take (k + 1))) = decide ((most : Int) < ((tksN (l.take (k + 1)) : Nat) : Int)) := by rw [Bool.eq_iff_iff]; simp
          have hcs : (decide (30 < t.attrs.length) = true ∧ greatL l most = true) ∨ (decide (30 < t.attrs.length) = false ∧ decide (most < tksN (l.take (k + 1))) = true ∧ greatL l most = true) ∨ (decide (30 < t.attrs.length) = false ∧ decide (most < tksN (l.take (k + 1))) = false ∧ greatTo l most (k + 1)) := by
            by_cases c1 : 30 < t.attrs.length
            · left; exact ⟨decide_eq_true c1, great_yes hlt6 ht (.inl c1)⟩
            · by_cases c2 : most < tksN (l.take (k + 1))
              · right; left; exact ⟨decide_eq_false c1, decide_eq_true c2, great_yes hlt6 ht (.inr c2)⟩
              · right; right
                refine ⟨decide_eq_false c1, decide_eq_false c2, fun i u hi hu => ?_⟩
                by_cases e : i = k
                · subst e; rw [ht] at hu; cases hu; exact ⟨by omega, by omega⟩
                · exact hgt i u (by omega) hu
          rw [htot2]
          generalize hZ1 : decide (30 < t.attrs.length) = z1 at hcs hz1
          generalize hZ2 : decide (most < tksN (l.take (k + 1))) = z2 at hcs hz2
          have hcd : (decide (j < t.attrs.length) = false) ∨ (decide (j < t.attrs.length) = true ∧ decide ((j : Int) < 30) = false) := by
            by_cases h30 : j < t.attrs.length
            · right; exact ⟨decide_eq_true h30, decide_eq_false (by omega)⟩
            · left; exact decide_eq_false h30
          rcases hcd with hd1 | ⟨hd1, hd2⟩
          · rcases hcs with ⟨rfl, hr⟩ | ⟨rfl, rfl, hr⟩ | ⟨rfl, rfl, hg'⟩
            · ((repeat' first | simp only [Tryd.results8, Tryd.ntmps8, κt, wks, plain_pr, hat, tkC, hlt, hd1, hz1, hZ2, hr, List.length_map, vcs, κa, κb, κc, κd, κe, κf, κg, κh, κi, κj, κk, κl, κm, reduceCtorEq, reduceIte, κn, κo, κp, κq, κr, κs, tys] | exact rfl | ((first | (refine call_val (g := ?_) ?_ ?_) | (refine call_valg (g := ?_) ?_ ?_)); rotate_left 1; (focus (simp only [Tryd.results8, Tryd.ntmps8, κt, wks, plain_pr, hat, tkC, hlt, hd1, hz1, hZ2, hr, List.length_map, vcs, κa, κb, κc, κd, κe, κf, κg, κh, κi, κj, κk, κl, κm, reduceCtorEq, reduceIte, κn, κo, κp, κq, κr, κs, tys] <;> exact rfl))) | refine draw_end (by decide +kernel) ?_ | refine cond_bool (fun hb => ?_) (fun hb => ?_) | refine cond_bit (fun hb => ?_) (fun hb => ?_) | refine And.intro (by omega) ?_ | refine And.intro (fun hb => ?_) (fun hb => ?_) | fail); (all_goals (first | (refine Fin.pure ?_ ?_ ?_ <;> (try simp only [Tryd.results8, Tryd.ntmps8, wks, plain_pr, hat, tkC, hlt, hd1, hz1, hZ2, hr, List.length_map, vcs, κa, κb, κc, κd, κe, κf, κg, κh, κi, κj, κk, κl, κm, reduceCtorEq, reduceIte, κn, κo, κp, κq, κr, κs, tys]) <;> (try simp only [injs])) | skip)))
            · ((repeat' first | simp only [Tryd.results8, Tryd.ntmps8, κt, wks, plain_pr, hat, tkC, hlt, hd1, hz1, hZ2, hr, List.length_map, vcs, κa, κb, κc, κd, κe, κf, κg, κh, κi, κj, κk, κl, κm, reduceCtorEq, reduceIte, κn, κo, κp, κq, κr, κs, tys] | exact rfl | ((first | (refine call_val (g := ?_) ?_ ?_) | (refine call_valg (g := ?_) ?_ ?_)); rotate_left 1; (focus (simp only [Tryd.results8, Tryd.ntmps8, κt, wks, plain_pr, hat, tkC, hlt, hd1, hz1, hZ2, hr, List.length_map, vcs, κa, κb, κc, κd, κe, κf, κg, κh, κi, κj, κk, κl, κm, reduceCtorEq, reduceIte, κn, κo, κp, κq, κr, κs, tys] <;> exact rfl))) | refine draw_end (by decide +kernel) ?_ | refine cond_bool (fun hb => ?_) (fun hb => ?_) | refine cond_bit (fun hb => ?_) (fun hb => ?_) | refine And.intro (by omega) ?_ | refine And.intro (fun hb => ?_) (fun hb => ?_) | fail); (all_goals (first | (refine Fin.pure ?_ ?_ ?_ <;> (try simp only [Tryd.results8, Tryd.ntmps8, wks, plain_pr, hat, tkC, hlt, hd1, hz1, hZ2, hr, List.length_map, vcs, κa, κb, κc, κd, κe, κf, κg, κh, κi, κj, κk, κl, κm, reduceCtorEq, reduceIte, κn, κo, κp, κq, κr, κs, tys]) <;> (try simp only [injs])) | skip)))
            · repeat' first | simp only [Tryd.results8, Tryd.ntmps8, κt, wks, plain_pr, hat, tkC, hlt, hd1, hz1, hZ2, List.length_map, vcs, κa, κb, κc, κd, κe, κf, κg, κh, κi, κj, κk, κl, κm, reduceCtorEq, reduceIte, κn, κo, κp, κq, κr, κs, tys] | exact rfl | ((first | (refine call_val (g := ?_) ?_ ?_) | (refine call_valg (g := ?_) ?_ ?_)); rotate_left 1; (focus (simp only [Tryd.results8, Tryd.ntmps8, κt, wks, plain_pr, hat, tkC, hlt, hd1, hz1, hZ2, List.length_map, vcs, κa, κb, κc, κd, κe, κf, κg, κh, κi, κj, κk, κl, κm, reduceCtorEq, reduceIte, κn, κo, κp, κq, κr, κs, tys] <;> exact rfl))) | refine draw_end (by decide +kernel) ?_ | refine cond_bool (fun hb => ?_) (fun hb => ?_) | refine cond_bit (fun hb => ?_) (fun hb => ?_) | refine And.intro (by omega) ?_ | refine And.intro (fun hb => ?_) (fun hb => ?_) | fail
              all_goals ((refine again_can2 cxG (k + 1) [] ?_ ?_ ?_ ?_; rotate_left 2; (focus (show b0 ≤ _; omega)); (focus (refine ⟨?_, ?_⟩ <;> (try simp only [cans, plain_tk, hwk, List.length_map, vcs, κa, κb, κc, κd, κe, κf, κg, κh, κi, κj, κk, κl, κm, reduceCtorEq, reduceIte, κn, κo, κp, κq, κr, κs, tys, injs]) <;> (try omega)))))
              all_goals (first | (show l.length - (k + 1) < l.length - k; omega) | exact ⟨hlt, hlt6, hg'⟩ | skip)
          · rcases hcs with ⟨rfl, hr⟩ | ⟨rfl, rfl, hr⟩ | ⟨rfl, rfl, hg'⟩
            · ((repeat' first | simp only [Tryd.results8, Tryd.ntmps8, κt, wks, plain_pr, hat, tkC, hlt, hd1, hd2, hz1, hZ2, hr, List.length_map, vcs, κa, κb, κc, κd, κe, κf, κg, κh, κi, κj, κk, κl, κm, reduceCtorEq, reduceIte, κn, κo, κp, κq, κr, κs, tys] | exact rfl | ((first | (refine call_val (g := ?_) ?_ ?_) | (refine call_valg (g := ?_) ?_ ?_)); rotate_left 1; (focus (simp only [Tryd.results8, Tryd.ntmps8, κt, wks, plain_pr, hat, tkC, hlt, hd1, hd2, hz1, hZ2, hr, List.length_map, vcs, κa, κb, κc, κd, κe, κf, κg, κh, κi, κj, κk, κl, κm, reduceCtorEq, reduceIte, κn, κo, κp, κq, κr, κs, tys] <;> exact rfl))) | refine draw_end (by decide +kernel) ?_ | refine cond_bool (fun hb => ?_) (fun hb => ?_) | refine cond_bit (fun hb => ?_) (fun hb => ?_) | refine And.intro (by omega) ?_ | refine And.intro (fun hb => ?_) (fun hb => ?_) | fail); (all_goals (first | (refine Fin.pure ?_ ?_ ?_ <;> (try simp only [Tryd.results8, Tryd.ntmps8, wks, plain_pr, hat, tkC, hlt, hd1, hd2, hz1, hZ2, hr, List.length_map, vcs, κa, κb, κc, κd, κe, κf, κg, κh, κi, κj, κk, κl, κm, reduceCtorEq, reduceIte, κn, κo, κp, κq, κr, κs, tys]) <;> (try simp only [injs])) | skip)))
            · ((repeat' first | simp only [Tryd.results8, Tryd.ntmps8, κt, wks, plain_pr, hat, tkC, hlt, hd1, hd2, hz1, hZ2, hr, List.length_map, vcs, κa, κb, κc, κd, κe, κf, κg, κh, κi, κj, κk, κl, κm, reduceCtorEq, reduceIte, κn, κo, κp, κq, κr, κs, tys] | exact rfl | ((first | (refine call_val (g := ?_) ?_ ?_) | (refine call_valg (g := ?_) ?_ ?_)); rotate_left 1; (focus (simp only [Tryd.results8, Tryd.ntmps8, κt, wks, plain_pr, hat, tkC, hlt, hd1, hd2, hz1, hZ2, hr, List.length_map, vcs, κa, κb, κc, κd, κe, κf, κg, κh, κi, κj, κk, κl, κm, reduceCtorEq, reduceIte, κn, κo, κp, κq, κr, κs, tys] <;> exact rfl))) | refine draw_end (by decide +kernel) ?_ | refine cond_bool (fun hb => ?_) (fun hb => ?_) | refine cond_bit (fun hb => ?_) (fun hb => ?_) | refine And.intro (by omega) ?_ | refine And.intro (fun hb => ?_) (fun hb => ?_) | fail); (all_goals (first | (refine Fin.pure ?_ ?_ ?_ <;> (try simp only [Tryd.results8, Tryd.ntmps8, wks, plain_pr, hat, tkC, hlt, hd1, hd2, hz1, hZ2, hr, List.length_map, vcs, κa, κb, κc, κd, κe, κf, κg, κh, κi, κj, κk, κl, κm, reduceCtorEq, reduceIte, κn, κo, κp, κq, κr, κs, tys]) <;> (try simp only [injs])) | skip)))
            · repeat' first | simp only [Tryd.results8, Tryd.ntmps8, κt, wks, plain_pr, hat, tkC, hlt, hd1, hd2, hz1, hZ2, List.length_map, vcs, κa, κb, κc, κd, κe, κf, κg, κh, κi, κj, κk, κl, κm, reduceCtorEq, reduceIte, κn, κo, κp, κq, κr, κs, tys] | exact rfl | ((first | (refine call_val (g := ?_) ?_ ?_) | (refine call_valg (g := ?_) ?_ ?_)); rotate_left 1; (focus (simp only [Tryd.results8, Tryd.ntmps8, κt, wks, plain_pr, hat, tkC, hlt, hd1, hd2, hz1, hZ2, List.length_map, vcs, κa, κb, κc, κd, κe, κf, κg, κh, κi, κj, κk, κl, κm, reduceCtorEq, reduceIte, κn, κo, κp, κq, κr, κs, tys] <;> exact rfl))) | refine draw_end (by decide +kernel) ?_ | refine cond_bool (fun hb => ?_) (fun hb => ?_) | refine cond_bit (fun hb => ?_) (fun hb => ?_) | refine And.intro (by omega) ?_ | refine And.intro (fun hb => ?_) (fun hb => ?_) | fail
              all_goals ((refine again_can2 cxG (k + 1) [] ?_ ?_ ?_ ?_; rotate_left 2; (focus (show b0 ≤ _; omega)); (focus (refine ⟨?_, ?_⟩ <;> (try simp only [cans, plain_tk, hwk, List.length_map, vcs, κa, κb, κc, κd, κe, κf, κg, κh, κi, κj, κk, κl, κm, reduceCtorEq, reduceIte, κn, κo, κp, κq, κr, κs, tys, injs]) <;> (try omega)))))
              all_goals (first | (show l.length - (k + 1) < l.length - k; omega) | exact ⟨hlt, hlt6, hg'⟩ | skip)
    · have hr := great_no (l := l) (most := most) (k := k) (by omega) hgt
      have hz : decide ((600 : Int) < (l.length : Int)) = decide (600 < l.length) := by rw [Bool.eq_iff_iff]; simp; omega
      by_cases h6 : k < l.length
      · have hd : decide (k < l.length) = true := decide_eq_true h6
        have hd6 : decide ((k : Int) < 600) = false := decide_eq_false (by omega)
        ((repeat' first | simp only [Tryd.results8, Tryd.ntmps8, κt, wks, hd, hd6, hz, hr, List.length_map, vcs, κa, κb, κc, κd, κe, κf, κg, κh, κi, κj, κk, κl, κm, reduceCtorEq, reduceIte, κn, κo, κp, κq, κr, κs, tys] | exact rfl | ((first | (refine call_val (g := ?_) ?_ ?_) | (refine call_valg (g := ?_) ?_ ?_)); rotate_left 1; (focus (simp only [Tryd.results8, Tryd.ntmps8, κt, wks, hd, hd6, hz, hr, List.length_map, vcs, κa, κb, κc, κd, κe, κf, κg, κh, κi, κj, κk, κl, κm, reduceCtorEq, reduceIte, κn, κo, κp, κq, κr, κs, tys] <;> exact rfl))) | refine draw_end (by decide +kernel) ?_ | refine cond_bool (fun hb => ?_) (fun hb => ?_) | refine cond_bit (fun hb => ?_) (fun hb => ?_) | refine And.intro (by omega) ?_ | refine And.intro (fun hb => ?_) (fun hb => ?_) | fail); (all_goals (first | (refine Fin.pure ?_ ?_ ?_ <;> (try simp only [Tryd.results8, Tryd.ntmps8, wks, hd, hd6, hz, hr, List.length_map, vcs, κa, κb, κc, κd, κe, κf, κg, κh, κi, κj, κk, κl, κm, reduceCtorEq, reduceIte, κn, κo, κp, κq, κr, κs, tys]) <;> (try simp only [injs])) | skip)))
      · have hd : decide (k < l.length) = false := decide_eq_false h6
        ((repeat' first | simp only [Tryd.results8, Tryd.ntmps8, κt, wks, hd, hz, hr, List.length_map, vcs, κa, κb, κc, κd, κe, κf, κg, κh, κi, κj, κk, κl, κm, reduceCtorEq, reduceIte, κn, κo, κp, κq, κr, κs, tys] | exact rfl | ((first | (refine call_val (g := ?_) ?_ ?_) | (refine call_valg (g := ?_) ?_ ?_)); rotate_left 1; (focus (simp only [Tryd.results8, Tryd.ntmps8, κt, wks, hd, hz, hr, List.length_map, vcs, κa, κb, κc, κd, κe, κf, κg, κh, κi, κj, κk, κl, κm, reduceCtorEq, reduceIte, κn, κo, κp, κq, κr, κs, tys] <;> exact rfl))) | refine draw_end (by decide +kernel) ?_ | refine cond_bool (fun hb => ?_) (fun hb => ?_) | refine cond_bit (fun hb => ?_) (fun hb => ?_) | refine And.intro (by omega) ?_ | refine And.intro (fun hb => ?_) (fun hb => ?_) | fail); (all_goals (first | (refine Fin.pure ?_ ?_ ?_ <;> (try simp only [Tryd.results8, Tryd.ntmps8, wks, hd, hz, hr, List.length_map, vcs, κa, κb, κc, κd, κe, κf, κg, κh, κi, κj, κk, κl, κm, reduceCtorEq, reduceIte, κn, κo, κp, κq, κr, κs, tys]) <;> (try simp only [injs])) | skip)))
end Go.Proofs.YtanahnknjboplaaDoor
/-
  Layer 9: what can be handed in.
-/
namespace Go.Proofs.YtanahnknjboplaaDoor
set_option linter.unusedSimpArgs false
set_option linter.unusedVariables false
open Go Go.RowKit Go.Proofs.YtanahnknjboplaaDoor.Vm

def Pr.fits (x : Pr) : Prop := x.name.length ≤ lim ∧ x.value.length ≤ lim
theorem pr_shape {n : Nat} {vs : List V} (h : Shape cx.P n 55 vs) : ∃ x : Pr, vs = prC x ∧ x.fits := by
  obtain ⟨n', h⟩ := shape_struct kind_55 h
  obtain ⟨_, _, rfl, h1, _, _, rfl, h2, h7⟩ := h
  obtain ⟨a1, rfl, r1⟩ := shape_str kind_9 h1
  obtain ⟨a2, rfl, r2⟩ := shape_str kind_9 h2
  obtain rfl := shapeT_nil h7
  exact ⟨⟨a1, a2⟩, rfl, Nat.le_trans r1 (by decide), Nat.le_trans r2 (by decide)⟩
theorem tk_shape {n : Nat} {vs : List V} (h : Shape cx.P n 26 vs) : ∃ x : Tk, vs = tkC x ∧ x.okTo lim := by
  obtain ⟨n', h⟩ := shape_struct kind_26 h
  obtain ⟨_, _, rfl, h1, _, _, rfl, h2, _, _, rfl, h3, _, _, rfl, h4, h7⟩ := h
  obtain ⟨a1, rfl, r1, _⟩ := shape_int kind_5 h1
  obtain ⟨a2, rfl, r2⟩ := shape_str kind_9 h2
  obtain ⟨_, rs, rfl, l1, m1, g1⟩ := shape_slice kind_24 h3
  obtain ⟨a4, rfl, r4⟩ := shape_str kind_9 h4
  obtain rfl := shapeT_nil h7
  obtain ⟨x1, rfl, f1⟩ := rows_map prC Pr.fits (fun r hr => pr_shape (g1 r hr))
  rw [List.length_map] at m1
  have r1' : (0 : Int) ≤ a1 := r1
  obtain ⟨b1, rfl⟩ : ∃ b : Nat, a1 = b := ⟨a1.toNat, by omega⟩
  exact ⟨⟨b1, a2, x1, a4⟩, rfl, by show x1.length ≤ lim; unfold lim; omega, Nat.le_trans r2 (by decide), Nat.le_trans r4 (by decide), f1⟩
theorem tks_shape {n : Nat} {vs : List V} (h : Shape cx.P n 22 vs) : ∃ l : List Tk, vs = [.sl false 4 (l.map tkC)] ∧ l.length ≤ lim ∧ ∀ t ∈ l, t.okTo lim := by
  obtain ⟨_, rs, rfl, l1, m1, g1⟩ := shape_slice kind_22 h
  obtain ⟨x1, rfl, f1⟩ := rows_map tkC (fun t => t.okTo lim) (fun r hr => tk_shape (g1 r hr))
  rw [List.length_map] at m1
  exact ⟨x1, rfl, by unfold lim; omega, f1⟩
end Go.Proofs.YtanahnknjboplaaDoor
