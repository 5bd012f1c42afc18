/-
  Texts joined: XXh.
-/
import Derived.Test.YtdbbnhmnlgfjoaaMh
/-
  Layer 28: HeldDue holds: what waits is due behind as many ticks as it may wait.
-/
namespace Go.Proofs.Ytdbbnhmnlgfjoaa
set_option linter.unusedSimpArgs false
set_option linter.unusedVariables false
open Go Go.RowKit Go.Proofs.Ytdbbnhmnlgfjoaa.Vm

def lastK (p : Hd → Bool) (l : List Hd) : Nat → Int
  | 0 => 0
  | k + 1 => if (l[k]?.map p) = some true then (k + 1 : Nat) else lastK p l k
theorem lastK_le (p : Hd → Bool) (l : List Hd) : ∀ k, 0 ≤ lastK p l k ∧ lastK p l k ≤ k
  | 0 => ⟨Int.le_refl _, Int.le_refl _⟩
  | k + 1 => by
    have := lastK_le p l k
    unfold lastK
    split
    · omega
    · omega
theorem lastK_mono {p q : Hd → Bool} (h : ∀ x, p x = true → q x = true) (l : List Hd) : ∀ k, lastK p l k ≤ lastK q l k
  | 0 => Int.le_refl _
  | k + 1 => by
    have h1 := lastK_mono h l k
    have h2 := lastK_le p l k
    unfold lastK
    by_cases e : (l[k]?.map q) = some true
    · rw [if_pos e]; split <;> omega
    · rw [if_neg e]
      rw [if_neg (fun e' => e (by
        cases hx : l[k]? with
        | none => rw [hx] at e'; simp at e'
        | some x => rw [hx] at e'; simp only [Option.map_some, Option.some.injEq] at e' ⊢; exact h x e'))]
      exact h1
def leftLe (n : Int) (h : Hd) : Bool := decide (h.left ≤ n)
def dt (d : Desk) (i : Nat) : Desk := { d with held := d.held.map fun h => { h with left := max 0 (h.left - i) }, done := d.done.map fun x => { x with age := min 1000000 (x.age + i) } }
theorem map_id_of {α : Type} {f : α → α} : ∀ {l : List α}, (∀ x ∈ l, f x = x) → l.map f = l
  | [], _ => rfl
  | x :: l, h => by rw [List.map_cons, h x (by simp), map_id_of (fun y hy => h y (by simp [hy]))]
theorem dt_zero {d : Desk} (h : d.may = true) : dt d 0 = d := by
  obtain ⟨_, _, r3, r4⟩ := Desk.may_ranges h
  unfold dt
  rw [map_id_of (fun x hx => by have := r3 x hx; cases x; simp at this ⊢; omega), map_id_of (fun x hx => by have := r4 x hx; cases x; simp at this ⊢; omega)]
theorem dt_ticked (d : Desk) (i : Nat) : (dt d i).ticked = dt d (i + 1) := by
  unfold Desk.ticked dt
  simp only [List.map_map]
  congr 1
  · apply List.map_congr_left
    intro x _
    simp only [Function.comp, tickH]
    congr 1; push_cast; omega
  · apply List.map_congr_left
    intro x _
    simp only [Function.comp, tickD]
    congr 1; push_cast; omega
theorem hAll_map {f : Hd → Hd} (hf : ∀ h, h.may = true → (f h).may = true) (hr : ∀ h, (f h).rid = h.rid) (top : Int) : ∀ (l : List Hd) (k : Nat), hAll top k l = true → hAll top k (l.map f) = true
  | [], _, _ => rfl
  | h :: l, k, hh => by
    simp only [hAll, Bool.and_eq_true] at hh
    simp only [List.map_cons, hAll, Bool.and_eq_true, hr]
    exact ⟨⟨hf h hh.1.1, hh.1.2⟩, hAll_map hf hr top l (k + 1) hh.2⟩
theorem dAll_map {f : Dn → Dn} (hf : ∀ h, h.may = true → (f h).may = true) (hr : ∀ h, (f h).rid = h.rid) (top : Int) : ∀ (l : List Dn) (k : Nat), dAll top k l = true → dAll top k (l.map f) = true
  | [], _, _ => rfl
  | h :: l, k, hh => by
    simp only [dAll, Bool.and_eq_true] at hh
    simp only [List.map_cons, dAll, Bool.and_eq_true, hr]
    exact ⟨⟨hf h hh.1.1, hh.1.2⟩, dAll_map hf hr top l (k + 1) hh.2⟩
theorem dt_may {d : Desk} (h : d.may = true) (i : Nat) : (dt d i).may = true := by
  simp only [Desk.may, Desk.head, Bool.and_eq_true] at h ⊢
  obtain ⟨⟨⟨⟨⟨h1, h2⟩, h3⟩, h4⟩, h5⟩, h6⟩ := h
  refine ⟨⟨⟨⟨⟨h1, h2⟩, ?_⟩, ?_⟩, ?_⟩, ?_⟩
  · simpa [dt] using h3
  · simpa [dt] using h4
  · refine hAll_map (f := fun h => { h with left := max 0 (h.left - i) }) (fun x hx => ?_) (fun x => rfl) _ _ _ h5
    simp only [Hd.may, inRange, Bool.and_eq_true, decide_eq_true_eq] at hx ⊢
    obtain ⟨⟨⟨⟨⟨a1, a2⟩, a3⟩, a4⟩, a5⟩, a6⟩ := hx
    exact ⟨⟨⟨⟨⟨a1, a2⟩, by omega⟩, a4⟩, a5⟩, a6⟩
  · have := dAll_map (f := fun x => { x with age := min 1000000 (x.age + i) }) (fun x hx => ?_) (fun x => rfl) _ _ _ h6
    · simpa [dt] using this
    · simp only [Dn.may, inRange, Bool.and_eq_true, decide_eq_true_eq] at hx ⊢
      obtain ⟨⟨⟨a1, a2⟩, a3⟩, a4⟩ := hx
      exact ⟨⟨⟨a1, a2⟩, a3⟩, by omega⟩
theorem dt_due (d : Desk) (i : Nat) : (dt d i).due = lastK (leftLe (i + 1 : Nat)) d.held d.held.length := by
  unfold Desk.due
  have key : ∀ k, dueK (dt d i).held k = lastK (leftLe (i + 1 : Nat)) d.held k := by
    intro k
    induction k with
    | zero => rfl
    | succ k ih =>
      unfold dueK lastK
      rw [ih]
      have e : ((dt d i).held[k]?.map fun h => (max 0 (h.left - 1) == 0)) = d.held[k]?.map (leftLe (i + 1 : Nat)) := by
        simp only [dt, List.getElem?_map, Option.map_map]
        congr 1
        funext h
        simp only [Function.comp, leftLe]
        by_cases q : h.left ≤ ((i + 1 : Nat) : Int)
        · rw [decide_eq_true q, beq_iff_eq]; omega
        · rw [decide_eq_false q, beq_eq_false_iff_ne]; push_cast at q; omega
      rw [e]
  rw [key]; simp [dt]
def due0 (d : Desk) (k : Nat) : Int := if k = 0 then 0 else lastK (leftLe k) d.held d.held.length
theorem due0_le (d : Desk) (k : Nat) : due0 d k ≤ lastK (leftLe (k + 1 : Nat)) d.held d.held.length := by
  unfold due0
  split
  · exact (lastK_le _ _ _).1
  · exact lastK_mono (fun x hx => by simp only [leftLe, decide_eq_true_eq] at hx ⊢; push_cast; omega) _ _
theorem tickR_dt {d : Desk} (h : d.may = true) (k : Nat) : tickR (dt d k) = (dt d (k + 1), lastK (leftLe (k + 1 : Nat)) d.held d.held.length, 0) := by
  unfold tickR
  rw [if_pos (dt_may h k), dt_ticked, dt_due]
def JD1 (d : Desk) (n : Int) (b : Nat) (k : Nat) (e : Env) (M : Mem) : Prop := e 1 = .int .i64 n ∧ e 2 = .ptr b 0 0 ∧ M b = some ⟨4, [deskRow d]⟩ ∧ e 5 = .bool true ∧ e 6 = .int .i64 (lastK (leftLe n) d.held k) ∧ e 7 = .int .i64 k
def JD2 (d : Desk) (n : Int) (b : Nat) (k nm : Nat) (e : Env) (M : Mem) : Prop := e 1 = .int .i64 n ∧ e 5 = .bool true ∧ e 6 = .int .i64 (lastK (leftLe n) d.held d.held.length) ∧ e 9 = .int .i64 (due0 d k) ∧ e 10 = .int .i64 k ∧ ∃ q, b ≤ q ∧ q < nm ∧ e 8 = .ptr q 0 0 ∧ M q = some ⟨4, [deskRow (dt d k)]⟩
set_option maxHeartbeats 8000000 in
theorem due_main (d : Desk) (n : Nat) (fd : d.fits) (hmay : d.may = true) (h1 : 1 ≤ n) (h2 : n ≤ 70) (hg : d.great = false) (nm : Nat) : Ev cx 6 nm [deskV d, .int .i64 n] Mem.nil (.bool true) [] := by
  obtain ⟨r1, r2, _, _⟩ := Desk.may_ranges hmay
  have l1 : d.held.length ≤ lim := by unfold lim; omega
  have l2 : d.done.length ≤ lim := by unfold lim; omega
  have g1 : decide ((n : Int) < 1) = false := decide_eq_false (by omega)
  have g2 : decide ((70 : Int) < n) = false := decide_eq_false (by omega)
  refine ev_go (fun cargs w => Try.call6 cargs w) Try.func6 rfl mixed (by kernel_rfl) rfl ?_; intro b0 hb0
  repeat' first | simp only [Try.results6, Try.ntmps6, maxLen, Nat.reducePow, forall_eq', exists_eq', Prod.mk.injEq, g1, g2, hmay, hg, vcs, Nat.reduceAdd, Nat.reduceMul, Nat.reduceEqDiff, Nat.reduceLeDiff, Nat.reduceSub, Nat.reduceLT, Int.reduceToNat, Int.reduceLE, Int.reduceLT, Int.reduceAdd, Int.reduceSub, Int.reduceMul, Int.reduceNeg, reduceCtorEq, reduceIte, Int.reduceBEq, Int.reduceBNe, Int.reduceEq, Int.reduceNe, Nat.reduceBEq, Nat.reduceBNe, tys, plain_h, plain_d, flat_h, flat_d, List.length_map, List.getElem?_map, List.length_append, List.map_append, pick_false, pick_true, deskV] | exact rfl | (refine call_fn ?_ (alive_ev _) ?_; (focus (simp only [Try.results6, Try.ntmps6, maxLen, Nat.reducePow, forall_eq', exists_eq', Prod.mk.injEq, g1, g2, hmay, hg, vcs, Nat.reduceAdd, Nat.reduceMul, Nat.reduceEqDiff, Nat.reduceLeDiff, Nat.reduceSub, Nat.reduceLT, Int.reduceToNat, Int.reduceLE, Int.reduceLT, Int.reduceAdd, Int.reduceSub, Int.reduceMul, Int.reduceNeg, reduceCtorEq, reduceIte, Int.reduceBEq, Int.reduceBNe, Int.reduceEq, Int.reduceNe, Nat.reduceBEq, Nat.reduceBNe, tys, plain_h, plain_d, flat_h, flat_d, List.length_map, List.getElem?_map, List.length_append, List.map_append, pick_false, pick_true, deskV] <;> exact rfl))) | (refine call_fn_g ?_ (fun _ => alive_ev _) ?_; (focus (simp only [Try.results6, Try.ntmps6, maxLen, Nat.reducePow, forall_eq', exists_eq', Prod.mk.injEq, g1, g2, hmay, hg, vcs, Nat.reduceAdd, Nat.reduceMul, Nat.reduceEqDiff, Nat.reduceLeDiff, Nat.reduceSub, Nat.reduceLT, Int.reduceToNat, Int.reduceLE, Int.reduceLT, Int.reduceAdd, Int.reduceSub, Int.reduceMul, Int.reduceNeg, reduceCtorEq, reduceIte, Int.reduceBEq, Int.reduceBNe, Int.reduceEq, Int.reduceNe, Nat.reduceBEq, Nat.reduceBNe, tys, plain_h, plain_d, flat_h, flat_d, List.length_map, List.getElem?_map, List.length_append, List.map_append, pick_false, pick_true, deskV] <;> exact rfl))) | (refine call_fn ?_ (great_ev d fd _) ?_; (focus (simp only [Try.results6, Try.ntmps6, maxLen, Nat.reducePow, forall_eq', exists_eq', Prod.mk.injEq, g1, g2, hmay, hg, vcs, Nat.reduceAdd, Nat.reduceMul, Nat.reduceEqDiff, Nat.reduceLeDiff, Nat.reduceSub, Nat.reduceLT, Int.reduceToNat, Int.reduceLE, Int.reduceLT, Int.reduceAdd, Int.reduceSub, Int.reduceMul, Int.reduceNeg, reduceCtorEq, reduceIte, Int.reduceBEq, Int.reduceBNe, Int.reduceEq, Int.reduceNe, Nat.reduceBEq, Nat.reduceBNe, tys, plain_h, plain_d, flat_h, flat_d, List.length_map, List.getElem?_map, List.length_append, List.map_append, pick_false, pick_true, deskV] <;> exact rfl))) | (refine call_fn_g ?_ (fun _ => great_ev d fd _) ?_; (focus (simp only [Try.results6, Try.ntmps6, maxLen, Nat.reducePow, forall_eq', exists_eq', Prod.mk.injEq, g1, g2, hmay, hg, vcs, Nat.reduceAdd, Nat.reduceMul, Nat.reduceEqDiff, Nat.reduceLeDiff, Nat.reduceSub, Nat.reduceLT, Int.reduceToNat, Int.reduceLE, Int.reduceLT, Int.reduceAdd, Int.reduceSub, Int.reduceMul, Int.reduceNeg, reduceCtorEq, reduceIte, Int.reduceBEq, Int.reduceBNe, Int.reduceEq, Int.reduceNe, Nat.reduceBEq, Nat.reduceBNe, tys, plain_h, plain_d, flat_h, flat_d, List.length_map, List.getElem?_map, List.length_append, List.map_append, pick_false, pick_true, deskV] <;> exact rfl))) | (refine call_fn ?_ (Check_ev d l1 l2 _) ?_; (focus (simp only [Try.results6, Try.ntmps6, maxLen, Nat.reducePow, forall_eq', exists_eq', Prod.mk.injEq, g1, g2, hmay, hg, vcs, Nat.reduceAdd, Nat.reduceMul, Nat.reduceEqDiff, Nat.reduceLeDiff, Nat.reduceSub, Nat.reduceLT, Int.reduceToNat, Int.reduceLE, Int.reduceLT, Int.reduceAdd, Int.reduceSub, Int.reduceMul, Int.reduceNeg, reduceCtorEq, reduceIte, Int.reduceBEq, Int.reduceBNe, Int.reduceEq, Int.reduceNe, Nat.reduceBEq, Nat.reduceBNe, tys, plain_h, plain_d, flat_h, flat_d, List.length_map, List.getElem?_map, List.length_append, List.map_append, pick_false, pick_true, deskV] <;> exact rfl))) | (refine call_fn_g ?_ (fun _ => Check_ev d l1 l2 _) ?_; (focus (simp only [Try.results6, Try.ntmps6, maxLen, Nat.reducePow, forall_eq', exists_eq', Prod.mk.injEq, g1, g2, hmay, hg, vcs, Nat.reduceAdd, Nat.reduceMul, Nat.reduceEqDiff, Nat.reduceLeDiff, Nat.reduceSub, Nat.reduceLT, Int.reduceToNat, Int.reduceLE, Int.reduceLT, Int.reduceAdd, Int.reduceSub, Int.reduceMul, Int.reduceNeg, reduceCtorEq, reduceIte, Int.reduceBEq, Int.reduceBNe, Int.reduceEq, Int.reduceNe, Nat.reduceBEq, Nat.reduceBNe, tys, plain_h, plain_d, flat_h, flat_d, List.length_map, List.getElem?_map, List.length_append, List.map_append, pick_false, pick_true, deskV] <;> exact rfl))) | refine draw_end (by decide +kernel) ?_ | refine And.intro (by omega) ?_ | refine And.intro (fun hb => ?_) (fun hb => ?_) | fail
  refine loop_up d.held.length (fun k nm e M => JD1 d n b0 k e M ∧ b0 < nm) ?_ ?_
  · refine ⟨?_, by omega⟩
    simp only [JD1, deskRow, lastK, Int.natCast_zero, vcs, Nat.reduceAdd, Nat.reduceMul, Nat.reduceEqDiff, Nat.reduceLeDiff, Nat.reduceSub, Nat.reduceLT, Int.reduceToNat, Int.reduceLE, Int.reduceLT, Int.reduceAdd, Int.reduceSub, Int.reduceMul, Int.reduceNeg, reduceCtorEq, reduceIte, Int.reduceBEq, Int.reduceBNe, Int.reduceEq, Int.reduceNe, Nat.reduceBEq, Nat.reduceBNe, tys, plain_h, plain_d, flat_h, flat_d, List.length_map, List.getElem?_map, List.length_append, List.map_append, pick_false, pick_true, deskV]
  · rintro k nm e M hk ⟨⟨e1, e2, hM, e5, e6, e7⟩, hb⟩
    have p1 : ∀ c, (b0 = nm + c) = False := fun c => eq_false (by omega)
    have p2 : (b0 = nm) = False := eq_false (by omega)
    by_cases hlt : k < d.held.length
    · have wk := wrap_up hlt (by omega)
      obtain ⟨h, hh⟩ : ∃ h, d.held[k]? = some h := ⟨_, List.getElem?_eq_getElem hlt⟩
      cases hq : decide (h.left ≤ (n : Int))
      all_goals
        have hq' : leftLe (n : Int) h = _ := hq
        repeat' first | simp only [Try.results6, Try.ntmps6, maxLen, Nat.reducePow, forall_eq', exists_eq', Prod.mk.injEq, hh, hcells, deskRow, e1, e2, hM, e5, e6, e7, hlt, wk, hq, p1, p2, vcs, Nat.reduceAdd, Nat.reduceMul, Nat.reduceEqDiff, Nat.reduceLeDiff, Nat.reduceSub, Nat.reduceLT, Int.reduceToNat, Int.reduceLE, Int.reduceLT, Int.reduceAdd, Int.reduceSub, Int.reduceMul, Int.reduceNeg, reduceCtorEq, reduceIte, Int.reduceBEq, Int.reduceBNe, Int.reduceEq, Int.reduceNe, Nat.reduceBEq, Nat.reduceBNe, tys, plain_h, plain_d, flat_h, flat_d, List.length_map, List.getElem?_map, List.length_append, List.map_append, pick_false, pick_true, deskV] | exact rfl | refine draw_end (by decide +kernel) ?_ | refine And.intro (by omega) ?_ | refine And.intro (fun hb => ?_) (fun hb => ?_) | fail
        refine again_up hlt ⟨?_, by omega⟩
        simp only [JD1, lastK, hh, hq', deskRow, e1, e2, hM, e5, e6, e7, wk, p1, p2, vcs, Nat.reduceAdd, Nat.reduceMul, Nat.reduceEqDiff, Nat.reduceLeDiff, Nat.reduceSub, Nat.reduceLT, Int.reduceToNat, Int.reduceLE, Int.reduceLT, Int.reduceAdd, Int.reduceSub, Int.reduceMul, Int.reduceNeg, reduceCtorEq, reduceIte, Int.reduceBEq, Int.reduceBNe, Int.reduceEq, Int.reduceNe, Nat.reduceBEq, Nat.reduceBNe, tys, plain_h, plain_d, flat_h, flat_d, List.length_map, List.getElem?_map, List.length_append, List.map_append, pick_false, pick_true, deskV]
    · have hke : k = d.held.length := by omega
      subst hke
      repeat' first | simp only [Try.results6, Try.ntmps6, maxLen, Nat.reducePow, forall_eq', exists_eq', Prod.mk.injEq, deskRow, e1, e2, hM, e5, e6, e7, p1, p2, vcs, Nat.reduceAdd, Nat.reduceMul, Nat.reduceEqDiff, Nat.reduceLeDiff, Nat.reduceSub, Nat.reduceLT, Int.reduceToNat, Int.reduceLE, Int.reduceLT, Int.reduceAdd, Int.reduceSub, Int.reduceMul, Int.reduceNeg, reduceCtorEq, reduceIte, Int.reduceBEq, Int.reduceBNe, Int.reduceEq, Int.reduceNe, Nat.reduceBEq, Nat.reduceBNe, tys, plain_h, plain_d, flat_h, flat_d, List.length_map, List.getElem?_map, List.length_append, List.map_append, pick_false, pick_true, deskV] | exact rfl | refine draw_end (by decide +kernel) ?_ | refine And.intro (by omega) ?_ | refine And.intro (fun hb => ?_) (fun hb => ?_) | fail
      refine loop_up n (fun k nm e M => JD2 d n b0 k nm e M) ?_ ?_
      · refine ⟨?_, ?_, ?_, ?_, ?_, nm + 96, by omega, by omega, ?_, ?_⟩ <;> simp only [JD2, dt_zero hmay, due0, deskRow, e1, e2, hM, e5, e6, e7, Int.natCast_zero, vcs, Nat.reduceAdd, Nat.reduceMul, Nat.reduceEqDiff, Nat.reduceLeDiff, Nat.reduceSub, Nat.reduceLT, Int.reduceToNat, Int.reduceLE, Int.reduceLT, Int.reduceAdd, Int.reduceSub, Int.reduceMul, Int.reduceNeg, reduceCtorEq, reduceIte, Int.reduceBEq, Int.reduceBNe, Int.reduceEq, Int.reduceNe, Nat.reduceBEq, Nat.reduceBNe, tys, plain_h, plain_d, flat_h, flat_d, List.length_map, List.getElem?_map, List.length_append, List.map_append, pick_false, pick_true, deskV]
      · clear e1 e2 hM e5 e6 e7 hb p1 p2 hk hlt
        rintro k nm e M hk ⟨e1, e5, e6, e9, e10, q, q0, q1, e8, hM⟩
        obtain ⟨p1, p2⟩ := (⟨fun c => eq_false (by omega), eq_false (by omega)⟩ : (∀ c, (q = nm + c) = False) ∧ (q = nm) = False)
        by_cases hlt : k < n
        · have wk := wrap_up hlt (by omega)
          have ht := tickR_dt hmay k
          have hle := due0_le d k
          have hd : decide (lastK (leftLe (k + 1 : Nat)) d.held d.held.length < due0 d k) = false := decide_eq_false (by omega)
          have m1 := dt_may hmay (k + 1)
          have n1 : (dt d k).held.length ≤ lim := by simpa [dt] using l1
          have n2 : (dt d k).done.length ≤ lim := by simpa [dt] using l2
          have n3 : (dt d (k + 1)).held.length ≤ lim := by simpa [dt] using l1
          have n4 : (dt d (k + 1)).done.length ≤ lim := by simpa [dt] using l2
          repeat' first | simp only [Try.results6, Try.ntmps6, maxLen, Nat.reducePow, forall_eq', exists_eq', Prod.mk.injEq, ht, hd, m1, deskRow, e1, e5, e6, e8, e9, e10, hM, hlt, wk, p1, p2, vcs, Nat.reduceAdd, Nat.reduceMul, Nat.reduceEqDiff, Nat.reduceLeDiff, Nat.reduceSub, Nat.reduceLT, Int.reduceToNat, Int.reduceLE, Int.reduceLT, Int.reduceAdd, Int.reduceSub, Int.reduceMul, Int.reduceNeg, reduceCtorEq, reduceIte, Int.reduceBEq, Int.reduceBNe, Int.reduceEq, Int.reduceNe, Nat.reduceBEq, Nat.reduceBNe, tys, plain_h, plain_d, flat_h, flat_d, List.length_map, List.getElem?_map, List.length_append, List.map_append, pick_false, pick_true, deskV] | exact rfl | (refine call_F (xs := ?_) (xs' := ?_) [] ?_ ?_ ?_ ?_ ((tick_ev (dt d k) n1 n2 _).args_le ?_) ?_; rotate_left 2; (focus (simp only [Try.results6, Try.ntmps6, maxLen, Nat.reducePow, forall_eq', exists_eq', Prod.mk.injEq, ht, hd, m1, deskRow, e1, e5, e6, e8, e9, e10, hM, hlt, wk, p1, p2, vcs, Nat.reduceAdd, Nat.reduceMul, Nat.reduceEqDiff, Nat.reduceLeDiff, Nat.reduceSub, Nat.reduceLT, Int.reduceToNat, Int.reduceLE, Int.reduceLT, Int.reduceAdd, Int.reduceSub, Int.reduceMul, Int.reduceNeg, reduceCtorEq, reduceIte, Int.reduceBEq, Int.reduceBNe, Int.reduceEq, Int.reduceNe, Nat.reduceBEq, Nat.reduceBNe, tys, plain_h, plain_d, flat_h, flat_d, List.length_map, List.getElem?_map, List.length_append, List.map_append, pick_false, pick_true, deskV] <;> exact rfl)); (focus (simp only [finL, V.fin, newName_nil, only_at, List.mem_cons, List.not_mem_nil, Try.results6, Try.ntmps6, maxLen, Nat.reducePow, forall_eq', exists_eq', Prod.mk.injEq, ht, hd, m1, deskRow, e1, e5, e6, e8, e9, e10, hM, hlt, wk, p1, p2, vcs, Nat.reduceAdd, Nat.reduceMul, Nat.reduceEqDiff, Nat.reduceLeDiff, Nat.reduceSub, Nat.reduceLT, Int.reduceToNat, Int.reduceLE, Int.reduceLT, Int.reduceAdd, Int.reduceSub, Int.reduceMul, Int.reduceNeg, reduceCtorEq, reduceIte, Int.reduceBEq, Int.reduceBNe, Int.reduceEq, Int.reduceNe, Nat.reduceBEq, Nat.reduceBNe, tys, plain_h, plain_d, flat_h, flat_d, List.length_map, List.getElem?_map, List.length_append, List.map_append, pick_false, pick_true, deskV] <;> exact rfl)); (focus (simp only [newName_nil, only_at, List.mem_cons, List.not_mem_nil, Try.results6, Try.ntmps6, maxLen, Nat.reducePow, forall_eq', exists_eq', Prod.mk.injEq, ht, hd, m1, deskRow, e1, e5, e6, e8, e9, e10, hM, hlt, wk, p1, p2, vcs, Nat.reduceAdd, Nat.reduceMul, Nat.reduceEqDiff, Nat.reduceLeDiff, Nat.reduceSub, Nat.reduceLT, Int.reduceToNat, Int.reduceLE, Int.reduceLT, Int.reduceAdd, Int.reduceSub, Int.reduceMul, Int.reduceNeg, reduceCtorEq, reduceIte, Int.reduceBEq, Int.reduceBNe, Int.reduceEq, Int.reduceNe, Nat.reduceBEq, Nat.reduceBNe, tys, plain_h, plain_d, flat_h, flat_d, List.length_map, List.getElem?_map, List.length_append, List.map_append, pick_false, pick_true, deskV] <;> omega)); (focus (simp only [List.mem_cons, List.not_mem_nil, forall_eq, forall_eq_or_imp, Try.results6, Try.ntmps6, maxLen, Nat.reducePow, forall_eq', exists_eq', Prod.mk.injEq, ht, hd, m1, deskRow, e1, e5, e6, e8, e9, e10, hM, hlt, wk, p1, p2, vcs, Nat.reduceAdd, Nat.reduceMul, Nat.reduceEqDiff, Nat.reduceLeDiff, Nat.reduceSub, Nat.reduceLT, Int.reduceToNat, Int.reduceLE, Int.reduceLT, Int.reduceAdd, Int.reduceSub, Int.reduceMul, Int.reduceNeg, reduceCtorEq, reduceIte, Int.reduceBEq, Int.reduceBNe, Int.reduceEq, Int.reduceNe, Nat.reduceBEq, Nat.reduceBNe, tys, plain_h, plain_d, flat_h, flat_d, List.length_map, List.getElem?_map, List.length_append, List.map_append, pick_false, pick_true, deskV] <;> omega)); (focus (simp only [Try.results6, Try.ntmps6, maxLen, Nat.reducePow, forall_eq', exists_eq', Prod.mk.injEq, ht, hd, m1, deskRow, e1, e5, e6, e8, e9, e10, hM, hlt, wk, p1, p2, vcs, Nat.reduceAdd, Nat.reduceMul, Nat.reduceEqDiff, Nat.reduceLeDiff, Nat.reduceSub, Nat.reduceLT, Int.reduceToNat, Int.reduceLE, Int.reduceLT, Int.reduceAdd, Int.reduceSub, Int.reduceMul, Int.reduceNeg, reduceCtorEq, reduceIte, Int.reduceBEq, Int.reduceBNe, Int.reduceEq, Int.reduceNe, Nat.reduceBEq, Nat.reduceBNe, tys, plain_h, plain_d, flat_h, flat_d, List.length_map, List.getElem?_map, List.length_append, List.map_append, pick_false, pick_true, deskV]; done))) | (refine call_FG (xs := ?_) (xs' := ?_) [] ?_ (fun _ => ?_) (fun _ => ?_) ?_ (fun _ => ((tick_ev (dt d k) n1 n2 _).args_le ?_)) ?_; rotate_left 2; (focus (simp only [Try.results6, Try.ntmps6, maxLen, Nat.reducePow, forall_eq', exists_eq', Prod.mk.injEq, ht, hd, m1, deskRow, e1, e5, e6, e8, e9, e10, hM, hlt, wk, p1, p2, vcs, Nat.reduceAdd, Nat.reduceMul, Nat.reduceEqDiff, Nat.reduceLeDiff, Nat.reduceSub, Nat.reduceLT, Int.reduceToNat, Int.reduceLE, Int.reduceLT, Int.reduceAdd, Int.reduceSub, Int.reduceMul, Int.reduceNeg, reduceCtorEq, reduceIte, Int.reduceBEq, Int.reduceBNe, Int.reduceEq, Int.reduceNe, Nat.reduceBEq, Nat.reduceBNe, tys, plain_h, plain_d, flat_h, flat_d, List.length_map, List.getElem?_map, List.length_append, List.map_append, pick_false, pick_true, deskV] <;> exact rfl)); (focus (simp only [finL, V.fin, newName_nil, only_at, List.mem_cons, List.not_mem_nil, Try.results6, Try.ntmps6, maxLen, Nat.reducePow, forall_eq', exists_eq', Prod.mk.injEq, ht, hd, m1, deskRow, e1, e5, e6, e8, e9, e10, hM, hlt, wk, p1, p2, vcs, Nat.reduceAdd, Nat.reduceMul, Nat.reduceEqDiff, Nat.reduceLeDiff, Nat.reduceSub, Nat.reduceLT, Int.reduceToNat, Int.reduceLE, Int.reduceLT, Int.reduceAdd, Int.reduceSub, Int.reduceMul, Int.reduceNeg, reduceCtorEq, reduceIte, Int.reduceBEq, Int.reduceBNe, Int.reduceEq, Int.reduceNe, Nat.reduceBEq, Nat.reduceBNe, tys, plain_h, plain_d, flat_h, flat_d, List.length_map, List.getElem?_map, List.length_append, List.map_append, pick_false, pick_true, deskV] <;> exact rfl)); (focus (simp only [newName_nil, only_at, List.mem_cons, List.not_mem_nil, Try.results6, Try.ntmps6, maxLen, Nat.reducePow, forall_eq', exists_eq', Prod.mk.injEq, ht, hd, m1, deskRow, e1, e5, e6, e8, e9, e10, hM, hlt, wk, p1, p2, vcs, Nat.reduceAdd, Nat.reduceMul, Nat.reduceEqDiff, Nat.reduceLeDiff, Nat.reduceSub, Nat.reduceLT, Int.reduceToNat, Int.reduceLE, Int.reduceLT, Int.reduceAdd, Int.reduceSub, Int.reduceMul, Int.reduceNeg, reduceCtorEq, reduceIte, Int.reduceBEq, Int.reduceBNe, Int.reduceEq, Int.reduceNe, Nat.reduceBEq, Nat.reduceBNe, tys, plain_h, plain_d, flat_h, flat_d, List.length_map, List.getElem?_map, List.length_append, List.map_append, pick_false, pick_true, deskV] <;> omega)); (focus (simp only [List.mem_cons, List.not_mem_nil, forall_eq, forall_eq_or_imp, Try.results6, Try.ntmps6, maxLen, Nat.reducePow, forall_eq', exists_eq', Prod.mk.injEq, ht, hd, m1, deskRow, e1, e5, e6, e8, e9, e10, hM, hlt, wk, p1, p2, vcs, Nat.reduceAdd, Nat.reduceMul, Nat.reduceEqDiff, Nat.reduceLeDiff, Nat.reduceSub, Nat.reduceLT, Int.reduceToNat, Int.reduceLE, Int.reduceLT, Int.reduceAdd, Int.reduceSub, Int.reduceMul, Int.reduceNeg, reduceCtorEq, reduceIte, Int.reduceBEq, Int.reduceBNe, Int.reduceEq, Int.reduceNe, Nat.reduceBEq, Nat.reduceBNe, tys, plain_h, plain_d, flat_h, flat_d, List.length_map, List.getElem?_map, List.length_append, List.map_append, pick_false, pick_true, deskV] <;> omega)); (focus (simp only [Try.results6, Try.ntmps6, maxLen, Nat.reducePow, forall_eq', exists_eq', Prod.mk.injEq, ht, hd, m1, deskRow, e1, e5, e6, e8, e9, e10, hM, hlt, wk, p1, p2, vcs, Nat.reduceAdd, Nat.reduceMul, Nat.reduceEqDiff, Nat.reduceLeDiff, Nat.reduceSub, Nat.reduceLT, Int.reduceToNat, Int.reduceLE, Int.reduceLT, Int.reduceAdd, Int.reduceSub, Int.reduceMul, Int.reduceNeg, reduceCtorEq, reduceIte, Int.reduceBEq, Int.reduceBNe, Int.reduceEq, Int.reduceNe, Nat.reduceBEq, Nat.reduceBNe, tys, plain_h, plain_d, flat_h, flat_d, List.length_map, List.getElem?_map, List.length_append, List.map_append, pick_false, pick_true, deskV]; done))) | (refine call_fn ?_ (Check_ev (dt d (k + 1)) n3 n4 _) ?_; (focus (simp only [Try.results6, Try.ntmps6, maxLen, Nat.reducePow, forall_eq', exists_eq', Prod.mk.injEq, ht, hd, m1, deskRow, e1, e5, e6, e8, e9, e10, hM, hlt, wk, p1, p2, vcs, Nat.reduceAdd, Nat.reduceMul, Nat.reduceEqDiff, Nat.reduceLeDiff, Nat.reduceSub, Nat.reduceLT, Int.reduceToNat, Int.reduceLE, Int.reduceLT, Int.reduceAdd, Int.reduceSub, Int.reduceMul, Int.reduceNeg, reduceCtorEq, reduceIte, Int.reduceBEq, Int.reduceBNe, Int.reduceEq, Int.reduceNe, Nat.reduceBEq, Nat.reduceBNe, tys, plain_h, plain_d, flat_h, flat_d, List.length_map, List.getElem?_map, List.length_append, List.map_append, pick_false, pick_true, deskV] <;> exact rfl))) | (refine call_fn_g ?_ (fun _ => Check_ev (dt d (k + 1)) n3 n4 _) ?_; (focus (simp only [Try.results6, Try.ntmps6, maxLen, Nat.reducePow, forall_eq', exists_eq', Prod.mk.injEq, ht, hd, m1, deskRow, e1, e5, e6, e8, e9, e10, hM, hlt, wk, p1, p2, vcs, Nat.reduceAdd, Nat.reduceMul, Nat.reduceEqDiff, Nat.reduceLeDiff, Nat.reduceSub, Nat.reduceLT, Int.reduceToNat, Int.reduceLE, Int.reduceLT, Int.reduceAdd, Int.reduceSub, Int.reduceMul, Int.reduceNeg, reduceCtorEq, reduceIte, Int.reduceBEq, Int.reduceBNe, Int.reduceEq, Int.reduceNe, Nat.reduceBEq, Nat.reduceBNe, tys, plain_h, plain_d, flat_h, flat_d, List.length_map, List.getElem?_map, List.length_append, List.map_append, pick_false, pick_true, deskV] <;> exact rfl))) | refine draw_end (by decide +kernel) ?_ | refine And.intro (by omega) ?_ | refine And.intro (fun hb => ?_) (fun hb => ?_) | fail
          refine again_up hlt ⟨?_, ?_, ?_, ?_, ?_, q, by omega, by omega, ?_, ?_⟩ <;> simp only [due0, deskRow, e1, e5, e6, e8, e9, e10, hM, wk, p1, p2, vcs, Nat.reduceAdd, Nat.reduceMul, Nat.reduceEqDiff, Nat.reduceLeDiff, Nat.reduceSub, Nat.reduceLT, Int.reduceToNat, Int.reduceLE, Int.reduceLT, Int.reduceAdd, Int.reduceSub, Int.reduceMul, Int.reduceNeg, reduceCtorEq, reduceIte, Int.reduceBEq, Int.reduceBNe, Int.reduceEq, Int.reduceNe, Nat.reduceBEq, Nat.reduceBNe, tys, plain_h, plain_d, flat_h, flat_d, List.length_map, List.getElem?_map, List.length_append, List.map_append, pick_false, pick_true, deskV]
        · have hke : k = n := by omega
          subst hke
          have hk0 : (k = 0) = False := eq_false (by omega)
          ((repeat' first | simp only [Try.results6, Try.ntmps6, maxLen, Nat.reducePow, forall_eq', exists_eq', Prod.mk.injEq, due0, hk0, deskRow, e1, e5, e6, e8, e9, e10, hM, p1, p2, vcs, Nat.reduceAdd, Nat.reduceMul, Nat.reduceEqDiff, Nat.reduceLeDiff, Nat.reduceSub, Nat.reduceLT, Int.reduceToNat, Int.reduceLE, Int.reduceLT, Int.reduceAdd, Int.reduceSub, Int.reduceMul, Int.reduceNeg, reduceCtorEq, reduceIte, Int.reduceBEq, Int.reduceBNe, Int.reduceEq, Int.reduceNe, Nat.reduceBEq, Nat.reduceBNe, tys, plain_h, plain_d, flat_h, flat_d, List.length_map, List.getElem?_map, List.length_append, List.map_append, pick_false, pick_true, deskV] | exact rfl | refine draw_end (by decide +kernel) ?_ | refine And.intro (by omega) ?_ | refine And.intro (fun hb => ?_) (fun hb => ?_) | fail); (all_goals (first | (refine Fin.pure ?_ ?_ ?_ <;> (try simp only [Try.results6, Try.ntmps6, due0, hk0, deskRow, e1, e5, e6, e8, e9, e10, hM, p1, p2, vcs, Nat.reduceAdd, Nat.reduceMul, Nat.reduceEqDiff, Nat.reduceLeDiff, Nat.reduceSub, Nat.reduceLT, Int.reduceToNat, Int.reduceLE, Int.reduceLT, Int.reduceAdd, Int.reduceSub, Int.reduceMul, Int.reduceNeg, reduceCtorEq, reduceIte, Int.reduceBEq, Int.reduceBNe, Int.reduceEq, Int.reduceNe, Nat.reduceBEq, Nat.reduceBNe, tys, plain_h, plain_d, flat_h, flat_d, List.length_map, List.getElem?_map, List.length_append, List.map_append, pick_false, pick_true, deskV]) <;> (try simp only [V.bool.injEq, V.int.injEq, V.str.injEq, V.agg.injEq, V.tup.injEq, V.sl.injEq, V.own.injEq, List.cons.injEq, and_true, true_and, and_self])) | skip)))
theorem due_skip (d : Desk) (n : Int) (fd : d.fits) (l1 : d.held.length ≤ lim) (l2 : d.done.length ≤ lim) (h : d.great = true ∨ d.may = false ∨ n < 1 ∨ 70 < n) (nm : Nat) : Ev cx 6 nm [deskV d, .int .i64 n] Mem.nil (.bool true) [] := by
  have g : ((((d.great || ((if d.may = true then (0 : Int) else 8) != 0)) || decide (n < 1)) || decide (70 < n)) || false) = true := by
    rcases h with h | h | h | h <;> simp [h]
  refine ev_go (fun cargs w => Try.call6 cargs w) Try.func6 rfl mixed (by kernel_rfl) rfl ?_; intro b0 hb0
  ((repeat' first | simp only [Try.results6, Try.ntmps6, maxLen, Nat.reducePow, forall_eq', exists_eq', Prod.mk.injEq, g, vcs, Nat.reduceAdd, Nat.reduceMul, Nat.reduceEqDiff, Nat.reduceLeDiff, Nat.reduceSub, Nat.reduceLT, Int.reduceToNat, Int.reduceLE, Int.reduceLT, Int.reduceAdd, Int.reduceSub, Int.reduceMul, Int.reduceNeg, reduceCtorEq, reduceIte, Int.reduceBEq, Int.reduceBNe, Int.reduceEq, Int.reduceNe, Nat.reduceBEq, Nat.reduceBNe, tys, plain_h, plain_d, flat_h, flat_d, List.length_map, List.getElem?_map, List.length_append, List.map_append, pick_false, pick_true, deskV] | exact rfl | (refine call_fn ?_ (alive_ev _) ?_; (focus (simp only [Try.results6, Try.ntmps6, maxLen, Nat.reducePow, forall_eq', exists_eq', Prod.mk.injEq, g, vcs, Nat.reduceAdd, Nat.reduceMul, Nat.reduceEqDiff, Nat.reduceLeDiff, Nat.reduceSub, Nat.reduceLT, Int.reduceToNat, Int.reduceLE, Int.reduceLT, Int.reduceAdd, Int.reduceSub, Int.reduceMul, Int.reduceNeg, reduceCtorEq, reduceIte, Int.reduceBEq, Int.reduceBNe, Int.reduceEq, Int.reduceNe, Nat.reduceBEq, Nat.reduceBNe, tys, plain_h, plain_d, flat_h, flat_d, List.length_map, List.getElem?_map, List.length_append, List.map_append, pick_false, pick_true, deskV] <;> exact rfl))) | (refine call_fn_g ?_ (fun _ => alive_ev _) ?_; (focus (simp only [Try.results6, Try.ntmps6, maxLen, Nat.reducePow, forall_eq', exists_eq', Prod.mk.injEq, g, vcs, Nat.reduceAdd, Nat.reduceMul, Nat.reduceEqDiff, Nat.reduceLeDiff, Nat.reduceSub, Nat.reduceLT, Int.reduceToNat, Int.reduceLE, Int.reduceLT, Int.reduceAdd, Int.reduceSub, Int.reduceMul, Int.reduceNeg, reduceCtorEq, reduceIte, Int.reduceBEq, Int.reduceBNe, Int.reduceEq, Int.reduceNe, Nat.reduceBEq, Nat.reduceBNe, tys, plain_h, plain_d, flat_h, flat_d, List.length_map, List.getElem?_map, List.length_append, List.map_append, pick_false, pick_true, deskV] <;> exact rfl))) | (refine call_fn ?_ (great_ev d fd _) ?_; (focus (simp only [Try.results6, Try.ntmps6, maxLen, Nat.reducePow, forall_eq', exists_eq', Prod.mk.injEq, g, vcs, Nat.reduceAdd, Nat.reduceMul, Nat.reduceEqDiff, Nat.reduceLeDiff, Nat.reduceSub, Nat.reduceLT, Int.reduceToNat, Int.reduceLE, Int.reduceLT, Int.reduceAdd, Int.reduceSub, Int.reduceMul, Int.reduceNeg, reduceCtorEq, reduceIte, Int.reduceBEq, Int.reduceBNe, Int.reduceEq, Int.reduceNe, Nat.reduceBEq, Nat.reduceBNe, tys, plain_h, plain_d, flat_h, flat_d, List.length_map, List.getElem?_map, List.length_append, List.map_append, pick_false, pick_true, deskV] <;> exact rfl))) | (refine call_fn_g ?_ (fun _ => great_ev d fd _) ?_; (focus (simp only [Try.results6, Try.ntmps6, maxLen, Nat.reducePow, forall_eq', exists_eq', Prod.mk.injEq, g, vcs, Nat.reduceAdd, Nat.reduceMul, Nat.reduceEqDiff, Nat.reduceLeDiff, Nat.reduceSub, Nat.reduceLT, Int.reduceToNat, Int.reduceLE, Int.reduceLT, Int.reduceAdd, Int.reduceSub, Int.reduceMul, Int.reduceNeg, reduceCtorEq, reduceIte, Int.reduceBEq, Int.reduceBNe, Int.reduceEq, Int.reduceNe, Nat.reduceBEq, Nat.reduceBNe, tys, plain_h, plain_d, flat_h, flat_d, List.length_map, List.getElem?_map, List.length_append, List.map_append, pick_false, pick_true, deskV] <;> exact rfl))) | (refine call_fn ?_ (Check_ev d l1 l2 _) ?_; (focus (simp only [Try.results6, Try.ntmps6, maxLen, Nat.reducePow, forall_eq', exists_eq', Prod.mk.injEq, g, vcs, Nat.reduceAdd, Nat.reduceMul, Nat.reduceEqDiff, Nat.reduceLeDiff, Nat.reduceSub, Nat.reduceLT, Int.reduceToNat, Int.reduceLE, Int.reduceLT, Int.reduceAdd, Int.reduceSub, Int.reduceMul, Int.reduceNeg, reduceCtorEq, reduceIte, Int.reduceBEq, Int.reduceBNe, Int.reduceEq, Int.reduceNe, Nat.reduceBEq, Nat.reduceBNe, tys, plain_h, plain_d, flat_h, flat_d, List.length_map, List.getElem?_map, List.length_append, List.map_append, pick_false, pick_true, deskV] <;> exact rfl))) | (refine call_fn_g ?_ (fun _ => Check_ev d l1 l2 _) ?_; (focus (simp only [Try.results6, Try.ntmps6, maxLen, Nat.reducePow, forall_eq', exists_eq', Prod.mk.injEq, g, vcs, Nat.reduceAdd, Nat.reduceMul, Nat.reduceEqDiff, Nat.reduceLeDiff, Nat.reduceSub, Nat.reduceLT, Int.reduceToNat, Int.reduceLE, Int.reduceLT, Int.reduceAdd, Int.reduceSub, Int.reduceMul, Int.reduceNeg, reduceCtorEq, reduceIte, Int.reduceBEq, Int.reduceBNe, Int.reduceEq, Int.reduceNe, Nat.reduceBEq, Nat.reduceBNe, tys, plain_h, plain_d, flat_h, flat_d, List.length_map, List.getElem?_map, List.length_append, List.map_append, pick_false, pick_true, deskV] <;> exact rfl))) | refine draw_end (by decide +kernel) ?_ | refine And.intro (by omega) ?_ | refine And.intro (fun hb => ?_) (fun hb => ?_) | fail); (all_goals (first | (refine Fin.pure ?_ ?_ ?_ <;> (try simp only [Try.results6, Try.ntmps6, g, vcs, Nat.reduceAdd, Nat.reduceMul, Nat.reduceEqDiff, Nat.reduceLeDiff, Nat.reduceSub, Nat.reduceLT, Int.reduceToNat, Int.reduceLE, Int.reduceLT, Int.reduceAdd, Int.reduceSub, Int.reduceMul, Int.reduceNeg, reduceCtorEq, reduceIte, Int.reduceBEq, Int.reduceBNe, Int.reduceEq, Int.reduceNe, Nat.reduceBEq, Nat.reduceBNe, tys, plain_h, plain_d, flat_h, flat_d, List.length_map, List.getElem?_map, List.length_append, List.map_append, pick_false, pick_true, deskV]) <;> (try simp only [V.bool.injEq, V.int.injEq, V.str.injEq, V.agg.injEq, V.tup.injEq, V.sl.injEq, V.own.injEq, List.cons.injEq, and_true, true_and, and_self])) | skip)))
theorem heldDue_args (xs : List V) (h : ShapeArgs cx.P Try.f6.params.toList xs) : Ev cx 6 0 xs Mem.nil (.bool true) [] := by
  rw [Try.params6] at h
  obtain ⟨_, v1, _, rfl, h1, _, v2, _, rfl, h2, h6⟩ := h
  obtain rfl := args_nil h6
  obtain ⟨d, rfl, fd, _⟩ := desk_shape h1
  obtain ⟨n, rfl, _⟩ := shape_int kind_3 h2
  rw [argV_struct kind_25, argV_one kind_3 (by simp)]
  by_cases hs : d.great = true ∨ d.may = false ∨ n < 1 ∨ 70 < n
  · exact due_skip d n fd fd.1 fd.2.1 hs 0
  · simp only [not_or, Bool.not_eq_true, Bool.not_eq_false] at hs
    obtain ⟨k, rfl⟩ : ∃ k : Nat, n = k := ⟨n.toNat, by omega⟩
    exact due_main d k fd hs.2.1 (by omega) (by omega) hs.1 0
end Go.Proofs.Ytdbbnhmnlgfjoaa
