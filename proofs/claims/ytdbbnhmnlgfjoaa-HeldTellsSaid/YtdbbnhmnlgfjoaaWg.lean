/-
  Layer 28: the document's ticks and lost connections.
-/
import Derived.Test.YtdbbnhmnlgfjoaaWf
namespace Go.Proofs.Ytdbbnhmnlgfjoaa
set_option linter.unusedSimpArgs false
set_option linter.unusedVariables false
open Go Go.RowKit Go.Proofs.Ytdbbnhmnlgfjoaa.Vm

/-- A list whose first k are changed. -/
def updTo {α : Type} (f : α → α) (k : Nat) (l : List α) : List α := (l.take k).map f ++ l.drop k
theorem updTo_zero {α : Type} (f : α → α) (l : List α) : updTo f 0 l = l := by simp [updTo]
theorem updTo_length {α : Type} (f : α → α) (k : Nat) (l : List α) : (updTo f k l).length = l.length := by simp [updTo]; omega
theorem updTo_all {α : Type} (f : α → α) (l : List α) : updTo f l.length l = l.map f := by simp [updTo]
theorem updTo_get {α : Type} (f : α → α) {k : Nat} {l : List α} {x : α} (h : l[k]? = some x) : (updTo f k l)[k]? = some x := by
  have hlt := (List.getElem?_eq_some_iff.1 h).1
  unfold updTo
  rw [List.getElem?_append_right (by simp; omega)]
  simp only [List.length_map, List.length_take, List.getElem?_drop]
  rw [show k + (k - min k l.length) = k by omega, h]
theorem updTo_set {α β : Type} (f : α → α) (g : α → β) {k : Nat} {l : List α} {x : α} (h : l[k]? = some x) : ((updTo f k l).map g).set k (g (f x)) = (updTo f (k + 1) l).map g := by
  have hlt := (List.getElem?_eq_some_iff.1 h).1
  unfold updTo
  rw [List.take_add_one, h, show l.drop k = x :: l.drop (k + 1) by rw [List.drop_eq_getElem_cons hlt]; congr 1; exact (List.getElem?_eq_some_iff.1 h).2]
  simp only [List.map_append, List.map_map, Option.toList_some, List.map_cons, List.map_nil, List.append_assoc, List.cons_append, List.nil_append]
  rw [List.set_append_right _ _ (by simp; omega)]
  simp only [List.length_map, List.length_take]
  rw [show k - min k l.length = 0 by omega, List.set_cons_zero]
theorem updTo_got {α : Type} (f : α → α) {k : Nat} {l : List α} {x : α} (h : l[k]? = some x) : (updTo f (k + 1) l)[k]? = some (f x) := by
  have hlt := (List.getElem?_eq_some_iff.1 h).1
  unfold updTo
  rw [List.getElem?_append_left (by simp; omega), List.getElem?_map, List.getElem?_take, if_pos (by omega), h]; rfl
def tickH (h : Hd) : Hd := { h with left := max 0 (h.left - 1) }
def tickD (x : Dn) : Dn := { x with age := min 1000000 (x.age + 1) }
def dueK (l : List Hd) : Nat → Int
  | 0 => 0
  | k + 1 => if (l[k]?.map fun h => (max 0 (h.left - 1) == 0)) = some true then (k + 1 : Nat) else dueK l k
def Desk.ticked (d : Desk) : Desk := { d with held := d.held.map tickH, done := d.done.map tickD }
def Desk.due (d : Desk) : Int := dueK d.held d.held.length
def ownRow (x y : Nat) (d : Desk) : List V := [.own x 0 d.held.length, .own y 0 d.done.length, .int .i64 d.top, .int .i64 d.size]
def JT1 (d : Desk) (p x y : Nat) (k nm : Nat) (e : Env) (M : Mem) : Prop := e 1 = .ptr p 0 0 ∧ M p = some ⟨4, [ownRow x y d]⟩ ∧ M x = some ⟨6, (updTo tickH k d.held).map hcells⟩ ∧ M y = some ⟨4, d.done.map dcells⟩ ∧ e 5 = .int .i64 k ∧ e 4 = .int .i64 (dueK d.held k) ∧ e 2 = .ptr (p + 16) 0 0 ∧ M (p + 16) = some ⟨4, [[.nils, .nils, .int .i64 0, .int .i64 0]]⟩
def JT2 (d : Desk) (p x y : Nat) (k nm : Nat) (e : Env) (M : Mem) : Prop := e 1 = .ptr p 0 0 ∧ M p = some ⟨4, [ownRow x y d]⟩ ∧ M x = some ⟨6, (d.held.map tickH).map hcells⟩ ∧ M y = some ⟨4, (updTo tickD k d.done).map dcells⟩ ∧ e 6 = .int .i64 k ∧ e 4 = .int .i64 d.due ∧ e 2 = .ptr (p + 16) 0 0 ∧ M (p + 16) = some ⟨4, [[.nils, .nils, .int .i64 0, .int .i64 0]]⟩
set_option maxHeartbeats 2000000 in
theorem ticked_own (d : Desk) (hn : d.held.length ≤ 1000) (hm : d.done.length ≤ 1000) (hh1 : ∀ h ∈ d.held, 0 ≤ h.left ∧ h.left ≤ 60) (hd1 : ∀ x ∈ d.done, 0 ≤ x.age ∧ x.age ≤ 1000000) (nm : Nat) : Ev cx 32 nm [deskV d] Mem.nil (.tup [deskO nm d.ticked, .int .i64 d.due]) (deskE nm d.ticked) := by
  refine ev_go (fun cargs w => Try.call32 cargs w) Try.func32 rfl mixed (by kernel_rfl) rfl ?_
  intro b0 hb0
  simp only [deskV]
  repeat (first | refine draw_end (by decide +kernel) ?_ | simp only [vcs, Nat.reduceAdd, Nat.reduceMul, Nat.reduceEqDiff, Nat.reduceLeDiff, Nat.reduceSub, Nat.reduceLT, Int.reduceToNat, Int.reduceLE, Int.reduceLT, Int.reduceAdd, Int.reduceSub, Int.reduceMul, Int.reduceNeg, reduceCtorEq, reduceIte, Int.reduceBEq, Int.reduceBNe, Int.reduceEq, Int.reduceNe, Nat.reduceBEq, Nat.reduceBNe, tys, plain_h, plain_d, List.length_map, List.getElem?_map, deskO, deskE, updTo_length, List.length_set])
  refine call_fn_new (by simp only [vcs, Nat.reduceAdd, Nat.reduceMul, Nat.reduceEqDiff, Nat.reduceLeDiff, Nat.reduceSub, Nat.reduceLT, Int.reduceToNat, Int.reduceLE, Int.reduceLT, Int.reduceAdd, Int.reduceSub, Int.reduceMul, Int.reduceNeg, reduceCtorEq, reduceIte, Int.reduceBEq, Int.reduceBNe, Int.reduceEq, Int.reduceNe, Nat.reduceBEq, Nat.reduceBNe, tys, plain_h, plain_d, List.length_map, List.getElem?_map, deskO, deskE, updTo_length, List.length_set] <;> rfl) (refTwin_own d hn hm _) (by simp only [List.mem_cons, List.not_mem_nil, forall_eq, forall_eq_or_imp, vcs, Nat.reduceAdd, Nat.reduceMul, Nat.reduceEqDiff, Nat.reduceLeDiff, Nat.reduceSub, Nat.reduceLT, Int.reduceToNat, Int.reduceLE, Int.reduceLT, Int.reduceAdd, Int.reduceSub, Int.reduceMul, Int.reduceNeg, reduceCtorEq, reduceIte, Int.reduceBEq, Int.reduceBNe, Int.reduceEq, Int.reduceNe, Nat.reduceBEq, Nat.reduceBNe, tys, plain_h, plain_d, List.length_map, List.getElem?_map, deskO, deskE, updTo_length, List.length_set] <;> omega) ?_
  repeat (first | refine draw_end (by decide +kernel) ?_ | simp only [vcs, Nat.reduceAdd, Nat.reduceMul, Nat.reduceEqDiff, Nat.reduceLeDiff, Nat.reduceSub, Nat.reduceLT, Int.reduceToNat, Int.reduceLE, Int.reduceLT, Int.reduceAdd, Int.reduceSub, Int.reduceMul, Int.reduceNeg, reduceCtorEq, reduceIte, Int.reduceBEq, Int.reduceBNe, Int.reduceEq, Int.reduceNe, Nat.reduceBEq, Nat.reduceBNe, tys, plain_h, plain_d, List.length_map, List.getElem?_map, deskO, deskE, updTo_length, List.length_set])
  refine loop_up d.held.length (JT1 d b0 (b0 + 64) (b0 + 65)) ?_ ?_
  · simp only [JT1, ownRow, updTo_zero, dueK, Int.natCast_zero, vcs, Nat.reduceAdd, Nat.reduceMul, Nat.reduceEqDiff, Nat.reduceLeDiff, Nat.reduceSub, Nat.reduceLT, Int.reduceToNat, Int.reduceLE, Int.reduceLT, Int.reduceAdd, Int.reduceSub, Int.reduceMul, Int.reduceNeg, reduceCtorEq, reduceIte, Int.reduceBEq, Int.reduceBNe, Int.reduceEq, Int.reduceNe, Nat.reduceBEq, Nat.reduceBNe, tys, plain_h, plain_d, List.length_map, List.getElem?_map, deskO, deskE, updTo_length, List.length_set]
  · rintro k nm e M hk ⟨e1, hM, hMx, hMy, e5, e4, e2, hM2⟩
    by_cases hlt : k < d.held.length
    · have wk := wrap_up hlt (by omega)
      obtain ⟨h, hh⟩ : ∃ h, d.held[k]? = some h := ⟨_, List.getElem?_eq_getElem hlt⟩
      have hu := updTo_get tickH hh
      have hb := hh1 h (List.mem_of_getElem? hh)
      have hw : IntKind.i64.wrap (h.left - 1) = h.left - 1 := wrap_in (by omega) (by omega)
      have hs : ((updTo tickH k d.held).map hcells).set k [.int .i64 h.rid, .int .i64 h.conn, .int .i64 (max 0 (h.left - 1)), .str h.body, .int .i64 h.report, .int .i64 h.time] = (updTo tickH (k + 1) d.held).map hcells := updTo_set tickH hcells hh
      have hu2 := updTo_got tickH hh
      repeat (first | refine draw_end (by decide +kernel) ?_ | simp only [hu, hu2, hs, hcells, tickH, ownRow, e1, hM, hMx, hMy, e5, e4, e2, hM2, hlt, wk, hw, vcs, Nat.reduceAdd, Nat.reduceMul, Nat.reduceEqDiff, Nat.reduceLeDiff, Nat.reduceSub, Nat.reduceLT, Int.reduceToNat, Int.reduceLE, Int.reduceLT, Int.reduceAdd, Int.reduceSub, Int.reduceMul, Int.reduceNeg, reduceCtorEq, reduceIte, Int.reduceBEq, Int.reduceBNe, Int.reduceEq, Int.reduceNe, Nat.reduceBEq, Nat.reduceBNe, tys, plain_h, plain_d, List.length_map, List.getElem?_map, deskO, deskE, updTo_length, List.length_set])
      constructor
      · intro hb
        refine again_up hlt ?_
        simp only [JT1, ownRow, e1, hM, hMx, hMy, e5, e4, e2, hM2, hs, dueK, hh, wk, hb, vcs, Nat.reduceAdd, Nat.reduceMul, Nat.reduceEqDiff, Nat.reduceLeDiff, Nat.reduceSub, Nat.reduceLT, Int.reduceToNat, Int.reduceLE, Int.reduceLT, Int.reduceAdd, Int.reduceSub, Int.reduceMul, Int.reduceNeg, reduceCtorEq, reduceIte, Int.reduceBEq, Int.reduceBNe, Int.reduceEq, Int.reduceNe, Nat.reduceBEq, Nat.reduceBNe, tys, plain_h, plain_d, List.length_map, List.getElem?_map, deskO, deskE, updTo_length, List.length_set]
      · intro hb
        refine again_up hlt ?_
        simp only [JT1, ownRow, e1, hM, hMx, hMy, e5, e4, e2, hM2, hs, dueK, hh, wk, hb, vcs, Nat.reduceAdd, Nat.reduceMul, Nat.reduceEqDiff, Nat.reduceLeDiff, Nat.reduceSub, Nat.reduceLT, Int.reduceToNat, Int.reduceLE, Int.reduceLT, Int.reduceAdd, Int.reduceSub, Int.reduceMul, Int.reduceNeg, reduceCtorEq, reduceIte, Int.reduceBEq, Int.reduceBNe, Int.reduceEq, Int.reduceNe, Nat.reduceBEq, Nat.reduceBNe, tys, plain_h, plain_d, List.length_map, List.getElem?_map, deskO, deskE, updTo_length, List.length_set]
    · have hke : k = d.held.length := by omega
      subst hke
      rw [updTo_all] at hMx
      repeat (first | refine draw_end (by decide +kernel) ?_ | simp only [ownRow, e1, hM, hMx, hMy, e5, e4, e2, hM2, vcs, Nat.reduceAdd, Nat.reduceMul, Nat.reduceEqDiff, Nat.reduceLeDiff, Nat.reduceSub, Nat.reduceLT, Int.reduceToNat, Int.reduceLE, Int.reduceLT, Int.reduceAdd, Int.reduceSub, Int.reduceMul, Int.reduceNeg, reduceCtorEq, reduceIte, Int.reduceBEq, Int.reduceBNe, Int.reduceEq, Int.reduceNe, Nat.reduceBEq, Nat.reduceBNe, tys, plain_h, plain_d, List.length_map, List.getElem?_map, deskO, deskE, updTo_length, List.length_set])
      refine loop_up d.done.length (JT2 d b0 (b0 + 64) (b0 + 65)) ?_ ?_
      · simp only [JT2, Desk.due, ownRow, updTo_zero, e1, hM, hMx, hMy, e5, e4, e2, hM2, Int.natCast_zero, vcs, Nat.reduceAdd, Nat.reduceMul, Nat.reduceEqDiff, Nat.reduceLeDiff, Nat.reduceSub, Nat.reduceLT, Int.reduceToNat, Int.reduceLE, Int.reduceLT, Int.reduceAdd, Int.reduceSub, Int.reduceMul, Int.reduceNeg, reduceCtorEq, reduceIte, Int.reduceBEq, Int.reduceBNe, Int.reduceEq, Int.reduceNe, Nat.reduceBEq, Nat.reduceBNe, tys, plain_h, plain_d, List.length_map, List.getElem?_map, deskO, deskE, updTo_length, List.length_set]
      · clear e1 hM hMx hMy e5 e4 e2 hM2 hlt hk
        rintro k nm e M hk ⟨e1, hM, hMx, hMy, e6, e4, e2, hM2⟩
        by_cases hlt : k < d.done.length
        · have wk := wrap_up hlt (by omega)
          obtain ⟨h, hh⟩ : ∃ h, d.done[k]? = some h := ⟨_, List.getElem?_eq_getElem hlt⟩
          have hu := updTo_get tickD hh
          have hb := hd1 h (List.mem_of_getElem? hh)
          have hw : IntKind.i64.wrap (h.age + 1) = h.age + 1 := wrap_in (by omega) (by omega)
          have hs : ((updTo tickD k d.done).map dcells).set k [.int .i64 h.rid, .str h.body, .str h.text, .int .i64 (min 1000000 (h.age + 1))] = (updTo tickD (k + 1) d.done).map dcells := updTo_set tickD dcells hh
          repeat (first | refine draw_end (by decide +kernel) ?_ | simp only [hu, hs, dcells, ownRow, e1, hM, hMx, hMy, e6, e4, e2, hM2, hlt, wk, hw, vcs, Nat.reduceAdd, Nat.reduceMul, Nat.reduceEqDiff, Nat.reduceLeDiff, Nat.reduceSub, Nat.reduceLT, Int.reduceToNat, Int.reduceLE, Int.reduceLT, Int.reduceAdd, Int.reduceSub, Int.reduceMul, Int.reduceNeg, reduceCtorEq, reduceIte, Int.reduceBEq, Int.reduceBNe, Int.reduceEq, Int.reduceNe, Nat.reduceBEq, Nat.reduceBNe, tys, plain_h, plain_d, List.length_map, List.getElem?_map, deskO, deskE, updTo_length, List.length_set])
          refine again_up hlt ?_
          simp only [JT2, ownRow, e1, hM, hMx, hMy, e6, e4, e2, hM2, hs, hh, wk, vcs, Nat.reduceAdd, Nat.reduceMul, Nat.reduceEqDiff, Nat.reduceLeDiff, Nat.reduceSub, Nat.reduceLT, Int.reduceToNat, Int.reduceLE, Int.reduceLT, Int.reduceAdd, Int.reduceSub, Int.reduceMul, Int.reduceNeg, reduceCtorEq, reduceIte, Int.reduceBEq, Int.reduceBNe, Int.reduceEq, Int.reduceNe, Nat.reduceBEq, Nat.reduceBNe, tys, plain_h, plain_d, List.length_map, List.getElem?_map, deskO, deskE, updTo_length, List.length_set]
        · have hke : k = d.done.length := by omega
          subst hke
          rw [updTo_all] at hMy
          repeat (first | refine draw_end (by decide +kernel) ?_ | simp only [ownRow, e1, hM, hMx, hMy, e6, e4, e2, hM2, vcs, Nat.reduceAdd, Nat.reduceMul, Nat.reduceEqDiff, Nat.reduceLeDiff, Nat.reduceSub, Nat.reduceLT, Int.reduceToNat, Int.reduceLE, Int.reduceLT, Int.reduceAdd, Int.reduceSub, Int.reduceMul, Int.reduceNeg, reduceCtorEq, reduceIte, Int.reduceBEq, Int.reduceBNe, Int.reduceEq, Int.reduceNe, Nat.reduceBEq, Nat.reduceBNe, tys, plain_h, plain_d, List.length_map, List.getElem?_map, deskO, deskE, updTo_length, List.length_set])
          (refine Fin.own [] [(b0 + 64, 0), (b0 + 65, 1)] ?_ ?_ ?_ ?_ ?_ <;> simp only [ghosts_nil, ghosts_cons, sigOk, sigE, sigN, newName_nil, newName_cons, List.mem_cons, List.not_mem_nil, or_false, forall_eq, forall_eq_or_imp, ne_eq, Nat.le_add_right, not_false_eq_true, not_true_eq_false, Desk.ticked, ownRow, e1, hM, hMx, hMy, e6, e4, e2, hM2, Try.results32, Try.ntmps32, vcs, Nat.reduceAdd, Nat.reduceMul, Nat.reduceEqDiff, Nat.reduceLeDiff, Nat.reduceSub, Nat.reduceLT, Int.reduceToNat, Int.reduceLE, Int.reduceLT, Int.reduceAdd, Int.reduceSub, Int.reduceMul, Int.reduceNeg, reduceCtorEq, reduceIte, Int.reduceBEq, Int.reduceBNe, Int.reduceEq, Int.reduceNe, Nat.reduceBEq, Nat.reduceBNe, tys, plain_h, plain_d, List.length_map, List.getElem?_map, deskO, deskE, updTo_length, List.length_set])
theorem Desk.may_ranges {d : Desk} (h : d.may = true) : d.held.length ≤ 4 ∧ d.done.length ≤ 3 ∧ (∀ h ∈ d.held, 0 ≤ h.left ∧ h.left ≤ 60) ∧ ∀ x ∈ d.done, 0 ≤ x.age ∧ x.age ≤ 1000000 := by
  simp only [Desk.may, Desk.head, Bool.and_eq_true, inRange, decide_eq_true_eq] at h
  obtain ⟨⟨⟨⟨⟨h1, _⟩, h2⟩, h3⟩, h4⟩, h5⟩ := h
  have ha : ∀ (l : List Hd) (t : Int) (k : Nat), hAll t k l = true → ∀ h ∈ l, h.may = true := by
    intro l
    induction l with
    | nil => intro t k _ h hm; cases hm
    | cons x r ih =>
      intro t k hh h hm
      simp only [hAll, Bool.and_eq_true] at hh
      rcases List.mem_cons.1 hm with rfl | hm
      · exact hh.1.1
      · exact ih _ _ hh.2 h hm
  have hb : ∀ (l : List Dn) (t : Int) (k : Nat), dAll t k l = true → ∀ h ∈ l, h.may = true := by
    intro l
    induction l with
    | nil => intro t k _ h hm; cases hm
    | cons x r ih =>
      intro t k hh h hm
      simp only [dAll, Bool.and_eq_true] at hh
      rcases List.mem_cons.1 hm with rfl | hm
      · exact hh.1.1
      · exact ih _ _ hh.2 h hm
  refine ⟨by omega, by omega, fun h hm => ?_, fun x hm => ?_⟩
  · have := ha _ _ _ h4 h hm
    simp only [Hd.may, inRange, Bool.and_eq_true, decide_eq_true_eq] at this
    exact this.1.1.1.2
  · have := hb _ _ _ h5 x hm
    simp only [Dn.may, inRange, Bool.and_eq_true, decide_eq_true_eq] at this
    exact this.2
set_option maxHeartbeats 2000000 in
theorem refTick_good (d : Desk) (hmay : d.may = true) (nm : Nat) : Ev cx 12 nm [deskV d] Mem.nil (.tup [deskO nm d.ticked, .int .i64 d.due, .int .i64 0]) (deskE nm d.ticked) := by
  obtain ⟨r1, r2, r3, r4⟩ := Desk.may_ranges hmay
  refine ev_go (fun cargs w => Try.call12 cargs w) Try.func12 rfl mixed (by kernel_rfl) rfl ?_
  intro b0 hb0
  simp only [deskV]
  repeat (first | refine draw_end (by decide +kernel) ?_ | simp only [vcs, Nat.reduceAdd, Nat.reduceMul, Nat.reduceEqDiff, Nat.reduceLeDiff, Nat.reduceSub, Nat.reduceLT, Int.reduceToNat, Int.reduceLE, Int.reduceLT, Int.reduceAdd, Int.reduceSub, Int.reduceMul, Int.reduceNeg, reduceCtorEq, reduceIte, Int.reduceBEq, Int.reduceBNe, Int.reduceEq, Int.reduceNe, Nat.reduceBEq, Nat.reduceBNe, tys, plain_h, plain_d, List.length_map, List.getElem?_map, deskO, deskE, updTo_length, List.length_set])
  refine call_fn (by simp only [vcs, Nat.reduceAdd, Nat.reduceMul, Nat.reduceEqDiff, Nat.reduceLeDiff, Nat.reduceSub, Nat.reduceLT, Int.reduceToNat, Int.reduceLE, Int.reduceLT, Int.reduceAdd, Int.reduceSub, Int.reduceMul, Int.reduceNeg, reduceCtorEq, reduceIte, Int.reduceBEq, Int.reduceBNe, Int.reduceEq, Int.reduceNe, Nat.reduceBEq, Nat.reduceBNe, tys, plain_h, plain_d, List.length_map, List.getElem?_map, deskO, deskE, updTo_length, List.length_set] <;> rfl) (refMay_ev d (by unfold lim; omega) (by unfold lim; omega) _) ?_
  repeat (first | refine draw_end (by decide +kernel) ?_ | simp only [hmay, vcs, Nat.reduceAdd, Nat.reduceMul, Nat.reduceEqDiff, Nat.reduceLeDiff, Nat.reduceSub, Nat.reduceLT, Int.reduceToNat, Int.reduceLE, Int.reduceLT, Int.reduceAdd, Int.reduceSub, Int.reduceMul, Int.reduceNeg, reduceCtorEq, reduceIte, Int.reduceBEq, Int.reduceBNe, Int.reduceEq, Int.reduceNe, Nat.reduceBEq, Nat.reduceBNe, tys, plain_h, plain_d, List.length_map, List.getElem?_map, deskO, deskE, updTo_length, List.length_set])
  refine call_fn_new (by simp only [vcs, Nat.reduceAdd, Nat.reduceMul, Nat.reduceEqDiff, Nat.reduceLeDiff, Nat.reduceSub, Nat.reduceLT, Int.reduceToNat, Int.reduceLE, Int.reduceLT, Int.reduceAdd, Int.reduceSub, Int.reduceMul, Int.reduceNeg, reduceCtorEq, reduceIte, Int.reduceBEq, Int.reduceBNe, Int.reduceEq, Int.reduceNe, Nat.reduceBEq, Nat.reduceBNe, tys, plain_h, plain_d, List.length_map, List.getElem?_map, deskO, deskE, updTo_length, List.length_set] <;> rfl) (ticked_own d (by omega) (by omega) r3 r4 _) (by simp only [List.mem_cons, List.not_mem_nil, forall_eq, forall_eq_or_imp, vcs, Nat.reduceAdd, Nat.reduceMul, Nat.reduceEqDiff, Nat.reduceLeDiff, Nat.reduceSub, Nat.reduceLT, Int.reduceToNat, Int.reduceLE, Int.reduceLT, Int.reduceAdd, Int.reduceSub, Int.reduceMul, Int.reduceNeg, reduceCtorEq, reduceIte, Int.reduceBEq, Int.reduceBNe, Int.reduceEq, Int.reduceNe, Nat.reduceBEq, Nat.reduceBNe, tys, plain_h, plain_d, List.length_map, List.getElem?_map, deskO, deskE, updTo_length, List.length_set] <;> omega) ?_
  repeat (first | refine draw_end (by decide +kernel) ?_ | simp only [vcs, Nat.reduceAdd, Nat.reduceMul, Nat.reduceEqDiff, Nat.reduceLeDiff, Nat.reduceSub, Nat.reduceLT, Int.reduceToNat, Int.reduceLE, Int.reduceLT, Int.reduceAdd, Int.reduceSub, Int.reduceMul, Int.reduceNeg, reduceCtorEq, reduceIte, Int.reduceBEq, Int.reduceBNe, Int.reduceEq, Int.reduceNe, Nat.reduceBEq, Nat.reduceBNe, tys, plain_h, plain_d, List.length_map, List.getElem?_map, deskO, deskE, updTo_length, List.length_set])
  (refine Fin.own [] [(b0 + 128, 0), (b0 + 129, 1)] ?_ ?_ ?_ ?_ ?_ <;> simp only [ghosts_nil, ghosts_cons, sigOk, sigE, sigN, newName_nil, newName_cons, List.mem_cons, List.not_mem_nil, or_false, forall_eq, forall_eq_or_imp, ne_eq, Nat.le_add_right, not_false_eq_true, not_true_eq_false, Try.results12, Try.ntmps12, vcs, Nat.reduceAdd, Nat.reduceMul, Nat.reduceEqDiff, Nat.reduceLeDiff, Nat.reduceSub, Nat.reduceLT, Int.reduceToNat, Int.reduceLE, Int.reduceLT, Int.reduceAdd, Int.reduceSub, Int.reduceMul, Int.reduceNeg, reduceCtorEq, reduceIte, Int.reduceBEq, Int.reduceBNe, Int.reduceEq, Int.reduceNe, Nat.reduceBEq, Nat.reduceBNe, tys, plain_h, plain_d, List.length_map, List.getElem?_map, deskO, deskE, updTo_length, List.length_set])
set_option maxHeartbeats 2000000 in
theorem refTick_bad (d : Desk) (hn : d.held.length ≤ lim) (hm : d.done.length ≤ lim) (hmay : d.may = false) (nm : Nat) : Ev cx 12 nm [deskV d] Mem.nil (.tup [.agg [.nils, .nils, .int .i64 0, .int .i64 0], .int .i64 0, .int .i64 8]) [] := by
  refine ev_go (fun cargs w => Try.call12 cargs w) Try.func12 rfl mixed (by kernel_rfl) rfl ?_
  intro b0 hb0
  simp only [deskV]
  repeat (first | refine draw_end (by decide +kernel) ?_ | simp only [vcs, Nat.reduceAdd, Nat.reduceMul, Nat.reduceEqDiff, Nat.reduceLeDiff, Nat.reduceSub, Nat.reduceLT, Int.reduceToNat, Int.reduceLE, Int.reduceLT, Int.reduceAdd, Int.reduceSub, Int.reduceMul, Int.reduceNeg, reduceCtorEq, reduceIte, Int.reduceBEq, Int.reduceBNe, Int.reduceEq, Int.reduceNe, Nat.reduceBEq, Nat.reduceBNe, tys, plain_h, plain_d, List.length_map, List.getElem?_map, deskO, deskE, updTo_length, List.length_set])
  refine call_fn (by simp only [vcs, Nat.reduceAdd, Nat.reduceMul, Nat.reduceEqDiff, Nat.reduceLeDiff, Nat.reduceSub, Nat.reduceLT, Int.reduceToNat, Int.reduceLE, Int.reduceLT, Int.reduceAdd, Int.reduceSub, Int.reduceMul, Int.reduceNeg, reduceCtorEq, reduceIte, Int.reduceBEq, Int.reduceBNe, Int.reduceEq, Int.reduceNe, Nat.reduceBEq, Nat.reduceBNe, tys, plain_h, plain_d, List.length_map, List.getElem?_map, deskO, deskE, updTo_length, List.length_set] <;> rfl) (refMay_ev d hn hm _) ?_
  repeat (first | refine draw_end (by decide +kernel) ?_ | simp only [hmay, vcs, Nat.reduceAdd, Nat.reduceMul, Nat.reduceEqDiff, Nat.reduceLeDiff, Nat.reduceSub, Nat.reduceLT, Int.reduceToNat, Int.reduceLE, Int.reduceLT, Int.reduceAdd, Int.reduceSub, Int.reduceMul, Int.reduceNeg, reduceCtorEq, reduceIte, Int.reduceBEq, Int.reduceBNe, Int.reduceEq, Int.reduceNe, Nat.reduceBEq, Nat.reduceBNe, tys, plain_h, plain_d, List.length_map, List.getElem?_map, deskO, deskE, updTo_length, List.length_set])
  (refine Fin.pure ?_ ?_ ?_ <;> simp only [Try.results12, Try.ntmps12, vcs, Nat.reduceAdd, Nat.reduceMul, Nat.reduceEqDiff, Nat.reduceLeDiff, Nat.reduceSub, Nat.reduceLT, Int.reduceToNat, Int.reduceLE, Int.reduceLT, Int.reduceAdd, Int.reduceSub, Int.reduceMul, Int.reduceNeg, reduceCtorEq, reduceIte, Int.reduceBEq, Int.reduceBNe, Int.reduceEq, Int.reduceNe, Nat.reduceBEq, Nat.reduceBNe, tys, plain_h, plain_d, List.length_map, List.getElem?_map, deskO, deskE, updTo_length, List.length_set])
end Go.Proofs.Ytdbbnhmnlgfjoaa
