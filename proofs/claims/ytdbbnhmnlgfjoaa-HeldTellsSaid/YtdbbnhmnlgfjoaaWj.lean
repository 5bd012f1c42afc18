/-
  Layer 28: desks are compared.
-/
import Derived.Test.YtdbbnhmnlgfjoaaWi
namespace Go.Proofs.Ytdbbnhmnlgfjoaa
set_option linter.unusedSimpArgs false
set_option linter.unusedVariables false
open Go Go.RowKit Go.Proofs.Ytdbbnhmnlgfjoaa.Vm

theorem take_snoc_eq {α : Type} {a b : List α} {k : Nat} {x y : α} (ha : a[k]? = some x) (hb : b[k]? = some y) (h : a.take k = b.take k) : a.take (k + 1) = b.take (k + 1) ↔ x = y := by
  rw [List.take_add_one, List.take_add_one, ha, hb, h]; simp
theorem take_ne {α : Type} {a b : List α} {k : Nat} {x y : α} (ha : a[k]? = some x) (hb : b[k]? = some y) (h : x ≠ y) : a ≠ b := by
  rintro rfl; rw [ha] at hb; exact h (Option.some.inj hb)
def JE {α : Type} (cells : α → List V) (sz : Nat) (a b : List α) (k nm : Nat) (e : Env) (M : Mem) : Prop := e 0 = .sl false sz (a.map cells) ∧ e 1 = .sl false sz (b.map cells) ∧ e 12 = .int .i64 a.length ∧ e 13 = .int .i64 k ∧ a.take k = b.take k
theorem hEq (h h' : Hd) : (h.rid == h'.rid && (h.conn == h'.conn && (h.left == h'.left && (h.body == h'.body && (h.report == h'.report && h.time == h'.time))))) = decide (h = h') := by
  rw [Bool.eq_iff_iff]
  cases h; cases h'
  simp [Hd.mk.injEq]
theorem dEq (h h' : Dn) : (h.rid == h'.rid && (h.body == h'.body && (h.text == h'.text && h.age == h'.age))) = decide (h = h') := by
  rw [Bool.eq_iff_iff]
  cases h; cases h'
  simp [Dn.mk.injEq]
theorem len_ne {α : Type} {a b : List α} (h : ((a.length : Int) != (b.length : Int)) = true) : a ≠ b := by
  rintro rfl; simp at h
theorem len_eq {α : Type} {a b : List α} (h : ((a.length : Int) != (b.length : Int)) = false) : a.length = b.length := by
  have : (a.length : Int) = b.length := by simpa using h
  omega
set_option maxHeartbeats 2000000 in
theorem equalH_ev (a b : List Hd) (hn : a.length ≤ lim) (nm : Nat) : Ev cx 39 nm [.sl false 6 (a.map hcells), .sl false 6 (b.map hcells)] Mem.nil (.bool (decide (a = b))) [] := by
  unfold lim at hn
  refine ev_go (fun cargs w => Try.call39 cargs w) Try.func39 rfl mixed (by kernel_rfl) rfl ?_
  intro b0 hb0
  repeat (first | refine draw_end (by decide +kernel) ?_ | simp only [vcs, Nat.reduceAdd, Nat.reduceMul, Nat.reduceEqDiff, Nat.reduceLeDiff, Nat.reduceSub, Nat.reduceLT, Int.reduceToNat, Int.reduceLE, Int.reduceLT, Int.reduceAdd, Int.reduceSub, Int.reduceMul, Int.reduceNeg, reduceCtorEq, reduceIte, Int.reduceBEq, Int.reduceBNe, Int.reduceEq, Int.reduceNe, Nat.reduceBEq, Nat.reduceBNe, tys, plain_h, plain_d, List.length_map, List.getElem?_map, List.length_set])
  constructor
  · intro hb
    (refine Fin.pure ?_ ?_ ?_ <;> simp only [Try.results39, Try.ntmps39, vcs, Nat.reduceAdd, Nat.reduceMul, Nat.reduceEqDiff, Nat.reduceLeDiff, Nat.reduceSub, Nat.reduceLT, Int.reduceToNat, Int.reduceLE, Int.reduceLT, Int.reduceAdd, Int.reduceSub, Int.reduceMul, Int.reduceNeg, reduceCtorEq, reduceIte, Int.reduceBEq, Int.reduceBNe, Int.reduceEq, Int.reduceNe, Nat.reduceBEq, Nat.reduceBNe, tys, plain_h, plain_d, List.length_map, List.getElem?_map, List.length_set])
    rw [decide_eq_false (len_ne hb)]
  · intro hb
    have hl := len_eq hb
    refine loop_up a.length (JE hcells 6 a b) ?_ ?_
    · simp only [JE, Int.natCast_zero, vcs, Nat.reduceAdd, Nat.reduceMul, Nat.reduceEqDiff, Nat.reduceLeDiff, Nat.reduceSub, Nat.reduceLT, Int.reduceToNat, Int.reduceLE, Int.reduceLT, Int.reduceAdd, Int.reduceSub, Int.reduceMul, Int.reduceNeg, reduceCtorEq, reduceIte, Int.reduceBEq, Int.reduceBNe, Int.reduceEq, Int.reduceNe, Nat.reduceBEq, Nat.reduceBNe, tys, plain_h, plain_d, List.length_map, List.getElem?_map, List.length_set]
    · rintro k nm e M hk ⟨e0, e1, e12, e13, ht⟩
      by_cases hlt : k < a.length
      · have wk := wrap_up hlt (by omega)
        obtain ⟨h, hh⟩ : ∃ h, a[k]? = some h := ⟨_, List.getElem?_eq_getElem hlt⟩
        obtain ⟨h', hh'⟩ : ∃ h, b[k]? = some h := ⟨_, List.getElem?_eq_getElem (by omega)⟩
        have hlt' : k < b.length := by omega
        have hq := hEq h h'
        repeat (first | refine draw_end (by decide +kernel) ?_ | simp only [hh, hh', hcells, e0, e1, e12, e13, hlt, hlt', wk, hq, vcs, Nat.reduceAdd, Nat.reduceMul, Nat.reduceEqDiff, Nat.reduceLeDiff, Nat.reduceSub, Nat.reduceLT, Int.reduceToNat, Int.reduceLE, Int.reduceLT, Int.reduceAdd, Int.reduceSub, Int.reduceMul, Int.reduceNeg, reduceCtorEq, reduceIte, Int.reduceBEq, Int.reduceBNe, Int.reduceEq, Int.reduceNe, Nat.reduceBEq, Nat.reduceBNe, tys, plain_h, plain_d, List.length_map, List.getElem?_map, List.length_set])
        constructor
        · intro hb
          (refine Fin.pure ?_ ?_ ?_ <;> simp only [Try.results39, Try.ntmps39, vcs, Nat.reduceAdd, Nat.reduceMul, Nat.reduceEqDiff, Nat.reduceLeDiff, Nat.reduceSub, Nat.reduceLT, Int.reduceToNat, Int.reduceLE, Int.reduceLT, Int.reduceAdd, Int.reduceSub, Int.reduceMul, Int.reduceNeg, reduceCtorEq, reduceIte, Int.reduceBEq, Int.reduceBNe, Int.reduceEq, Int.reduceNe, Nat.reduceBEq, Nat.reduceBNe, tys, plain_h, plain_d, List.length_map, List.getElem?_map, List.length_set])
          have hne : h ≠ h' := by simpa using hb
          rw [decide_eq_false (take_ne hh hh' hne)]
        · intro hb
          have he : h = h' := by simpa using hb
          refine again_up hlt ?_
          simp only [JE, e0, e1, e12, e13, wk, vcs, Nat.reduceAdd, Nat.reduceMul, Nat.reduceEqDiff, Nat.reduceLeDiff, Nat.reduceSub, Nat.reduceLT, Int.reduceToNat, Int.reduceLE, Int.reduceLT, Int.reduceAdd, Int.reduceSub, Int.reduceMul, Int.reduceNeg, reduceCtorEq, reduceIte, Int.reduceBEq, Int.reduceBNe, Int.reduceEq, Int.reduceNe, Nat.reduceBEq, Nat.reduceBNe, tys, plain_h, plain_d, List.length_map, List.getElem?_map, List.length_set]
          exact (take_snoc_eq hh hh' ht).2 he
      · have hke : k = a.length := by omega
        subst hke
        repeat (first | refine draw_end (by decide +kernel) ?_ | simp only [e0, e1, e12, e13, vcs, Nat.reduceAdd, Nat.reduceMul, Nat.reduceEqDiff, Nat.reduceLeDiff, Nat.reduceSub, Nat.reduceLT, Int.reduceToNat, Int.reduceLE, Int.reduceLT, Int.reduceAdd, Int.reduceSub, Int.reduceMul, Int.reduceNeg, reduceCtorEq, reduceIte, Int.reduceBEq, Int.reduceBNe, Int.reduceEq, Int.reduceNe, Nat.reduceBEq, Nat.reduceBNe, tys, plain_h, plain_d, List.length_map, List.getElem?_map, List.length_set])
        (refine Fin.pure ?_ ?_ ?_ <;> simp only [Try.results39, Try.ntmps39, vcs, Nat.reduceAdd, Nat.reduceMul, Nat.reduceEqDiff, Nat.reduceLeDiff, Nat.reduceSub, Nat.reduceLT, Int.reduceToNat, Int.reduceLE, Int.reduceLT, Int.reduceAdd, Int.reduceSub, Int.reduceMul, Int.reduceNeg, reduceCtorEq, reduceIte, Int.reduceBEq, Int.reduceBNe, Int.reduceEq, Int.reduceNe, Nat.reduceBEq, Nat.reduceBNe, tys, plain_h, plain_d, List.length_map, List.getElem?_map, List.length_set])
        rw [decide_eq_true (by rw [List.take_length, hl, List.take_length] at ht; exact ht)]
set_option maxHeartbeats 2000000 in
theorem equalD_ev (a b : List Dn) (hn : a.length ≤ lim) (nm : Nat) : Ev cx 40 nm [.sl false 4 (a.map dcells), .sl false 4 (b.map dcells)] Mem.nil (.bool (decide (a = b))) [] := by
  unfold lim at hn
  refine ev_go (fun cargs w => Try.call40 cargs w) Try.func40 rfl mixed (by kernel_rfl) rfl ?_
  intro b0 hb0
  repeat (first | refine draw_end (by decide +kernel) ?_ | simp only [vcs, Nat.reduceAdd, Nat.reduceMul, Nat.reduceEqDiff, Nat.reduceLeDiff, Nat.reduceSub, Nat.reduceLT, Int.reduceToNat, Int.reduceLE, Int.reduceLT, Int.reduceAdd, Int.reduceSub, Int.reduceMul, Int.reduceNeg, reduceCtorEq, reduceIte, Int.reduceBEq, Int.reduceBNe, Int.reduceEq, Int.reduceNe, Nat.reduceBEq, Nat.reduceBNe, tys, plain_h, plain_d, List.length_map, List.getElem?_map, List.length_set])
  constructor
  · intro hb
    (refine Fin.pure ?_ ?_ ?_ <;> simp only [Try.results40, Try.ntmps40, vcs, Nat.reduceAdd, Nat.reduceMul, Nat.reduceEqDiff, Nat.reduceLeDiff, Nat.reduceSub, Nat.reduceLT, Int.reduceToNat, Int.reduceLE, Int.reduceLT, Int.reduceAdd, Int.reduceSub, Int.reduceMul, Int.reduceNeg, reduceCtorEq, reduceIte, Int.reduceBEq, Int.reduceBNe, Int.reduceEq, Int.reduceNe, Nat.reduceBEq, Nat.reduceBNe, tys, plain_h, plain_d, List.length_map, List.getElem?_map, List.length_set])
    rw [decide_eq_false (len_ne hb)]
  · intro hb
    have hl := len_eq hb
    refine loop_up a.length (JE dcells 4 a b) ?_ ?_
    · simp only [JE, Int.natCast_zero, vcs, Nat.reduceAdd, Nat.reduceMul, Nat.reduceEqDiff, Nat.reduceLeDiff, Nat.reduceSub, Nat.reduceLT, Int.reduceToNat, Int.reduceLE, Int.reduceLT, Int.reduceAdd, Int.reduceSub, Int.reduceMul, Int.reduceNeg, reduceCtorEq, reduceIte, Int.reduceBEq, Int.reduceBNe, Int.reduceEq, Int.reduceNe, Nat.reduceBEq, Nat.reduceBNe, tys, plain_h, plain_d, List.length_map, List.getElem?_map, List.length_set]
    · rintro k nm e M hk ⟨e0, e1, e12, e13, ht⟩
      by_cases hlt : k < a.length
      · have wk := wrap_up hlt (by omega)
        obtain ⟨h, hh⟩ : ∃ h, a[k]? = some h := ⟨_, List.getElem?_eq_getElem hlt⟩
        obtain ⟨h', hh'⟩ : ∃ h, b[k]? = some h := ⟨_, List.getElem?_eq_getElem (by omega)⟩
        have hlt' : k < b.length := by omega
        have hq := dEq h h'
        repeat (first | refine draw_end (by decide +kernel) ?_ | simp only [hh, hh', dcells, e0, e1, e12, e13, hlt, hlt', wk, hq, vcs, Nat.reduceAdd, Nat.reduceMul, Nat.reduceEqDiff, Nat.reduceLeDiff, Nat.reduceSub, Nat.reduceLT, Int.reduceToNat, Int.reduceLE, Int.reduceLT, Int.reduceAdd, Int.reduceSub, Int.reduceMul, Int.reduceNeg, reduceCtorEq, reduceIte, Int.reduceBEq, Int.reduceBNe, Int.reduceEq, Int.reduceNe, Nat.reduceBEq, Nat.reduceBNe, tys, plain_h, plain_d, List.length_map, List.getElem?_map, List.length_set])
        constructor
        · intro hb
          (refine Fin.pure ?_ ?_ ?_ <;> simp only [Try.results40, Try.ntmps40, vcs, Nat.reduceAdd, Nat.reduceMul, Nat.reduceEqDiff, Nat.reduceLeDiff, Nat.reduceSub, Nat.reduceLT, Int.reduceToNat, Int.reduceLE, Int.reduceLT, Int.reduceAdd, Int.reduceSub, Int.reduceMul, Int.reduceNeg, reduceCtorEq, reduceIte, Int.reduceBEq, Int.reduceBNe, Int.reduceEq, Int.reduceNe, Nat.reduceBEq, Nat.reduceBNe, tys, plain_h, plain_d, List.length_map, List.getElem?_map, List.length_set])
          have hne : h ≠ h' := by simpa using hb
          rw [decide_eq_false (take_ne hh hh' hne)]
        · intro hb
          have he : h = h' := by simpa using hb
          refine again_up hlt ?_
          simp only [JE, e0, e1, e12, e13, wk, vcs, Nat.reduceAdd, Nat.reduceMul, Nat.reduceEqDiff, Nat.reduceLeDiff, Nat.reduceSub, Nat.reduceLT, Int.reduceToNat, Int.reduceLE, Int.reduceLT, Int.reduceAdd, Int.reduceSub, Int.reduceMul, Int.reduceNeg, reduceCtorEq, reduceIte, Int.reduceBEq, Int.reduceBNe, Int.reduceEq, Int.reduceNe, Nat.reduceBEq, Nat.reduceBNe, tys, plain_h, plain_d, List.length_map, List.getElem?_map, List.length_set]
          exact (take_snoc_eq hh hh' ht).2 he
      · have hke : k = a.length := by omega
        subst hke
        repeat (first | refine draw_end (by decide +kernel) ?_ | simp only [e0, e1, e12, e13, vcs, Nat.reduceAdd, Nat.reduceMul, Nat.reduceEqDiff, Nat.reduceLeDiff, Nat.reduceSub, Nat.reduceLT, Int.reduceToNat, Int.reduceLE, Int.reduceLT, Int.reduceAdd, Int.reduceSub, Int.reduceMul, Int.reduceNeg, reduceCtorEq, reduceIte, Int.reduceBEq, Int.reduceBNe, Int.reduceEq, Int.reduceNe, Nat.reduceBEq, Nat.reduceBNe, tys, plain_h, plain_d, List.length_map, List.getElem?_map, List.length_set])
        (refine Fin.pure ?_ ?_ ?_ <;> simp only [Try.results40, Try.ntmps40, vcs, Nat.reduceAdd, Nat.reduceMul, Nat.reduceEqDiff, Nat.reduceLeDiff, Nat.reduceSub, Nat.reduceLT, Int.reduceToNat, Int.reduceLE, Int.reduceLT, Int.reduceAdd, Int.reduceSub, Int.reduceMul, Int.reduceNeg, reduceCtorEq, reduceIte, Int.reduceBEq, Int.reduceBNe, Int.reduceEq, Int.reduceNe, Nat.reduceBEq, Nat.reduceBNe, tys, plain_h, plain_d, List.length_map, List.getElem?_map, List.length_set])
        rw [decide_eq_true (by rw [List.take_length, hl, List.take_length] at ht; exact ht)]
theorem deskEq (d o : Desk) : (decide (d.held = o.held) && decide (d.done = o.done) && d.top == o.top && d.size == o.size) = decide (d = o) := by
  rw [Bool.eq_iff_iff]
  cases d; cases o
  simp [Desk.mk.injEq, and_assoc]
set_option maxHeartbeats 2000000 in
theorem same_ev (d o : Desk) (hn : d.held.length ≤ lim) (hm : d.done.length ≤ lim) (nm : Nat) : Ev cx 19 nm [deskV d, deskV o] Mem.nil (.bool (decide (d = o))) [] := by
  refine ev_go (fun cargs w => Try.call19 cargs w) Try.func19 rfl mixed (by kernel_rfl) rfl ?_
  intro b0 hb0
  simp only [deskV]
  repeat (first | refine draw_end (by decide +kernel) ?_ | simp only [vcs, Nat.reduceAdd, Nat.reduceMul, Nat.reduceEqDiff, Nat.reduceLeDiff, Nat.reduceSub, Nat.reduceLT, Int.reduceToNat, Int.reduceLE, Int.reduceLT, Int.reduceAdd, Int.reduceSub, Int.reduceMul, Int.reduceNeg, reduceCtorEq, reduceIte, Int.reduceBEq, Int.reduceBNe, Int.reduceEq, Int.reduceNe, Nat.reduceBEq, Nat.reduceBNe, tys, plain_h, plain_d, List.length_map, List.getElem?_map, List.length_set])
  refine call_fn (by simp only [vcs, Nat.reduceAdd, Nat.reduceMul, Nat.reduceEqDiff, Nat.reduceLeDiff, Nat.reduceSub, Nat.reduceLT, Int.reduceToNat, Int.reduceLE, Int.reduceLT, Int.reduceAdd, Int.reduceSub, Int.reduceMul, Int.reduceNeg, reduceCtorEq, reduceIte, Int.reduceBEq, Int.reduceBNe, Int.reduceEq, Int.reduceNe, Nat.reduceBEq, Nat.reduceBNe, tys, plain_h, plain_d, List.length_map, List.getElem?_map, List.length_set] <;> rfl) (equalH_ev d.held o.held hn _) ?_
  repeat (first | refine draw_end (by decide +kernel) ?_ | simp only [vcs, Nat.reduceAdd, Nat.reduceMul, Nat.reduceEqDiff, Nat.reduceLeDiff, Nat.reduceSub, Nat.reduceLT, Int.reduceToNat, Int.reduceLE, Int.reduceLT, Int.reduceAdd, Int.reduceSub, Int.reduceMul, Int.reduceNeg, reduceCtorEq, reduceIte, Int.reduceBEq, Int.reduceBNe, Int.reduceEq, Int.reduceNe, Nat.reduceBEq, Nat.reduceBNe, tys, plain_h, plain_d, List.length_map, List.getElem?_map, List.length_set])
  refine call_fn_g (by simp only [vcs, Nat.reduceAdd, Nat.reduceMul, Nat.reduceEqDiff, Nat.reduceLeDiff, Nat.reduceSub, Nat.reduceLT, Int.reduceToNat, Int.reduceLE, Int.reduceLT, Int.reduceAdd, Int.reduceSub, Int.reduceMul, Int.reduceNeg, reduceCtorEq, reduceIte, Int.reduceBEq, Int.reduceBNe, Int.reduceEq, Int.reduceNe, Nat.reduceBEq, Nat.reduceBNe, tys, plain_h, plain_d, List.length_map, List.getElem?_map, List.length_set] <;> rfl) (fun _ => equalD_ev d.done o.done hm _) ?_
  repeat (first | refine draw_end (by decide +kernel) ?_ | simp only [vcs, Nat.reduceAdd, Nat.reduceMul, Nat.reduceEqDiff, Nat.reduceLeDiff, Nat.reduceSub, Nat.reduceLT, Int.reduceToNat, Int.reduceLE, Int.reduceLT, Int.reduceAdd, Int.reduceSub, Int.reduceMul, Int.reduceNeg, reduceCtorEq, reduceIte, Int.reduceBEq, Int.reduceBNe, Int.reduceEq, Int.reduceNe, Nat.reduceBEq, Nat.reduceBNe, tys, plain_h, plain_d, List.length_map, List.getElem?_map, List.length_set])
  (refine Fin.pure ?_ ?_ ?_ <;> simp only [Try.results19, Try.ntmps19, vcs, Nat.reduceAdd, Nat.reduceMul, Nat.reduceEqDiff, Nat.reduceLeDiff, Nat.reduceSub, Nat.reduceLT, Int.reduceToNat, Int.reduceLE, Int.reduceLT, Int.reduceAdd, Int.reduceSub, Int.reduceMul, Int.reduceNeg, reduceCtorEq, reduceIte, Int.reduceBEq, Int.reduceBNe, Int.reduceEq, Int.reduceNe, Nat.reduceBEq, Nat.reduceBNe, tys, plain_h, plain_d, List.length_map, List.getElem?_map, List.length_set])
  rw [deskEq]
def JS1 (d o : Desk) (b : Nat) (k nm : Nat) (e : Env) (M : Mem) : Prop := e 2 = .ptr b 0 0 ∧ M b = some ⟨4, [deskRow d]⟩ ∧ e 3 = .ptr (b + 16) 0 0 ∧ M (b + 16) = some ⟨4, [deskRow o]⟩ ∧ e 5 = .int .i64 k ∧ d.held.take k = o.held.take k
def JS2 (d o : Desk) (b : Nat) (k nm : Nat) (e : Env) (M : Mem) : Prop := e 2 = .ptr b 0 0 ∧ M b = some ⟨4, [deskRow d]⟩ ∧ e 3 = .ptr (b + 16) 0 0 ∧ M (b + 16) = some ⟨4, [deskRow o]⟩ ∧ e 6 = .int .i64 k ∧ d.done.take k = o.done.take k
set_option maxHeartbeats 2000000 in
theorem refSame_ev (d o : Desk) (hn : d.held.length ≤ lim) (hm : d.done.length ≤ lim) (nm : Nat) : Ev cx 16 nm [deskV d, deskV o] Mem.nil (.bool (decide (d = o))) [] := by
  unfold lim at hn hm
  refine ev_go (fun cargs w => Try.call16 cargs w) Try.func16 rfl mixed (by kernel_rfl) rfl ?_
  intro b0 hb0
  simp only [deskV]
  repeat (first | refine draw_end (by decide +kernel) ?_ | simp only [vcs, Nat.reduceAdd, Nat.reduceMul, Nat.reduceEqDiff, Nat.reduceLeDiff, Nat.reduceSub, Nat.reduceLT, Int.reduceToNat, Int.reduceLE, Int.reduceLT, Int.reduceAdd, Int.reduceSub, Int.reduceMul, Int.reduceNeg, reduceCtorEq, reduceIte, Int.reduceBEq, Int.reduceBNe, Int.reduceEq, Int.reduceNe, Nat.reduceBEq, Nat.reduceBNe, tys, plain_h, plain_d, List.length_map, List.getElem?_map, List.length_set])
  constructor
  · intro hb
    (refine Fin.pure ?_ ?_ ?_ <;> simp only [Try.results16, Try.ntmps16, vcs, Nat.reduceAdd, Nat.reduceMul, Nat.reduceEqDiff, Nat.reduceLeDiff, Nat.reduceSub, Nat.reduceLT, Int.reduceToNat, Int.reduceLE, Int.reduceLT, Int.reduceAdd, Int.reduceSub, Int.reduceMul, Int.reduceNeg, reduceCtorEq, reduceIte, Int.reduceBEq, Int.reduceBNe, Int.reduceEq, Int.reduceNe, Nat.reduceBEq, Nat.reduceBNe, tys, plain_h, plain_d, List.length_map, List.getElem?_map, List.length_set])
    have hne : d ≠ o := by rintro rfl; simp at hb
    rw [decide_eq_false hne]
  · intro hb
    have hh : d.held.length = o.held.length ∧ d.done.length = o.done.length ∧ d.top = o.top ∧ d.size = o.size := by
      simp only [Bool.or_eq_false_iff] at hb
      obtain ⟨⟨⟨g1, g2⟩, g3⟩, g4⟩ := hb
      exact ⟨len_eq g1, len_eq g2, by simpa using g3, by simpa using g4⟩
    obtain ⟨l1, l2, l3, l4⟩ := hh
    refine loop_up d.held.length (JS1 d o b0) ?_ ?_
    · simp only [JS1, deskRow, Int.natCast_zero, vcs, Nat.reduceAdd, Nat.reduceMul, Nat.reduceEqDiff, Nat.reduceLeDiff, Nat.reduceSub, Nat.reduceLT, Int.reduceToNat, Int.reduceLE, Int.reduceLT, Int.reduceAdd, Int.reduceSub, Int.reduceMul, Int.reduceNeg, reduceCtorEq, reduceIte, Int.reduceBEq, Int.reduceBNe, Int.reduceEq, Int.reduceNe, Nat.reduceBEq, Nat.reduceBNe, tys, plain_h, plain_d, List.length_map, List.getElem?_map, List.length_set]
    · rintro k nm e M hk ⟨e2, hM, e3, hM2, e5, ht⟩
      by_cases hlt : k < d.held.length
      · have wk := wrap_up hlt (by omega)
        obtain ⟨h, hh⟩ : ∃ h, d.held[k]? = some h := ⟨_, List.getElem?_eq_getElem hlt⟩
        obtain ⟨h', hh'⟩ : ∃ h, o.held[k]? = some h := ⟨_, List.getElem?_eq_getElem (by omega)⟩
        have hlt' : k < o.held.length := by omega
        have hq := hEq h h'
        repeat (first | refine draw_end (by decide +kernel) ?_ | simp only [hh, hh', hcells, deskRow, e2, hM, e3, hM2, e5, hlt, hlt', wk, hq, vcs, Nat.reduceAdd, Nat.reduceMul, Nat.reduceEqDiff, Nat.reduceLeDiff, Nat.reduceSub, Nat.reduceLT, Int.reduceToNat, Int.reduceLE, Int.reduceLT, Int.reduceAdd, Int.reduceSub, Int.reduceMul, Int.reduceNeg, reduceCtorEq, reduceIte, Int.reduceBEq, Int.reduceBNe, Int.reduceEq, Int.reduceNe, Nat.reduceBEq, Nat.reduceBNe, tys, plain_h, plain_d, List.length_map, List.getElem?_map, List.length_set])
        constructor
        · intro hb
          (refine Fin.pure ?_ ?_ ?_ <;> simp only [Try.results16, Try.ntmps16, vcs, Nat.reduceAdd, Nat.reduceMul, Nat.reduceEqDiff, Nat.reduceLeDiff, Nat.reduceSub, Nat.reduceLT, Int.reduceToNat, Int.reduceLE, Int.reduceLT, Int.reduceAdd, Int.reduceSub, Int.reduceMul, Int.reduceNeg, reduceCtorEq, reduceIte, Int.reduceBEq, Int.reduceBNe, Int.reduceEq, Int.reduceNe, Nat.reduceBEq, Nat.reduceBNe, tys, plain_h, plain_d, List.length_map, List.getElem?_map, List.length_set])
          have hne : h ≠ h' := by simpa using hb
          have hne2 : d ≠ o := by rintro rfl; exact take_ne hh hh' hne rfl
          rw [decide_eq_false hne2]
        · intro hb
          have he : h = h' := by simpa using hb
          refine again_up hlt ?_
          simp only [JS1, deskRow, e2, hM, e3, hM2, e5, wk, vcs, Nat.reduceAdd, Nat.reduceMul, Nat.reduceEqDiff, Nat.reduceLeDiff, Nat.reduceSub, Nat.reduceLT, Int.reduceToNat, Int.reduceLE, Int.reduceLT, Int.reduceAdd, Int.reduceSub, Int.reduceMul, Int.reduceNeg, reduceCtorEq, reduceIte, Int.reduceBEq, Int.reduceBNe, Int.reduceEq, Int.reduceNe, Nat.reduceBEq, Nat.reduceBNe, tys, plain_h, plain_d, List.length_map, List.getElem?_map, List.length_set]
          exact (take_snoc_eq hh hh' ht).2 he
      · have hke : k = d.held.length := by omega
        subst hke
        have heq : d.held = o.held := by rw [List.take_length, l1, List.take_length] at ht; exact ht
        repeat (first | refine draw_end (by decide +kernel) ?_ | simp only [deskRow, e2, hM, e3, hM2, e5, vcs, Nat.reduceAdd, Nat.reduceMul, Nat.reduceEqDiff, Nat.reduceLeDiff, Nat.reduceSub, Nat.reduceLT, Int.reduceToNat, Int.reduceLE, Int.reduceLT, Int.reduceAdd, Int.reduceSub, Int.reduceMul, Int.reduceNeg, reduceCtorEq, reduceIte, Int.reduceBEq, Int.reduceBNe, Int.reduceEq, Int.reduceNe, Nat.reduceBEq, Nat.reduceBNe, tys, plain_h, plain_d, List.length_map, List.getElem?_map, List.length_set])
        refine loop_up d.done.length (JS2 d o b0) ?_ ?_
        · simp only [JS2, deskRow, e2, hM, e3, hM2, e5, Int.natCast_zero, vcs, Nat.reduceAdd, Nat.reduceMul, Nat.reduceEqDiff, Nat.reduceLeDiff, Nat.reduceSub, Nat.reduceLT, Int.reduceToNat, Int.reduceLE, Int.reduceLT, Int.reduceAdd, Int.reduceSub, Int.reduceMul, Int.reduceNeg, reduceCtorEq, reduceIte, Int.reduceBEq, Int.reduceBNe, Int.reduceEq, Int.reduceNe, Nat.reduceBEq, Nat.reduceBNe, tys, plain_h, plain_d, List.length_map, List.getElem?_map, List.length_set]
        · clear e2 hM e3 hM2 e5 ht hlt hk
          rintro k nm e M hk ⟨e2, hM, e3, hM2, e6, ht⟩
          by_cases hlt : k < d.done.length
          · have wk := wrap_up hlt (by omega)
            obtain ⟨h, hh⟩ : ∃ h, d.done[k]? = some h := ⟨_, List.getElem?_eq_getElem hlt⟩
            obtain ⟨h', hh'⟩ : ∃ h, o.done[k]? = some h := ⟨_, List.getElem?_eq_getElem (by omega)⟩
            have hlt' : k < o.done.length := by omega
            have hq := dEq h h'
            repeat (first | refine draw_end (by decide +kernel) ?_ | simp only [hh, hh', dcells, deskRow, e2, hM, e3, hM2, e6, hlt, hlt', wk, hq, vcs, Nat.reduceAdd, Nat.reduceMul, Nat.reduceEqDiff, Nat.reduceLeDiff, Nat.reduceSub, Nat.reduceLT, Int.reduceToNat, Int.reduceLE, Int.reduceLT, Int.reduceAdd, Int.reduceSub, Int.reduceMul, Int.reduceNeg, reduceCtorEq, reduceIte, Int.reduceBEq, Int.reduceBNe, Int.reduceEq, Int.reduceNe, Nat.reduceBEq, Nat.reduceBNe, tys, plain_h, plain_d, List.length_map, List.getElem?_map, List.length_set])
            constructor
            · intro hb
              (refine Fin.pure ?_ ?_ ?_ <;> simp only [Try.results16, Try.ntmps16, vcs, Nat.reduceAdd, Nat.reduceMul, Nat.reduceEqDiff, Nat.reduceLeDiff, Nat.reduceSub, Nat.reduceLT, Int.reduceToNat, Int.reduceLE, Int.reduceLT, Int.reduceAdd, Int.reduceSub, Int.reduceMul, Int.reduceNeg, reduceCtorEq, reduceIte, Int.reduceBEq, Int.reduceBNe, Int.reduceEq, Int.reduceNe, Nat.reduceBEq, Nat.reduceBNe, tys, plain_h, plain_d, List.length_map, List.getElem?_map, List.length_set])
              have hne : h ≠ h' := by simpa using hb
              have hne2 : d ≠ o := by rintro rfl; exact take_ne hh hh' hne rfl
              rw [decide_eq_false hne2]
            · intro hb
              have he : h = h' := by simpa using hb
              refine again_up hlt ?_
              simp only [JS2, deskRow, e2, hM, e3, hM2, e6, wk, vcs, Nat.reduceAdd, Nat.reduceMul, Nat.reduceEqDiff, Nat.reduceLeDiff, Nat.reduceSub, Nat.reduceLT, Int.reduceToNat, Int.reduceLE, Int.reduceLT, Int.reduceAdd, Int.reduceSub, Int.reduceMul, Int.reduceNeg, reduceCtorEq, reduceIte, Int.reduceBEq, Int.reduceBNe, Int.reduceEq, Int.reduceNe, Nat.reduceBEq, Nat.reduceBNe, tys, plain_h, plain_d, List.length_map, List.getElem?_map, List.length_set]
              exact (take_snoc_eq hh hh' ht).2 he
          · have hke : k = d.done.length := by omega
            subst hke
            have heq2 : d.done = o.done := by rw [List.take_length, l2, List.take_length] at ht; exact ht
            have hde : d = o := by cases d; cases o; simp_all
            repeat (first | refine draw_end (by decide +kernel) ?_ | simp only [deskRow, e2, hM, e3, hM2, e6, vcs, Nat.reduceAdd, Nat.reduceMul, Nat.reduceEqDiff, Nat.reduceLeDiff, Nat.reduceSub, Nat.reduceLT, Int.reduceToNat, Int.reduceLE, Int.reduceLT, Int.reduceAdd, Int.reduceSub, Int.reduceMul, Int.reduceNeg, reduceCtorEq, reduceIte, Int.reduceBEq, Int.reduceBNe, Int.reduceEq, Int.reduceNe, Nat.reduceBEq, Nat.reduceBNe, tys, plain_h, plain_d, List.length_map, List.getElem?_map, List.length_set])
            (refine Fin.pure ?_ ?_ ?_ <;> simp only [Try.results16, Try.ntmps16, vcs, Nat.reduceAdd, Nat.reduceMul, Nat.reduceEqDiff, Nat.reduceLeDiff, Nat.reduceSub, Nat.reduceLT, Int.reduceToNat, Int.reduceLE, Int.reduceLT, Int.reduceAdd, Int.reduceSub, Int.reduceMul, Int.reduceNeg, reduceCtorEq, reduceIte, Int.reduceBEq, Int.reduceBNe, Int.reduceEq, Int.reduceNe, Nat.reduceBEq, Nat.reduceBNe, tys, plain_h, plain_d, List.length_map, List.getElem?_map, List.length_set])
            rw [decide_eq_true hde]
end Go.Proofs.Ytdbbnhmnlgfjoaa
