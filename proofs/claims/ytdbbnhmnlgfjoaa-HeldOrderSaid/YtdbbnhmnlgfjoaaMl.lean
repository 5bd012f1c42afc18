/-
  Texts joined: XXj, XXk.
-/
import Derived.Test.YtdbbnhmnlgfjoaaMk
/-
  Layer 28: what was told of numbers.
-/
namespace Go.Proofs.Ytdbbnhmnlgfjoaa
set_option linter.unusedSimpArgs false
set_option linter.unusedVariables false
open Go Go.RowKit Go.Proofs.Ytdbbnhmnlgfjoaa.Vm

structure Td where
  rid : Int
  text : List UInt8
  deriving DecidableEq
def tcells (t : Td) : List V := [.int .i64 t.rid, .str t.text]
def Td.fit (rid : Int) (text : List UInt8) (t : Td) : Bool := !(t.rid == rid && !(t.text == text))
set_option maxHeartbeats 2000000 in
theorem fits_ev (l : List Td) (rid : Int) (text : List UInt8) (hn : l.length ≤ 1000) (nm : Nat) : Ev cx 30 nm [.sl false 2 (l.map tcells), .int .i64 rid, .str text] Mem.nil (.bool (l.all (Td.fit rid text))) [] := by
  refine ev_go (fun cargs w => Try.call30 cargs w) Try.func30 rfl mixed (by kernel_rfl) rfl ?_; intro b0 hb0
  repeat (first | refine draw_end (by decide +kernel) ?_ | simp only [vcs, Nat.reduceAdd, Nat.reduceMul, Nat.reduceEqDiff, Nat.reduceLeDiff, Nat.reduceSub, Nat.reduceLT, Int.reduceToNat, Int.reduceLE, Int.reduceLT, Int.reduceAdd, Int.reduceSub, Int.reduceMul, Int.reduceNeg, reduceCtorEq, reduceIte, Int.reduceBEq, Int.reduceBNe, Int.reduceEq, Int.reduceNe, Nat.reduceBEq, Nat.reduceBNe, tys, List.length_map, List.getElem?_map, pick_false, pick_true, goGuard_sgd])
  refine loop_up l.length (fun k nm e M => e 0 = .sl false 2 (l.map tcells) ∧ e 1 = .int .i64 rid ∧ e 2 = .str text ∧ e 7 = .int .i64 k ∧ (l.take k).all (Td.fit rid text) = true) ?_ ?_
  · simp only [List.take_zero, List.all_nil, Int.natCast_zero, vcs, Nat.reduceAdd, Nat.reduceMul, Nat.reduceEqDiff, Nat.reduceLeDiff, Nat.reduceSub, Nat.reduceLT, Int.reduceToNat, Int.reduceLE, Int.reduceLT, Int.reduceAdd, Int.reduceSub, Int.reduceMul, Int.reduceNeg, reduceCtorEq, reduceIte, Int.reduceBEq, Int.reduceBNe, Int.reduceEq, Int.reduceNe, Nat.reduceBEq, Nat.reduceBNe, tys, List.length_map, List.getElem?_map, pick_false, pick_true, goGuard_sgd]
  · rintro k nm e M hk ⟨e0, e1, e2, e7, hall⟩
    by_cases hlt : k < l.length
    · have wk := wrap_up hlt (by omega)
      obtain ⟨t, hh⟩ : ∃ t, l[k]? = some t := ⟨_, List.getElem?_eq_getElem hlt⟩
      cases hp : (t.rid == rid && !(t.text == text)) with
      | true =>
        have hf : l.all (Td.fit rid text) = false := by
          rw [List.all_eq_false]
          exact ⟨t, List.mem_of_getElem? hh, by simp only [Td.fit, hp]; decide⟩
        ((repeat' first | simp only [Try.results30, Try.ntmps30, maxLen, Nat.reducePow, forall_eq', exists_eq', Prod.mk.injEq, Bool.true_or, Bool.false_or, Bool.or_true, Bool.or_false, Bool.true_and, Bool.false_and, Bool.and_false, hh, tcells, e0, e1, e2, e7, hlt, wk, hp, hf, vcs, Nat.reduceAdd, Nat.reduceMul, Nat.reduceEqDiff, Nat.reduceLeDiff, Nat.reduceSub, Nat.reduceLT, Int.reduceToNat, Int.reduceLE, Int.reduceLT, Int.reduceAdd, Int.reduceSub, Int.reduceMul, Int.reduceNeg, reduceCtorEq, reduceIte, Int.reduceBEq, Int.reduceBNe, Int.reduceEq, Int.reduceNe, Nat.reduceBEq, Nat.reduceBNe, tys, List.length_map, List.getElem?_map, pick_false, pick_true, goGuard_sgd] | exact rfl | refine draw_end (by decide +kernel) ?_ | refine And.intro (by omega) ?_ | refine And.intro (fun hb => ?_) (fun hb => ?_) | fail); (all_goals (first | (refine Fin.pure ?_ ?_ ?_ <;> (try simp only [Try.results30, Try.ntmps30, hh, tcells, e0, e1, e2, e7, hlt, wk, hp, hf, vcs, Nat.reduceAdd, Nat.reduceMul, Nat.reduceEqDiff, Nat.reduceLeDiff, Nat.reduceSub, Nat.reduceLT, Int.reduceToNat, Int.reduceLE, Int.reduceLT, Int.reduceAdd, Int.reduceSub, Int.reduceMul, Int.reduceNeg, reduceCtorEq, reduceIte, Int.reduceBEq, Int.reduceBNe, Int.reduceEq, Int.reduceNe, Nat.reduceBEq, Nat.reduceBNe, tys, List.length_map, List.getElem?_map, pick_false, pick_true, goGuard_sgd]) <;> (try simp only [V.bool.injEq, V.int.injEq, V.str.injEq, V.agg.injEq, V.tup.injEq, V.sl.injEq, V.own.injEq, List.cons.injEq, and_true, true_and, and_self])) | skip)))
      | false =>
        repeat' first | simp only [Try.results30, Try.ntmps30, maxLen, Nat.reducePow, forall_eq', exists_eq', Prod.mk.injEq, Bool.true_or, Bool.false_or, Bool.or_true, Bool.or_false, Bool.true_and, Bool.false_and, Bool.and_false, hh, tcells, e0, e1, e2, e7, hlt, wk, hp, vcs, Nat.reduceAdd, Nat.reduceMul, Nat.reduceEqDiff, Nat.reduceLeDiff, Nat.reduceSub, Nat.reduceLT, Int.reduceToNat, Int.reduceLE, Int.reduceLT, Int.reduceAdd, Int.reduceSub, Int.reduceMul, Int.reduceNeg, reduceCtorEq, reduceIte, Int.reduceBEq, Int.reduceBNe, Int.reduceEq, Int.reduceNe, Nat.reduceBEq, Nat.reduceBNe, tys, List.length_map, List.getElem?_map, pick_false, pick_true, goGuard_sgd] | exact rfl | refine draw_end (by decide +kernel) ?_ | refine And.intro (by omega) ?_ | refine And.intro (fun hb => ?_) (fun hb => ?_) | fail
        refine again_up hlt ?_
        simp only [e0, e1, e2, e7, wk, vcs, Nat.reduceAdd, Nat.reduceMul, Nat.reduceEqDiff, Nat.reduceLeDiff, Nat.reduceSub, Nat.reduceLT, Int.reduceToNat, Int.reduceLE, Int.reduceLT, Int.reduceAdd, Int.reduceSub, Int.reduceMul, Int.reduceNeg, reduceCtorEq, reduceIte, Int.reduceBEq, Int.reduceBNe, Int.reduceEq, Int.reduceNe, Nat.reduceBEq, Nat.reduceBNe, tys, List.length_map, List.getElem?_map, pick_false, pick_true, goGuard_sgd]
        rw [List.take_add_one, hh, List.all_append, hall]
        simp [Td.fit, hp]
    · have hke : k = l.length := by omega
      subst hke
      rw [List.take_length] at hall
      ((repeat' first | simp only [Try.results30, Try.ntmps30, maxLen, Nat.reducePow, forall_eq', exists_eq', Prod.mk.injEq, Bool.true_or, Bool.false_or, Bool.or_true, Bool.or_false, Bool.true_and, Bool.false_and, Bool.and_false, e0, e1, e2, e7, hall, vcs, Nat.reduceAdd, Nat.reduceMul, Nat.reduceEqDiff, Nat.reduceLeDiff, Nat.reduceSub, Nat.reduceLT, Int.reduceToNat, Int.reduceLE, Int.reduceLT, Int.reduceAdd, Int.reduceSub, Int.reduceMul, Int.reduceNeg, reduceCtorEq, reduceIte, Int.reduceBEq, Int.reduceBNe, Int.reduceEq, Int.reduceNe, Nat.reduceBEq, Nat.reduceBNe, tys, List.length_map, List.getElem?_map, pick_false, pick_true, goGuard_sgd] | exact rfl | refine draw_end (by decide +kernel) ?_ | refine And.intro (by omega) ?_ | refine And.intro (fun hb => ?_) (fun hb => ?_) | fail); (all_goals (first | (refine Fin.pure ?_ ?_ ?_ <;> (try simp only [Try.results30, Try.ntmps30, e0, e1, e2, e7, hall, vcs, Nat.reduceAdd, Nat.reduceMul, Nat.reduceEqDiff, Nat.reduceLeDiff, Nat.reduceSub, Nat.reduceLT, Int.reduceToNat, Int.reduceLE, Int.reduceLT, Int.reduceAdd, Int.reduceSub, Int.reduceMul, Int.reduceNeg, reduceCtorEq, reduceIte, Int.reduceBEq, Int.reduceBNe, Int.reduceEq, Int.reduceNe, Nat.reduceBEq, Nat.reduceBNe, tys, List.length_map, List.getElem?_map, pick_false, pick_true, goGuard_sgd]) <;> (try simp only [V.bool.injEq, V.int.injEq, V.str.injEq, V.agg.injEq, V.tup.injEq, V.sl.injEq, V.own.injEq, List.cons.injEq, and_true, true_and, and_self])) | skip)))
end Go.Proofs.Ytdbbnhmnlgfjoaa
/-
  Layer 28: what deeds make of desks: plain laws.
-/
namespace Go.Proofs.Ytdbbnhmnlgfjoaa
set_option linter.unusedSimpArgs false
set_option linter.unusedVariables false
open Go Go.RowKit Go.Proofs.Ytdbbnhmnlgfjoaa.Vm

theorem hAll_shift {top top' : Int} : ∀ {l : List Hd} {k k' : Nat}, top + k = top' + k' → hAll top k l = hAll top' k' l
  | [], _, _, _ => rfl
  | y :: l, k, k', h => by
    simp only [hAll]
    rw [hAll_shift (l := l) (k := k + 1) (k' := k' + 1) (top' := top') (by push_cast; omega), h]
theorem hAll_set {top : Int} {f : Hd → Hd} (hf : ∀ h, h.may = true → (f h).may = true) (hr : ∀ h, (f h).rid = h.rid) : ∀ {l : List Hd} {k n : Nat} {x : Hd}, hAll top k l = true → l[n]? = some x → hAll top k (l.set n (f x)) = true
  | [], _, _, _, _, h => by simp at h
  | y :: l, k, 0, x, h, hx => by
    simp at hx; subst hx
    simp only [hAll, Bool.and_eq_true] at h
    simp only [List.set_cons_zero, hAll, Bool.and_eq_true, hr]
    exact ⟨⟨hf y h.1.1, h.1.2⟩, h.2⟩
  | y :: l, k, n + 1, x, h, hx => by
    simp only [hAll, Bool.and_eq_true] at h
    simp only [List.set_cons_succ, hAll, Bool.and_eq_true]
    exact ⟨h.1, hAll_set hf hr h.2 (by simpa using hx)⟩
theorem added_may {d : Desk} {h : Hd} (hd : d.may = true) (hh : h.may = true) (hr : h.rid = d.top + d.held.length + 1) (hl : d.held.length < 4) : ({ d with held := d.held ++ [h] } : Desk).may = true := by
  obtain ⟨h1, h2, h3⟩ := may_lists hd
  simp only [Desk.may, Bool.and_eq_true]
  refine ⟨⟨?_, ?_⟩, h2⟩
  · simp only [Desk.head, Bool.and_eq_true, decide_eq_true_eq] at h3 ⊢
    refine ⟨⟨h3.1.1, ?_⟩, h3.2⟩
    simp only [List.length_append, List.length_singleton]; omega
  · rw [hAll_append, h1, Bool.true_and]
    simp only [hAll, hh, Bool.and_true, Bool.true_and, beq_iff_eq]
    rw [hr]; push_cast; omega
theorem came_may {d : Desk} (hd : d.may = true) (rid : Int) (body : List UInt8) {conn : Int} (hc : inRange 0 1048576 conn = true) : (cameR d rid body conn).desk.may = true ∧ (cameR d rid body conn).desk.top = d.top ∧ (cameR d rid body conn).desk.size = d.size ∧ (cameR d rid body conn).desk.done = d.done := by
  unfold cameR
  split
  · split
    · rename_i n hi x hx
      refine ⟨?_, rfl, rfl, rfl⟩
      obtain ⟨h1, h2, h3⟩ := may_lists hd
      simp only [Desk.may, Bool.and_eq_true]
      refine ⟨⟨?_, ?_⟩, h2⟩
      · simpa [Desk.head] using h3
      · refine hAll_set (f := fun x => { x with conn := conn }) (fun y hy => ?_) (fun y => rfl) h1 hx
        simp only [Hd.may, Bool.and_eq_true] at hy ⊢
        exact ⟨⟨⟨⟨⟨hy.1.1.1.1.1, hc⟩, hy.1.1.1.2⟩, hy.1.1.2⟩, hy.1.2⟩, hy.2⟩
    · exact ⟨hd, rfl, rfl, rfl⟩
  · split
    · split <;> exact ⟨hd, rfl, rfl, rfl⟩
    · exact ⟨hd, rfl, rfl, rfl⟩
theorem answered_may {h : Hd} {r : List Hd} {done : List Dn} {top size : Int} {text : List UInt8} (hd : (⟨h :: r, done, top, size⟩ : Desk).may = true) (ht : shortB text = true) : (⟨r, lastN size (done ++ [⟨h.rid, h.body, text, 0⟩]), h.rid, size⟩ : Desk).may = true ∧ h.rid = top + 1 := by
  obtain ⟨h1, h2, h3⟩ := may_lists hd
  obtain ⟨s1, s2⟩ := Desk.may_size hd
  simp only at h1 h2 s1 s2
  simp only [hAll, Bool.and_eq_true, beq_iff_eq] at h1
  have hrid : h.rid = top + 1 := by have := h1.1.2; push_cast at this; omega
  refine ⟨?_, hrid⟩
  have hm := h1.1.1
  simp only [Hd.may, Bool.and_eq_true] at hm
  have hall : dAll (top - done.length) 0 (done ++ [(⟨h.rid, h.body, text, 0⟩ : Dn)]) = true := by
    rw [dAll_append, h2, Bool.true_and]
    simp only [dAll, Dn.may, hm.1.1.1.1.1, hm.1.1.2, ht, Bool.and_true, Bool.true_and, Bool.and_eq_true, beq_iff_eq]
    exact ⟨by decide, by rw [hrid]; push_cast; omega⟩
  simp only [Desk.head, Bool.and_eq_true, decide_eq_true_eq, List.length_cons] at h3
  simp only [Desk.may, Desk.head, Bool.and_eq_true, decide_eq_true_eq]
  have hlen : (lastN size (done ++ [(⟨h.rid, h.body, text, 0⟩ : Dn)])).length = done.length + 1 - (done.length + 1 - size.toNat) := by simp [lastN]
  refine ⟨⟨⟨⟨⟨h3.1.1.1, hm.1.1.1.1.1⟩, ?_⟩, ?_⟩, ?_⟩, ?_⟩
  · have := h3.1.2; push_cast at this ⊢; omega
  · rw [hlen]; omega
  · rw [← h1.2]; exact hAll_shift (by rw [hrid]; push_cast; omega)
  · unfold lastN
    have hd2 := dAll_tail ((done ++ [(⟨h.rid, h.body, text, 0⟩ : Dn)]).length - size.toNat) hall
    rw [← hd2]
    refine dAll_shift ?_
    rw [hrid]
    simp only [List.length_drop, List.length_append, List.length_singleton]
    push_cast
    omega
/-- What is kept of what was told. -/
structure Kept (first size : Int) (d : Desk) (all : List Td) : Prop where
  may : d.may = true
  top : d.top = first + all.length
  size : d.size = size
  rids : ∀ (i : Nat) (t : Td), all[i]? = some t → t.rid = first + 1 + i
  told : ∀ x ∈ d.done, (⟨x.rid, x.text⟩ : Td) ∈ all
theorem Kept.le {first size : Int} {d : Desk} {all : List Td} (h : Kept first size d all) {t : Td} (ht : t ∈ all) : t.rid ≤ d.top := by
  obtain ⟨i, hi⟩ := List.mem_iff_getElem?.1 ht
  have h1 := h.rids i t hi
  have h2 := (List.getElem?_eq_some_iff.1 hi).1
  have := h.top
  omega
theorem Kept.one {first size : Int} {d : Desk} {all : List Td} (h : Kept first size d all) {t u : Td} (ht : t ∈ all) (hu : u ∈ all) (e : t.rid = u.rid) : t = u := by
  obtain ⟨i, hi⟩ := List.mem_iff_getElem?.1 ht
  obtain ⟨j, hj⟩ := List.mem_iff_getElem?.1 hu
  have h1 := h.rids i t hi
  have h2 := h.rids j u hj
  have : i = j := by omega
  subst this
  rw [hi] at hj; exact Option.some.inj hj
/-- A text that was told of a number fits. -/
theorem Kept.fits {first size : Int} {d : Desk} {all : List Td} (h : Kept first size d all) {x : Dn} (hx : x ∈ d.done) : all.all (Td.fit x.rid x.text) = true := by
  rw [List.all_eq_true]
  intro t ht
  simp only [Td.fit, Bool.not_and, Bool.not_not, Bool.or_eq_true, Bool.not_eq_true', beq_eq_false_iff_ne, beq_iff_eq]
  by_cases e : t.rid = x.rid
  · right
    have := h.one ht (h.told x hx) e
    rw [this]
  · left; exact e
theorem Kept.fits_new {first size : Int} {d : Desk} {all : List Td} (h : Kept first size d all) {rid : Int} (hr : d.top < rid) (text : List UInt8) : all.all (Td.fit rid text) = true := by
  rw [List.all_eq_true]
  intro t ht
  have := h.le ht
  have hne : t.rid ≠ rid := by omega
  simp [Td.fit, hne]
theorem Kept.next {first size : Int} {d d' : Desk} {all : List Td} (h : Kept first size d all) (hm : d'.may = true) (ht : d'.top = d.top) (hs : d'.size = d.size) (hd : ∀ x ∈ d'.done, ∃ y ∈ d.done, y.rid = x.rid ∧ y.text = x.text) : Kept first size d' all :=
  ⟨hm, by rw [ht, h.top], by rw [hs, h.size], h.rids, fun x hx => by
    obtain ⟨y, h1, h2, h3⟩ := hd x hx
    have := h.told y h1
    rw [h2, h3] at this; exact this⟩
theorem Kept.answered {first size : Int} {h : Hd} {r : List Hd} {done : List Dn} {top : Int} {text : List UInt8} {all : List Td} (k : Kept first size ⟨h :: r, done, top, size⟩ all) (ht : shortB text = true) :
    Kept first size ⟨r, lastN size (done ++ [⟨h.rid, h.body, text, 0⟩]), h.rid, size⟩ (all ++ [⟨h.rid, text⟩]) := by
  obtain ⟨h1, h2⟩ := answered_may k.may ht
  have hk := k.top
  simp only at hk
  refine ⟨h1, ?_, rfl, fun i t hi => ?_, fun x hx => ?_⟩
  · simp only [List.length_append, List.length_singleton]; push_cast; omega
  · rw [List.getElem?_append] at hi
    split at hi
    · exact k.rids i t hi
    · rename_i hge
      have : i = all.length := by
        rcases Nat.lt_or_ge i (all.length + 1) with h3 | h3
        · omega
        · rw [List.getElem?_eq_none (by simp; omega)] at hi; cases hi
      subst this
      simp at hi; subst hi
      simp only; omega
  · simp only [lastN] at hx
    have hx2 := List.mem_of_mem_drop hx
    rw [List.mem_append] at hx2 ⊢
    rcases hx2 with hx2 | hx2
    · exact .inl (k.told x hx2)
    · rw [List.mem_singleton] at hx2; subst hx2; right; exact List.mem_singleton.2 rfl
end Go.Proofs.Ytdbbnhmnlgfjoaa
