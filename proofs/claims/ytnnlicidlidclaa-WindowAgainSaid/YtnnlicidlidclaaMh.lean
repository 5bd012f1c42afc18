/-
  Texts joined: XYf.
-/
import Derived.Test.YtnnlicidlidclaaMg
/-
  Layer 27: slices.Insert of one request.
-/
namespace Go.Proofs.Ytnnlicidlidclaa
set_option linter.unusedSimpArgs false
set_option linter.unusedVariables false
open Go Go.RowKit Go.Proofs.Ytnnlicidlidclaa.Vm

def insL (l : List Ea) (i : Nat) (x : Ea) : List Ea := l.take i ++ x :: l.drop i
set_option maxRecDepth 100000 in
set_option maxHeartbeats 8000000 in
theorem insert_end (l : List Ea) (x : Ea) (hn : l.length ≤ 1000) (y z : Nat) (hyz : y ≠ z) (M : Mem) (hy : M y = some ⟨4, l.map eacells⟩) (hz : M z = some ⟨4, [eacells x]⟩) (ho : ∀ q, (M q).isSome = true → q ∈ [y, z]) (nm : Nat) (hyn : y < nm) (hzn : z < nm) :
    Ev cx 82 nm [.own y 0 l.length, .int .i64 l.length, .own z 0 1] M (.own nm 0 (l.length + 1)) [(y, none), (nm, some ⟨4, (insL l l.length x).map eacells⟩), (z, some ⟨4, [eacells x]⟩)] := by
  have hi : insL l l.length x = l ++ [x] := by simp [insL]
  have he : ((l.length : Int) == (l.length : Int)) = true := by simp
  rw [hi]
  refine ev_go (fun cargs w => Try.call82 cargs w) Try.func82 rfl mixed (by kernel_rfl) rfl ?_; intro b0 hb0
  have ly : y < b0 := below_of hb0 (by rw [hy]; rfl)
  have lz : z < b0 := below_of hb0 (by rw [hz]; rfl)
  have y0 := lt_ne ly; have y1 := lt_ne_add ly; have y2 := lt_ne' ly; have y3 := lt_ne_add' ly
  have z0 := lt_ne lz; have z1 := lt_ne_add lz; have z2 := lt_ne' lz; have z3 := lt_ne_add' lz
  have n1 : (z = nm) = False := eq_false (by omega)
  have n2 : (nm = z) = False := eq_false (by omega)
  have yz : (y = z) = False := eq_false hyz
  have zy : (z = y) = False := eq_false (fun h => hyz h.symm)
  repeat' first | simp only [Try.results82, Try.ntmps82, maxLen, Nat.reducePow, forall_eq', exists_eq', Prod.mk.injEq, Bool.true_or, Bool.false_or, Bool.or_true, Bool.or_false, Bool.true_and, Bool.false_and, Bool.and_false, hy, hz, y0, y1, y2, y3, z0, z1, z2, z3, yz, zy, he, vcs, Nat.reduceAdd, Nat.reduceMul, Nat.reduceEqDiff, Nat.reduceLeDiff, Nat.reduceSub, Nat.reduceLT, Int.reduceToNat, Int.reduceLE, Int.reduceLT, Int.reduceAdd, Int.reduceSub, Int.reduceMul, Int.reduceNeg, reduceCtorEq, reduceIte, Int.reduceBEq, Int.reduceBNe, Int.reduceEq, Int.reduceNe, Nat.reduceBEq, Nat.reduceBNe, tys, plain_e, flat_e, small_e, List.length_map, List.getElem?_map, List.length_set, updTo_length, pick_false, pick_true, goGuard_sgd, eacells, take_map_len, List.length_append, List.map_append, plainLL_append, plainLL, ren_mk, renOk_mk] | exact rfl | refine draw_end (by decide +kernel) ?_ | refine And.intro (by omega) ?_ | refine And.intro (fun hb => ?_) (fun hb => ?_) | fail
  (refine Fin.give [(b0 + 272, some 0), (z, none)] [y] ?_ ?_ ?_ ?_ ?_ (fun q hq => by have hqq := ho q hq; simp only [gives, tgt, List.map_cons, List.map_nil, List.mem_cons, List.not_mem_nil, or_false] at hqq ⊢; omega) <;> (try simp only [Try.results82, Try.ntmps82, hy, hz, y0, y1, y2, y3, z0, z1, z2, z3, yz, zy, n1, n2, tgt, gives, giveOk, giveE, dropE, ren_mk, renOk_mk, renLL, renOkLL, renL, renOkL, V.ren, V.renOk, newName_nil, newName_cons, List.mem_cons, List.not_mem_nil, forall_eq, forall_eq_or_imp, ne_eq, not_false_eq_true, not_true_eq_false, Nat.le_add_right, Bool.or_true, Bool.true_or, Bool.false_or, Bool.or_false, vcs, Nat.reduceAdd, Nat.reduceMul, Nat.reduceEqDiff, Nat.reduceLeDiff, Nat.reduceSub, Nat.reduceLT, Int.reduceToNat, Int.reduceLE, Int.reduceLT, Int.reduceAdd, Int.reduceSub, Int.reduceMul, Int.reduceNeg, reduceCtorEq, reduceIte, Int.reduceBEq, Int.reduceBNe, Int.reduceEq, Int.reduceNe, Nat.reduceBEq, Nat.reduceBNe, tys, plain_e, flat_e, small_e, List.length_map, List.getElem?_map, List.length_set, updTo_length, pick_false, pick_true, goGuard_sgd, eacells, take_map_len, List.length_append, List.map_append, plainLL_append, plainLL, ren_mk, renOk_mk]) <;> (try simp only [V.bool.injEq, V.int.injEq, V.str.injEq, V.agg.injEq, V.tup.injEq, V.sl.injEq, V.own.injEq, List.cons.injEq, and_true, true_and, and_self]) <;> (try omega))
theorem overlaps_ev (a la lo' y lo n c : Nat) (hay : a ≠ y) (M : Mem) (hMa : isCellsM M a = true) (hMy : isCellsM M y = true) (hsz : szOf M y = 4) (nm : Nat) : Ev cx 83 nm [.own a lo' la, .ownc y lo n c] M (.bool false) [] := by
  obtain ⟨k1, h1, _⟩ := isCellsM_some hMa
  obtain ⟨k2, h2, _⟩ := isCellsM_some hMy
  exact Ev.overlaps (tS := 25) (tR := 4) Try.func83 (by kernel_rfl) (by kernel_rfl) (by kernel_rfl) (by kernel_rfl) el_25 a la lo' y lo n c hay M (by rw [h1]; rfl) (by rw [h2]; rfl) hsz hMa hMy nm
set_option maxRecDepth 100000 in
set_option maxHeartbeats 8000000 in
theorem insert_grow (A B : List Ea) (hB : B ≠ []) (x : Ea) (hn : A.length + B.length ≤ 1000) (y z : Nat) (hyz : y ≠ z) (M : Mem) (hy : M y = some ⟨4, A.map eacells ++ B.map eacells⟩) (hz : M z = some ⟨4, [eacells x]⟩) (ho : ∀ q, (M q).isSome = true → q ∈ [y, z]) (nm : Nat) (hyn : y < nm) (hzn : z < nm) :
    Ev cx 82 nm [.ownc y 0 (A.length + B.length) (A.length + B.length), .int .i64 A.length, .own z 0 1] M (.own nm 0 (A.length + (B.length + 1))) [(y, none), (nm, some ⟨4, (A ++ x :: B).map eacells⟩), (z, some ⟨4, [eacells x]⟩)] := by
  have hBl : 0 < B.length := List.length_pos_iff.2 hB
  have he : (((A.length : Int) == ((A.length + B.length : Nat) : Int))) = false := beq_eq_false_iff_ne.2 (by omega)
  have w1 : IntKind.i64.wrap (((A.length + B.length : Nat) : Int) + 1) = ((A.length + (B.length + 1) : Nat) : Int) := by rw [wrap_in (by omega) (by omega)]; push_cast; omega
  have w2 : IntKind.i64.wrap (((A.length + (B.length + 1) : Nat) : Int) - (A.length : Int)) = ((B.length + 1 : Nat) : Int) := by rw [wrap_in (by omega) (by omega)]; omega
  have w3 : IntKind.i64.wrap ((A.length : Int) + 1) = ((A.length + 1 : Nat) : Int) := by rw [wrap_in (by omega) (by omega)]; push_cast; rfl
  have yz : (y = z) = False := eq_false hyz
  have zy : (z = y) = False := eq_false (fun h => hyz h.symm)
  have n1 : (z = nm) = False := eq_false (by omega)
  have n2 : (nm = z) = False := eq_false (by omega)
  have hg : decide (A.length + B.length < A.length + (B.length + 1)) = true := decide_eq_true (by omega)
  have f1 : A.length + B.length - A.length = B.length := by omega
  have f2 : A.length + (B.length + 1) - A.length = B.length + 1 := by omega
  have f3 : A.length + (B.length + 1) - (A.length + 1) = B.length := by omega
  have f4 : min 1 (B.length + 1) = 1 := by omega
  have t1 : ∀ R : List (List V), (A.map eacells ++ R).take A.length = A.map eacells := fun R => List.take_left' (by simp)
  have t2 : ∀ R : List (List V), (A.map eacells ++ R).drop A.length = R := fun R => List.drop_left' (by simp)
  have t3 : ∀ (a : List V) (R : List (List V)), (A.map eacells ++ a :: R).drop (A.length + 1) = R := fun a R => by rw [← List.drop_drop, t2]; rfl
  have t4 : ∀ (a : List V) (R : List (List V)), (A.map eacells ++ a :: R).take (A.length + 1) = A.map eacells ++ [a] := fun a R => by
    rw [show A.map eacells ++ a :: R = (A.map eacells ++ [a]) ++ R by simp]
    exact List.take_left' (by simp)
  have t5 : ∀ (a : List V) (R : List (List V)) (k : Nat), (A.map eacells ++ a :: R).drop (A.length + (1 + k)) = R.drop k := fun a R k => by
    rw [← List.drop_drop, t2, ← List.drop_drop]; rfl
  have t6 : ∀ (a : List V), (List.replicate B.length a).drop B.length = [] := fun a => List.drop_of_length_le (by simp)
  refine ev_go (fun cargs w => Try.call82 cargs w) Try.func82 rfl mixed (by kernel_rfl) rfl ?_; intro b0 hb0
  have ly : y < b0 := below_of hb0 (by rw [hy]; rfl)
  have lz : z < b0 := below_of hb0 (by rw [hz]; rfl)
  have y0 := lt_ne ly; have y1 := lt_ne_add ly; have y2 := lt_ne' ly; have y3 := lt_ne_add' ly
  have z0 := lt_ne lz; have z1 := lt_ne_add lz; have z2 := lt_ne' lz; have z3 := lt_ne_add' lz
  repeat' first | simp only [Try.results82, Try.ntmps82, maxLen, Nat.reducePow, forall_eq', exists_eq', Prod.mk.injEq, Bool.true_or, Bool.false_or, Bool.or_true, Bool.or_false, Bool.true_and, Bool.false_and, Bool.and_false, hy, hz, y0, y1, y2, y3, z0, z1, z2, z3, yz, zy, he, w1, w2, w3, hg, f1, f2, f3, f4, t1, t2, t3, t4, t5, t6, List.length_replicate, List.append_assoc, Nat.min_self, vcs, Nat.reduceAdd, Nat.reduceMul, Nat.reduceEqDiff, Nat.reduceLeDiff, Nat.reduceSub, Nat.reduceLT, Int.reduceToNat, Int.reduceLE, Int.reduceLT, Int.reduceAdd, Int.reduceSub, Int.reduceMul, Int.reduceNeg, reduceCtorEq, reduceIte, Int.reduceBEq, Int.reduceBNe, Int.reduceEq, Int.reduceNe, Nat.reduceBEq, Nat.reduceBNe, tys, plain_e, flat_e, small_e, List.length_map, List.getElem?_map, List.length_set, updTo_length, pick_false, pick_true, goGuard_sgd, eacells, take_map_len, List.length_append, List.map_append, plainLL_append, plainLL, ren_mk, renOk_mk] | exact rfl | refine draw_end (by decide +kernel) ?_ | refine And.intro (by omega) ?_ | refine And.intro (fun hb => ?_) (fun hb => ?_) | fail
  (refine Fin.give [(b0 + 464, some 0), (z, none)] [y] ?_ ?_ ?_ ?_ ?_ (fun q hq => by have hqq := ho q hq; simp only [gives, tgt, List.map_cons, List.map_nil, List.mem_cons, List.not_mem_nil, or_false] at hqq ⊢; omega) <;> (try simp only [Try.results82, Try.ntmps82, hy, hz, y0, y1, y2, y3, z0, z1, z2, z3, yz, zy, n1, n2, tgt, gives, giveOk, giveE, dropE, ren_mk, renOk_mk, renLL, renOkLL, renL, renOkL, V.ren, V.renOk, newName_nil, newName_cons, List.mem_cons, List.not_mem_nil, forall_eq, forall_eq_or_imp, ne_eq, not_false_eq_true, not_true_eq_false, Nat.le_add_right, Bool.or_true, Bool.true_or, Bool.false_or, Bool.or_false, vcs, Nat.reduceAdd, Nat.reduceMul, Nat.reduceEqDiff, Nat.reduceLeDiff, Nat.reduceSub, Nat.reduceLT, Int.reduceToNat, Int.reduceLE, Int.reduceLT, Int.reduceAdd, Int.reduceSub, Int.reduceMul, Int.reduceNeg, reduceCtorEq, reduceIte, Int.reduceBEq, Int.reduceBNe, Int.reduceEq, Int.reduceNe, Nat.reduceBEq, Nat.reduceBNe, tys, plain_e, flat_e, small_e, List.length_map, List.getElem?_map, List.length_set, updTo_length, pick_false, pick_true, goGuard_sgd, eacells, take_map_len, List.length_append, List.map_append, plainLL_append, plainLL, ren_mk, renOk_mk]) <;> (try simp only [V.bool.injEq, V.int.injEq, V.str.injEq, V.agg.injEq, V.tup.injEq, V.sl.injEq, V.own.injEq, List.cons.injEq, and_true, true_and, and_self]) <;> (try omega))
set_option maxRecDepth 100000 in
set_option maxHeartbeats 8000000 in
theorem insert_room (A B : List Ea) (hB : B ≠ []) (p : List V) (P : List (List V)) (x : Ea) (hn : A.length + B.length ≤ 1000) (y z : Nat) (hyz : y ≠ z) (M : Mem) (hy : M y = some ⟨4, A.map eacells ++ (B.map eacells ++ p :: P)⟩) (hpl : plainL p = true) (hPl : plainLL P = true) (hz : M z = some ⟨4, [eacells x]⟩) (ho : ∀ q, (M q).isSome = true → q ∈ [y, z]) (nm : Nat) (hyn : y < nm) (hzn : z < nm) :
    Ev cx 82 nm [.ownc y 0 (A.length + B.length) (A.length + (B.length + (P.length + 1))), .int .i64 A.length, .own z 0 1] M (.own nm 0 (A.length + (B.length + 1))) [(y, none), (nm, some ⟨4, (A ++ x :: B).map eacells ++ P⟩), (z, some ⟨4, [eacells x]⟩)] := by
  have hBl : 0 < B.length := List.length_pos_iff.2 hB
  have he : (((A.length : Int) == ((A.length + B.length : Nat) : Int))) = false := beq_eq_false_iff_ne.2 (by omega)
  have w1 : IntKind.i64.wrap (((A.length + B.length : Nat) : Int) + 1) = ((A.length + (B.length + 1) : Nat) : Int) := by rw [wrap_in (by omega) (by omega)]; push_cast; omega
  have w3 : IntKind.i64.wrap ((A.length : Int) + 1) = ((A.length + 1 : Nat) : Int) := by rw [wrap_in (by omega) (by omega)]; push_cast; rfl
  have yz : (y = z) = False := eq_false hyz
  have zy : (z = y) = False := eq_false (fun h => hyz h.symm)
  have n1 : (z = nm) = False := eq_false (by omega)
  have n2 : (nm = z) = False := eq_false (by omega)
  have hg : decide (A.length + (B.length + (P.length + 1)) < A.length + (B.length + 1)) = false := decide_eq_false (by omega)
  have f2 : A.length + (B.length + 1) - A.length = B.length + 1 := by omega
  have f3 : A.length + (B.length + 1) - (A.length + 1) = B.length := by omega
  have f4 : min 1 (B.length + 1) = 1 := by omega
  have f5 : min (B.length + 1) B.length = B.length := by omega
  have t1 : ∀ R : List (List V), (A.map eacells ++ R).take A.length = A.map eacells := fun R => List.take_left' (by simp)
  have t2 : ∀ R : List (List V), (A.map eacells ++ R).drop A.length = R := fun R => List.drop_left' (by simp)
  have t3 : ∀ (a : List V) (R : List (List V)), (A.map eacells ++ a :: R).drop (A.length + 1) = R := fun a R => by rw [← List.drop_drop, t2]; rfl
  have u1 : ∀ R : List (List V), (B.map eacells ++ R).take B.length = B.map eacells := fun R => List.take_left' (by simp)
  have u2 : ∀ R : List (List V), (B.map eacells ++ R).drop B.length = R := fun R => List.drop_left' (by simp)
  have u4 : ∀ (a : List V) (R : List (List V)), (B.map eacells ++ a :: R).take (B.length + 1) = B.map eacells ++ [a] := fun a R => by
    rw [show B.map eacells ++ a :: R = (B.map eacells ++ [a]) ++ R by simp]
    exact List.take_left' (by simp)
  have t5 : (A.map eacells ++ (B.map eacells ++ p :: P)).drop (A.length + (1 + B.length)) = P := by
    rw [← List.drop_drop, t2, Nat.add_comm 1, ← List.drop_drop, u2]; rfl
  obtain ⟨q, t7⟩ : ∃ q, (A.map eacells ++ (B.map eacells ++ p :: P)).take (A.length + 1) = A.map eacells ++ [q] := by
    obtain ⟨b, B', rfl⟩ := List.exists_cons_of_ne_nil hB
    refine ⟨eacells b, ?_⟩
    rw [show A.map eacells ++ ((b :: B').map eacells ++ p :: P) = (A.map eacells ++ [eacells b]) ++ (B'.map eacells ++ p :: P) by simp]
    exact List.take_left' (by simp)
  refine ev_go (fun cargs w => Try.call82 cargs w) Try.func82 rfl mixed (by kernel_rfl) rfl ?_; intro b0 hb0
  have ly : y < b0 := below_of hb0 (by rw [hy]; rfl)
  have lz : z < b0 := below_of hb0 (by rw [hz]; rfl)
  have y0 := lt_ne ly; have y1 := lt_ne_add ly; have y2 := lt_ne' ly; have y3 := lt_ne_add' ly
  have z0 := lt_ne lz; have z1 := lt_ne_add lz; have z2 := lt_ne' lz; have z3 := lt_ne_add' lz
  repeat' first | simp only [Try.results82, Try.ntmps82, maxLen, Nat.reducePow, forall_eq', exists_eq', Prod.mk.injEq, Bool.true_or, Bool.false_or, Bool.or_true, Bool.or_false, Bool.true_and, Bool.false_and, Bool.and_false, hy, hz, y0, y1, y2, y3, z0, z1, z2, z3, yz, zy, he, w1, w3, hg, f2, f3, f4, f5, t1, t2, t3, u1, u2, u4, t5, t7, List.length_replicate, List.append_assoc, Nat.min_self, vcs, Nat.reduceAdd, Nat.reduceMul, Nat.reduceEqDiff, Nat.reduceLeDiff, Nat.reduceSub, Nat.reduceLT, Int.reduceToNat, Int.reduceLE, Int.reduceLT, Int.reduceAdd, Int.reduceSub, Int.reduceMul, Int.reduceNeg, reduceCtorEq, reduceIte, Int.reduceBEq, Int.reduceBNe, Int.reduceEq, Int.reduceNe, Nat.reduceBEq, Nat.reduceBNe, tys, plain_e, flat_e, small_e, List.length_map, List.getElem?_map, List.length_set, updTo_length, pick_false, pick_true, goGuard_sgd, eacells, take_map_len, List.length_append, List.map_append, plainLL_append, plainLL, ren_mk, renOk_mk] | exact rfl | (refine call_fn_full ?_ [z, y] (overlaps_ev z 1 0 y (A.length + 1) B.length (A.length + (B.length + (P.length + 1)) - (A.length + 1)) (fun h => hyz h.symm) _ ?_ ?_ ?_ _) ?_ ?_; (focus (simp only [Try.results82, Try.ntmps82, maxLen, Nat.reducePow, forall_eq', exists_eq', Prod.mk.injEq, Bool.true_or, Bool.false_or, Bool.or_true, Bool.or_false, Bool.true_and, Bool.false_and, Bool.and_false, hy, hz, y0, y1, y2, y3, z0, z1, z2, z3, yz, zy, he, w1, w3, hg, f2, f3, f4, f5, t1, t2, t3, u1, u2, u4, t5, t7, List.length_replicate, List.append_assoc, Nat.min_self, vcs, Nat.reduceAdd, Nat.reduceMul, Nat.reduceEqDiff, Nat.reduceLeDiff, Nat.reduceSub, Nat.reduceLT, Int.reduceToNat, Int.reduceLE, Int.reduceLT, Int.reduceAdd, Int.reduceSub, Int.reduceMul, Int.reduceNeg, reduceCtorEq, reduceIte, Int.reduceBEq, Int.reduceBNe, Int.reduceEq, Int.reduceNe, Nat.reduceBEq, Nat.reduceBNe, tys, plain_e, flat_e, small_e, List.length_map, List.getElem?_map, List.length_set, updTo_length, pick_false, pick_true, goGuard_sgd, eacells, take_map_len, List.length_append, List.map_append, plainLL_append, plainLL, ren_mk, renOk_mk] <;> exact rfl)); (focus (simp only [only_at, List.mem_cons, List.not_mem_nil, Try.results82, Try.ntmps82, maxLen, Nat.reducePow, forall_eq', exists_eq', Prod.mk.injEq, Bool.true_or, Bool.false_or, Bool.or_true, Bool.or_false, Bool.true_and, Bool.false_and, Bool.and_false, hy, hz, y0, y1, y2, y3, z0, z1, z2, z3, yz, zy, he, w1, w3, hg, f2, f3, f4, f5, t1, t2, t3, u1, u2, u4, t5, t7, List.length_replicate, List.append_assoc, Nat.min_self, vcs, Nat.reduceAdd, Nat.reduceMul, Nat.reduceEqDiff, Nat.reduceLeDiff, Nat.reduceSub, Nat.reduceLT, Int.reduceToNat, Int.reduceLE, Int.reduceLT, Int.reduceAdd, Int.reduceSub, Int.reduceMul, Int.reduceNeg, reduceCtorEq, reduceIte, Int.reduceBEq, Int.reduceBNe, Int.reduceEq, Int.reduceNe, Nat.reduceBEq, Nat.reduceBNe, tys, plain_e, flat_e, small_e, List.length_map, List.getElem?_map, List.length_set, updTo_length, pick_false, pick_true, goGuard_sgd, eacells, take_map_len, List.length_append, List.map_append, plainLL_append, plainLL, ren_mk, renOk_mk] <;> exact rfl)); (focus (simp only [only_at, List.mem_cons, List.not_mem_nil, Try.results82, Try.ntmps82, maxLen, Nat.reducePow, forall_eq', exists_eq', Prod.mk.injEq, Bool.true_or, Bool.false_or, Bool.or_true, Bool.or_false, Bool.true_and, Bool.false_and, Bool.and_false, hy, hz, y0, y1, y2, y3, z0, z1, z2, z3, yz, zy, he, w1, w3, hg, f2, f3, f4, f5, t1, t2, t3, u1, u2, u4, t5, t7, List.length_replicate, List.append_assoc, Nat.min_self, vcs, Nat.reduceAdd, Nat.reduceMul, Nat.reduceEqDiff, Nat.reduceLeDiff, Nat.reduceSub, Nat.reduceLT, Int.reduceToNat, Int.reduceLE, Int.reduceLT, Int.reduceAdd, Int.reduceSub, Int.reduceMul, Int.reduceNeg, reduceCtorEq, reduceIte, Int.reduceBEq, Int.reduceBNe, Int.reduceEq, Int.reduceNe, Nat.reduceBEq, Nat.reduceBNe, tys, plain_e, flat_e, small_e, List.length_map, List.getElem?_map, List.length_set, updTo_length, pick_false, pick_true, goGuard_sgd, eacells, take_map_len, List.length_append, List.map_append, plainLL_append, plainLL, ren_mk, renOk_mk] <;> exact rfl)); (focus (simp only [only_at, List.mem_cons, List.not_mem_nil, Try.results82, Try.ntmps82, maxLen, Nat.reducePow, forall_eq', exists_eq', Prod.mk.injEq, Bool.true_or, Bool.false_or, Bool.or_true, Bool.or_false, Bool.true_and, Bool.false_and, Bool.and_false, hy, hz, y0, y1, y2, y3, z0, z1, z2, z3, yz, zy, he, w1, w3, hg, f2, f3, f4, f5, t1, t2, t3, u1, u2, u4, t5, t7, List.length_replicate, List.append_assoc, Nat.min_self, vcs, Nat.reduceAdd, Nat.reduceMul, Nat.reduceEqDiff, Nat.reduceLeDiff, Nat.reduceSub, Nat.reduceLT, Int.reduceToNat, Int.reduceLE, Int.reduceLT, Int.reduceAdd, Int.reduceSub, Int.reduceMul, Int.reduceNeg, reduceCtorEq, reduceIte, Int.reduceBEq, Int.reduceBNe, Int.reduceEq, Int.reduceNe, Nat.reduceBEq, Nat.reduceBNe, tys, plain_e, flat_e, small_e, List.length_map, List.getElem?_map, List.length_set, updTo_length, pick_false, pick_true, goGuard_sgd, eacells, take_map_len, List.length_append, List.map_append, plainLL_append, plainLL, ren_mk, renOk_mk] <;> exact rfl)); (focus (simp only [List.mem_cons, List.not_mem_nil, forall_eq, forall_eq_or_imp, Try.results82, Try.ntmps82, maxLen, Nat.reducePow, forall_eq', exists_eq', Prod.mk.injEq, Bool.true_or, Bool.false_or, Bool.or_true, Bool.or_false, Bool.true_and, Bool.false_and, Bool.and_false, hy, hz, y0, y1, y2, y3, z0, z1, z2, z3, yz, zy, he, w1, w3, hg, f2, f3, f4, f5, t1, t2, t3, u1, u2, u4, t5, t7, List.length_replicate, List.append_assoc, Nat.min_self, vcs, Nat.reduceAdd, Nat.reduceMul, Nat.reduceEqDiff, Nat.reduceLeDiff, Nat.reduceSub, Nat.reduceLT, Int.reduceToNat, Int.reduceLE, Int.reduceLT, Int.reduceAdd, Int.reduceSub, Int.reduceMul, Int.reduceNeg, reduceCtorEq, reduceIte, Int.reduceBEq, Int.reduceBNe, Int.reduceEq, Int.reduceNe, Nat.reduceBEq, Nat.reduceBNe, tys, plain_e, flat_e, small_e, List.length_map, List.getElem?_map, List.length_set, updTo_length, pick_false, pick_true, goGuard_sgd, eacells, take_map_len, List.length_append, List.map_append, plainLL_append, plainLL, ren_mk, renOk_mk]; done))) | refine draw_end (by decide +kernel) ?_ | refine And.intro (by omega) ?_ | refine And.intro (fun hb => ?_) (fun hb => ?_) | fail
  (refine Fin.give [(y, some 0), (z, none)] [y] ?_ ?_ ?_ ?_ ?_ (fun q hq => by have hqq := ho q hq; simp only [gives, tgt, List.map_cons, List.map_nil, List.mem_cons, List.not_mem_nil, or_false] at hqq ⊢; omega) <;> (try simp only [Try.results82, Try.ntmps82, hy, hz, y0, y1, y2, y3, z0, z1, z2, z3, yz, zy, n1, n2, hPl, List.append_assoc, tgt, gives, giveOk, giveE, dropE, ren_mk, renOk_mk, renLL, renOkLL, renL, renOkL, V.ren, V.renOk, newName_nil, newName_cons, List.mem_cons, List.not_mem_nil, forall_eq, forall_eq_or_imp, ne_eq, not_false_eq_true, not_true_eq_false, Nat.le_add_right, Bool.or_true, Bool.true_or, Bool.false_or, Bool.or_false, vcs, Nat.reduceAdd, Nat.reduceMul, Nat.reduceEqDiff, Nat.reduceLeDiff, Nat.reduceSub, Nat.reduceLT, Int.reduceToNat, Int.reduceLE, Int.reduceLT, Int.reduceAdd, Int.reduceSub, Int.reduceMul, Int.reduceNeg, reduceCtorEq, reduceIte, Int.reduceBEq, Int.reduceBNe, Int.reduceEq, Int.reduceNe, Nat.reduceBEq, Nat.reduceBNe, tys, plain_e, flat_e, small_e, List.length_map, List.getElem?_map, List.length_set, updTo_length, pick_false, pick_true, goGuard_sgd, eacells, take_map_len, List.length_append, List.map_append, plainLL_append, plainLL, ren_mk, renOk_mk]) <;> (try simp only [V.bool.injEq, V.int.injEq, V.str.injEq, V.agg.injEq, V.tup.injEq, V.sl.injEq, V.own.injEq, List.cons.injEq, and_true, true_and, and_self]) <;> (try omega))
theorem plain_any (n k : Nat) : plainLL (List.replicate n (List.replicate k V.any)) = true := by
  rw [plainLL_all, List.all_eq_true]
  intro r hr
  rw [List.eq_of_mem_replicate hr, plainL_all, List.all_eq_true]
  intro v hv
  rw [List.eq_of_mem_replicate hv]; rfl
/-- Insert, of one request ahead of some, or behind all. -/
theorem insert_ev (A B : List Ea) (x : Ea) (hn : A.length + B.length ≤ 1000) (y z : Nat) (hyz : y ≠ z) (M : Mem) (hy : M y = some ⟨4, A.map eacells ++ B.map eacells⟩) (hz : M z = some ⟨4, [eacells x]⟩) (ho : ∀ q, (M q).isSome = true → q ∈ [y, z]) (nm : Nat) (hyn : y < nm) (hzn : z < nm) :
    Ev cx 82 nm [.own y 0 (A.length + B.length), .int .i64 A.length, .own z 0 1] M (.own nm 0 (A.length + (B.length + 1))) [(y, none), (nm, some ⟨4, (A ++ x :: B).map eacells⟩), (z, some ⟨4, [eacells x]⟩)] := by
  by_cases hB : B = []
  · subst hB
    have := insert_end A x (by simpa using hn) y z hyz M (by simpa using hy) hz ho nm hyn hzn
    simpa [insL] using this
  · refine Ev.caps 0 y 0 (A.length + B.length) 4 (A.map eacells ++ B.map eacells) rfl hy (by simp) (by simp [effNames]) (fun c hc => ?_)
    obtain ⟨M', hM'⟩ : ∃ M', M' = M.put y (some ⟨4, (A.map eacells ++ B.map eacells) ++ List.replicate (c - (A.length + B.length)) (List.replicate 4 .any)⟩) := ⟨_, rfl⟩
    have hy' : M' y = some ⟨4, (A.map eacells ++ B.map eacells) ++ List.replicate (c - (A.length + B.length)) (List.replicate 4 .any)⟩ := by rw [hM', Mem.put_same]
    have hz' : M' z = some ⟨4, [eacells x]⟩ := by rw [hM', Mem.put_ne _ _ (fun h => hyz h.symm), hz]
    have ho' : ∀ q, (M' q).isSome = true → q ∈ [y, z] := fun q hq => by
      by_cases e : q = y
      · subst e; simp
      · rw [hM', Mem.put_ne _ _ e] at hq; exact ho q hq
    rw [← hM']
    clear hM' hy hz ho
    have hset : ([V.own y 0 (A.length + B.length), .int .i64 A.length, .own z 0 1].set 0 (.ownc y 0 (A.length + B.length) c)) = [.ownc y 0 (A.length + B.length) c, .int .i64 A.length, .own z 0 1] := rfl
    rw [hset]
    by_cases hce : c = A.length + B.length
    · subst hce
      rw [Nat.sub_self, List.replicate_zero, List.append_nil] at hy'
      exact insert_grow A B hB x hn y z hyz M' hy' hz' ho' nm hyn hzn
    · obtain ⟨k, rfl⟩ : ∃ k, c = A.length + (B.length + (k + 1)) := ⟨c - (A.length + B.length) - 1, by omega⟩
      rw [show A.length + (B.length + (k + 1)) - (A.length + B.length) = k + 1 by omega, List.replicate_succ, List.append_assoc] at hy'
      have hr := insert_room A B hB (List.replicate 4 .any) (List.replicate k (List.replicate 4 .any)) x hn y z hyz M' hy' (by decide) (plain_any k 4) hz' ho' nm hyn hzn
      rw [List.length_replicate] at hr
      have yz : (z = nm) = False := eq_false (by omega)
      have zy : (nm = z) = False := eq_false (by omega)
      refine Ev.trim nm 4 (A.length + (B.length + 1)) ((A ++ x :: B).map eacells ++ List.replicate k (List.replicate 4 .any)) hr ?_ (fun q => ?_)
      · simp only [app_cons, app_nil, mput_at, zy, if_false, if_true]
      · have ht : ((A ++ x :: B).map eacells ++ List.replicate k (List.replicate 4 V.any)).take (A.length + (B.length + 1)) = (A ++ x :: B).map eacells := List.take_left' (by simp)
        rw [ht]
        simp only [app_cons, app_nil, mput_at]
        by_cases e : q = nm
        · subst e; simp [zy]
        · rw [if_neg e, if_neg e, if_neg e]
end Go.Proofs.Ytnnlicidlidclaa
