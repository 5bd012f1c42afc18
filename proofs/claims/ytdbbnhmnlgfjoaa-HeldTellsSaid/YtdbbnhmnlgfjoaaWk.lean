/-
  Layer 28: desks are written over.
-/
import Derived.Test.YtdbbnhmnlgfjoaaWj
namespace Go.Proofs.Ytdbbnhmnlgfjoaa
set_option linter.unusedSimpArgs false
set_option linter.unusedVariables false
open Go Go.RowKit Go.Proofs.Ytdbbnhmnlgfjoaa.Vm

theorem newName_id {l : List Nat} {x : Nat} (h : x ∈ l) : newName (l.map fun y => (y, y)) x = some x := by
  induction l with
  | nil => cases h
  | cons a r ih =>
    rw [List.map_cons, newName_cons]
    by_cases e : a = x
    · subst e; simp
    · rw [if_neg e]; exact ih ((List.mem_cons.1 h).resolve_left (fun h => e h.symm))
/-- A function that writes blocks that it was given, and hands back no others. -/
theorem Fin.keep {N : Nat} {rs : List ResultVar} {nm : Nat} {M0 : Mem} {v : V} {eff : List (Nat × Option Blk)} {b0 n : Nat} {e : Env} {M : Mem} (l : List Nat) (h1 : resOk cx.P N rs e M) (h2 : (resV cx.P rs e M).finOk (l.map fun y => (y, y)) M) (h3 : ((resV cx.P rs e M).fin (l.map fun y => (y, y)) M).le v)
    (h4 : (l.map fun x => (x, M x)) = eff) (hn : l.Nodup) (h5 : ∀ x ∈ l, (M0 x).isSome = true ∧ (M x).isSome = true ∧ plainLL (rowsOf M x) = true) (h6 : ∀ x, (M0 x).isSome = true → x ∈ l) : FinG cx N rs nm M0 v eff b0 n e M := by
  refine ⟨[], h1, l.map (fun y => (y, y)), h2, h3, ?_, ?_, ?_, ?_, ?_⟩
  · rw [← h4]; simp [Mem.ghosts]
  · rw [List.map_map, show ((fun p : Nat × Nat => p.1) ∘ fun y => (y, y)) = id from rfl, List.map_id]; exact hn
  · rw [List.map_map, show ((fun p : Nat × Nat => p.2) ∘ fun y => (y, y)) = id from rfl, List.map_id]; exact hn
  · intro p hp
    obtain ⟨x, hx, rfl⟩ := List.mem_map.1 hp
    obtain ⟨g1, g2, g3⟩ := h5 x hx
    refine ⟨.inl ⟨rfl, g1⟩, ?_⟩
    obtain ⟨k, hk⟩ := Option.isSome_iff_exists.1 g2
    exact ⟨k, hk, by simpa [rowsOf, hk] using g3⟩
  · intro x hx; simpa using h6 x hx
theorem below_of {M : Mem} {b0 x : Nat} (h : ∀ z, b0 ≤ z → M z = none) (hx : (M x).isSome = true) : x < b0 := by
  rcases Nat.lt_or_ge x b0 with h1 | h1
  · exact h1
  · rw [h x h1] at hx; cases hx
/-- A contract whose arguments are known better. -/
theorem Ev.args_le {f : FuncId} {nm : Nat} {xs ys : List V} {M : Mem} {v : V} {eff : List (Nat × Option Blk)} (h : Ev cx f nm ys M v eff) (hle : leL xs ys) : Ev cx f nm xs M v eff := by
  obtain ⟨h1, h2⟩ := leL_get hle
  refine ⟨h.1, fun X w ρ cargs B hr hfr hB hn hargs => h.2 X w ρ cargs B hr hfr hB (by omega) (fun i u cv hi hc => ?_)⟩
  obtain ⟨u', h3, h4⟩ := h2 i u hi
  exact (hargs i u' cv h3 hc).le u h4
def overH (h : Hd) : Hd := { h with rid := -7 }
def overD (h : Dn) : Dn := { h with rid := -7 }
theorem spoil_nil (nm : Nat) : Ev cx 20 nm [.agg [.nils, .nils, .int .i64 0, .int .i64 0]] Mem.nil (.tup []) [] := by
  refine ev_go (fun cargs w => Try.call20 cargs w) Try.func20 rfl mixed (by kernel_rfl) rfl ?_
  intro b0 hb0
  repeat (first | refine draw_end (by decide +kernel) ?_ | simp only [vcs, Nat.reduceAdd, Nat.reduceMul, Nat.reduceEqDiff, Nat.reduceLeDiff, Nat.reduceSub, Nat.reduceLT, Int.reduceToNat, Int.reduceLE, Int.reduceLT, Int.reduceAdd, Int.reduceSub, Int.reduceMul, Int.reduceNeg, reduceCtorEq, reduceIte, Int.reduceBEq, Int.reduceBNe, Int.reduceEq, Int.reduceNe, Nat.reduceBEq, Nat.reduceBNe, tys, plain_h, plain_d, List.length_map, List.getElem?_map, List.length_set, updTo_length])
  refine loop_up 0 (fun _ _ e M => e 1 = .ptr b0 0 0 ∧ M b0 = some ⟨4, [[.nils, .nils, .int .i64 0, .int .i64 0]]⟩ ∧ e 2 = .int .i64 0) ?_ ?_
  · simp only [vcs, Nat.reduceAdd, Nat.reduceMul, Nat.reduceEqDiff, Nat.reduceLeDiff, Nat.reduceSub, Nat.reduceLT, Int.reduceToNat, Int.reduceLE, Int.reduceLT, Int.reduceAdd, Int.reduceSub, Int.reduceMul, Int.reduceNeg, reduceCtorEq, reduceIte, Int.reduceBEq, Int.reduceBNe, Int.reduceEq, Int.reduceNe, Nat.reduceBEq, Nat.reduceBNe, tys, plain_h, plain_d, List.length_map, List.getElem?_map, List.length_set, updTo_length]
  · rintro k nm e M hk ⟨e1, hM, e2⟩
    repeat (first | refine draw_end (by decide +kernel) ?_ | simp only [e1, hM, e2, vcs, Nat.reduceAdd, Nat.reduceMul, Nat.reduceEqDiff, Nat.reduceLeDiff, Nat.reduceSub, Nat.reduceLT, Int.reduceToNat, Int.reduceLE, Int.reduceLT, Int.reduceAdd, Int.reduceSub, Int.reduceMul, Int.reduceNeg, reduceCtorEq, reduceIte, Int.reduceBEq, Int.reduceBNe, Int.reduceEq, Int.reduceNe, Nat.reduceBEq, Nat.reduceBNe, tys, plain_h, plain_d, List.length_map, List.getElem?_map, List.length_set, updTo_length])
    refine loop_up 0 (fun _ _ e M => e 1 = .ptr b0 0 0 ∧ M b0 = some ⟨4, [[.nils, .nils, .int .i64 0, .int .i64 0]]⟩ ∧ e 3 = .int .i64 0) ?_ ?_
    · simp only [e1, hM, vcs, Nat.reduceAdd, Nat.reduceMul, Nat.reduceEqDiff, Nat.reduceLeDiff, Nat.reduceSub, Nat.reduceLT, Int.reduceToNat, Int.reduceLE, Int.reduceLT, Int.reduceAdd, Int.reduceSub, Int.reduceMul, Int.reduceNeg, reduceCtorEq, reduceIte, Int.reduceBEq, Int.reduceBNe, Int.reduceEq, Int.reduceNe, Nat.reduceBEq, Nat.reduceBNe, tys, plain_h, plain_d, List.length_map, List.getElem?_map, List.length_set, updTo_length]
    · clear e1 hM e2
      rintro k nm e M hk ⟨e1, hM, e3⟩
      repeat (first | refine draw_end (by decide +kernel) ?_ | simp only [e1, hM, e3, vcs, Nat.reduceAdd, Nat.reduceMul, Nat.reduceEqDiff, Nat.reduceLeDiff, Nat.reduceSub, Nat.reduceLT, Int.reduceToNat, Int.reduceLE, Int.reduceLT, Int.reduceAdd, Int.reduceSub, Int.reduceMul, Int.reduceNeg, reduceCtorEq, reduceIte, Int.reduceBEq, Int.reduceBNe, Int.reduceEq, Int.reduceNe, Nat.reduceBEq, Nat.reduceBNe, tys, plain_h, plain_d, List.length_map, List.getElem?_map, List.length_set, updTo_length])
      (refine Fin.pure ?_ ?_ ?_ <;> simp only [Try.results20, Try.ntmps20, vcs, Nat.reduceAdd, Nat.reduceMul, Nat.reduceEqDiff, Nat.reduceLeDiff, Nat.reduceSub, Nat.reduceLT, Int.reduceToNat, Int.reduceLE, Int.reduceLT, Int.reduceAdd, Int.reduceSub, Int.reduceMul, Int.reduceNeg, reduceCtorEq, reduceIte, Int.reduceBEq, Int.reduceBNe, Int.reduceEq, Int.reduceNe, Nat.reduceBEq, Nat.reduceBNe, tys, plain_h, plain_d, List.length_map, List.getElem?_map, List.length_set, updTo_length])
def JP1 (d : Desk) (b x y : Nat) (k nm : Nat) (e : Env) (M : Mem) : Prop := e 1 = .ptr b 0 0 ∧ M b = some ⟨4, [ownRow x y d]⟩ ∧ M x = some ⟨6, (updTo overH k d.held).map hcells⟩ ∧ M y = some ⟨4, d.done.map dcells⟩ ∧ e 2 = .int .i64 k
def JP2 (d : Desk) (b x y : Nat) (k nm : Nat) (e : Env) (M : Mem) : Prop := e 1 = .ptr b 0 0 ∧ M b = some ⟨4, [ownRow x y d]⟩ ∧ M x = some ⟨6, (d.held.map overH).map hcells⟩ ∧ M y = some ⟨4, (updTo overD k d.done).map dcells⟩ ∧ e 3 = .int .i64 k
set_option maxHeartbeats 2000000 in
theorem spoil_own (d : Desk) (hn : d.held.length ≤ 1000) (hm : d.done.length ≤ 1000) (x y : Nat) (hxy : x ≠ y) (M : Mem) (hx : M x = some ⟨6, d.held.map hcells⟩) (hy : M y = some ⟨4, d.done.map dcells⟩) (hz : ∀ z, (M z).isSome = true → z ∈ [x, y]) (nm : Nat) :
    Ev cx 20 nm [.agg [.own x 0 d.held.length, .own y 0 d.done.length, .int .i64 d.top, .int .i64 d.size]] M (.tup []) [(x, some ⟨6, (d.held.map overH).map hcells⟩), (y, some ⟨4, (d.done.map overD).map dcells⟩)] := by
  refine ev_go (fun cargs w => Try.call20 cargs w) Try.func20 rfl mixed (by kernel_rfl) rfl ?_
  intro b0 hb0
  have lx : x < b0 := below_of hb0 (by rw [hx]; rfl)
  have ly : y < b0 := below_of hb0 (by rw [hy]; rfl)
  have x0 := lt_ne lx
  have y0 := lt_ne ly
  have x0' := lt_ne' lx
  have y0' := lt_ne' ly
  have xy : (x = y) = False := eq_false hxy
  have yx : (y = x) = False := eq_false (fun h => hxy h.symm)
  repeat (first | refine draw_end (by decide +kernel) ?_ | simp only [vcs, Nat.reduceAdd, Nat.reduceMul, Nat.reduceEqDiff, Nat.reduceLeDiff, Nat.reduceSub, Nat.reduceLT, Int.reduceToNat, Int.reduceLE, Int.reduceLT, Int.reduceAdd, Int.reduceSub, Int.reduceMul, Int.reduceNeg, reduceCtorEq, reduceIte, Int.reduceBEq, Int.reduceBNe, Int.reduceEq, Int.reduceNe, Nat.reduceBEq, Nat.reduceBNe, tys, plain_h, plain_d, List.length_map, List.getElem?_map, List.length_set, updTo_length])
  refine loop_up d.held.length (JP1 d b0 x y) ?_ ?_
  · simp only [JP1, ownRow, updTo_zero, hx, hy, x0, y0, x0', y0', xy, yx, Int.natCast_zero, vcs, Nat.reduceAdd, Nat.reduceMul, Nat.reduceEqDiff, Nat.reduceLeDiff, Nat.reduceSub, Nat.reduceLT, Int.reduceToNat, Int.reduceLE, Int.reduceLT, Int.reduceAdd, Int.reduceSub, Int.reduceMul, Int.reduceNeg, reduceCtorEq, reduceIte, Int.reduceBEq, Int.reduceBNe, Int.reduceEq, Int.reduceNe, Nat.reduceBEq, Nat.reduceBNe, tys, plain_h, plain_d, List.length_map, List.getElem?_map, List.length_set, updTo_length]
  · rintro k nm e M' hk ⟨e1, hM, hMx, hMy, e2⟩
    by_cases hlt : k < d.held.length
    · have wk := wrap_up hlt (by omega)
      obtain ⟨h, hh⟩ : ∃ h, d.held[k]? = some h := ⟨_, List.getElem?_eq_getElem hlt⟩
      have hu := updTo_get overH hh
      have hs : ((updTo overH k d.held).map hcells).set k [.int .i64 (-7), .int .i64 h.conn, .int .i64 h.left, .str h.body, .int .i64 h.report, .int .i64 h.time] = (updTo overH (k + 1) d.held).map hcells := updTo_set overH hcells hh
      repeat (first | refine draw_end (by decide +kernel) ?_ | simp only [hu, hs, hcells, ownRow, e1, hM, hMx, hMy, e2, hlt, wk, x0, y0, x0', y0', xy, yx, vcs, Nat.reduceAdd, Nat.reduceMul, Nat.reduceEqDiff, Nat.reduceLeDiff, Nat.reduceSub, Nat.reduceLT, Int.reduceToNat, Int.reduceLE, Int.reduceLT, Int.reduceAdd, Int.reduceSub, Int.reduceMul, Int.reduceNeg, reduceCtorEq, reduceIte, Int.reduceBEq, Int.reduceBNe, Int.reduceEq, Int.reduceNe, Nat.reduceBEq, Nat.reduceBNe, tys, plain_h, plain_d, List.length_map, List.getElem?_map, List.length_set, updTo_length])
      refine again_up hlt ?_
      simp only [JP1, ownRow, e1, hM, hMx, hMy, e2, hs, wk, x0, y0, x0', y0', xy, yx, vcs, Nat.reduceAdd, Nat.reduceMul, Nat.reduceEqDiff, Nat.reduceLeDiff, Nat.reduceSub, Nat.reduceLT, Int.reduceToNat, Int.reduceLE, Int.reduceLT, Int.reduceAdd, Int.reduceSub, Int.reduceMul, Int.reduceNeg, reduceCtorEq, reduceIte, Int.reduceBEq, Int.reduceBNe, Int.reduceEq, Int.reduceNe, Nat.reduceBEq, Nat.reduceBNe, tys, plain_h, plain_d, List.length_map, List.getElem?_map, List.length_set, updTo_length]
    · have hke : k = d.held.length := by omega
      subst hke
      rw [updTo_all] at hMx
      repeat (first | refine draw_end (by decide +kernel) ?_ | simp only [ownRow, e1, hM, hMx, hMy, e2, x0, y0, x0', y0', xy, yx, vcs, Nat.reduceAdd, Nat.reduceMul, Nat.reduceEqDiff, Nat.reduceLeDiff, Nat.reduceSub, Nat.reduceLT, Int.reduceToNat, Int.reduceLE, Int.reduceLT, Int.reduceAdd, Int.reduceSub, Int.reduceMul, Int.reduceNeg, reduceCtorEq, reduceIte, Int.reduceBEq, Int.reduceBNe, Int.reduceEq, Int.reduceNe, Nat.reduceBEq, Nat.reduceBNe, tys, plain_h, plain_d, List.length_map, List.getElem?_map, List.length_set, updTo_length])
      refine loop_up d.done.length (JP2 d b0 x y) ?_ ?_
      · simp only [JP2, ownRow, updTo_zero, e1, hM, hMx, hMy, e2, x0, y0, x0', y0', xy, yx, Int.natCast_zero, vcs, Nat.reduceAdd, Nat.reduceMul, Nat.reduceEqDiff, Nat.reduceLeDiff, Nat.reduceSub, Nat.reduceLT, Int.reduceToNat, Int.reduceLE, Int.reduceLT, Int.reduceAdd, Int.reduceSub, Int.reduceMul, Int.reduceNeg, reduceCtorEq, reduceIte, Int.reduceBEq, Int.reduceBNe, Int.reduceEq, Int.reduceNe, Nat.reduceBEq, Nat.reduceBNe, tys, plain_h, plain_d, List.length_map, List.getElem?_map, List.length_set, updTo_length]
      · clear e1 hM hMx hMy e2 hlt hk
        rintro k nm e M' hk ⟨e1, hM, hMx, hMy, e3⟩
        by_cases hlt : k < d.done.length
        · have wk := wrap_up hlt (by omega)
          obtain ⟨h, hh⟩ : ∃ h, d.done[k]? = some h := ⟨_, List.getElem?_eq_getElem hlt⟩
          have hu := updTo_get overD hh
          have hs : ((updTo overD k d.done).map dcells).set k [.int .i64 (-7), .str h.body, .str h.text, .int .i64 h.age] = (updTo overD (k + 1) d.done).map dcells := updTo_set overD dcells hh
          repeat (first | refine draw_end (by decide +kernel) ?_ | simp only [hu, hs, dcells, ownRow, e1, hM, hMx, hMy, e3, hlt, wk, x0, y0, x0', y0', xy, yx, vcs, Nat.reduceAdd, Nat.reduceMul, Nat.reduceEqDiff, Nat.reduceLeDiff, Nat.reduceSub, Nat.reduceLT, Int.reduceToNat, Int.reduceLE, Int.reduceLT, Int.reduceAdd, Int.reduceSub, Int.reduceMul, Int.reduceNeg, reduceCtorEq, reduceIte, Int.reduceBEq, Int.reduceBNe, Int.reduceEq, Int.reduceNe, Nat.reduceBEq, Nat.reduceBNe, tys, plain_h, plain_d, List.length_map, List.getElem?_map, List.length_set, updTo_length])
          refine again_up hlt ?_
          simp only [JP2, ownRow, e1, hM, hMx, hMy, e3, hs, wk, x0, y0, x0', y0', xy, yx, vcs, Nat.reduceAdd, Nat.reduceMul, Nat.reduceEqDiff, Nat.reduceLeDiff, Nat.reduceSub, Nat.reduceLT, Int.reduceToNat, Int.reduceLE, Int.reduceLT, Int.reduceAdd, Int.reduceSub, Int.reduceMul, Int.reduceNeg, reduceCtorEq, reduceIte, Int.reduceBEq, Int.reduceBNe, Int.reduceEq, Int.reduceNe, Nat.reduceBEq, Nat.reduceBNe, tys, plain_h, plain_d, List.length_map, List.getElem?_map, List.length_set, updTo_length]
        · have hke : k = d.done.length := by omega
          subst hke
          rw [updTo_all] at hMy
          repeat (first | refine draw_end (by decide +kernel) ?_ | simp only [ownRow, e1, hM, hMx, hMy, e3, x0, y0, x0', y0', xy, yx, vcs, Nat.reduceAdd, Nat.reduceMul, Nat.reduceEqDiff, Nat.reduceLeDiff, Nat.reduceSub, Nat.reduceLT, Int.reduceToNat, Int.reduceLE, Int.reduceLT, Int.reduceAdd, Int.reduceSub, Int.reduceMul, Int.reduceNeg, reduceCtorEq, reduceIte, Int.reduceBEq, Int.reduceBNe, Int.reduceEq, Int.reduceNe, Nat.reduceBEq, Nat.reduceBNe, tys, plain_h, plain_d, List.length_map, List.getElem?_map, List.length_set, updTo_length])
          refine Fin.keep [x, y] ?_ ?_ ?_ ?_ (by simp [hxy]) ?_ hz <;> simp only [Try.results20, Try.ntmps20, hMx, hMy, vcs, Nat.reduceAdd, Nat.reduceMul, Nat.reduceEqDiff, Nat.reduceLeDiff, Nat.reduceSub, Nat.reduceLT, Int.reduceToNat, Int.reduceLE, Int.reduceLT, Int.reduceAdd, Int.reduceSub, Int.reduceMul, Int.reduceNeg, reduceCtorEq, reduceIte, Int.reduceBEq, Int.reduceBNe, Int.reduceEq, Int.reduceNe, Nat.reduceBEq, Nat.reduceBNe, tys, plain_h, plain_d, List.length_map, List.getElem?_map, List.length_set, updTo_length]
          intro z hz'
          rcases List.mem_cons.1 hz' with rfl | hz'
          · simp only [hx, hMx, vcs, Nat.reduceAdd, Nat.reduceMul, Nat.reduceEqDiff, Nat.reduceLeDiff, Nat.reduceSub, Nat.reduceLT, Int.reduceToNat, Int.reduceLE, Int.reduceLT, Int.reduceAdd, Int.reduceSub, Int.reduceMul, Int.reduceNeg, reduceCtorEq, reduceIte, Int.reduceBEq, Int.reduceBNe, Int.reduceEq, Int.reduceNe, Nat.reduceBEq, Nat.reduceBNe, tys, plain_h, plain_d, List.length_map, List.getElem?_map, List.length_set, updTo_length]
          · rw [List.mem_singleton] at hz'
            subst hz'
            simp only [hy, hMy, vcs, Nat.reduceAdd, Nat.reduceMul, Nat.reduceEqDiff, Nat.reduceLeDiff, Nat.reduceSub, Nat.reduceLT, Int.reduceToNat, Int.reduceLE, Int.reduceLT, Int.reduceAdd, Int.reduceSub, Int.reduceMul, Int.reduceNeg, reduceCtorEq, reduceIte, Int.reduceBEq, Int.reduceBNe, Int.reduceEq, Int.reduceNe, Nat.reduceBEq, Nat.reduceBNe, tys, plain_h, plain_d, List.length_map, List.getElem?_map, List.length_set, updTo_length]
end Go.Proofs.Ytdbbnhmnlgfjoaa
