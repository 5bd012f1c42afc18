/-
  Texts joined: XGl.
-/
import Derived.Test.YtanahnknjboplaaDoorMi
/-
  EscParts by the machine: two texts, written, one behind the other, are both; and so with what is read.
-/
namespace Go.Proofs.YtanahnknjboplaaDoor
set_option linter.unusedSimpArgs false
set_option linter.unusedVariables false
open Nat renaming reduceAdd → κa, reduceMul → κb, reduceEqDiff → κc, reduceLeDiff → κd, reduceSub → κe, reduceLT → κf, reduceBEq → κr, reduceBNe → κs, reducePow → κt
open Int renaming reduceToNat → κg, reduceLE → κh, reduceLT → κi, reduceAdd → κj, reduceSub → κk, reduceMul → κl, reduceNeg → κm, reduceBEq → κn, reduceBNe → κo, reduceEq → κp, reduceNe → κq
open Go Go.RowKit Go.Proofs.YtanahnknjboplaaDoor.Vm Go.Lib

theorem pts_both {a b : List UInt8} (ha : ptsErr a = 0) (hb : ptsErr b = 0) (hl : (a ++ b).length ≤ 16384) : ptsErr (a ++ b) = 0 := by
  obtain ⟨x, hx⟩ := Option.isSome_iff_exists.1 (pts_iff.1 ha).2
  obtain ⟨y, hy⟩ := Option.isSome_iff_exists.1 (pts_iff.1 hb).2
  exact pts_iff.2 ⟨hl, by rw [dec_both hx hy]; rfl⟩
theorem writes_both {a b : List UInt8} {q : Bool} (ha : putE q a = 0) (hb : putE q b = 0) (hl : a.length ≤ 1000) (hl2 : b.length ≤ 1000) : writesB (a ++ b) q (putT q a ++ putT q b) = true := by
  obtain ⟨a1, a2, a3⟩ := put_ok ha
  obtain ⟨b1, b2, b3⟩ := put_ok hb
  have w1 := escW_length q a
  have w2 := escW_length q b
  have hp := pts_both a1 b1 (by simp; omega)
  have he : putE q (a ++ b) = 0 := by
    unfold putE; rw [if_neg (by simp [hp]), if_neg (by rw [escW_append, List.length_append]; omega)]
  have ht : putT q (a ++ b) = escW q a ++ escW q b := by unfold putT; rw [if_pos he, escW_append]
  unfold writesB; rw [he, ht, a2, b2]; simp
theorem get_ok {s : List UInt8} (h : getE s = 0) : ptsErr s = 0 ∧ readL s = some (getT s) := by
  have ht : getT s = (readL s).getD [] := by unfold getT; rw [if_pos h]
  unfold getE at h
  split at h
  · rename_i hz; exact absurd h hz
  · rename_i hz
    cases hr : readL s with
    | none => rw [hr] at h; cases h
    | some x => rw [ht, hr]; exact ⟨by simpa using hz, rfl⟩
theorem reads_both {a b : List UInt8} (ha : getE a = 0) (hb : getE b = 0) (hl : a.length ≤ 1000) (hl2 : b.length ≤ 1000) : readsB (a ++ b) (getT a ++ getT b) = true := by
  obtain ⟨a1, a2⟩ := get_ok ha
  obtain ⟨b1, b2⟩ := get_ok hb
  have hp := pts_both a1 b1 (by simp; omega)
  have hr : readL (a ++ b) = some (getT a ++ getT b) := by rw [readL_two a2, b2]; rfl
  have he : getE (a ++ b) = 0 := by unfold getE; rw [if_neg (by simp [hp]), hr]
  have ht : getT (a ++ b) = getT a ++ getT b := by unfold getT; rw [if_pos he, hr]; rfl
  unfold readsB; rw [he, ht]; simp
theorem putT_le {s : List UInt8} {q : Bool} (h : s.length ≤ 1000) : (putT q s).length ≤ 6000 := by
  have := escW_length q s
  unfold putT; split
  · omega
  · simp
theorem readL_len : ∀ (n : Nat) (s x : List UInt8), s.length ≤ n → readL s = some x → x.length ≤ 4 * s.length
  | n, [], x, _, h => by rw [readL_nil] at h; cases h; simp
  | 0, c :: r, x, hn, _ => by simp at hn
  | n + 1, c :: r, x, hn, h => by
    have hl : r.length ≤ n := by simpa using hn
    by_cases h1 : c = 60
    · subst h1; rw [readL_lt] at h; cases h
    by_cases h2 : c = 38
    · subst h2
      cases hc : cut1 59 r with
      | none => rw [readL_none hc] at h; cases h
      | some p =>
        obtain ⟨u, v⟩ := p
        have := cut1_len hc
        cases hm : meantL u with
        | none => rw [readL_bad hc hm] at h; cases h
        | some y =>
          rw [readL_ref hc hm] at h
          obtain ⟨w, hw, rfl⟩ := Option.map_eq_some_iff.1 h
          have h3 := readL_len n v w (by omega) hw
          have h4 := meant_length hm
          simp only [List.length_append, List.length_cons]; omega
    · rw [readL_other h1 h2] at h
      obtain ⟨w, hw, rfl⟩ := Option.map_eq_some_iff.1 h
      have := readL_len n r w hl hw
      simp only [List.length_cons]; omega
theorem getT_le {s : List UInt8} (h : s.length ≤ 1000) : (getT s).length ≤ 4000 := by
  unfold getT; split
  · cases hr : readL s with
    | none => simp
    | some x => have := readL_len _ s x (Nat.le_refl _) hr; simp only [Option.getD_some]; omega
  · simp
set_option maxRecDepth 100000 in
set_option maxHeartbeats 16000000 in
theorem escParts_main (a b : List UInt8) (q : Bool) (ha : a.length ≤ lim) (hb : b.length ≤ lim) (nm : Nat) : Ev cx 6 nm [.str a, .str b, .bool q] Mem.nil (.bool true) [] := by
  by_cases h1 : 1000 < a.length
  · have hd : decide ((1000 : Int) < (a.length : Int)) = true := decide_eq_true (by omega)
    refine ev_go (fun cargs w => Tryd.call6 cargs w) Tryd.func6 rfl mixed (by kernel_rfl) rfl ?_; intro b0 hb0
    ((repeat' first | simp only [fins, mems, Tryd.results6, Tryd.ntmps6, κt, wks, hd, vcs, κa, κb, κc, κd, κe, κf, κg, κh, κi, κj, κk, κl, κm, reduceCtorEq, reduceIte, κn, κo, κp, κq, κr, κs, tys] | exact rfl | refine call_off (v := .any) ?_ | (first | (refine call_fn ?_ (alive_ev _) ?_) | (refine call_fn_g ?_ (fun _ => alive_ev _) ?_)) | ((first | (refine call_val (g := ?_) ?_ ?_) | (refine call_valg (g := ?_) ?_ ?_)); rotate_left 1; (focus (simp only [Tryd.results6, Tryd.ntmps6, κt, wks, hd, vcs, κa, κb, κc, κd, κe, κf, κg, κh, κi, κj, κk, κl, κm, reduceCtorEq, reduceIte, κn, κo, κp, κq, κr, κs, tys] <;> exact rfl))) | refine draw_end (by decide +kernel) ?_ | refine cond_bool (fun hb => ?_) (fun hb => ?_) | refine cond_bit (fun hb => ?_) (fun hb => ?_) | refine And.intro (by omega) ?_ | refine And.intro (fun hb => ?_) (fun hb => ?_) | fail); (all_goals (first | (refine Fin.pure ?_ ?_ ?_ <;> (try simp only [Tryd.results6, Tryd.ntmps6, wks, hd, vcs, κa, κb, κc, κd, κe, κf, κg, κh, κi, κj, κk, κl, κm, reduceCtorEq, reduceIte, κn, κo, κp, κq, κr, κs, tys]) <;> (try simp only [injs])) | skip)))
  have hd : decide ((1000 : Int) < (a.length : Int)) = false := decide_eq_false (by omega)
  by_cases h2 : 1000 < b.length
  · have hd2 : decide ((1000 : Int) < (b.length : Int)) = true := decide_eq_true (by omega)
    refine ev_go (fun cargs w => Tryd.call6 cargs w) Tryd.func6 rfl mixed (by kernel_rfl) rfl ?_; intro b0 hb0
    ((repeat' first | simp only [fins, mems, Tryd.results6, Tryd.ntmps6, κt, wks, hd, hd2, vcs, κa, κb, κc, κd, κe, κf, κg, κh, κi, κj, κk, κl, κm, reduceCtorEq, reduceIte, κn, κo, κp, κq, κr, κs, tys] | exact rfl | refine call_off (v := .any) ?_ | (first | (refine call_fn ?_ (alive_ev _) ?_) | (refine call_fn_g ?_ (fun _ => alive_ev _) ?_)) | ((first | (refine call_val (g := ?_) ?_ ?_) | (refine call_valg (g := ?_) ?_ ?_)); rotate_left 1; (focus (simp only [Tryd.results6, Tryd.ntmps6, κt, wks, hd, hd2, vcs, κa, κb, κc, κd, κe, κf, κg, κh, κi, κj, κk, κl, κm, reduceCtorEq, reduceIte, κn, κo, κp, κq, κr, κs, tys] <;> exact rfl))) | refine draw_end (by decide +kernel) ?_ | refine cond_bool (fun hb => ?_) (fun hb => ?_) | refine cond_bit (fun hb => ?_) (fun hb => ?_) | refine And.intro (by omega) ?_ | refine And.intro (fun hb => ?_) (fun hb => ?_) | fail); (all_goals (first | (refine Fin.pure ?_ ?_ ?_ <;> (try simp only [Tryd.results6, Tryd.ntmps6, wks, hd, hd2, vcs, κa, κb, κc, κd, κe, κf, κg, κh, κi, κj, κk, κl, κm, reduceCtorEq, reduceIte, κn, κo, κp, κq, κr, κs, tys]) <;> (try simp only [injs])) | skip)))
  have hd2 : decide ((1000 : Int) < (b.length : Int)) = false := decide_eq_false (by omega)
  have hl : (a ++ b).length = a.length + b.length := List.length_append
  have hp1 := ePut_ev a q ha
  have hp2 := ePut_ev b q hb
  have hg1 := eGet_ev a ha
  have hg2 := eGet_ev b hb
  unfold getV at hg1 hg2
  have hw := writes_ev (a ++ b) q (putT q a ++ putT q b) (by unfold lim; omega)
  have hr := reads_ev (a ++ b) (getT a ++ getT b) (by unfold lim; omega)
  have w1 := putT_le (q := q) (s := a) (by omega)
  have w2 := putT_le (q := q) (s := b) (by omega)
  have g1 := getT_le (s := a) (by omega)
  have g2 := getT_le (s := b) (by omega)
  have hP : (putE q a == 0) = false ∨ ((putE q a == 0) = true ∧ (putE q b == 0) = false) ∨ ((putE q a == 0) = true ∧ (putE q b == 0) = true ∧ writesB (a ++ b) q (putT q a ++ putT q b) = true) := by
    by_cases e1 : putE q a = 0
    · by_cases e2 : putE q b = 0
      · exact .inr (.inr ⟨by simp [e1], by simp [e2], writes_both e1 e2 (by omega) (by omega)⟩)
      · exact .inr (.inl ⟨by simp [e1], beq_false_of_ne e2⟩)
    · exact .inl (beq_false_of_ne e1)
  have hG : (getE a != 0) = true ∨ ((getE a != 0) = false ∧ (getE b != 0) = true) ∨ ((getE a != 0) = false ∧ (getE b != 0) = false ∧ readsB (a ++ b) (getT a ++ getT b) = true) := by
    by_cases e1 : getE a = 0
    · by_cases e2 : getE b = 0
      · exact .inr (.inr ⟨by simp [e1], by simp [e2], reads_both e1 e2 (by omega) (by omega)⟩)
      · exact .inr (.inl ⟨by simp [e1], by simp [e2]⟩)
    · exact .inl (by simp [e1])
  generalize writesB (a ++ b) q (putT q a ++ putT q b) = wb at hw hP
  generalize readsB (a ++ b) (getT a ++ getT b) = rb at hr hG
  generalize putE q a = ea at hp1 hP
  generalize putE q b = eb at hp2 hP
  generalize putT q a = xa at hp1 hw w1
  generalize putT q b = xb at hp2 hw w2
  generalize getE a = fa at hg1 hG
  generalize getE b = fb at hg2 hG
  generalize getT a = za at hg1 hr g1
  generalize getT b = zb at hg2 hr g2
  have l2 : (xa ++ xb).length = xa.length + xb.length := List.length_append
  have l3 : (za ++ zb).length = za.length + zb.length := List.length_append
  have b1 : a.length + b.length ≤ 140737488355328 := by omega
  have b2 : xa.length + xb.length ≤ 140737488355328 := by omega
  have b3 : za.length + zb.length ≤ 140737488355328 := by omega
  rcases hP with p1 | ⟨p1, p2⟩ | ⟨p1, p2, rfl⟩ <;> rcases hG with q1 | ⟨q1, q2⟩ | ⟨q1, q2, rfl⟩
  · refine ev_go (fun cargs w => Tryd.call6 cargs w) Tryd.func6 rfl mixed (by kernel_rfl) rfl ?_; intro b0 hb0
    ((repeat' first | simp only [fins, mems, Tryd.results6, Tryd.ntmps6, κt, wks, hd, hd2, p1, q1, l2, l3, hl, b1, b2, b3, Bool.not_true, vcs, κa, κb, κc, κd, κe, κf, κg, κh, κi, κj, κk, κl, κm, reduceCtorEq, reduceIte, κn, κo, κp, κq, κr, κs, tys] | exact rfl | refine call_off (v := .any) ?_ | ((first | (refine call_fn ?_ (hp1 _) ?_) | (refine call_fn_g ?_ (fun _ => hp1 _) ?_) | (refine call_fn ?_ (hg1 _) ?_) | (refine call_fn_g ?_ (fun _ => hg1 _) ?_)); (focus (simp only [Tryd.results6, Tryd.ntmps6, κt, wks, hd, hd2, p1, q1, l2, l3, hl, b1, b2, b3, Bool.not_true, vcs, κa, κb, κc, κd, κe, κf, κg, κh, κi, κj, κk, κl, κm, reduceCtorEq, reduceIte, κn, κo, κp, κq, κr, κs, tys] <;> exact rfl))) | ((first | (refine call_fn ?_ (hp2 _) ?_) | (refine call_fn_g ?_ (fun _ => hp2 _) ?_) | (refine call_fn ?_ (hg2 _) ?_) | (refine call_fn_g ?_ (fun _ => hg2 _) ?_)); (focus (simp only [Tryd.results6, Tryd.ntmps6, κt, wks, hd, hd2, p1, q1, l2, l3, hl, b1, b2, b3, Bool.not_true, vcs, κa, κb, κc, κd, κe, κf, κg, κh, κi, κj, κk, κl, κm, reduceCtorEq, reduceIte, κn, κo, κp, κq, κr, κs, tys] <;> exact rfl))) | (first | (refine call_fn ?_ (alive_ev _) ?_) | (refine call_fn_g ?_ (fun _ => alive_ev _) ?_) | (refine call_fn ?_ (hw _) ?_) | (refine call_fn_g ?_ (fun _ => hw _) ?_) | (refine call_fn ?_ (hr _) ?_) | (refine call_fn_g ?_ (fun _ => hr _) ?_)) | ((first | (refine call_val (g := ?_) ?_ ?_) | (refine call_valg (g := ?_) ?_ ?_)); rotate_left 1; (focus (simp only [Tryd.results6, Tryd.ntmps6, κt, wks, hd, hd2, p1, q1, l2, l3, hl, b1, b2, b3, Bool.not_true, vcs, κa, κb, κc, κd, κe, κf, κg, κh, κi, κj, κk, κl, κm, reduceCtorEq, reduceIte, κn, κo, κp, κq, κr, κs, tys] <;> exact rfl))) | refine draw_end (by decide +kernel) ?_ | refine cond_bool (fun hb => ?_) (fun hb => ?_) | refine cond_bit (fun hb => ?_) (fun hb => ?_) | refine And.intro (by omega) ?_ | refine And.intro (fun hb => ?_) (fun hb => ?_) | fail); (all_goals (first | (refine Fin.pure ?_ ?_ ?_ <;> (try simp only [Tryd.results6, Tryd.ntmps6, wks, hd, hd2, p1, q1, l2, l3, hl, b1, b2, b3, Bool.not_true, vcs, κa, κb, κc, κd, κe, κf, κg, κh, κi, κj, κk, κl, κm, reduceCtorEq, reduceIte, κn, κo, κp, κq, κr, κs, tys]) <;> (try simp only [injs])) | skip)))
  · refine ev_go (fun cargs w => Tryd.call6 cargs w) Tryd.func6 rfl mixed (by kernel_rfl) rfl ?_; intro b0 hb0
    ((repeat' first | simp only [fins, mems, Tryd.results6, Tryd.ntmps6, κt, wks, hd, hd2, p1, q1, q2, l2, l3, hl, b1, b2, b3, Bool.not_true, vcs, κa, κb, κc, κd, κe, κf, κg, κh, κi, κj, κk, κl, κm, reduceCtorEq, reduceIte, κn, κo, κp, κq, κr, κs, tys] | exact rfl | refine call_off (v := .any) ?_ | ((first | (refine call_fn ?_ (hp1 _) ?_) | (refine call_fn_g ?_ (fun _ => hp1 _) ?_) | (refine call_fn ?_ (hg1 _) ?_) | (refine call_fn_g ?_ (fun _ => hg1 _) ?_)); (focus (simp only [Tryd.results6, Tryd.ntmps6, κt, wks, hd, hd2, p1, q1, q2, l2, l3, hl, b1, b2, b3, Bool.not_true, vcs, κa, κb, κc, κd, κe, κf, κg, κh, κi, κj, κk, κl, κm, reduceCtorEq, reduceIte, κn, κo, κp, κq, κr, κs, tys] <;> exact rfl))) | ((first | (refine call_fn ?_ (hp2 _) ?_) | (refine call_fn_g ?_ (fun _ => hp2 _) ?_) | (refine call_fn ?_ (hg2 _) ?_) | (refine call_fn_g ?_ (fun _ => hg2 _) ?_)); (focus (simp only [Tryd.results6, Tryd.ntmps6, κt, wks, hd, hd2, p1, q1, q2, l2, l3, hl, b1, b2, b3, Bool.not_true, vcs, κa, κb, κc, κd, κe, κf, κg, κh, κi, κj, κk, κl, κm, reduceCtorEq, reduceIte, κn, κo, κp, κq, κr, κs, tys] <;> exact rfl))) | (first | (refine call_fn ?_ (alive_ev _) ?_) | (refine call_fn_g ?_ (fun _ => alive_ev _) ?_) | (refine call_fn ?_ (hw _) ?_) | (refine call_fn_g ?_ (fun _ => hw _) ?_) | (refine call_fn ?_ (hr _) ?_) | (refine call_fn_g ?_ (fun _ => hr _) ?_)) | ((first | (refine call_val (g := ?_) ?_ ?_) | (refine call_valg (g := ?_) ?_ ?_)); rotate_left 1; (focus (simp only [Tryd.results6, Tryd.ntmps6, κt, wks, hd, hd2, p1, q1, q2, l2, l3, hl, b1, b2, b3, Bool.not_true, vcs, κa, κb, κc, κd, κe, κf, κg, κh, κi, κj, κk, κl, κm, reduceCtorEq, reduceIte, κn, κo, κp, κq, κr, κs, tys] <;> exact rfl))) | refine draw_end (by decide +kernel) ?_ | refine cond_bool (fun hb => ?_) (fun hb => ?_) | refine cond_bit (fun hb => ?_) (fun hb => ?_) | refine And.intro (by omega) ?_ | refine And.intro (fun hb => ?_) (fun hb => ?_) | fail); (all_goals (first | (refine Fin.pure ?_ ?_ ?_ <;> (try simp only [Tryd.results6, Tryd.ntmps6, wks, hd, hd2, p1, q1, q2, l2, l3, hl, b1, b2, b3, Bool.not_true, vcs, κa, κb, κc, κd, κe, κf, κg, κh, κi, κj, κk, κl, κm, reduceCtorEq, reduceIte, κn, κo, κp, κq, κr, κs, tys]) <;> (try simp only [injs])) | skip)))
  · refine ev_go (fun cargs w => Tryd.call6 cargs w) Tryd.func6 rfl mixed (by kernel_rfl) rfl ?_; intro b0 hb0
    ((repeat' first | simp only [fins, mems, Tryd.results6, Tryd.ntmps6, κt, wks, hd, hd2, p1, q1, q2, l2, l3, hl, b1, b2, b3, Bool.not_true, vcs, κa, κb, κc, κd, κe, κf, κg, κh, κi, κj, κk, κl, κm, reduceCtorEq, reduceIte, κn, κo, κp, κq, κr, κs, tys] | exact rfl | refine call_off (v := .any) ?_ | ((first | (refine call_fn ?_ (hp1 _) ?_) | (refine call_fn_g ?_ (fun _ => hp1 _) ?_) | (refine call_fn ?_ (hg1 _) ?_) | (refine call_fn_g ?_ (fun _ => hg1 _) ?_)); (focus (simp only [Tryd.results6, Tryd.ntmps6, κt, wks, hd, hd2, p1, q1, q2, l2, l3, hl, b1, b2, b3, Bool.not_true, vcs, κa, κb, κc, κd, κe, κf, κg, κh, κi, κj, κk, κl, κm, reduceCtorEq, reduceIte, κn, κo, κp, κq, κr, κs, tys] <;> exact rfl))) | ((first | (refine call_fn ?_ (hp2 _) ?_) | (refine call_fn_g ?_ (fun _ => hp2 _) ?_) | (refine call_fn ?_ (hg2 _) ?_) | (refine call_fn_g ?_ (fun _ => hg2 _) ?_)); (focus (simp only [Tryd.results6, Tryd.ntmps6, κt, wks, hd, hd2, p1, q1, q2, l2, l3, hl, b1, b2, b3, Bool.not_true, vcs, κa, κb, κc, κd, κe, κf, κg, κh, κi, κj, κk, κl, κm, reduceCtorEq, reduceIte, κn, κo, κp, κq, κr, κs, tys] <;> exact rfl))) | (first | (refine call_fn ?_ (alive_ev _) ?_) | (refine call_fn_g ?_ (fun _ => alive_ev _) ?_) | (refine call_fn ?_ (hw _) ?_) | (refine call_fn_g ?_ (fun _ => hw _) ?_) | (refine call_fn ?_ (hr _) ?_) | (refine call_fn_g ?_ (fun _ => hr _) ?_)) | ((first | (refine call_val (g := ?_) ?_ ?_) | (refine call_valg (g := ?_) ?_ ?_)); rotate_left 1; (focus (simp only [Tryd.results6, Tryd.ntmps6, κt, wks, hd, hd2, p1, q1, q2, l2, l3, hl, b1, b2, b3, Bool.not_true, vcs, κa, κb, κc, κd, κe, κf, κg, κh, κi, κj, κk, κl, κm, reduceCtorEq, reduceIte, κn, κo, κp, κq, κr, κs, tys] <;> exact rfl))) | refine draw_end (by decide +kernel) ?_ | refine cond_bool (fun hb => ?_) (fun hb => ?_) | refine cond_bit (fun hb => ?_) (fun hb => ?_) | refine And.intro (by omega) ?_ | refine And.intro (fun hb => ?_) (fun hb => ?_) | fail); (all_goals (first | (refine Fin.pure ?_ ?_ ?_ <;> (try simp only [Tryd.results6, Tryd.ntmps6, wks, hd, hd2, p1, q1, q2, l2, l3, hl, b1, b2, b3, Bool.not_true, vcs, κa, κb, κc, κd, κe, κf, κg, κh, κi, κj, κk, κl, κm, reduceCtorEq, reduceIte, κn, κo, κp, κq, κr, κs, tys]) <;> (try simp only [injs])) | skip)))
  · refine ev_go (fun cargs w => Tryd.call6 cargs w) Tryd.func6 rfl mixed (by kernel_rfl) rfl ?_; intro b0 hb0
    ((repeat' first | simp only [fins, mems, Tryd.results6, Tryd.ntmps6, κt, wks, hd, hd2, p1, p2, q1, l2, l3, hl, b1, b2, b3, Bool.not_true, vcs, κa, κb, κc, κd, κe, κf, κg, κh, κi, κj, κk, κl, κm, reduceCtorEq, reduceIte, κn, κo, κp, κq, κr, κs, tys] | exact rfl | refine call_off (v := .any) ?_ | ((first | (refine call_fn ?_ (hp1 _) ?_) | (refine call_fn_g ?_ (fun _ => hp1 _) ?_) | (refine call_fn ?_ (hg1 _) ?_) | (refine call_fn_g ?_ (fun _ => hg1 _) ?_)); (focus (simp only [Tryd.results6, Tryd.ntmps6, κt, wks, hd, hd2, p1, p2, q1, l2, l3, hl, b1, b2, b3, Bool.not_true, vcs, κa, κb, κc, κd, κe, κf, κg, κh, κi, κj, κk, κl, κm, reduceCtorEq, reduceIte, κn, κo, κp, κq, κr, κs, tys] <;> exact rfl))) | ((first | (refine call_fn ?_ (hp2 _) ?_) | (refine call_fn_g ?_ (fun _ => hp2 _) ?_) | (refine call_fn ?_ (hg2 _) ?_) | (refine call_fn_g ?_ (fun _ => hg2 _) ?_)); (focus (simp only [Tryd.results6, Tryd.ntmps6, κt, wks, hd, hd2, p1, p2, q1, l2, l3, hl, b1, b2, b3, Bool.not_true, vcs, κa, κb, κc, κd, κe, κf, κg, κh, κi, κj, κk, κl, κm, reduceCtorEq, reduceIte, κn, κo, κp, κq, κr, κs, tys] <;> exact rfl))) | (first | (refine call_fn ?_ (alive_ev _) ?_) | (refine call_fn_g ?_ (fun _ => alive_ev _) ?_) | (refine call_fn ?_ (hw _) ?_) | (refine call_fn_g ?_ (fun _ => hw _) ?_) | (refine call_fn ?_ (hr _) ?_) | (refine call_fn_g ?_ (fun _ => hr _) ?_)) | ((first | (refine call_val (g := ?_) ?_ ?_) | (refine call_valg (g := ?_) ?_ ?_)); rotate_left 1; (focus (simp only [Tryd.results6, Tryd.ntmps6, κt, wks, hd, hd2, p1, p2, q1, l2, l3, hl, b1, b2, b3, Bool.not_true, vcs, κa, κb, κc, κd, κe, κf, κg, κh, κi, κj, κk, κl, κm, reduceCtorEq, reduceIte, κn, κo, κp, κq, κr, κs, tys] <;> exact rfl))) | refine draw_end (by decide +kernel) ?_ | refine cond_bool (fun hb => ?_) (fun hb => ?_) | refine cond_bit (fun hb => ?_) (fun hb => ?_) | refine And.intro (by omega) ?_ | refine And.intro (fun hb => ?_) (fun hb => ?_) | fail); (all_goals (first | (refine Fin.pure ?_ ?_ ?_ <;> (try simp only [Tryd.results6, Tryd.ntmps6, wks, hd, hd2, p1, p2, q1, l2, l3, hl, b1, b2, b3, Bool.not_true, vcs, κa, κb, κc, κd, κe, κf, κg, κh, κi, κj, κk, κl, κm, reduceCtorEq, reduceIte, κn, κo, κp, κq, κr, κs, tys]) <;> (try simp only [injs])) | skip)))
  · refine ev_go (fun cargs w => Tryd.call6 cargs w) Tryd.func6 rfl mixed (by kernel_rfl) rfl ?_; intro b0 hb0
    ((repeat' first | simp only [fins, mems, Tryd.results6, Tryd.ntmps6, κt, wks, hd, hd2, p1, p2, q1, q2, l2, l3, hl, b1, b2, b3, Bool.not_true, vcs, κa, κb, κc, κd, κe, κf, κg, κh, κi, κj, κk, κl, κm, reduceCtorEq, reduceIte, κn, κo, κp, κq, κr, κs, tys] | exact rfl | refine call_off (v := .any) ?_ | ((first | (refine call_fn ?_ (hp1 _) ?_) | (refine call_fn_g ?_ (fun _ => hp1 _) ?_) | (refine call_fn ?_ (hg1 _) ?_) | (refine call_fn_g ?_ (fun _ => hg1 _) ?_)); (focus (simp only [Tryd.results6, Tryd.ntmps6, κt, wks, hd, hd2, p1, p2, q1, q2, l2, l3, hl, b1, b2, b3, Bool.not_true, vcs, κa, κb, κc, κd, κe, κf, κg, κh, κi, κj, κk, κl, κm, reduceCtorEq, reduceIte, κn, κo, κp, κq, κr, κs, tys] <;> exact rfl))) | ((first | (refine call_fn ?_ (hp2 _) ?_) | (refine call_fn_g ?_ (fun _ => hp2 _) ?_) | (refine call_fn ?_ (hg2 _) ?_) | (refine call_fn_g ?_ (fun _ => hg2 _) ?_)); (focus (simp only [Tryd.results6, Tryd.ntmps6, κt, wks, hd, hd2, p1, p2, q1, q2, l2, l3, hl, b1, b2, b3, Bool.not_true, vcs, κa, κb, κc, κd, κe, κf, κg, κh, κi, κj, κk, κl, κm, reduceCtorEq, reduceIte, κn, κo, κp, κq, κr, κs, tys] <;> exact rfl))) | (first | (refine call_fn ?_ (alive_ev _) ?_) | (refine call_fn_g ?_ (fun _ => alive_ev _) ?_) | (refine call_fn ?_ (hw _) ?_) | (refine call_fn_g ?_ (fun _ => hw _) ?_) | (refine call_fn ?_ (hr _) ?_) | (refine call_fn_g ?_ (fun _ => hr _) ?_)) | ((first | (refine call_val (g := ?_) ?_ ?_) | (refine call_valg (g := ?_) ?_ ?_)); rotate_left 1; (focus (simp only [Tryd.results6, Tryd.ntmps6, κt, wks, hd, hd2, p1, p2, q1, q2, l2, l3, hl, b1, b2, b3, Bool.not_true, vcs, κa, κb, κc, κd, κe, κf, κg, κh, κi, κj, κk, κl, κm, reduceCtorEq, reduceIte, κn, κo, κp, κq, κr, κs, tys] <;> exact rfl))) | refine draw_end (by decide +kernel) ?_ | refine cond_bool (fun hb => ?_) (fun hb => ?_) | refine cond_bit (fun hb => ?_) (fun hb => ?_) | refine And.intro (by omega) ?_ | refine And.intro (fun hb => ?_) (fun hb => ?_) | fail); (all_goals (first | (refine Fin.pure ?_ ?_ ?_ <;> (try simp only [Tryd.results6, Tryd.ntmps6, wks, hd, hd2, p1, p2, q1, q2, l2, l3, hl, b1, b2, b3, Bool.not_true, vcs, κa, κb, κc, κd, κe, κf, κg, κh, κi, κj, κk, κl, κm, reduceCtorEq, reduceIte, κn, κo, κp, κq, κr, κs, tys]) <;> (try simp only [injs])) | skip)))
  · refine ev_go (fun cargs w => Tryd.call6 cargs w) Tryd.func6 rfl mixed (by kernel_rfl) rfl ?_; intro b0 hb0
    ((repeat' first | simp only [fins, mems, Tryd.results6, Tryd.ntmps6, κt, wks, hd, hd2, p1, p2, q1, q2, l2, l3, hl, b1, b2, b3, Bool.not_true, vcs, κa, κb, κc, κd, κe, κf, κg, κh, κi, κj, κk, κl, κm, reduceCtorEq, reduceIte, κn, κo, κp, κq, κr, κs, tys] | exact rfl | refine call_off (v := .any) ?_ | ((first | (refine call_fn ?_ (hp1 _) ?_) | (refine call_fn_g ?_ (fun _ => hp1 _) ?_) | (refine call_fn ?_ (hg1 _) ?_) | (refine call_fn_g ?_ (fun _ => hg1 _) ?_)); (focus (simp only [Tryd.results6, Tryd.ntmps6, κt, wks, hd, hd2, p1, p2, q1, q2, l2, l3, hl, b1, b2, b3, Bool.not_true, vcs, κa, κb, κc, κd, κe, κf, κg, κh, κi, κj, κk, κl, κm, reduceCtorEq, reduceIte, κn, κo, κp, κq, κr, κs, tys] <;> exact rfl))) | ((first | (refine call_fn ?_ (hp2 _) ?_) | (refine call_fn_g ?_ (fun _ => hp2 _) ?_) | (refine call_fn ?_ (hg2 _) ?_) | (refine call_fn_g ?_ (fun _ => hg2 _) ?_)); (focus (simp only [Tryd.results6, Tryd.ntmps6, κt, wks, hd, hd2, p1, p2, q1, q2, l2, l3, hl, b1, b2, b3, Bool.not_true, vcs, κa, κb, κc, κd, κe, κf, κg, κh, κi, κj, κk, κl, κm, reduceCtorEq, reduceIte, κn, κo, κp, κq, κr, κs, tys] <;> exact rfl))) | (first | (refine call_fn ?_ (alive_ev _) ?_) | (refine call_fn_g ?_ (fun _ => alive_ev _) ?_) | (refine call_fn ?_ (hw _) ?_) | (refine call_fn_g ?_ (fun _ => hw _) ?_) | (refine call_fn ?_ (hr _) ?_) | (refine call_fn_g ?_ (fun _ => hr _) ?_)) | ((first | (refine call_val (g := ?_) ?_ ?_) | (refine call_valg (g := ?_) ?_ ?_)); rotate_left 1; (focus (simp only [Tryd.results6, Tryd.ntmps6, κt, wks, hd, hd2, p1, p2, q1, q2, l2, l3, hl, b1, b2, b3, Bool.not_true, vcs, κa, κb, κc, κd, κe, κf, κg, κh, κi, κj, κk, κl, κm, reduceCtorEq, reduceIte, κn, κo, κp, κq, κr, κs, tys] <;> exact rfl))) | refine draw_end (by decide +kernel) ?_ | refine cond_bool (fun hb => ?_) (fun hb => ?_) | refine cond_bit (fun hb => ?_) (fun hb => ?_) | refine And.intro (by omega) ?_ | refine And.intro (fun hb => ?_) (fun hb => ?_) | fail); (all_goals (first | (refine Fin.pure ?_ ?_ ?_ <;> (try simp only [Tryd.results6, Tryd.ntmps6, wks, hd, hd2, p1, p2, q1, q2, l2, l3, hl, b1, b2, b3, Bool.not_true, vcs, κa, κb, κc, κd, κe, κf, κg, κh, κi, κj, κk, κl, κm, reduceCtorEq, reduceIte, κn, κo, κp, κq, κr, κs, tys]) <;> (try simp only [injs])) | skip)))
  · refine ev_go (fun cargs w => Tryd.call6 cargs w) Tryd.func6 rfl mixed (by kernel_rfl) rfl ?_; intro b0 hb0
    ((repeat' first | simp only [fins, mems, Tryd.results6, Tryd.ntmps6, κt, wks, hd, hd2, p1, p2, q1, l2, l3, hl, b1, b2, b3, Bool.not_true, vcs, κa, κb, κc, κd, κe, κf, κg, κh, κi, κj, κk, κl, κm, reduceCtorEq, reduceIte, κn, κo, κp, κq, κr, κs, tys] | exact rfl | refine call_off (v := .any) ?_ | ((first | (refine call_fn ?_ (hp1 _) ?_) | (refine call_fn_g ?_ (fun _ => hp1 _) ?_) | (refine call_fn ?_ (hg1 _) ?_) | (refine call_fn_g ?_ (fun _ => hg1 _) ?_)); (focus (simp only [Tryd.results6, Tryd.ntmps6, κt, wks, hd, hd2, p1, p2, q1, l2, l3, hl, b1, b2, b3, Bool.not_true, vcs, κa, κb, κc, κd, κe, κf, κg, κh, κi, κj, κk, κl, κm, reduceCtorEq, reduceIte, κn, κo, κp, κq, κr, κs, tys] <;> exact rfl))) | ((first | (refine call_fn ?_ (hp2 _) ?_) | (refine call_fn_g ?_ (fun _ => hp2 _) ?_) | (refine call_fn ?_ (hg2 _) ?_) | (refine call_fn_g ?_ (fun _ => hg2 _) ?_)); (focus (simp only [Tryd.results6, Tryd.ntmps6, κt, wks, hd, hd2, p1, p2, q1, l2, l3, hl, b1, b2, b3, Bool.not_true, vcs, κa, κb, κc, κd, κe, κf, κg, κh, κi, κj, κk, κl, κm, reduceCtorEq, reduceIte, κn, κo, κp, κq, κr, κs, tys] <;> exact rfl))) | (first | (refine call_fn ?_ (alive_ev _) ?_) | (refine call_fn_g ?_ (fun _ => alive_ev _) ?_) | (refine call_fn ?_ (hw _) ?_) | (refine call_fn_g ?_ (fun _ => hw _) ?_) | (refine call_fn ?_ (hr _) ?_) | (refine call_fn_g ?_ (fun _ => hr _) ?_)) | ((first | (refine call_val (g := ?_) ?_ ?_) | (refine call_valg (g := ?_) ?_ ?_)); rotate_left 1; (focus (simp only [Tryd.results6, Tryd.ntmps6, κt, wks, hd, hd2, p1, p2, q1, l2, l3, hl, b1, b2, b3, Bool.not_true, vcs, κa, κb, κc, κd, κe, κf, κg, κh, κi, κj, κk, κl, κm, reduceCtorEq, reduceIte, κn, κo, κp, κq, κr, κs, tys] <;> exact rfl))) | refine draw_end (by decide +kernel) ?_ | refine cond_bool (fun hb => ?_) (fun hb => ?_) | refine cond_bit (fun hb => ?_) (fun hb => ?_) | refine And.intro (by omega) ?_ | refine And.intro (fun hb => ?_) (fun hb => ?_) | fail); (all_goals (first | (refine Fin.pure ?_ ?_ ?_ <;> (try simp only [Tryd.results6, Tryd.ntmps6, wks, hd, hd2, p1, p2, q1, l2, l3, hl, b1, b2, b3, Bool.not_true, vcs, κa, κb, κc, κd, κe, κf, κg, κh, κi, κj, κk, κl, κm, reduceCtorEq, reduceIte, κn, κo, κp, κq, κr, κs, tys]) <;> (try simp only [injs])) | skip)))
  · refine ev_go (fun cargs w => Tryd.call6 cargs w) Tryd.func6 rfl mixed (by kernel_rfl) rfl ?_; intro b0 hb0
    ((repeat' first | simp only [fins, mems, Tryd.results6, Tryd.ntmps6, κt, wks, hd, hd2, p1, p2, q1, q2, l2, l3, hl, b1, b2, b3, Bool.not_true, vcs, κa, κb, κc, κd, κe, κf, κg, κh, κi, κj, κk, κl, κm, reduceCtorEq, reduceIte, κn, κo, κp, κq, κr, κs, tys] | exact rfl | refine call_off (v := .any) ?_ | ((first | (refine call_fn ?_ (hp1 _) ?_) | (refine call_fn_g ?_ (fun _ => hp1 _) ?_) | (refine call_fn ?_ (hg1 _) ?_) | (refine call_fn_g ?_ (fun _ => hg1 _) ?_)); (focus (simp only [Tryd.results6, Tryd.ntmps6, κt, wks, hd, hd2, p1, p2, q1, q2, l2, l3, hl, b1, b2, b3, Bool.not_true, vcs, κa, κb, κc, κd, κe, κf, κg, κh, κi, κj, κk, κl, κm, reduceCtorEq, reduceIte, κn, κo, κp, κq, κr, κs, tys] <;> exact rfl))) | ((first | (refine call_fn ?_ (hp2 _) ?_) | (refine call_fn_g ?_ (fun _ => hp2 _) ?_) | (refine call_fn ?_ (hg2 _) ?_) | (refine call_fn_g ?_ (fun _ => hg2 _) ?_)); (focus (simp only [Tryd.results6, Tryd.ntmps6, κt, wks, hd, hd2, p1, p2, q1, q2, l2, l3, hl, b1, b2, b3, Bool.not_true, vcs, κa, κb, κc, κd, κe, κf, κg, κh, κi, κj, κk, κl, κm, reduceCtorEq, reduceIte, κn, κo, κp, κq, κr, κs, tys] <;> exact rfl))) | (first | (refine call_fn ?_ (alive_ev _) ?_) | (refine call_fn_g ?_ (fun _ => alive_ev _) ?_) | (refine call_fn ?_ (hw _) ?_) | (refine call_fn_g ?_ (fun _ => hw _) ?_) | (refine call_fn ?_ (hr _) ?_) | (refine call_fn_g ?_ (fun _ => hr _) ?_)) | ((first | (refine call_val (g := ?_) ?_ ?_) | (refine call_valg (g := ?_) ?_ ?_)); rotate_left 1; (focus (simp only [Tryd.results6, Tryd.ntmps6, κt, wks, hd, hd2, p1, p2, q1, q2, l2, l3, hl, b1, b2, b3, Bool.not_true, vcs, κa, κb, κc, κd, κe, κf, κg, κh, κi, κj, κk, κl, κm, reduceCtorEq, reduceIte, κn, κo, κp, κq, κr, κs, tys] <;> exact rfl))) | refine draw_end (by decide +kernel) ?_ | refine cond_bool (fun hb => ?_) (fun hb => ?_) | refine cond_bit (fun hb => ?_) (fun hb => ?_) | refine And.intro (by omega) ?_ | refine And.intro (fun hb => ?_) (fun hb => ?_) | fail); (all_goals (first | (refine Fin.pure ?_ ?_ ?_ <;> (try simp only [Tryd.results6, Tryd.ntmps6, wks, hd, hd2, p1, p2, q1, q2, l2, l3, hl, b1, b2, b3, Bool.not_true, vcs, κa, κb, κc, κd, κe, κf, κg, κh, κi, κj, κk, κl, κm, reduceCtorEq, reduceIte, κn, κo, κp, κq, κr, κs, tys]) <;> (try simp only [injs])) | skip)))
  · refine ev_go (fun cargs w => Tryd.call6 cargs w) Tryd.func6 rfl mixed (by kernel_rfl) rfl ?_; intro b0 hb0
    ((repeat' first | simp only [fins, mems, Tryd.results6, Tryd.ntmps6, κt, wks, hd, hd2, p1, p2, q1, q2, l2, l3, hl, b1, b2, b3, Bool.not_true, vcs, κa, κb, κc, κd, κe, κf, κg, κh, κi, κj, κk, κl, κm, reduceCtorEq, reduceIte, κn, κo, κp, κq, κr, κs, tys] | exact rfl | refine call_off (v := .any) ?_ | ((first | (refine call_fn ?_ (hp1 _) ?_) | (refine call_fn_g ?_ (fun _ => hp1 _) ?_) | (refine call_fn ?_ (hg1 _) ?_) | (refine call_fn_g ?_ (fun _ => hg1 _) ?_)); (focus (simp only [Tryd.results6, Tryd.ntmps6, κt, wks, hd, hd2, p1, p2, q1, q2, l2, l3, hl, b1, b2, b3, Bool.not_true, vcs, κa, κb, κc, κd, κe, κf, κg, κh, κi, κj, κk, κl, κm, reduceCtorEq, reduceIte, κn, κo, κp, κq, κr, κs, tys] <;> exact rfl))) | ((first | (refine call_fn ?_ (hp2 _) ?_) | (refine call_fn_g ?_ (fun _ => hp2 _) ?_) | (refine call_fn ?_ (hg2 _) ?_) | (refine call_fn_g ?_ (fun _ => hg2 _) ?_)); (focus (simp only [Tryd.results6, Tryd.ntmps6, κt, wks, hd, hd2, p1, p2, q1, q2, l2, l3, hl, b1, b2, b3, Bool.not_true, vcs, κa, κb, κc, κd, κe, κf, κg, κh, κi, κj, κk, κl, κm, reduceCtorEq, reduceIte, κn, κo, κp, κq, κr, κs, tys] <;> exact rfl))) | (first | (refine call_fn ?_ (alive_ev _) ?_) | (refine call_fn_g ?_ (fun _ => alive_ev _) ?_) | (refine call_fn ?_ (hw _) ?_) | (refine call_fn_g ?_ (fun _ => hw _) ?_) | (refine call_fn ?_ (hr _) ?_) | (refine call_fn_g ?_ (fun _ => hr _) ?_)) | ((first | (refine call_val (g := ?_) ?_ ?_) | (refine call_valg (g := ?_) ?_ ?_)); rotate_left 1; (focus (simp only [Tryd.results6, Tryd.ntmps6, κt, wks, hd, hd2, p1, p2, q1, q2, l2, l3, hl, b1, b2, b3, Bool.not_true, vcs, κa, κb, κc, κd, κe, κf, κg, κh, κi, κj, κk, κl, κm, reduceCtorEq, reduceIte, κn, κo, κp, κq, κr, κs, tys] <;> exact rfl))) | refine draw_end (by decide +kernel) ?_ | refine cond_bool (fun hb => ?_) (fun hb => ?_) | refine cond_bit (fun hb => ?_) (fun hb => ?_) | refine And.intro (by omega) ?_ | refine And.intro (fun hb => ?_) (fun hb => ?_) | fail); (all_goals (first | (refine Fin.pure ?_ ?_ ?_ <;> (try simp only [Tryd.results6, Tryd.ntmps6, wks, hd, hd2, p1, p2, q1, q2, l2, l3, hl, b1, b2, b3, Bool.not_true, vcs, κa, κb, κc, κd, κe, κf, κg, κh, κi, κj, κk, κl, κm, reduceCtorEq, reduceIte, κn, κo, κp, κq, κr, κs, tys]) <;> (try simp only [injs])) | skip)))
theorem escParts_args (xs : List V) (h : ShapeArgs cx.P Tryd.f6.params.toList xs) : Ev cx 6 0 xs Mem.nil (.bool true) [] := by
  rw [Tryd.params6] at h
  obtain ⟨_, v1, _, rfl, h1, _, v2, _, rfl, h2, _, v3, _, rfl, h3, h4⟩ := h
  obtain rfl := args_nil h4
  obtain ⟨a, rfl, ha⟩ := shape_str kind_9 h1
  obtain ⟨b, rfl, hb⟩ := shape_str kind_9 h2
  obtain ⟨q, rfl⟩ := shape_bool kind_4 h3
  rw [argV_one kind_9 (by simp), argV_one kind_9 (by simp), argV_one kind_4 (by simp)]
  exact escParts_main a b q (by unfold lim; omega) (by unfold lim; omega) 0
end Go.Proofs.YtanahnknjboplaaDoor
