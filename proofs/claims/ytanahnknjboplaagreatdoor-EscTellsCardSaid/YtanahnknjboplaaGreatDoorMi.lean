/-
  Texts joined: XGp, XGq.
-/
import Derived.Test.YtanahnknjboplaaGreatDoorMh
/-
  The document's answer for layer 8 by the machine: what references tell.
-/
namespace Go.Proofs.YtanahnknjboplaaGreatDoor
set_option linter.unusedSimpArgs false
set_option linter.unusedVariables false
open Nat renaming reduceAdd → κa, reduceMul → κb, reduceEqDiff → κc, reduceLeDiff → κd, reduceSub → κe, reduceLT → κf, reduceBEq → κr, reduceBNe → κs, reducePow → κt
open Int renaming reduceToNat → κg, reduceLE → κh, reduceLT → κi, reduceAdd → κj, reduceSub → κk, reduceMul → κl, reduceNeg → κm, reduceBEq → κn, reduceBNe → κo, reduceEq → κp, reduceNe → κq
open Go Go.RowKit Go.Proofs.YtanahnknjboplaaGreatDoor.Vm Go.Lib

def numI (o : Option Nat) : Int := match o with | some n => n | none => -1
theorem numI_none : numI none = -1 := rfl
theorem numI_some (n : Nat) : numI (some n) = n := rfl
theorem hexD_cases {c : UInt8} {d : Nat} (h : hexD c = some d) : (48 ≤ c.toNat ∧ c.toNat ≤ 57 ∧ d = c.toNat - 48) ∨ (97 ≤ c.toNat ∧ c.toNat ≤ 102 ∧ d = c.toNat - 87) ∨ (65 ≤ c.toNat ∧ c.toNat ≤ 70 ∧ d = c.toNat - 55) := by
  unfold hexD at h
  split at h
  · rename_i h1; cases h; exact .inl ⟨h1.1, h1.2, rfl⟩
  · split at h
    · rename_i h1; cases h; exact .inr (.inl ⟨h1.1, h1.2, rfl⟩)
    · split at h
      · rename_i h1; cases h; exact .inr (.inr ⟨h1.1, h1.2, rfl⟩)
      · cases h
theorem hexD_no {c : UInt8} (h : hexD c = none) : ¬ (48 ≤ c.toNat ∧ c.toNat ≤ 57) ∧ ¬ (97 ≤ c.toNat ∧ c.toNat ≤ 102) ∧ ¬ (65 ≤ c.toNat ∧ c.toNat ≤ 70) := by
  unfold hexD at h
  split at h
  · cases h
  · split at h
    · cases h
    · split at h
      · cases h
      · exact ⟨by assumption, by assumption, by assumption⟩
set_option maxRecDepth 100000 in
set_option maxHeartbeats 8000000 in
theorem rHex_ev (s : List UInt8) (hs : s.length ≤ lim) (nm : Nat) : Ev cx 55 nm [.str s] Mem.nil (.int .i64 (numI (hexL s))) [] := by
  by_cases h0 : s = []
  · have hn : hexL s = none := by unfold hexL; rw [if_pos (.inl h0)]
    rw [hn, numI_none]
    subst h0
    have hd : decide ((0 : Int) < 1) = true := rfl
    refine ev_go (fun cargs w => Tryz.call55 cargs w) Tryz.func55 rfl mixed (by kernel_rfl) rfl ?_; intro b0 hb0
    ((repeat' first | simp only [fins, mems, Tryz.results55, Tryz.ntmps55, κt, wks, hd, vcs, κa, κb, κc, κd, κe, κf, κg, κh, κi, κj, κk, κl, κm, reduceCtorEq, reduceIte, κn, κo, κp, κq, κr, κs, tys] | exact rfl | refine call_off (v := .any) ?_ | ((first | (refine call_val (g := ?_) ?_ ?_) | (refine call_valg (g := ?_) ?_ ?_)); rotate_left 1; (focus (simp only [Tryz.results55, Tryz.ntmps55, κt, wks, hd, vcs, κa, κb, κc, κd, κe, κf, κg, κh, κi, κj, κk, κl, κm, reduceCtorEq, reduceIte, κn, κo, κp, κq, κr, κs, tys] <;> exact rfl))) | refine draw_end (by decide +kernel) ?_ | refine cond_bool (fun hb => ?_) (fun hb => ?_) | refine cond_bit (fun hb => ?_) (fun hb => ?_) | refine And.intro (by omega) ?_ | refine And.intro (fun hb => ?_) (fun hb => ?_) | fail); (all_goals (first | (refine Fin.pure ?_ ?_ ?_ <;> (try simp only [Tryz.results55, Tryz.ntmps55, wks, hd, vcs, κa, κb, κc, κd, κe, κf, κg, κh, κi, κj, κk, κl, κm, reduceCtorEq, reduceIte, κn, κo, κp, κq, κr, κs, tys]) <;> (try simp only [injs])) | skip)))
  have hlp : 0 < s.length := List.length_pos_iff.2 h0
  have hd : decide ((s.length : Int) < 1) = false := decide_eq_false (by omega)
  by_cases h6 : 6 < s.length
  · have hn : hexL s = none := by unfold hexL; rw [if_pos (.inr (.inl h6))]
    have e1 : decide ((6 : Int) < (s.length : Int)) = true := decide_eq_true (by omega)
    rw [hn, numI_none]
    refine ev_go (fun cargs w => Tryz.call55 cargs w) Tryz.func55 rfl mixed (by kernel_rfl) rfl ?_; intro b0 hb0
    ((repeat' first | simp only [fins, mems, Tryz.results55, Tryz.ntmps55, κt, wks, hd, e1, vcs, κa, κb, κc, κd, κe, κf, κg, κh, κi, κj, κk, κl, κm, reduceCtorEq, reduceIte, κn, κo, κp, κq, κr, κs, tys] | exact rfl | refine call_off (v := .any) ?_ | ((first | (refine call_val (g := ?_) ?_ ?_) | (refine call_valg (g := ?_) ?_ ?_)); rotate_left 1; (focus (simp only [Tryz.results55, Tryz.ntmps55, κt, wks, hd, e1, vcs, κa, κb, κc, κd, κe, κf, κg, κh, κi, κj, κk, κl, κm, reduceCtorEq, reduceIte, κn, κo, κp, κq, κr, κs, tys] <;> exact rfl))) | refine draw_end (by decide +kernel) ?_ | refine cond_bool (fun hb => ?_) (fun hb => ?_) | refine cond_bit (fun hb => ?_) (fun hb => ?_) | refine And.intro (by omega) ?_ | refine And.intro (fun hb => ?_) (fun hb => ?_) | fail); (all_goals (first | (refine Fin.pure ?_ ?_ ?_ <;> (try simp only [Tryz.results55, Tryz.ntmps55, wks, hd, e1, vcs, κa, κb, κc, κd, κe, κf, κg, κh, κi, κj, κk, κl, κm, reduceCtorEq, reduceIte, κn, κo, κp, κq, κr, κs, tys]) <;> (try simp only [injs])) | skip)))
  have e1 : decide ((6 : Int) < (s.length : Int)) = false := decide_eq_false (by omega)
  obtain ⟨c0, hc0⟩ : ∃ c, s[0]? = some c := ⟨_, List.getElem?_eq_getElem hlp⟩
  have e2 : ((c0.toNat : Int) == 48) = decide (c0 = 48) := beq_byte c0 48
  by_cases h48 : c0 = 48
  · have hn : hexL s = none := by unfold hexL; rw [if_pos (.inr (.inr (by rw [List.head?_eq_getElem?, hc0, h48])))]
    rw [decide_eq_true h48] at e2
    rw [hn, numI_none]
    refine ev_go (fun cargs w => Tryz.call55 cargs w) Tryz.func55 rfl mixed (by kernel_rfl) rfl ?_; intro b0 hb0
    ((repeat' first | simp only [fins, mems, Tryz.results55, Tryz.ntmps55, κt, wks, hd, e1, e2, hc0, hlp, vcs, κa, κb, κc, κd, κe, κf, κg, κh, κi, κj, κk, κl, κm, reduceCtorEq, reduceIte, κn, κo, κp, κq, κr, κs, tys] | exact rfl | refine call_off (v := .any) ?_ | ((first | (refine call_val (g := ?_) ?_ ?_) | (refine call_valg (g := ?_) ?_ ?_)); rotate_left 1; (focus (simp only [Tryz.results55, Tryz.ntmps55, κt, wks, hd, e1, e2, hc0, hlp, vcs, κa, κb, κc, κd, κe, κf, κg, κh, κi, κj, κk, κl, κm, reduceCtorEq, reduceIte, κn, κo, κp, κq, κr, κs, tys] <;> exact rfl))) | refine draw_end (by decide +kernel) ?_ | refine cond_bool (fun hb => ?_) (fun hb => ?_) | refine cond_bit (fun hb => ?_) (fun hb => ?_) | refine And.intro (by omega) ?_ | refine And.intro (fun hb => ?_) (fun hb => ?_) | fail); (all_goals (first | (refine Fin.pure ?_ ?_ ?_ <;> (try simp only [Tryz.results55, Tryz.ntmps55, wks, hd, e1, e2, hc0, hlp, vcs, κa, κb, κc, κd, κe, κf, κg, κh, κi, κj, κk, κl, κm, reduceCtorEq, reduceIte, κn, κo, κp, κq, κr, κs, tys]) <;> (try simp only [injs])) | skip)))
  rw [decide_eq_false h48] at e2
  have hL : hexL s = hexV 0 s := by
    unfold hexL; rw [if_neg]
    rintro (h | h | h)
    · exact h0 h
    · exact h6 h
    · rw [List.head?_eq_getElem?, hc0] at h; cases h; exact h48 rfl
  rw [hL]
  refine ev_go (fun cargs w => Tryz.call55 cargs w) Tryz.func55 rfl mixed (by kernel_rfl) rfl ?_; intro b0 hb0
  repeat' first | simp only [fins, mems, Tryz.results55, Tryz.ntmps55, κt, wks, hd, e1, e2, hc0, hlp, vcs, κa, κb, κc, κd, κe, κf, κg, κh, κi, κj, κk, κl, κm, reduceCtorEq, reduceIte, κn, κo, κp, κq, κr, κs, tys] | exact rfl | refine call_off (v := .any) ?_ | ((first | (refine call_val (g := ?_) ?_ ?_) | (refine call_valg (g := ?_) ?_ ?_)); rotate_left 1; (focus (simp only [Tryz.results55, Tryz.ntmps55, κt, wks, hd, e1, e2, hc0, hlp, vcs, κa, κb, κc, κd, κe, κf, κg, κh, κi, κj, κk, κl, κm, reduceCtorEq, reduceIte, κn, κo, κp, κq, κr, κs, tys] <;> exact rfl))) | refine draw_end (by decide +kernel) ?_ | refine cond_bool (fun hb => ?_) (fun hb => ?_) | refine cond_bit (fun hb => ?_) (fun hb => ?_) | refine And.intro (by omega) ?_ | refine And.intro (fun hb => ?_) (fun hb => ?_) | fail
  (refine loop_can2 cxG (fun x : Nat × Nat => s.length - x.1) (fun x => x.1 ≤ s.length ∧ hexV 0 (s.take x.1) = some x.2) (b0 + 16) (fun x => [(0, .str s), (3, .int .i64 x.2), (4, .int .i64 x.1)]) (fun x => []) ((0, 0)) [] ?_ ?_ ?_ ?_; rotate_left 1; (focus (show b0 ≤ _; omega)); (focus (refine ⟨?_, ?_⟩ <;> (try simp only [cans, show hexV 0 [] = some 0 from rfl, vcs, κa, κb, κc, κd, κe, κf, κg, κh, κi, κj, κk, κl, κm, reduceCtorEq, reduceIte, κn, κo, κp, κq, κr, κs, tys, injs]) <;> (try omega))); rotate_left 1)
  · exact ⟨Nat.zero_le _, rfl⟩
  · rintro ⟨k, m⟩ ⟨hk, hm⟩
    simp only at hk hm
    have hmb := hexV_lt _ _ _ hm
    have hkl : (s.take k).length = k := by rw [List.length_take]; omega
    rw [hkl] at hmb
    have hp6 : (16 : Nat) ^ k ≤ 16 ^ 6 := Nat.pow_le_pow_right (by omega) (by omega)
    have hm6 : m < 16777216 := by simp only [Nat.zero_add, Nat.one_mul] at hmb; exact Nat.lt_of_lt_of_le hmb hp6
    by_cases hlt : k < s.length
    · obtain ⟨c, hc⟩ : ∃ c, s[k]? = some c := ⟨_, List.getElem?_eq_getElem hlt⟩
      have hdk : decide (k < s.length) = true := decide_eq_true hlt
      have hwk : IntKind.i64.wrap ((k : Int) + 1) = ((k + 1 : Nat) : Int) := wrap_in (by omega) (by omega)
      have hcn : c.toNat < 256 := c.toNat_lt
      have hw1 : IntKind.i64.wrap (c.toNat : Int) = (c.toNat : Int) := wrap_in (by omega) (by omega)
      have hw2 : IntKind.i64.wrap (16 * (m : Int)) = 16 * (m : Int) := wrap_in (by omega) (by omega)
      have hw3 : IntKind.i64.wrap (16 * (m : Int) + (c.toNat : Int)) = 16 * (m : Int) + (c.toNat : Int) := wrap_in (by omega) (by omega)
      have hnx := hexV_take hc
      rw [hm] at hnx
      simp only [Option.bind_some] at hnx
      cases hdc : hexD c with
      | none =>
        have hno : hexV 0 s = none := by
          rw [hdc] at hnx
          rw [← List.take_append_drop (k + 1) s]; exact hexV_none hnx
        rw [hno, numI_none]
        obtain ⟨n1, n2, n3⟩ := hexD_no hdc
        have a1 : decide ((48 : Int) ≤ (c.toNat : Int)) = false ∨ (decide ((48 : Int) ≤ (c.toNat : Int)) = true ∧ decide ((c.toNat : Int) ≤ 57) = false) := by
          by_cases h : 48 ≤ c.toNat
          · exact .inr ⟨decide_eq_true (by omega), decide_eq_false (by omega)⟩
          · exact .inl (decide_eq_false (by omega))
        have a2 : decide ((97 : Int) ≤ (c.toNat : Int)) = false ∨ (decide ((97 : Int) ≤ (c.toNat : Int)) = true ∧ decide ((c.toNat : Int) ≤ 102) = false) := by
          by_cases h : 97 ≤ c.toNat
          · exact .inr ⟨decide_eq_true (by omega), decide_eq_false (by omega)⟩
          · exact .inl (decide_eq_false (by omega))
        have a3 : decide ((65 : Int) ≤ (c.toNat : Int)) = false ∨ (decide ((65 : Int) ≤ (c.toNat : Int)) = true ∧ decide ((c.toNat : Int) ≤ 70) = false) := by
          by_cases h : 65 ≤ c.toNat
          · exact .inr ⟨decide_eq_true (by omega), decide_eq_false (by omega)⟩
          · exact .inl (decide_eq_false (by omega))
        rcases a1 with x1 | ⟨x1, x2⟩ <;> rcases a2 with y1 | ⟨y1, y2⟩ <;> rcases a3 with z1 | ⟨z1, z2⟩
        · ((repeat' first | simp only [fins, mems, Tryz.results55, Tryz.ntmps55, κt, wks, hc, hdk, hlt, hw1, x1, y1, z1, vcs, κa, κb, κc, κd, κe, κf, κg, κh, κi, κj, κk, κl, κm, reduceCtorEq, reduceIte, κn, κo, κp, κq, κr, κs, tys] | exact rfl | refine call_off (v := .any) ?_ | ((first | (refine call_val (g := ?_) ?_ ?_) | (refine call_valg (g := ?_) ?_ ?_)); rotate_left 1; (focus (simp only [Tryz.results55, Tryz.ntmps55, κt, wks, hc, hdk, hlt, hw1, x1, y1, z1, vcs, κa, κb, κc, κd, κe, κf, κg, κh, κi, κj, κk, κl, κm, reduceCtorEq, reduceIte, κn, κo, κp, κq, κr, κs, tys] <;> exact rfl))) | refine draw_end (by decide +kernel) ?_ | refine cond_bool (fun hb => ?_) (fun hb => ?_) | refine cond_bit (fun hb => ?_) (fun hb => ?_) | refine And.intro (by omega) ?_ | refine And.intro (fun hb => ?_) (fun hb => ?_) | fail); (all_goals (first | (refine Fin.pure ?_ ?_ ?_ <;> (try simp only [Tryz.results55, Tryz.ntmps55, wks, hc, hdk, hlt, hw1, x1, y1, z1, vcs, κa, κb, κc, κd, κe, κf, κg, κh, κi, κj, κk, κl, κm, reduceCtorEq, reduceIte, κn, κo, κp, κq, κr, κs, tys]) <;> (try simp only [injs])) | skip)))
        · ((repeat' first | simp only [fins, mems, Tryz.results55, Tryz.ntmps55, κt, wks, hc, hdk, hlt, hw1, x1, y1, z1, z2, vcs, κa, κb, κc, κd, κe, κf, κg, κh, κi, κj, κk, κl, κm, reduceCtorEq, reduceIte, κn, κo, κp, κq, κr, κs, tys] | exact rfl | refine call_off (v := .any) ?_ | ((first | (refine call_val (g := ?_) ?_ ?_) | (refine call_valg (g := ?_) ?_ ?_)); rotate_left 1; (focus (simp only [Tryz.results55, Tryz.ntmps55, κt, wks, hc, hdk, hlt, hw1, x1, y1, z1, z2, vcs, κa, κb, κc, κd, κe, κf, κg, κh, κi, κj, κk, κl, κm, reduceCtorEq, reduceIte, κn, κo, κp, κq, κr, κs, tys] <;> exact rfl))) | refine draw_end (by decide +kernel) ?_ | refine cond_bool (fun hb => ?_) (fun hb => ?_) | refine cond_bit (fun hb => ?_) (fun hb => ?_) | refine And.intro (by omega) ?_ | refine And.intro (fun hb => ?_) (fun hb => ?_) | fail); (all_goals (first | (refine Fin.pure ?_ ?_ ?_ <;> (try simp only [Tryz.results55, Tryz.ntmps55, wks, hc, hdk, hlt, hw1, x1, y1, z1, z2, vcs, κa, κb, κc, κd, κe, κf, κg, κh, κi, κj, κk, κl, κm, reduceCtorEq, reduceIte, κn, κo, κp, κq, κr, κs, tys]) <;> (try simp only [injs])) | skip)))
        · ((repeat' first | simp only [fins, mems, Tryz.results55, Tryz.ntmps55, κt, wks, hc, hdk, hlt, hw1, x1, y1, y2, z1, vcs, κa, κb, κc, κd, κe, κf, κg, κh, κi, κj, κk, κl, κm, reduceCtorEq, reduceIte, κn, κo, κp, κq, κr, κs, tys] | exact rfl | refine call_off (v := .any) ?_ | ((first | (refine call_val (g := ?_) ?_ ?_) | (refine call_valg (g := ?_) ?_ ?_)); rotate_left 1; (focus (simp only [Tryz.results55, Tryz.ntmps55, κt, wks, hc, hdk, hlt, hw1, x1, y1, y2, z1, vcs, κa, κb, κc, κd, κe, κf, κg, κh, κi, κj, κk, κl, κm, reduceCtorEq, reduceIte, κn, κo, κp, κq, κr, κs, tys] <;> exact rfl))) | refine draw_end (by decide +kernel) ?_ | refine cond_bool (fun hb => ?_) (fun hb => ?_) | refine cond_bit (fun hb => ?_) (fun hb => ?_) | refine And.intro (by omega) ?_ | refine And.intro (fun hb => ?_) (fun hb => ?_) | fail); (all_goals (first | (refine Fin.pure ?_ ?_ ?_ <;> (try simp only [Tryz.results55, Tryz.ntmps55, wks, hc, hdk, hlt, hw1, x1, y1, y2, z1, vcs, κa, κb, κc, κd, κe, κf, κg, κh, κi, κj, κk, κl, κm, reduceCtorEq, reduceIte, κn, κo, κp, κq, κr, κs, tys]) <;> (try simp only [injs])) | skip)))
        · ((repeat' first | simp only [fins, mems, Tryz.results55, Tryz.ntmps55, κt, wks, hc, hdk, hlt, hw1, x1, y1, y2, z1, z2, vcs, κa, κb, κc, κd, κe, κf, κg, κh, κi, κj, κk, κl, κm, reduceCtorEq, reduceIte, κn, κo, κp, κq, κr, κs, tys] | exact rfl | refine call_off (v := .any) ?_ | ((first | (refine call_val (g := ?_) ?_ ?_) | (refine call_valg (g := ?_) ?_ ?_)); rotate_left 1; (focus (simp only [Tryz.results55, Tryz.ntmps55, κt, wks, hc, hdk, hlt, hw1, x1, y1, y2, z1, z2, vcs, κa, κb, κc, κd, κe, κf, κg, κh, κi, κj, κk, κl, κm, reduceCtorEq, reduceIte, κn, κo, κp, κq, κr, κs, tys] <;> exact rfl))) | refine draw_end (by decide +kernel) ?_ | refine cond_bool (fun hb => ?_) (fun hb => ?_) | refine cond_bit (fun hb => ?_) (fun hb => ?_) | refine And.intro (by omega) ?_ | refine And.intro (fun hb => ?_) (fun hb => ?_) | fail); (all_goals (first | (refine Fin.pure ?_ ?_ ?_ <;> (try simp only [Tryz.results55, Tryz.ntmps55, wks, hc, hdk, hlt, hw1, x1, y1, y2, z1, z2, vcs, κa, κb, κc, κd, κe, κf, κg, κh, κi, κj, κk, κl, κm, reduceCtorEq, reduceIte, κn, κo, κp, κq, κr, κs, tys]) <;> (try simp only [injs])) | skip)))
        · ((repeat' first | simp only [fins, mems, Tryz.results55, Tryz.ntmps55, κt, wks, hc, hdk, hlt, hw1, x1, x2, y1, z1, vcs, κa, κb, κc, κd, κe, κf, κg, κh, κi, κj, κk, κl, κm, reduceCtorEq, reduceIte, κn, κo, κp, κq, κr, κs, tys] | exact rfl | refine call_off (v := .any) ?_ | ((first | (refine call_val (g := ?_) ?_ ?_) | (refine call_valg (g := ?_) ?_ ?_)); rotate_left 1; (focus (simp only [Tryz.results55, Tryz.ntmps55, κt, wks, hc, hdk, hlt, hw1, x1, x2, y1, z1, vcs, κa, κb, κc, κd, κe, κf, κg, κh, κi, κj, κk, κl, κm, reduceCtorEq, reduceIte, κn, κo, κp, κq, κr, κs, tys] <;> exact rfl))) | refine draw_end (by decide +kernel) ?_ | refine cond_bool (fun hb => ?_) (fun hb => ?_) | refine cond_bit (fun hb => ?_) (fun hb => ?_) | refine And.intro (by omega) ?_ | refine And.intro (fun hb => ?_) (fun hb => ?_) | fail); (all_goals (first | (refine Fin.pure ?_ ?_ ?_ <;> (try simp only [Tryz.results55, Tryz.ntmps55, wks, hc, hdk, hlt, hw1, x1, x2, y1, z1, vcs, κa, κb, κc, κd, κe, κf, κg, κh, κi, κj, κk, κl, κm, reduceCtorEq, reduceIte, κn, κo, κp, κq, κr, κs, tys]) <;> (try simp only [injs])) | skip)))
        · ((repeat' first | simp only [fins, mems, Tryz.results55, Tryz.ntmps55, κt, wks, hc, hdk, hlt, hw1, x1, x2, y1, z1, z2, vcs, κa, κb, κc, κd, κe, κf, κg, κh, κi, κj, κk, κl, κm, reduceCtorEq, reduceIte, κn, κo, κp, κq, κr, κs, tys] | exact rfl | refine call_off (v := .any) ?_ | ((first | (refine call_val (g := ?_) ?_ ?_) | (refine call_valg (g := ?_) ?_ ?_)); rotate_left 1; (focus (simp only [Tryz.results55, Tryz.ntmps55, κt, wks, hc, hdk, hlt, hw1, x1, x2, y1, z1, z2, vcs, κa, κb, κc, κd, κe, κf, κg, κh, κi, κj, κk, κl, κm, reduceCtorEq, reduceIte, κn, κo, κp, κq, κr, κs, tys] <;> exact rfl))) | refine draw_end (by decide +kernel) ?_ | refine cond_bool (fun hb => ?_) (fun hb => ?_) | refine cond_bit (fun hb => ?_) (fun hb => ?_) | refine And.intro (by omega) ?_ | refine And.intro (fun hb => ?_) (fun hb => ?_) | fail); (all_goals (first | (refine Fin.pure ?_ ?_ ?_ <;> (try simp only [Tryz.results55, Tryz.ntmps55, wks, hc, hdk, hlt, hw1, x1, x2, y1, z1, z2, vcs, κa, κb, κc, κd, κe, κf, κg, κh, κi, κj, κk, κl, κm, reduceCtorEq, reduceIte, κn, κo, κp, κq, κr, κs, tys]) <;> (try simp only [injs])) | skip)))
        · ((repeat' first | simp only [fins, mems, Tryz.results55, Tryz.ntmps55, κt, wks, hc, hdk, hlt, hw1, x1, x2, y1, y2, z1, vcs, κa, κb, κc, κd, κe, κf, κg, κh, κi, κj, κk, κl, κm, reduceCtorEq, reduceIte, κn, κo, κp, κq, κr, κs, tys] | exact rfl | refine call_off (v := .any) ?_ | ((first | (refine call_val (g := ?_) ?_ ?_) | (refine call_valg (g := ?_) ?_ ?_)); rotate_left 1; (focus (simp only [Tryz.results55, Tryz.ntmps55, κt, wks, hc, hdk, hlt, hw1, x1, x2, y1, y2, z1, vcs, κa, κb, κc, κd, κe, κf, κg, κh, κi, κj, κk, κl, κm, reduceCtorEq, reduceIte, κn, κo, κp, κq, κr, κs, tys] <;> exact rfl))) | refine draw_end (by decide +kernel) ?_ | refine cond_bool (fun hb => ?_) (fun hb => ?_) | refine cond_bit (fun hb => ?_) (fun hb => ?_) | refine And.intro (by omega) ?_ | refine And.intro (fun hb => ?_) (fun hb => ?_) | fail); (all_goals (first | (refine Fin.pure ?_ ?_ ?_ <;> (try simp only [Tryz.results55, Tryz.ntmps55, wks, hc, hdk, hlt, hw1, x1, x2, y1, y2, z1, vcs, κa, κb, κc, κd, κe, κf, κg, κh, κi, κj, κk, κl, κm, reduceCtorEq, reduceIte, κn, κo, κp, κq, κr, κs, tys]) <;> (try simp only [injs])) | skip)))
        · ((repeat' first | simp only [fins, mems, Tryz.results55, Tryz.ntmps55, κt, wks, hc, hdk, hlt, hw1, x1, x2, y1, y2, z1, z2, vcs, κa, κb, κc, κd, κe, κf, κg, κh, κi, κj, κk, κl, κm, reduceCtorEq, reduceIte, κn, κo, κp, κq, κr, κs, tys] | exact rfl | refine call_off (v := .any) ?_ | ((first | (refine call_val (g := ?_) ?_ ?_) | (refine call_valg (g := ?_) ?_ ?_)); rotate_left 1; (focus (simp only [Tryz.results55, Tryz.ntmps55, κt, wks, hc, hdk, hlt, hw1, x1, x2, y1, y2, z1, z2, vcs, κa, κb, κc, κd, κe, κf, κg, κh, κi, κj, κk, κl, κm, reduceCtorEq, reduceIte, κn, κo, κp, κq, κr, κs, tys] <;> exact rfl))) | refine draw_end (by decide +kernel) ?_ | refine cond_bool (fun hb => ?_) (fun hb => ?_) | refine cond_bit (fun hb => ?_) (fun hb => ?_) | refine And.intro (by omega) ?_ | refine And.intro (fun hb => ?_) (fun hb => ?_) | fail); (all_goals (first | (refine Fin.pure ?_ ?_ ?_ <;> (try simp only [Tryz.results55, Tryz.ntmps55, wks, hc, hdk, hlt, hw1, x1, x2, y1, y2, z1, z2, vcs, κa, κb, κc, κd, κe, κf, κg, κh, κi, κj, κk, κl, κm, reduceCtorEq, reduceIte, κn, κo, κp, κq, κr, κs, tys]) <;> (try simp only [injs])) | skip)))
      | some d =>
        rw [hdc] at hnx
        have hdl := hexD_lt hdc
        rcases hexD_cases hdc with ⟨h1, h2, h3⟩ | ⟨h1, h2, h3⟩ | ⟨h1, h2, h3⟩
        · have x1 : decide ((48 : Int) ≤ (c.toNat : Int)) = true := decide_eq_true (by omega)
          have x2 : decide ((c.toNat : Int) ≤ 57) = true := decide_eq_true (by omega)
          have hw4 : IntKind.i64.wrap (16 * (m : Int) + (c.toNat : Int) - 48) = ((16 * m + d : Nat) : Int) := by rw [wrap_in (by omega) (by omega)]; omega
          repeat' first | simp only [fins, mems, Tryz.results55, Tryz.ntmps55, κt, wks, hc, hdk, hlt, hw1, hw2, hw3, hw4, x1, x2, vcs, κa, κb, κc, κd, κe, κf, κg, κh, κi, κj, κk, κl, κm, reduceCtorEq, reduceIte, κn, κo, κp, κq, κr, κs, tys] | exact rfl | refine call_off (v := .any) ?_ | ((first | (refine call_val (g := ?_) ?_ ?_) | (refine call_valg (g := ?_) ?_ ?_)); rotate_left 1; (focus (simp only [Tryz.results55, Tryz.ntmps55, κt, wks, hc, hdk, hlt, hw1, hw2, hw3, hw4, x1, x2, vcs, κa, κb, κc, κd, κe, κf, κg, κh, κi, κj, κk, κl, κm, reduceCtorEq, reduceIte, κn, κo, κp, κq, κr, κs, tys] <;> exact rfl))) | refine draw_end (by decide +kernel) ?_ | refine cond_bool (fun hb => ?_) (fun hb => ?_) | refine cond_bit (fun hb => ?_) (fun hb => ?_) | refine And.intro (by omega) ?_ | refine And.intro (fun hb => ?_) (fun hb => ?_) | fail
          all_goals ((refine again_can2 cxG ((k + 1, 16 * m + d)) [] ?_ ?_ ?_ ?_; rotate_left 2; (focus (show b0 ≤ _; omega)); (focus (refine ⟨?_, ?_⟩ <;> (try simp only [cans, hwk, vcs, κa, κb, κc, κd, κe, κf, κg, κh, κi, κj, κk, κl, κm, reduceCtorEq, reduceIte, κn, κo, κp, κq, κr, κs, tys, injs]) <;> (try omega)))))
          all_goals (first | (show s.length - (k + 1) < s.length - k; omega) | exact ⟨hlt, hnx⟩ | skip)
        · have x1 : decide ((48 : Int) ≤ (c.toNat : Int)) = true := decide_eq_true (by omega)
          have x2 : decide ((c.toNat : Int) ≤ 57) = false := decide_eq_false (by omega)
          have y1 : decide ((97 : Int) ≤ (c.toNat : Int)) = true := decide_eq_true (by omega)
          have y2 : decide ((c.toNat : Int) ≤ 102) = true := decide_eq_true (by omega)
          have hw4 : IntKind.i64.wrap (16 * (m : Int) + (c.toNat : Int) - 87) = ((16 * m + d : Nat) : Int) := by rw [wrap_in (by omega) (by omega)]; omega
          repeat' first | simp only [fins, mems, Tryz.results55, Tryz.ntmps55, κt, wks, hc, hdk, hlt, hw1, hw2, hw3, hw4, x1, x2, y1, y2, vcs, κa, κb, κc, κd, κe, κf, κg, κh, κi, κj, κk, κl, κm, reduceCtorEq, reduceIte, κn, κo, κp, κq, κr, κs, tys] | exact rfl | refine call_off (v := .any) ?_ | ((first | (refine call_val (g := ?_) ?_ ?_) | (refine call_valg (g := ?_) ?_ ?_)); rotate_left 1; (focus (simp only [Tryz.results55, Tryz.ntmps55, κt, wks, hc, hdk, hlt, hw1, hw2, hw3, hw4, x1, x2, y1, y2, vcs, κa, κb, κc, κd, κe, κf, κg, κh, κi, κj, κk, κl, κm, reduceCtorEq, reduceIte, κn, κo, κp, κq, κr, κs, tys] <;> exact rfl))) | refine draw_end (by decide +kernel) ?_ | refine cond_bool (fun hb => ?_) (fun hb => ?_) | refine cond_bit (fun hb => ?_) (fun hb => ?_) | refine And.intro (by omega) ?_ | refine And.intro (fun hb => ?_) (fun hb => ?_) | fail
          all_goals ((refine again_can2 cxG ((k + 1, 16 * m + d)) [] ?_ ?_ ?_ ?_; rotate_left 2; (focus (show b0 ≤ _; omega)); (focus (refine ⟨?_, ?_⟩ <;> (try simp only [cans, hwk, vcs, κa, κb, κc, κd, κe, κf, κg, κh, κi, κj, κk, κl, κm, reduceCtorEq, reduceIte, κn, κo, κp, κq, κr, κs, tys, injs]) <;> (try omega)))))
          all_goals (first | (show s.length - (k + 1) < s.length - k; omega) | exact ⟨hlt, hnx⟩ | skip)
        · have x1 : decide ((48 : Int) ≤ (c.toNat : Int)) = true := decide_eq_true (by omega)
          have x2 : decide ((c.toNat : Int) ≤ 57) = false := decide_eq_false (by omega)
          have y1 : decide ((97 : Int) ≤ (c.toNat : Int)) = false := decide_eq_false (by omega)
          have z1 : decide ((65 : Int) ≤ (c.toNat : Int)) = true := decide_eq_true (by omega)
          have z2 : decide ((c.toNat : Int) ≤ 70) = true := decide_eq_true (by omega)
          have hw4 : IntKind.i64.wrap (16 * (m : Int) + (c.toNat : Int) - 55) = ((16 * m + d : Nat) : Int) := by rw [wrap_in (by omega) (by omega)]; omega
          repeat' first | simp only [fins, mems, Tryz.results55, Tryz.ntmps55, κt, wks, hc, hdk, hlt, hw1, hw2, hw3, hw4, x1, x2, y1, z1, z2, vcs, κa, κb, κc, κd, κe, κf, κg, κh, κi, κj, κk, κl, κm, reduceCtorEq, reduceIte, κn, κo, κp, κq, κr, κs, tys] | exact rfl | refine call_off (v := .any) ?_ | ((first | (refine call_val (g := ?_) ?_ ?_) | (refine call_valg (g := ?_) ?_ ?_)); rotate_left 1; (focus (simp only [Tryz.results55, Tryz.ntmps55, κt, wks, hc, hdk, hlt, hw1, hw2, hw3, hw4, x1, x2, y1, z1, z2, vcs, κa, κb, κc, κd, κe, κf, κg, κh, κi, κj, κk, κl, κm, reduceCtorEq, reduceIte, κn, κo, κp, κq, κr, κs, tys] <;> exact rfl))) | refine draw_end (by decide +kernel) ?_ | refine cond_bool (fun hb => ?_) (fun hb => ?_) | refine cond_bit (fun hb => ?_) (fun hb => ?_) | refine And.intro (by omega) ?_ | refine And.intro (fun hb => ?_) (fun hb => ?_) | fail
          all_goals ((refine again_can2 cxG ((k + 1, 16 * m + d)) [] ?_ ?_ ?_ ?_; rotate_left 2; (focus (show b0 ≤ _; omega)); (focus (refine ⟨?_, ?_⟩ <;> (try simp only [cans, hwk, vcs, κa, κb, κc, κd, κe, κf, κg, κh, κi, κj, κk, κl, κm, reduceCtorEq, reduceIte, κn, κo, κp, κq, κr, κs, tys, injs]) <;> (try omega)))))
          all_goals (first | (show s.length - (k + 1) < s.length - k; omega) | exact ⟨hlt, hnx⟩ | skip)
    · have hke : k = s.length := by omega
      subst hke
      rw [List.take_length] at hm
      rw [hm, numI_some]
      have hdk : decide (s.length < s.length) = false := decide_eq_false (by omega)
      ((repeat' first | simp only [fins, mems, Tryz.results55, Tryz.ntmps55, κt, wks, hdk, vcs, κa, κb, κc, κd, κe, κf, κg, κh, κi, κj, κk, κl, κm, reduceCtorEq, reduceIte, κn, κo, κp, κq, κr, κs, tys] | exact rfl | refine call_off (v := .any) ?_ | ((first | (refine call_val (g := ?_) ?_ ?_) | (refine call_valg (g := ?_) ?_ ?_)); rotate_left 1; (focus (simp only [Tryz.results55, Tryz.ntmps55, κt, wks, hdk, vcs, κa, κb, κc, κd, κe, κf, κg, κh, κi, κj, κk, κl, κm, reduceCtorEq, reduceIte, κn, κo, κp, κq, κr, κs, tys] <;> exact rfl))) | refine draw_end (by decide +kernel) ?_ | refine cond_bool (fun hb => ?_) (fun hb => ?_) | refine cond_bit (fun hb => ?_) (fun hb => ?_) | refine And.intro (by omega) ?_ | refine And.intro (fun hb => ?_) (fun hb => ?_) | fail); (all_goals (first | (refine Fin.pure ?_ ?_ ?_ <;> (try simp only [Tryz.results55, Tryz.ntmps55, wks, hdk, vcs, κa, κb, κc, κd, κe, κf, κg, κh, κi, κj, κk, κl, κm, reduceCtorEq, reduceIte, κn, κo, κp, κq, κr, κs, tys]) <;> (try simp only [injs])) | skip)))
def tellV (o : Option (List UInt8)) : V := match o with | some x => .tup [.str x, .bool true] | none => .tup [.str [], .bool false]
theorem tellV_none : tellV none = .tup [.str [], .bool false] := rfl
theorem tellV_some (x : List UInt8) : tellV (some x) = .tup [.str x, .bool true] := rfl
def numO (s : List UInt8) : Option Nat := if s.head? = some 120 then hexL s.tail else decL s
theorem decL_le {s : List UInt8} {n : Nat} (h : decL s = some n) : n ≤ 9007199254740991 := by
  unfold decL at h
  split at h
  · cases h
  · obtain ⟨m, _, h2⟩ := Option.bind_eq_some_iff.1 h
    split at h2
    · cases h2; assumption
    · cases h2
theorem hexL_le {s : List UInt8} {n : Nat} (h : hexL s = some n) : n ≤ 9007199254740991 := by
  unfold hexL at h
  split at h
  · cases h
  · rename_i hh
    have h1 := hexV_lt s 0 n h
    have hp6 : (16 : Nat) ^ s.length ≤ 16 ^ 6 := Nat.pow_le_pow_right (by omega) (by simp only [not_or] at hh; omega)
    simp only [Nat.zero_add, Nat.one_mul] at h1
    have := Nat.lt_of_lt_of_le h1 hp6
    omega
set_option maxRecDepth 100000 in
set_option maxHeartbeats 8000000 in
theorem rNumber_ev (s : List UInt8) (hs : s.length ≤ lim) (nm : Nat) : Ev cx 41 nm [.str s] Mem.nil (tellV (pointW (numO s))) [] := by
  have rest : ∀ (o : Option Nat), (∀ n, o = some n → n ≤ 9007199254740991) → numO s = o → (o = none ∨ ∃ n : Nat, o = some n ∧ n ≤ 9007199254740991 ∧ (may (n : Int) = true ∨ may (n : Int) = false)) := fun o h _ => by
    cases o with
    | none => exact .inl rfl
    | some n => exact .inr ⟨n, rfl, h n rfl, by cases may (n : Int) <;> simp⟩
  by_cases h120 : s.head? = some 120
  · obtain ⟨t, rfl⟩ : ∃ t, s = 120 :: t := by
      cases s with
      | nil => cases h120
      | cons c t => cases h120; exact ⟨t, rfl⟩
    have hno : numO (120 :: t) = hexL t := by unfold numO; rw [if_pos h120]; rfl
    have hhx := rHex_ev t (by simp at hs; unfold lim at *; omega)
    have e0 : (!((120 :: t) == ([] : List UInt8))) = true := rfl
    have e0' : ((120 :: t) != ([] : List UInt8)) = true := rfl
    have hl0 : 0 < (120 :: t).length := by simp
    have hl1 : (1 : Int) ≤ ((120 :: t).length : Int) := by simp only [List.length_cons]; omega
    have hl2 : 1 ≤ (120 :: t).length := by simp
    simp only [List.length_cons] at hl0 hl1 hl2
    have e1 : (((120 : UInt8).toNat : Int) == 120) = true := rfl
    rw [hno]
    rcases rest _ (fun n hn => hexL_le hn) hno with hL | ⟨n, hL, hn, hm | hm⟩
    · rw [hL, numI_none] at hhx
      rw [hL, point_none, tellV_none]
      have d1 : decide ((-1 : Int) < 0) = true := rfl
      refine ev_go (fun cargs w => Tryz.call41 cargs w) Tryz.func41 rfl mixed (by kernel_rfl) rfl ?_; intro b0 hb0
      ((repeat' first | simp only [fins, mems, Tryz.results41, Tryz.ntmps41, κt, wks, e0, e0', e1, hl0, hl1, hl2, d1, List.getElem?_cons_zero, List.drop_succ_cons, List.drop_zero, vcs, κa, κb, κc, κd, κe, κf, κg, κh, κi, κj, κk, κl, κm, reduceCtorEq, reduceIte, κn, κo, κp, κq, κr, κs, tys] | exact rfl | refine call_off (v := .any) ?_ | (first | (refine call_fn ?_ (hhx _) ?_) | (refine call_fn_g ?_ (fun _ => hhx _) ?_)) | (refine call_off (v := .any) ?_) | ((first | (refine call_val (g := ?_) ?_ ?_) | (refine call_valg (g := ?_) ?_ ?_)); rotate_left 1; (focus (simp only [Tryz.results41, Tryz.ntmps41, κt, wks, e0, e0', e1, hl0, hl1, hl2, d1, List.getElem?_cons_zero, List.drop_succ_cons, List.drop_zero, vcs, κa, κb, κc, κd, κe, κf, κg, κh, κi, κj, κk, κl, κm, reduceCtorEq, reduceIte, κn, κo, κp, κq, κr, κs, tys] <;> exact rfl))) | refine draw_end (by decide +kernel) ?_ | refine cond_bool (fun hb => ?_) (fun hb => ?_) | refine cond_bit (fun hb => ?_) (fun hb => ?_) | refine And.intro (by omega) ?_ | refine And.intro (fun hb => ?_) (fun hb => ?_) | fail); (all_goals (first | (refine Fin.pure ?_ ?_ ?_ <;> (try simp only [Tryz.results41, Tryz.ntmps41, wks, e0, e0', e1, hl0, hl1, hl2, d1, List.getElem?_cons_zero, List.drop_succ_cons, List.drop_zero, vcs, κa, κb, κc, κd, κe, κf, κg, κh, κi, κj, κk, κl, κm, reduceCtorEq, reduceIte, κn, κo, κp, κq, κr, κs, tys]) <;> (try simp only [injs])) | skip)))
    · rw [hL, numI_some] at hhx
      rw [hL, point_yes hm, tellV_some]
      have d1 : decide ((n : Int) < 0) = false := decide_eq_false (by omega)
      have hmy := rMay_ev (n : Int)
      rw [hm] at hmy
      refine ev_go (fun cargs w => Tryz.call41 cargs w) Tryz.func41 rfl mixed (by kernel_rfl) rfl ?_; intro b0 hb0
      ((repeat' first | simp only [fins, mems, Tryz.results41, Tryz.ntmps41, κt, wks, e0, e0', e1, hl0, hl1, hl2, d1, List.getElem?_cons_zero, List.drop_succ_cons, List.drop_zero, Bool.not_true, vcs, κa, κb, κc, κd, κe, κf, κg, κh, κi, κj, κk, κl, κm, reduceCtorEq, reduceIte, κn, κo, κp, κq, κr, κs, tys] | exact rfl | refine call_off (v := .any) ?_ | (first | (refine call_fn ?_ (hhx _) ?_) | (refine call_fn_g ?_ (fun _ => hhx _) ?_) | (refine call_fn ?_ (hmy _) ?_) | (refine call_fn_g ?_ (fun _ => hmy _) ?_) | (refine call_fn ?_ (rBytes_ev (n : Int) hm _) ?_) | (refine call_fn_g ?_ (fun _ => rBytes_ev (n : Int) hm _) ?_)) | (refine ext_toStr (v := ?_) (bs := ?_) ?_ ?_ ?_ ?_ ?_ ?_ ?_; rotate_left 2; (iterate 2 (focus (simp only [Tryz.results41, Tryz.ntmps41, κt, wks, e0, e0', e1, hl0, hl1, hl2, d1, List.getElem?_cons_zero, List.drop_succ_cons, List.drop_zero, Bool.not_true, vcs, κa, κb, κc, κd, κe, κf, κg, κh, κi, κj, κk, κl, κm, reduceCtorEq, reduceIte, κn, κo, κp, κq, κr, κs, tys]; done))); (focus (simp only [Tryz.results41, Tryz.ntmps41, κt, wks, e0, e0', e1, hl0, hl1, hl2, d1, List.getElem?_cons_zero, List.drop_succ_cons, List.drop_zero, Bool.not_true, vcs, κa, κb, κc, κd, κe, κf, κg, κh, κi, κj, κk, κl, κm, reduceCtorEq, reduceIte, κn, κo, κp, κq, κr, κs, tys] <;> exact rfl)); (focus (exact rfl)); (focus (simp only [mems, Tryz.results41, Tryz.ntmps41, κt, wks, e0, e0', e1, hl0, hl1, hl2, d1, List.getElem?_cons_zero, List.drop_succ_cons, List.drop_zero, Bool.not_true, vcs, κa, κb, κc, κd, κe, κf, κg, κh, κi, κj, κk, κl, κm, reduceCtorEq, reduceIte, κn, κo, κp, κq, κr, κs, tys]; done)); (focus (simp only [Tryz.results41, Tryz.ntmps41, κt, wks, e0, e0', e1, hl0, hl1, hl2, d1, List.getElem?_cons_zero, List.drop_succ_cons, List.drop_zero, Bool.not_true, vcs, κa, κb, κc, κd, κe, κf, κg, κh, κi, κj, κk, κl, κm, reduceCtorEq, reduceIte, κn, κo, κp, κq, κr, κs, tys] <;> exact rfl))) | (refine extG_true ?_) | (refine extG_false ?_) | ((first | (refine call_val (g := ?_) ?_ ?_) | (refine call_valg (g := ?_) ?_ ?_)); rotate_left 1; (focus (simp only [Tryz.results41, Tryz.ntmps41, κt, wks, e0, e0', e1, hl0, hl1, hl2, d1, List.getElem?_cons_zero, List.drop_succ_cons, List.drop_zero, Bool.not_true, vcs, κa, κb, κc, κd, κe, κf, κg, κh, κi, κj, κk, κl, κm, reduceCtorEq, reduceIte, κn, κo, κp, κq, κr, κs, tys] <;> exact rfl))) | refine draw_end (by decide +kernel) ?_ | refine cond_bool (fun hb => ?_) (fun hb => ?_) | refine cond_bit (fun hb => ?_) (fun hb => ?_) | refine And.intro (by omega) ?_ | refine And.intro (fun hb => ?_) (fun hb => ?_) | fail); (all_goals (first | (refine Fin.pure ?_ ?_ ?_ <;> (try simp only [Tryz.results41, Tryz.ntmps41, wks, e0, e0', e1, hl0, hl1, hl2, d1, List.getElem?_cons_zero, List.drop_succ_cons, List.drop_zero, Bool.not_true, vcs, κa, κb, κc, κd, κe, κf, κg, κh, κi, κj, κk, κl, κm, reduceCtorEq, reduceIte, κn, κo, κp, κq, κr, κs, tys]) <;> (try simp only [injs])) | skip)))
    · rw [hL, numI_some] at hhx
      rw [hL, point_no hm, tellV_none]
      have d1 : decide ((n : Int) < 0) = false := decide_eq_false (by omega)
      have hmy := rMay_ev (n : Int)
      rw [hm] at hmy
      refine ev_go (fun cargs w => Tryz.call41 cargs w) Tryz.func41 rfl mixed (by kernel_rfl) rfl ?_; intro b0 hb0
      ((repeat' first | simp only [fins, mems, Tryz.results41, Tryz.ntmps41, κt, wks, e0, e0', e1, hl0, hl1, hl2, d1, List.getElem?_cons_zero, List.drop_succ_cons, List.drop_zero, Bool.not_false, vcs, κa, κb, κc, κd, κe, κf, κg, κh, κi, κj, κk, κl, κm, reduceCtorEq, reduceIte, κn, κo, κp, κq, κr, κs, tys] | exact rfl | refine call_off (v := .any) ?_ | (first | (refine call_fn ?_ (hhx _) ?_) | (refine call_fn_g ?_ (fun _ => hhx _) ?_) | (refine call_fn ?_ (hmy _) ?_) | (refine call_fn_g ?_ (fun _ => hmy _) ?_)) | ((first | (refine call_val (g := ?_) ?_ ?_) | (refine call_valg (g := ?_) ?_ ?_)); rotate_left 1; (focus (simp only [Tryz.results41, Tryz.ntmps41, κt, wks, e0, e0', e1, hl0, hl1, hl2, d1, List.getElem?_cons_zero, List.drop_succ_cons, List.drop_zero, Bool.not_false, vcs, κa, κb, κc, κd, κe, κf, κg, κh, κi, κj, κk, κl, κm, reduceCtorEq, reduceIte, κn, κo, κp, κq, κr, κs, tys] <;> exact rfl))) | refine draw_end (by decide +kernel) ?_ | refine cond_bool (fun hb => ?_) (fun hb => ?_) | refine cond_bit (fun hb => ?_) (fun hb => ?_) | refine And.intro (by omega) ?_ | refine And.intro (fun hb => ?_) (fun hb => ?_) | fail); (all_goals (first | (refine Fin.pure ?_ ?_ ?_ <;> (try simp only [Tryz.results41, Tryz.ntmps41, wks, e0, e0', e1, hl0, hl1, hl2, d1, List.getElem?_cons_zero, List.drop_succ_cons, List.drop_zero, Bool.not_false, vcs, κa, κb, κc, κd, κe, κf, κg, κh, κi, κj, κk, κl, κm, reduceCtorEq, reduceIte, κn, κo, κp, κq, κr, κs, tys]) <;> (try simp only [injs])) | skip)))
  · have hno : numO s = decL s := by unfold numO; rw [if_neg h120]
    have hrd := rNumRead_ev s hs
    have hc : (s = []) ∨ ∃ c, s ≠ [] ∧ s[0]? = some c ∧ ((c.toNat : Int) == 120) = false := by
      cases s with
      | nil => exact .inl rfl
      | cons c t =>
        refine .inr ⟨c, by simp, rfl, ?_⟩
        refine ne_byte (d := 120) (fun e => h120 (by rw [e]; rfl))
    rw [hno]
    rcases hc with rfl | ⟨c, h0, hc0, e1⟩
    · have hL : decL [] = none := rfl
      rw [readE_none hL] at hrd
      rw [hL, point_none, tellV_none]
      have d1 : decide ((-1 : Int) < 0) = true := rfl
      have e0 : (!(([] : List UInt8) == ([] : List UInt8))) = false := rfl
      refine ev_go (fun cargs w => Tryz.call41 cargs w) Tryz.func41 rfl mixed (by kernel_rfl) rfl ?_; intro b0 hb0
      ((repeat' first | simp only [fins, mems, Tryz.results41, Tryz.ntmps41, κt, wks, e0, d1, vcs, κa, κb, κc, κd, κe, κf, κg, κh, κi, κj, κk, κl, κm, reduceCtorEq, reduceIte, κn, κo, κp, κq, κr, κs, tys] | exact rfl | refine call_off (v := .any) ?_ | (first | (refine call_fn ?_ (hrd _) ?_) | (refine call_fn_g ?_ (fun _ => hrd _) ?_)) | (refine call_off (v := .any) ?_) | ((first | (refine call_val (g := ?_) ?_ ?_) | (refine call_valg (g := ?_) ?_ ?_)); rotate_left 1; (focus (simp only [Tryz.results41, Tryz.ntmps41, κt, wks, e0, d1, vcs, κa, κb, κc, κd, κe, κf, κg, κh, κi, κj, κk, κl, κm, reduceCtorEq, reduceIte, κn, κo, κp, κq, κr, κs, tys] <;> exact rfl))) | refine draw_end (by decide +kernel) ?_ | refine cond_bool (fun hb => ?_) (fun hb => ?_) | refine cond_bit (fun hb => ?_) (fun hb => ?_) | refine And.intro (by omega) ?_ | refine And.intro (fun hb => ?_) (fun hb => ?_) | fail); (all_goals (first | (refine Fin.pure ?_ ?_ ?_ <;> (try simp only [Tryz.results41, Tryz.ntmps41, wks, e0, d1, vcs, κa, κb, κc, κd, κe, κf, κg, κh, κi, κj, κk, κl, κm, reduceCtorEq, reduceIte, κn, κo, κp, κq, κr, κs, tys]) <;> (try simp only [injs])) | skip)))
    · have e0 : (!(s == ([] : List UInt8))) = true := by rw [beq_false_of_ne h0]; rfl
      have hl0 : 0 < s.length := List.length_pos_iff.2 h0
      rcases rest _ (fun n hn => decL_le hn) hno with hL | ⟨n, hL, hn, hm | hm⟩
      · rw [readE_none hL] at hrd
        rw [hL, point_none, tellV_none]
        have d1 : decide ((-1 : Int) < 0) = true := rfl
        refine ev_go (fun cargs w => Tryz.call41 cargs w) Tryz.func41 rfl mixed (by kernel_rfl) rfl ?_; intro b0 hb0
        ((repeat' first | simp only [fins, mems, Tryz.results41, Tryz.ntmps41, κt, wks, e0, e1, hc0, hl0, d1, vcs, κa, κb, κc, κd, κe, κf, κg, κh, κi, κj, κk, κl, κm, reduceCtorEq, reduceIte, κn, κo, κp, κq, κr, κs, tys] | exact rfl | refine call_off (v := .any) ?_ | (first | (refine call_fn ?_ (hrd _) ?_) | (refine call_fn_g ?_ (fun _ => hrd _) ?_)) | (refine call_off (v := .any) ?_) | ((first | (refine call_val (g := ?_) ?_ ?_) | (refine call_valg (g := ?_) ?_ ?_)); rotate_left 1; (focus (simp only [Tryz.results41, Tryz.ntmps41, κt, wks, e0, e1, hc0, hl0, d1, vcs, κa, κb, κc, κd, κe, κf, κg, κh, κi, κj, κk, κl, κm, reduceCtorEq, reduceIte, κn, κo, κp, κq, κr, κs, tys] <;> exact rfl))) | refine draw_end (by decide +kernel) ?_ | refine cond_bool (fun hb => ?_) (fun hb => ?_) | refine cond_bit (fun hb => ?_) (fun hb => ?_) | refine And.intro (by omega) ?_ | refine And.intro (fun hb => ?_) (fun hb => ?_) | fail); (all_goals (first | (refine Fin.pure ?_ ?_ ?_ <;> (try simp only [Tryz.results41, Tryz.ntmps41, wks, e0, e1, hc0, hl0, d1, vcs, κa, κb, κc, κd, κe, κf, κg, κh, κi, κj, κk, κl, κm, reduceCtorEq, reduceIte, κn, κo, κp, κq, κr, κs, tys]) <;> (try simp only [injs])) | skip)))
      · rw [readE_some hL] at hrd
        rw [hL, point_yes hm, tellV_some]
        have d1 : decide ((n : Int) < 0) = false := decide_eq_false (by omega)
        have hmy := rMay_ev (n : Int)
        rw [hm] at hmy
        refine ev_go (fun cargs w => Tryz.call41 cargs w) Tryz.func41 rfl mixed (by kernel_rfl) rfl ?_; intro b0 hb0
        ((repeat' first | simp only [fins, mems, Tryz.results41, Tryz.ntmps41, κt, wks, e0, e1, hc0, hl0, d1, Bool.not_true, vcs, κa, κb, κc, κd, κe, κf, κg, κh, κi, κj, κk, κl, κm, reduceCtorEq, reduceIte, κn, κo, κp, κq, κr, κs, tys] | exact rfl | refine call_off (v := .any) ?_ | (first | (refine call_fn ?_ (hrd _) ?_) | (refine call_fn_g ?_ (fun _ => hrd _) ?_) | (refine call_fn ?_ (hmy _) ?_) | (refine call_fn_g ?_ (fun _ => hmy _) ?_) | (refine call_fn ?_ (rBytes_ev (n : Int) hm _) ?_) | (refine call_fn_g ?_ (fun _ => rBytes_ev (n : Int) hm _) ?_)) | (refine ext_toStr (v := ?_) (bs := ?_) ?_ ?_ ?_ ?_ ?_ ?_ ?_; rotate_left 2; (iterate 2 (focus (simp only [Tryz.results41, Tryz.ntmps41, κt, wks, e0, e1, hc0, hl0, d1, Bool.not_true, vcs, κa, κb, κc, κd, κe, κf, κg, κh, κi, κj, κk, κl, κm, reduceCtorEq, reduceIte, κn, κo, κp, κq, κr, κs, tys]; done))); (focus (simp only [Tryz.results41, Tryz.ntmps41, κt, wks, e0, e1, hc0, hl0, d1, Bool.not_true, vcs, κa, κb, κc, κd, κe, κf, κg, κh, κi, κj, κk, κl, κm, reduceCtorEq, reduceIte, κn, κo, κp, κq, κr, κs, tys] <;> exact rfl)); (focus (exact rfl)); (focus (simp only [mems, Tryz.results41, Tryz.ntmps41, κt, wks, e0, e1, hc0, hl0, d1, Bool.not_true, vcs, κa, κb, κc, κd, κe, κf, κg, κh, κi, κj, κk, κl, κm, reduceCtorEq, reduceIte, κn, κo, κp, κq, κr, κs, tys]; done)); (focus (simp only [Tryz.results41, Tryz.ntmps41, κt, wks, e0, e1, hc0, hl0, d1, Bool.not_true, vcs, κa, κb, κc, κd, κe, κf, κg, κh, κi, κj, κk, κl, κm, reduceCtorEq, reduceIte, κn, κo, κp, κq, κr, κs, tys] <;> exact rfl))) | (refine extG_true ?_) | (refine extG_false ?_) | ((first | (refine call_val (g := ?_) ?_ ?_) | (refine call_valg (g := ?_) ?_ ?_)); rotate_left 1; (focus (simp only [Tryz.results41, Tryz.ntmps41, κt, wks, e0, e1, hc0, hl0, d1, Bool.not_true, vcs, κa, κb, κc, κd, κe, κf, κg, κh, κi, κj, κk, κl, κm, reduceCtorEq, reduceIte, κn, κo, κp, κq, κr, κs, tys] <;> exact rfl))) | refine draw_end (by decide +kernel) ?_ | refine cond_bool (fun hb => ?_) (fun hb => ?_) | refine cond_bit (fun hb => ?_) (fun hb => ?_) | refine And.intro (by omega) ?_ | refine And.intro (fun hb => ?_) (fun hb => ?_) | fail); (all_goals (first | (refine Fin.pure ?_ ?_ ?_ <;> (try simp only [Tryz.results41, Tryz.ntmps41, wks, e0, e1, hc0, hl0, d1, Bool.not_true, vcs, κa, κb, κc, κd, κe, κf, κg, κh, κi, κj, κk, κl, κm, reduceCtorEq, reduceIte, κn, κo, κp, κq, κr, κs, tys]) <;> (try simp only [injs])) | skip)))
      · rw [readE_some hL] at hrd
        rw [hL, point_no hm, tellV_none]
        have d1 : decide ((n : Int) < 0) = false := decide_eq_false (by omega)
        have hmy := rMay_ev (n : Int)
        rw [hm] at hmy
        refine ev_go (fun cargs w => Tryz.call41 cargs w) Tryz.func41 rfl mixed (by kernel_rfl) rfl ?_; intro b0 hb0
        ((repeat' first | simp only [fins, mems, Tryz.results41, Tryz.ntmps41, κt, wks, e0, e1, hc0, hl0, d1, Bool.not_false, vcs, κa, κb, κc, κd, κe, κf, κg, κh, κi, κj, κk, κl, κm, reduceCtorEq, reduceIte, κn, κo, κp, κq, κr, κs, tys] | exact rfl | refine call_off (v := .any) ?_ | (first | (refine call_fn ?_ (hrd _) ?_) | (refine call_fn_g ?_ (fun _ => hrd _) ?_) | (refine call_fn ?_ (hmy _) ?_) | (refine call_fn_g ?_ (fun _ => hmy _) ?_)) | ((first | (refine call_val (g := ?_) ?_ ?_) | (refine call_valg (g := ?_) ?_ ?_)); rotate_left 1; (focus (simp only [Tryz.results41, Tryz.ntmps41, κt, wks, e0, e1, hc0, hl0, d1, Bool.not_false, vcs, κa, κb, κc, κd, κe, κf, κg, κh, κi, κj, κk, κl, κm, reduceCtorEq, reduceIte, κn, κo, κp, κq, κr, κs, tys] <;> exact rfl))) | refine draw_end (by decide +kernel) ?_ | refine cond_bool (fun hb => ?_) (fun hb => ?_) | refine cond_bit (fun hb => ?_) (fun hb => ?_) | refine And.intro (by omega) ?_ | refine And.intro (fun hb => ?_) (fun hb => ?_) | fail); (all_goals (first | (refine Fin.pure ?_ ?_ ?_ <;> (try simp only [Tryz.results41, Tryz.ntmps41, wks, e0, e1, hc0, hl0, d1, Bool.not_false, vcs, κa, κb, κc, κd, κe, κf, κg, κh, κi, κj, κk, κl, κm, reduceCtorEq, reduceIte, κn, κo, κp, κq, κr, κs, tys]) <;> (try simp only [injs])) | skip)))
end Go.Proofs.YtanahnknjboplaaGreatDoor
/-
  The document's answer for layer 8 by the machine: how texts are written and read; EscTells.
-/
namespace Go.Proofs.YtanahnknjboplaaGreatDoor
set_option linter.unusedSimpArgs false
set_option linter.unusedVariables false
open Nat renaming reduceAdd → κa, reduceMul → κb, reduceEqDiff → κc, reduceLeDiff → κd, reduceSub → κe, reduceLT → κf, reduceBEq → κr, reduceBNe → κs, reducePow → κt
open Int renaming reduceToNat → κg, reduceLE → κh, reduceLT → κi, reduceAdd → κj, reduceSub → κk, reduceMul → κl, reduceNeg → κm, reduceBEq → κn, reduceBNe → κo, reduceEq → κp, reduceNe → κq
open Go Go.RowKit Go.Proofs.YtanahnknjboplaaGreatDoor.Vm Go.Lib

theorem meant_plain {s : List UInt8} (h1 : s ≠ [97, 109, 112]) (h2 : s ≠ [108, 116]) (h3 : s ≠ [103, 116]) (h4 : s ≠ [113, 117, 111, 116]) (h5 : s ≠ [97, 112, 111, 115]) : meantL s = if s.head? = some 35 then pointW (numO s.tail) else none := by
  unfold meantL numO
  rw [if_neg h1, if_neg h2, if_neg h3, if_neg h4, if_neg h5]
  split
  · split <;> rfl
  · rfl
set_option maxRecDepth 100000 in
set_option maxHeartbeats 8000000 in
theorem rMeant_ev (s : List UInt8) (hs : s.length ≤ lim) (nm : Nat) : Ev cx 29 nm [.str s] Mem.nil (tellV (meantL s)) [] := by
  by_cases h1 : s = [97, 109, 112]
  · subst h1
    have e1 : (([97, 109, 112] : List UInt8) == [97, 109, 112]) = true := rfl
    rw [meant_amp, tellV_some]
    refine ev_go (fun cargs w => Tryz.call29 cargs w) Tryz.func29 rfl mixed (by kernel_rfl) rfl ?_; intro b0 hb0
    ((repeat' first | simp only [fins, mems, Tryz.results29, Tryz.ntmps29, κt, wks, e1, vcs, κa, κb, κc, κd, κe, κf, κg, κh, κi, κj, κk, κl, κm, reduceCtorEq, reduceIte, κn, κo, κp, κq, κr, κs, tys] | exact rfl | refine call_off (v := .any) ?_ | ((first | (refine call_val (g := ?_) ?_ ?_) | (refine call_valg (g := ?_) ?_ ?_)); rotate_left 1; (focus (simp only [Tryz.results29, Tryz.ntmps29, κt, wks, e1, vcs, κa, κb, κc, κd, κe, κf, κg, κh, κi, κj, κk, κl, κm, reduceCtorEq, reduceIte, κn, κo, κp, κq, κr, κs, tys] <;> exact rfl))) | refine draw_end (by decide +kernel) ?_ | refine cond_bool (fun hb => ?_) (fun hb => ?_) | refine cond_bit (fun hb => ?_) (fun hb => ?_) | refine And.intro (by omega) ?_ | refine And.intro (fun hb => ?_) (fun hb => ?_) | fail); (all_goals (first | (refine Fin.pure ?_ ?_ ?_ <;> (try simp only [Tryz.results29, Tryz.ntmps29, wks, e1, vcs, κa, κb, κc, κd, κe, κf, κg, κh, κi, κj, κk, κl, κm, reduceCtorEq, reduceIte, κn, κo, κp, κq, κr, κs, tys]) <;> (try simp only [injs])) | skip)))
  have e1 : (s == [97, 109, 112]) = false := beq_false_of_ne h1
  by_cases h2 : s = [108, 116]
  · subst h2
    have e2 : (([108, 116] : List UInt8) == [108, 116]) = true := rfl
    rw [meant_lt, tellV_some]
    refine ev_go (fun cargs w => Tryz.call29 cargs w) Tryz.func29 rfl mixed (by kernel_rfl) rfl ?_; intro b0 hb0
    ((repeat' first | simp only [fins, mems, Tryz.results29, Tryz.ntmps29, κt, wks, e1, e2, vcs, κa, κb, κc, κd, κe, κf, κg, κh, κi, κj, κk, κl, κm, reduceCtorEq, reduceIte, κn, κo, κp, κq, κr, κs, tys] | exact rfl | refine call_off (v := .any) ?_ | ((first | (refine call_val (g := ?_) ?_ ?_) | (refine call_valg (g := ?_) ?_ ?_)); rotate_left 1; (focus (simp only [Tryz.results29, Tryz.ntmps29, κt, wks, e1, e2, vcs, κa, κb, κc, κd, κe, κf, κg, κh, κi, κj, κk, κl, κm, reduceCtorEq, reduceIte, κn, κo, κp, κq, κr, κs, tys] <;> exact rfl))) | refine draw_end (by decide +kernel) ?_ | refine cond_bool (fun hb => ?_) (fun hb => ?_) | refine cond_bit (fun hb => ?_) (fun hb => ?_) | refine And.intro (by omega) ?_ | refine And.intro (fun hb => ?_) (fun hb => ?_) | fail); (all_goals (first | (refine Fin.pure ?_ ?_ ?_ <;> (try simp only [Tryz.results29, Tryz.ntmps29, wks, e1, e2, vcs, κa, κb, κc, κd, κe, κf, κg, κh, κi, κj, κk, κl, κm, reduceCtorEq, reduceIte, κn, κo, κp, κq, κr, κs, tys]) <;> (try simp only [injs])) | skip)))
  have e2 : (s == [108, 116]) = false := beq_false_of_ne h2
  by_cases h3 : s = [103, 116]
  · subst h3
    have e3 : (([103, 116] : List UInt8) == [103, 116]) = true := rfl
    rw [meant_gt, tellV_some]
    refine ev_go (fun cargs w => Tryz.call29 cargs w) Tryz.func29 rfl mixed (by kernel_rfl) rfl ?_; intro b0 hb0
    ((repeat' first | simp only [fins, mems, Tryz.results29, Tryz.ntmps29, κt, wks, e1, e2, e3, vcs, κa, κb, κc, κd, κe, κf, κg, κh, κi, κj, κk, κl, κm, reduceCtorEq, reduceIte, κn, κo, κp, κq, κr, κs, tys] | exact rfl | refine call_off (v := .any) ?_ | ((first | (refine call_val (g := ?_) ?_ ?_) | (refine call_valg (g := ?_) ?_ ?_)); rotate_left 1; (focus (simp only [Tryz.results29, Tryz.ntmps29, κt, wks, e1, e2, e3, vcs, κa, κb, κc, κd, κe, κf, κg, κh, κi, κj, κk, κl, κm, reduceCtorEq, reduceIte, κn, κo, κp, κq, κr, κs, tys] <;> exact rfl))) | refine draw_end (by decide +kernel) ?_ | refine cond_bool (fun hb => ?_) (fun hb => ?_) | refine cond_bit (fun hb => ?_) (fun hb => ?_) | refine And.intro (by omega) ?_ | refine And.intro (fun hb => ?_) (fun hb => ?_) | fail); (all_goals (first | (refine Fin.pure ?_ ?_ ?_ <;> (try simp only [Tryz.results29, Tryz.ntmps29, wks, e1, e2, e3, vcs, κa, κb, κc, κd, κe, κf, κg, κh, κi, κj, κk, κl, κm, reduceCtorEq, reduceIte, κn, κo, κp, κq, κr, κs, tys]) <;> (try simp only [injs])) | skip)))
  have e3 : (s == [103, 116]) = false := beq_false_of_ne h3
  by_cases h4 : s = [113, 117, 111, 116]
  · subst h4
    have e4 : (([113, 117, 111, 116] : List UInt8) == [113, 117, 111, 116]) = true := rfl
    rw [meant_quot, tellV_some]
    refine ev_go (fun cargs w => Tryz.call29 cargs w) Tryz.func29 rfl mixed (by kernel_rfl) rfl ?_; intro b0 hb0
    ((repeat' first | simp only [fins, mems, Tryz.results29, Tryz.ntmps29, κt, wks, e1, e2, e3, e4, vcs, κa, κb, κc, κd, κe, κf, κg, κh, κi, κj, κk, κl, κm, reduceCtorEq, reduceIte, κn, κo, κp, κq, κr, κs, tys] | exact rfl | refine call_off (v := .any) ?_ | ((first | (refine call_val (g := ?_) ?_ ?_) | (refine call_valg (g := ?_) ?_ ?_)); rotate_left 1; (focus (simp only [Tryz.results29, Tryz.ntmps29, κt, wks, e1, e2, e3, e4, vcs, κa, κb, κc, κd, κe, κf, κg, κh, κi, κj, κk, κl, κm, reduceCtorEq, reduceIte, κn, κo, κp, κq, κr, κs, tys] <;> exact rfl))) | refine draw_end (by decide +kernel) ?_ | refine cond_bool (fun hb => ?_) (fun hb => ?_) | refine cond_bit (fun hb => ?_) (fun hb => ?_) | refine And.intro (by omega) ?_ | refine And.intro (fun hb => ?_) (fun hb => ?_) | fail); (all_goals (first | (refine Fin.pure ?_ ?_ ?_ <;> (try simp only [Tryz.results29, Tryz.ntmps29, wks, e1, e2, e3, e4, vcs, κa, κb, κc, κd, κe, κf, κg, κh, κi, κj, κk, κl, κm, reduceCtorEq, reduceIte, κn, κo, κp, κq, κr, κs, tys]) <;> (try simp only [injs])) | skip)))
  have e4 : (s == [113, 117, 111, 116]) = false := beq_false_of_ne h4
  by_cases h5 : s = [97, 112, 111, 115]
  · subst h5
    have e5 : (([97, 112, 111, 115] : List UInt8) == [97, 112, 111, 115]) = true := rfl
    rw [show meantL [97, 112, 111, 115] = some [39] by decide, tellV_some]
    refine ev_go (fun cargs w => Tryz.call29 cargs w) Tryz.func29 rfl mixed (by kernel_rfl) rfl ?_; intro b0 hb0
    ((repeat' first | simp only [fins, mems, Tryz.results29, Tryz.ntmps29, κt, wks, e1, e2, e3, e4, e5, vcs, κa, κb, κc, κd, κe, κf, κg, κh, κi, κj, κk, κl, κm, reduceCtorEq, reduceIte, κn, κo, κp, κq, κr, κs, tys] | exact rfl | refine call_off (v := .any) ?_ | ((first | (refine call_val (g := ?_) ?_ ?_) | (refine call_valg (g := ?_) ?_ ?_)); rotate_left 1; (focus (simp only [Tryz.results29, Tryz.ntmps29, κt, wks, e1, e2, e3, e4, e5, vcs, κa, κb, κc, κd, κe, κf, κg, κh, κi, κj, κk, κl, κm, reduceCtorEq, reduceIte, κn, κo, κp, κq, κr, κs, tys] <;> exact rfl))) | refine draw_end (by decide +kernel) ?_ | refine cond_bool (fun hb => ?_) (fun hb => ?_) | refine cond_bit (fun hb => ?_) (fun hb => ?_) | refine And.intro (by omega) ?_ | refine And.intro (fun hb => ?_) (fun hb => ?_) | fail); (all_goals (first | (refine Fin.pure ?_ ?_ ?_ <;> (try simp only [Tryz.results29, Tryz.ntmps29, wks, e1, e2, e3, e4, e5, vcs, κa, κb, κc, κd, κe, κf, κg, κh, κi, κj, κk, κl, κm, reduceCtorEq, reduceIte, κn, κo, κp, κq, κr, κs, tys]) <;> (try simp only [injs])) | skip)))
  have e5 : (s == [97, 112, 111, 115]) = false := beq_false_of_ne h5
  rw [meant_plain h1 h2 h3 h4 h5]
  cases s with
  | nil =>
    have e0 : (([] : List UInt8) == []) = true := rfl
    rw [if_neg (by simp), tellV_none]
    refine ev_go (fun cargs w => Tryz.call29 cargs w) Tryz.func29 rfl mixed (by kernel_rfl) rfl ?_; intro b0 hb0
    ((repeat' first | simp only [fins, mems, Tryz.results29, Tryz.ntmps29, κt, wks, e0, e1, e2, e3, e4, e5, vcs, κa, κb, κc, κd, κe, κf, κg, κh, κi, κj, κk, κl, κm, reduceCtorEq, reduceIte, κn, κo, κp, κq, κr, κs, tys] | exact rfl | refine call_off (v := .any) ?_ | ((first | (refine call_val (g := ?_) ?_ ?_) | (refine call_valg (g := ?_) ?_ ?_)); rotate_left 1; (focus (simp only [Tryz.results29, Tryz.ntmps29, κt, wks, e0, e1, e2, e3, e4, e5, vcs, κa, κb, κc, κd, κe, κf, κg, κh, κi, κj, κk, κl, κm, reduceCtorEq, reduceIte, κn, κo, κp, κq, κr, κs, tys] <;> exact rfl))) | refine draw_end (by decide +kernel) ?_ | refine cond_bool (fun hb => ?_) (fun hb => ?_) | refine cond_bit (fun hb => ?_) (fun hb => ?_) | refine And.intro (by omega) ?_ | refine And.intro (fun hb => ?_) (fun hb => ?_) | fail); (all_goals (first | (refine Fin.pure ?_ ?_ ?_ <;> (try simp only [Tryz.results29, Tryz.ntmps29, wks, e0, e1, e2, e3, e4, e5, vcs, κa, κb, κc, κd, κe, κf, κg, κh, κi, κj, κk, κl, κm, reduceCtorEq, reduceIte, κn, κo, κp, κq, κr, κs, tys]) <;> (try simp only [injs])) | skip)))
  | cons c t =>
    have e0 : ((c :: t) == ([] : List UInt8)) = false := rfl
    have hl0 : 0 < (c :: t).length := by simp
    have hl1 : (1 : Int) ≤ ((c :: t).length : Int) := by simp only [List.length_cons]; omega
    have hl2 : 1 ≤ (c :: t).length := by simp
    simp only [List.length_cons] at hl0 hl1 hl2
    by_cases h35 : c = 35
    · subst h35
      have q35 : (!(((35 : UInt8).toNat : Int) == 35)) = false := rfl
      have q35' : (((35 : UInt8).toNat : Int) != 35) = false := rfl
      have hnum := rNumber_ev t (by simp at hs; unfold lim at *; omega)
      rw [if_pos (by rfl), List.tail_cons]
      cases hp : pointW (numO t) with
      | none =>
        rw [hp] at hnum
        rw [tellV_none] at hnum ⊢
        refine ev_go (fun cargs w => Tryz.call29 cargs w) Tryz.func29 rfl mixed (by kernel_rfl) rfl ?_; intro b0 hb0
        ((repeat' first | simp only [fins, mems, Tryz.results29, Tryz.ntmps29, κt, wks, e0, e1, e2, e3, e4, e5, q35, q35', hl0, hl1, hl2, List.getElem?_cons_zero, List.drop_succ_cons, List.drop_zero, vcs, κa, κb, κc, κd, κe, κf, κg, κh, κi, κj, κk, κl, κm, reduceCtorEq, reduceIte, κn, κo, κp, κq, κr, κs, tys] | exact rfl | refine call_off (v := .any) ?_ | (first | (refine call_fn ?_ (hnum _) ?_) | (refine call_fn_g ?_ (fun _ => hnum _) ?_)) | ((first | (refine call_val (g := ?_) ?_ ?_) | (refine call_valg (g := ?_) ?_ ?_)); rotate_left 1; (focus (simp only [Tryz.results29, Tryz.ntmps29, κt, wks, e0, e1, e2, e3, e4, e5, q35, q35', hl0, hl1, hl2, List.getElem?_cons_zero, List.drop_succ_cons, List.drop_zero, vcs, κa, κb, κc, κd, κe, κf, κg, κh, κi, κj, κk, κl, κm, reduceCtorEq, reduceIte, κn, κo, κp, κq, κr, κs, tys] <;> exact rfl))) | refine draw_end (by decide +kernel) ?_ | refine cond_bool (fun hb => ?_) (fun hb => ?_) | refine cond_bit (fun hb => ?_) (fun hb => ?_) | refine And.intro (by omega) ?_ | refine And.intro (fun hb => ?_) (fun hb => ?_) | fail); (all_goals (first | (refine Fin.pure ?_ ?_ ?_ <;> (try simp only [Tryz.results29, Tryz.ntmps29, wks, e0, e1, e2, e3, e4, e5, q35, q35', hl0, hl1, hl2, List.getElem?_cons_zero, List.drop_succ_cons, List.drop_zero, vcs, κa, κb, κc, κd, κe, κf, κg, κh, κi, κj, κk, κl, κm, reduceCtorEq, reduceIte, κn, κo, κp, κq, κr, κs, tys]) <;> (try simp only [injs])) | skip)))
      | some x =>
        rw [hp] at hnum
        rw [tellV_some] at hnum ⊢
        refine ev_go (fun cargs w => Tryz.call29 cargs w) Tryz.func29 rfl mixed (by kernel_rfl) rfl ?_; intro b0 hb0
        ((repeat' first | simp only [fins, mems, Tryz.results29, Tryz.ntmps29, κt, wks, e0, e1, e2, e3, e4, e5, q35, q35', hl0, hl1, hl2, List.getElem?_cons_zero, List.drop_succ_cons, List.drop_zero, vcs, κa, κb, κc, κd, κe, κf, κg, κh, κi, κj, κk, κl, κm, reduceCtorEq, reduceIte, κn, κo, κp, κq, κr, κs, tys] | exact rfl | refine call_off (v := .any) ?_ | (first | (refine call_fn ?_ (hnum _) ?_) | (refine call_fn_g ?_ (fun _ => hnum _) ?_)) | ((first | (refine call_val (g := ?_) ?_ ?_) | (refine call_valg (g := ?_) ?_ ?_)); rotate_left 1; (focus (simp only [Tryz.results29, Tryz.ntmps29, κt, wks, e0, e1, e2, e3, e4, e5, q35, q35', hl0, hl1, hl2, List.getElem?_cons_zero, List.drop_succ_cons, List.drop_zero, vcs, κa, κb, κc, κd, κe, κf, κg, κh, κi, κj, κk, κl, κm, reduceCtorEq, reduceIte, κn, κo, κp, κq, κr, κs, tys] <;> exact rfl))) | refine draw_end (by decide +kernel) ?_ | refine cond_bool (fun hb => ?_) (fun hb => ?_) | refine cond_bit (fun hb => ?_) (fun hb => ?_) | refine And.intro (by omega) ?_ | refine And.intro (fun hb => ?_) (fun hb => ?_) | fail); (all_goals (first | (refine Fin.pure ?_ ?_ ?_ <;> (try simp only [Tryz.results29, Tryz.ntmps29, wks, e0, e1, e2, e3, e4, e5, q35, q35', hl0, hl1, hl2, List.getElem?_cons_zero, List.drop_succ_cons, List.drop_zero, vcs, κa, κb, κc, κd, κe, κf, κg, κh, κi, κj, κk, κl, κm, reduceCtorEq, reduceIte, κn, κo, κp, κq, κr, κs, tys]) <;> (try simp only [injs])) | skip)))
    · have q35 : ((c.toNat : Int) == 35) = false := ne_byte (d := 35) h35
      have q35' : ((c.toNat : Int) != 35) = true := by unfold bne; rw [q35]; rfl
      rw [if_neg (by simpa using h35), tellV_none]
      refine ev_go (fun cargs w => Tryz.call29 cargs w) Tryz.func29 rfl mixed (by kernel_rfl) rfl ?_; intro b0 hb0
      ((repeat' first | simp only [fins, mems, Tryz.results29, Tryz.ntmps29, κt, wks, e0, e1, e2, e3, e4, e5, q35, q35', hl0, hl1, hl2, List.getElem?_cons_zero, List.drop_succ_cons, List.drop_zero, vcs, κa, κb, κc, κd, κe, κf, κg, κh, κi, κj, κk, κl, κm, reduceCtorEq, reduceIte, κn, κo, κp, κq, κr, κs, tys] | exact rfl | refine call_off (v := .any) ?_ | ((first | (refine call_val (g := ?_) ?_ ?_) | (refine call_valg (g := ?_) ?_ ?_)); rotate_left 1; (focus (simp only [Tryz.results29, Tryz.ntmps29, κt, wks, e0, e1, e2, e3, e4, e5, q35, q35', hl0, hl1, hl2, List.getElem?_cons_zero, List.drop_succ_cons, List.drop_zero, vcs, κa, κb, κc, κd, κe, κf, κg, κh, κi, κj, κk, κl, κm, reduceCtorEq, reduceIte, κn, κo, κp, κq, κr, κs, tys] <;> exact rfl))) | refine draw_end (by decide +kernel) ?_ | refine cond_bool (fun hb => ?_) (fun hb => ?_) | refine cond_bit (fun hb => ?_) (fun hb => ?_) | refine And.intro (by omega) ?_ | refine And.intro (fun hb => ?_) (fun hb => ?_) | fail); (all_goals (first | (refine Fin.pure ?_ ?_ ?_ <;> (try simp only [Tryz.results29, Tryz.ntmps29, wks, e0, e1, e2, e3, e4, e5, q35, q35', hl0, hl1, hl2, List.getElem?_cons_zero, List.drop_succ_cons, List.drop_zero, vcs, κa, κb, κc, κd, κe, κf, κg, κh, κi, κj, κk, κl, κm, reduceCtorEq, reduceIte, κn, κo, κp, κq, κr, κs, tys]) <;> (try simp only [injs])) | skip)))
theorem notin_succQ {d : UInt8} {s : List UInt8} {k : Nat} {c : UInt8} (h : d ∉ s.take k) (hc : s[k]? = some c) (hne : c ≠ d) : d ∉ s.take (k + 1) := by
  obtain ⟨hk, rfl⟩ := List.getElem?_eq_some_iff.1 hc
  rw [List.take_succ_eq_append_getElem hk]
  simp only [List.mem_append, List.mem_singleton, not_or]
  exact ⟨h, fun e => hne e.symm⟩
structure QSt where
  i : Nat
  out : List UInt8
def QSt.inv (s : List UInt8) (x : QSt) : Prop := x.i ≤ s.length ∧ readL s = (readL (s.drop x.i)).map (x.out ++ ·) ∧ x.out.length ≤ 4 * x.i
set_option maxRecDepth 100000 in
set_option maxHeartbeats 16000000 in
theorem rRead_ev (s : List UInt8) (hs : s.length ≤ 1000000) (nm : Nat) : Ev cx 17 nm [.str s] Mem.nil (tellV (readL s)) [] := by
  refine ev_go (fun cargs w => Tryz.call17 cargs w) Tryz.func17 rfl mixed (by kernel_rfl) rfl ?_; intro b0 hb0
  repeat' first | simp only [fins, mems, Tryz.results17, Tryz.ntmps17, κt, wks, vcs, κa, κb, κc, κd, κe, κf, κg, κh, κi, κj, κk, κl, κm, reduceCtorEq, reduceIte, κn, κo, κp, κq, κr, κs, tys] | exact rfl | refine call_off (v := .any) ?_ | ((first | (refine call_val (g := ?_) ?_ ?_) | (refine call_valg (g := ?_) ?_ ?_)); rotate_left 1; (focus (simp only [Tryz.results17, Tryz.ntmps17, κt, wks, vcs, κa, κb, κc, κd, κe, κf, κg, κh, κi, κj, κk, κl, κm, reduceCtorEq, reduceIte, κn, κo, κp, κq, κr, κs, tys] <;> exact rfl))) | refine draw_end (by decide +kernel) ?_ | refine cond_bool (fun hb => ?_) (fun hb => ?_) | refine cond_bit (fun hb => ?_) (fun hb => ?_) | refine And.intro (by omega) ?_ | refine And.intro (fun hb => ?_) (fun hb => ?_) | fail
  (refine loop_can2 cxG (fun x : QSt => s.length - x.i) (fun x => x.inv s) (b0 + 16) (fun x => [(0, .str s), (4, .own b0 0 x.out.length), (5, .int .i64 x.i)]) (fun x => [(b0, @Blk.mk 1 (x.out.map byteRow) (.typed 5))]) (QSt.mk 0 []) [none] ?_ ?_ ?_ ?_; rotate_left 1; (focus (show b0 ≤ _; omega)); (focus (refine ⟨?_, ?_⟩ <;> (try simp only [cans, isRow_typed, ren_bytesI, renOk_bytesI, List.map_nil, List.length_nil, vcs, κa, κb, κc, κd, κe, κf, κg, κh, κi, κj, κk, κl, κm, reduceCtorEq, reduceIte, κn, κo, κp, κq, κr, κs, tys, injs]) <;> (try omega))); rotate_left 1)
  · refine ⟨Nat.zero_le _, ?_, Nat.zero_le _⟩
    show readL s = (readL (s.drop 0)).map ([] ++ ·)
    rw [List.drop_zero]; cases readL s <;> rfl
  · rintro ⟨i, out⟩ ⟨h1, h2, h3⟩
    simp only at h1 h2 h3
    by_cases hlt : i < s.length
    · obtain ⟨c, hc⟩ : ∃ c, s[i]? = some c := ⟨_, List.getElem?_eq_getElem hlt⟩
      have hdc : s.drop i = c :: s.drop (i + 1) := by
        obtain ⟨hk, rfl⟩ := List.getElem?_eq_some_iff.1 hc
        exact List.drop_eq_getElem_cons hk
      have hd : decide (i < s.length) = true := decide_eq_true hlt
      have hwk : IntKind.i64.wrap ((i : Int) + 1) = ((i + 1 : Nat) : Int) := wrap_in (by omega) (by omega)
      have q60 : ((c.toNat : Int) == 60) = decide (c = 60) := beq_byte c 60
      have q38 : ((c.toNat : Int) == 38) = decide (c = 38) := beq_byte c 38
      rw [hdc] at h2
      by_cases c60 : c = 60
      · rw [decide_eq_true c60] at q60
        have hr : readL s = none := by rw [h2, c60, readL_lt]; rfl
        rw [hr, tellV_none]
        ((repeat' first | simp only [fins, mems, Tryz.results17, Tryz.ntmps17, κt, wks, hc, hd, hlt, q60, vcs, κa, κb, κc, κd, κe, κf, κg, κh, κi, κj, κk, κl, κm, reduceCtorEq, reduceIte, κn, κo, κp, κq, κr, κs, tys] | exact rfl | refine call_off (v := .any) ?_ | ((first | (refine call_val (g := ?_) ?_ ?_) | (refine call_valg (g := ?_) ?_ ?_)); rotate_left 1; (focus (simp only [Tryz.results17, Tryz.ntmps17, κt, wks, hc, hd, hlt, q60, vcs, κa, κb, κc, κd, κe, κf, κg, κh, κi, κj, κk, κl, κm, reduceCtorEq, reduceIte, κn, κo, κp, κq, κr, κs, tys] <;> exact rfl))) | refine draw_end (by decide +kernel) ?_ | refine cond_bool (fun hb => ?_) (fun hb => ?_) | refine cond_bit (fun hb => ?_) (fun hb => ?_) | refine And.intro (by omega) ?_ | refine And.intro (fun hb => ?_) (fun hb => ?_) | fail); (all_goals (first | (refine Fin.pure ?_ ?_ ?_ <;> (try simp only [Tryz.results17, Tryz.ntmps17, wks, hc, hd, hlt, q60, vcs, κa, κb, κc, κd, κe, κf, κg, κh, κi, κj, κk, κl, κm, reduceCtorEq, reduceIte, κn, κo, κp, κq, κr, κs, tys]) <;> (try simp only [injs])) | skip)))
      rw [decide_eq_false c60] at q60
      by_cases c38 : c = 38
      · rw [decide_eq_true c38] at q38
        have q38' : ((c.toNat : Int) != 38) = false := by unfold bne; rw [q38]; rfl
        rw [c38] at h2
        repeat' first | simp only [fins, mems, Tryz.results17, Tryz.ntmps17, κt, wks, hc, hd, hlt, q60, q38, q38', vcs, κa, κb, κc, κd, κe, κf, κg, κh, κi, κj, κk, κl, κm, reduceCtorEq, reduceIte, κn, κo, κp, κq, κr, κs, tys] | exact rfl | refine call_off (v := .any) ?_ | ((first | (refine call_val (g := ?_) ?_ ?_) | (refine call_valg (g := ?_) ?_ ?_)); rotate_left 1; (focus (simp only [Tryz.results17, Tryz.ntmps17, κt, wks, hc, hd, hlt, q60, q38, q38', vcs, κa, κb, κc, κd, κe, κf, κg, κh, κi, κj, κk, κl, κm, reduceCtorEq, reduceIte, κn, κo, κp, κq, κr, κs, tys] <;> exact rfl))) | refine draw_end (by decide +kernel) ?_ | refine And.intro (by omega) ?_ | fail
        (refine loop_can2 cxG (fun x : Nat => s.length - x) (fun x => i ≤ x ∧ x ≤ s.length ∧ (59 : UInt8) ∉ (s.drop i).take (x - i)) (b0 + 16) (fun x => [(0, .str s), (4, .own b0 0 out.length), (5, .int .i64 i), (6, .int .i64 x)]) (fun x => [(b0, @Blk.mk 1 (out.map byteRow) (.typed 5))]) (i) [some b0] ?_ ?_ ?_ ?_; rotate_left 1; (focus (show b0 ≤ _; omega)); (focus (refine ⟨?_, ?_⟩ <;> (try simp only [cans, isRow_typed, ren_bytesI, renOk_bytesI, vcs, κa, κb, κc, κd, κe, κf, κg, κh, κi, κj, κk, κl, κm, reduceCtorEq, reduceIte, κn, κo, κp, κq, κr, κs, tys, injs]) <;> (try omega))); rotate_left 1)
        · exact ⟨Nat.le_refl _, h1, by simp⟩
        · rintro e ⟨e1, e2, e3⟩
          by_cases hlte : e < s.length
          · obtain ⟨d, hdd⟩ : ∃ d, s[e]? = some d := ⟨_, List.getElem?_eq_getElem hlte⟩
            have hde : decide (e < s.length) = true := decide_eq_true hlte
            have hwe : IntKind.i64.wrap ((e : Int) + 1) = ((e + 1 : Nat) : Int) := wrap_in (by omega) (by omega)
            have q59 : ((d.toNat : Int) == 59) = decide (d = 59) := beq_byte d 59
            have hdg : (s.drop i)[e - i]? = some d := by rw [List.getElem?_drop, show i + (e - i) = e by omega]; exact hdd
            by_cases c59 : d = 59
            · rw [decide_eq_true c59] at q59
              have q59' : ((d.toNat : Int) != 59) = false := by unfold bne; rw [q59]; rfl
              have hei : i < e := by
                rcases Nat.lt_or_ge i e with h | h
                · exact h
                · have : i = e := by omega
                  subst this
                  rw [hc] at hdd; cases hdd
                  rw [c38] at c59; cases c59
              have hcut : cut1 59 (s.drop (i + 1)) = some ((s.drop (i + 1)).take (e - (i + 1)), s.drop (e + 1)) := by
                have g1 : (59 : UInt8) ∉ (s.drop (i + 1)).take (e - (i + 1)) := by
                  rw [hdc, show e - i = e - (i + 1) + 1 by omega, List.take_succ_cons] at e3
                  exact fun h => e3 (List.mem_cons_of_mem _ h)
                have g2 : (s.drop (i + 1))[e - (i + 1)]? = some 59 := by rw [List.getElem?_drop, show i + 1 + (e - (i + 1)) = e by omega, hdd, c59]
                have := cut1_at g1 g2
                rw [List.drop_drop, show i + 1 + (e - (i + 1) + 1) = e + 1 by omega] at this
                exact this
              have hen : ((e : Int) == (s.length : Int)) = false := beq_false_of_ne (by omega)
              have hi1 : ((i + 1 : Nat) : Int) ≤ (e : Int) := by omega
              have hi2 : (e : Int) ≤ (s.length : Int) := by omega
              have hi3 : i + 1 ≤ e := by omega
              have hi4 : e ≤ s.length := by omega
              generalize ha : (s.drop (i + 1)).take (e - (i + 1)) = a at hcut
              have ha2 : (s.take e).drop (i + 1) = a := by rw [← ha, List.drop_take]
              have hal : a.length ≤ 1000000 := by
                have := congrArg List.length ha
                simp at this; omega
              have hmt := rMeant_ev a (by unfold lim; omega)
              have hwk2 : IntKind.i64.wrap ((e : Int) + 1) = ((e + 1 : Nat) : Int) := wrap_in (by omega) (by omega)
              have hde : decide (e < s.length) = true := decide_eq_true hlte
              cases hm : meantL a with
              | none =>
                rw [hm, tellV_none] at hmt
                have hr : readL s = none := by rw [h2, readL_bad hcut hm]; rfl
                rw [hr, tellV_none]
                ((repeat' first | simp only [fins, mems, Tryz.results17, Tryz.ntmps17, κt, wks, hdd, hde, hlte, hwk, q59, q59', hen, hi1, hi2, hi3, hi4, ha, ha2, Bool.not_false, vcs, κa, κb, κc, κd, κe, κf, κg, κh, κi, κj, κk, κl, κm, reduceCtorEq, reduceIte, κn, κo, κp, κq, κr, κs, tys] | exact rfl | refine call_off (v := .any) ?_ | (first | (refine call_fn ?_ (hmt _) ?_) | (refine call_fn_g ?_ (fun _ => hmt _) ?_)) | ((first | (refine call_val (g := ?_) ?_ ?_) | (refine call_valg (g := ?_) ?_ ?_)); rotate_left 1; (focus (simp only [Tryz.results17, Tryz.ntmps17, κt, wks, hdd, hde, hlte, hwk, q59, q59', hen, hi1, hi2, hi3, hi4, ha, ha2, Bool.not_false, vcs, κa, κb, κc, κd, κe, κf, κg, κh, κi, κj, κk, κl, κm, reduceCtorEq, reduceIte, κn, κo, κp, κq, κr, κs, tys] <;> exact rfl))) | refine draw_end (by decide +kernel) ?_ | refine cond_bool (fun hb => ?_) (fun hb => ?_) | refine cond_bit (fun hb => ?_) (fun hb => ?_) | refine And.intro (by omega) ?_ | refine And.intro (fun hb => ?_) (fun hb => ?_) | fail); (all_goals (first | (refine Fin.pure ?_ ?_ ?_ <;> (try simp only [Tryz.results17, Tryz.ntmps17, wks, hdd, hde, hlte, hwk, q59, q59', hen, hi1, hi2, hi3, hi4, ha, ha2, Bool.not_false, vcs, κa, κb, κc, κd, κe, κf, κg, κh, κi, κj, κk, κl, κm, reduceCtorEq, reduceIte, κn, κo, κp, κq, κr, κs, tys]) <;> (try simp only [injs])) | skip)))
              | some x =>
                rw [hm, tellV_some] at hmt
                have hxl := meant_length hm
                have hr : readL s = (readL (s.drop (e + 1))).map ((out ++ x) ++ ·) := by rw [h2, readL_ref hcut hm, map_app]
                have hmp : out.map byteRow ++ x.map byteRow = (out ++ x).map byteRow := by rw [List.map_append]
                repeat' first | simp only [fins, mems, Tryz.results17, Tryz.ntmps17, κt, wks, hdd, hde, hlte, hwk, hwk2, q59, q59', hen, hi1, hi2, hi3, hi4, ha, ha2, hmp, tyT, if_true, blkT_some, one_bsI, List.length_map, List.take_of_length_le, Nat.le_refl, Option.bind_some, Bool.not_true, vcs, κa, κb, κc, κd, κe, κf, κg, κh, κi, κj, κk, κl, κm, reduceCtorEq, reduceIte, κn, κo, κp, κq, κr, κs, tys] | exact rfl | refine call_off (v := .any) ?_ | (first | (refine call_fn ?_ (hmt _) ?_) | (refine call_fn_g ?_ (fun _ => hmt _) ?_)) | ((first | (refine call_val (g := ?_) ?_ ?_) | (refine call_valg (g := ?_) ?_ ?_)); rotate_left 1; (focus (simp only [Tryz.results17, Tryz.ntmps17, κt, wks, hdd, hde, hlte, hwk, hwk2, q59, q59', hen, hi1, hi2, hi3, hi4, ha, ha2, hmp, tyT, if_true, blkT_some, one_bsI, List.length_map, List.take_of_length_le, Nat.le_refl, Option.bind_some, Bool.not_true, vcs, κa, κb, κc, κd, κe, κf, κg, κh, κi, κj, κk, κl, κm, reduceCtorEq, reduceIte, κn, κo, κp, κq, κr, κs, tys] <;> exact rfl))) | refine draw_end (by decide +kernel) ?_ | refine cond_bool (fun hb => ?_) (fun hb => ?_) | refine cond_bit (fun hb => ?_) (fun hb => ?_) | refine And.intro (by omega) ?_ | refine And.intro (fun hb => ?_) (fun hb => ?_) | fail
                all_goals ((refine again_can2 cxG (QSt.mk (e + 1) (out ++ x)) [some (b0 + 480)] ?_ ?_ ?_ ?_; rotate_left 2; (focus (show b0 ≤ _; omega)); (focus (refine ⟨?_, ?_⟩ <;> (try simp only [cans, isRow_typed, ren_bytesI, renOk_bytesI, hwk2, tyT, if_true, blkT_some, Option.bind_some, List.length_append, vcs, κa, κb, κc, κd, κe, κf, κg, κh, κi, κj, κk, κl, κm, reduceCtorEq, reduceIte, κn, κo, κp, κq, κr, κs, tys, injs]) <;> (try omega)))))
                all_goals (first | (show s.length - (e + 1) < s.length - i; omega) | (refine ⟨hlte, hr, ?_⟩; simp only [List.length_append]; omega) | skip)
            · rw [decide_eq_false c59] at q59
              have q59' : ((d.toNat : Int) != 59) = true := by unfold bne; rw [q59]; rfl
              have hni := notin_succQ e3 hdg c59
              repeat' first | simp only [fins, mems, Tryz.results17, Tryz.ntmps17, κt, wks, hdd, hde, hlte, hwe, q59, q59', vcs, κa, κb, κc, κd, κe, κf, κg, κh, κi, κj, κk, κl, κm, reduceCtorEq, reduceIte, κn, κo, κp, κq, κr, κs, tys] | exact rfl | refine call_off (v := .any) ?_ | ((first | (refine call_val (g := ?_) ?_ ?_) | (refine call_valg (g := ?_) ?_ ?_)); rotate_left 1; (focus (simp only [Tryz.results17, Tryz.ntmps17, κt, wks, hdd, hde, hlte, hwe, q59, q59', vcs, κa, κb, κc, κd, κe, κf, κg, κh, κi, κj, κk, κl, κm, reduceCtorEq, reduceIte, κn, κo, κp, κq, κr, κs, tys] <;> exact rfl))) | refine draw_end (by decide +kernel) ?_ | refine And.intro (by omega) ?_ | fail
              all_goals ((refine again_can2 cxG (e + 1) [some b0] ?_ ?_ ?_ ?_; rotate_left 2; (focus (show b0 ≤ _; omega)); (focus (refine ⟨?_, ?_⟩ <;> (try simp only [cans, isRow_typed, ren_bytesI, renOk_bytesI, hwe, vcs, κa, κb, κc, κd, κe, κf, κg, κh, κi, κj, κk, κl, κm, reduceCtorEq, reduceIte, κn, κo, κp, κq, κr, κs, tys, injs]) <;> (try omega)))))
              all_goals (first | (show s.length - (e + 1) < s.length - e; omega) | exact ⟨by omega, hlte, by rw [show e + 1 - i = e - i + 1 by omega]; exact hni⟩ | skip)
          · have hee : e = s.length := by omega
            subst hee
            have hde : decide (s.length < s.length) = false := decide_eq_false (by omega)
            have hen : ((s.length : Int) == (s.length : Int)) = true := by simp
            have hcut : cut1 59 (s.drop (i + 1)) = none := by
              rw [cut1_none]
              intro hin
              refine e3 ?_
              rw [List.take_of_length_le (by simp), hdc]
              exact List.mem_cons_of_mem _ hin
            have hr : readL s = none := by rw [h2, readL_none hcut]; rfl
            rw [hr, tellV_none]
            ((repeat' first | simp only [fins, mems, Tryz.results17, Tryz.ntmps17, κt, wks, hde, hen, vcs, κa, κb, κc, κd, κe, κf, κg, κh, κi, κj, κk, κl, κm, reduceCtorEq, reduceIte, κn, κo, κp, κq, κr, κs, tys] | exact rfl | refine call_off (v := .any) ?_ | ((first | (refine call_val (g := ?_) ?_ ?_) | (refine call_valg (g := ?_) ?_ ?_)); rotate_left 1; (focus (simp only [Tryz.results17, Tryz.ntmps17, κt, wks, hde, hen, vcs, κa, κb, κc, κd, κe, κf, κg, κh, κi, κj, κk, κl, κm, reduceCtorEq, reduceIte, κn, κo, κp, κq, κr, κs, tys] <;> exact rfl))) | refine draw_end (by decide +kernel) ?_ | refine And.intro (by omega) ?_ | fail); (all_goals (first | (refine Fin.pure ?_ ?_ ?_ <;> (try simp only [Tryz.results17, Tryz.ntmps17, wks, hde, hen, vcs, κa, κb, κc, κd, κe, κf, κg, κh, κi, κj, κk, κl, κm, reduceCtorEq, reduceIte, κn, κo, κp, κq, κr, κs, tys]) <;> (try simp only [injs])) | skip)))
      · rw [decide_eq_false c38] at q38
        have q38' : ((c.toNat : Int) != 38) = true := by unfold bne; rw [q38]; rfl
        have hr : readL s = (readL (s.drop (i + 1))).map ((out ++ [c]) ++ ·) := by rw [h2, readL_other c60 c38]; cases readL (s.drop (i + 1)) <;> simp
        have hsn : out.map byteRow ++ [[V.int .u8 c.toNat]] = (out ++ [c]).map byteRow := by rw [List.map_append]; rfl
        repeat' first | simp only [fins, mems, Tryz.results17, Tryz.ntmps17, κt, wks, hc, hd, hlt, hwk, q60, q38, q38', hsn, tyT, if_true, blkT_some, one_bsI, List.length_map, List.take_of_length_le, Nat.le_refl, Option.bind_some, vcs, κa, κb, κc, κd, κe, κf, κg, κh, κi, κj, κk, κl, κm, reduceCtorEq, reduceIte, κn, κo, κp, κq, κr, κs, tys] | exact rfl | refine call_off (v := .any) ?_ | ((first | (refine call_val (g := ?_) ?_ ?_) | (refine call_valg (g := ?_) ?_ ?_)); rotate_left 1; (focus (simp only [Tryz.results17, Tryz.ntmps17, κt, wks, hc, hd, hlt, hwk, q60, q38, q38', hsn, tyT, if_true, blkT_some, one_bsI, List.length_map, List.take_of_length_le, Nat.le_refl, Option.bind_some, vcs, κa, κb, κc, κd, κe, κf, κg, κh, κi, κj, κk, κl, κm, reduceCtorEq, reduceIte, κn, κo, κp, κq, κr, κs, tys] <;> exact rfl))) | refine draw_end (by decide +kernel) ?_ | refine cond_bool (fun hb => ?_) (fun hb => ?_) | refine cond_bit (fun hb => ?_) (fun hb => ?_) | refine And.intro (by omega) ?_ | refine And.intro (fun hb => ?_) (fun hb => ?_) | fail
        all_goals ((refine again_can2 cxG (QSt.mk (i + 1) (out ++ [c])) [some (b0 + 288)] ?_ ?_ ?_ ?_; rotate_left 2; (focus (show b0 ≤ _; omega)); (focus (refine ⟨?_, ?_⟩ <;> (try simp only [cans, isRow_typed, ren_bytesI, renOk_bytesI, hwk, tyT, if_true, blkT_some, Option.bind_some, List.length_append, List.length_cons, List.length_nil, vcs, κa, κb, κc, κd, κe, κf, κg, κh, κi, κj, κk, κl, κm, reduceCtorEq, reduceIte, κn, κo, κp, κq, κr, κs, tys, injs]) <;> (try omega)))))
        all_goals (first | (show s.length - (i + 1) < s.length - i; omega) | (refine ⟨hlt, hr, ?_⟩; simp only [List.length_append, List.length_cons, List.length_nil]; omega) | skip)
    · have hie : i = s.length := by omega
      subst hie
      have hd : decide (s.length < s.length) = false := decide_eq_false (by omega)
      rw [List.drop_length, readL_nil] at h2
      have hr : readL s = some out := by rw [h2]; simp
      have htk : (out.map byteRow).take out.length = out.map byteRow := List.take_of_length_le (by simp)
      rw [hr, tellV_some]
      ((repeat' first | simp only [fins, mems, Tryz.results17, Tryz.ntmps17, κt, wks, hd, htk, List.length_map, Nat.le_refl, vcs, κa, κb, κc, κd, κe, κf, κg, κh, κi, κj, κk, κl, κm, reduceCtorEq, reduceIte, κn, κo, κp, κq, κr, κs, tys] | exact rfl | refine call_off (v := .any) ?_ | (refine ext_toStr (v := ?_) (bs := out) ?_ ?_ ?_ ?_ ?_ ?_ ?_; rotate_left 1; (iterate 2 (focus (simp only [Tryz.results17, Tryz.ntmps17, κt, wks, hd, htk, List.length_map, Nat.le_refl, vcs, κa, κb, κc, κd, κe, κf, κg, κh, κi, κj, κk, κl, κm, reduceCtorEq, reduceIte, κn, κo, κp, κq, κr, κs, tys]; done))); (focus (simp only [Tryz.results17, Tryz.ntmps17, κt, wks, hd, htk, List.length_map, Nat.le_refl, vcs, κa, κb, κc, κd, κe, κf, κg, κh, κi, κj, κk, κl, κm, reduceCtorEq, reduceIte, κn, κo, κp, κq, κr, κs, tys] <;> exact rfl)); (focus (exact rfl)); (focus (simp only [mems, Tryz.results17, Tryz.ntmps17, κt, wks, hd, htk, List.length_map, Nat.le_refl, vcs, κa, κb, κc, κd, κe, κf, κg, κh, κi, κj, κk, κl, κm, reduceCtorEq, reduceIte, κn, κo, κp, κq, κr, κs, tys]; done)); (focus (simp only [Tryz.results17, Tryz.ntmps17, κt, wks, hd, htk, List.length_map, Nat.le_refl, vcs, κa, κb, κc, κd, κe, κf, κg, κh, κi, κj, κk, κl, κm, reduceCtorEq, reduceIte, κn, κo, κp, κq, κr, κs, tys] <;> exact rfl))) | (refine extG_true ?_) | (refine extG_false ?_) | ((first | (refine call_val (g := ?_) ?_ ?_) | (refine call_valg (g := ?_) ?_ ?_)); rotate_left 1; (focus (simp only [Tryz.results17, Tryz.ntmps17, κt, wks, hd, htk, List.length_map, Nat.le_refl, vcs, κa, κb, κc, κd, κe, κf, κg, κh, κi, κj, κk, κl, κm, reduceCtorEq, reduceIte, κn, κo, κp, κq, κr, κs, tys] <;> exact rfl))) | refine draw_end (by decide +kernel) ?_ | refine cond_bool (fun hb => ?_) (fun hb => ?_) | refine cond_bit (fun hb => ?_) (fun hb => ?_) | refine And.intro (by omega) ?_ | refine And.intro (fun hb => ?_) (fun hb => ?_) | fail); (all_goals (first | (refine Fin.pure ?_ ?_ ?_ <;> (try simp only [Tryz.results17, Tryz.ntmps17, wks, hd, htk, List.length_map, Nat.le_refl, vcs, κa, κb, κc, κd, κe, κf, κg, κh, κi, κj, κk, κl, κm, reduceCtorEq, reduceIte, κn, κo, κp, κq, κr, κs, tys]) <;> (try simp only [injs])) | skip)))
set_option maxRecDepth 100000 in
theorem rPut_ev (s : List UInt8) (q : Bool) (hs : s.length ≤ lim) (nm : Nat) : Ev cx 5 nm [.str s, .bool q] Mem.nil (.tup [.str (putT q s), .int .i64 (putE q s)]) [] := by
  have hc := rCheck_ev s hs
  by_cases hz : ptsErr s = 0
  · have hb : (ptsErr s != 0) = false := by rw [hz]; rfl
    have hlen := ptsErr_len hz
    have hw := rWritten_ev s q (by omega)
    by_cases hbig : 16384 < (escW q s).length
    · have hp : putE q s = 4 := by unfold putE; rw [if_neg (fun h => h hz), if_pos hbig]
      have hp2 : putT q s = [] := by unfold putT; rw [hp]; rfl
      have hd2 : decide ((16384 : Int) < ((escW q s).length : Int)) = true := decide_eq_true (by omega)
      rw [hp, hp2]
      refine ev_go (fun cargs w => Tryz.call5 cargs w) Tryz.func5 rfl mixed (by kernel_rfl) rfl ?_; intro b0 hb0
      ((repeat' first | simp only [fins, mems, Tryz.results5, Tryz.ntmps5, κt, wks, hb, hd2, vcs, κa, κb, κc, κd, κe, κf, κg, κh, κi, κj, κk, κl, κm, reduceCtorEq, reduceIte, κn, κo, κp, κq, κr, κs, tys] | exact rfl | refine call_off (v := .any) ?_ | (first | (refine call_fn ?_ (hc _) ?_) | (refine call_fn_g ?_ (fun _ => hc _) ?_) | (refine call_fn ?_ (hw _) ?_) | (refine call_fn_g ?_ (fun _ => hw _) ?_)) | ((first | (refine call_val (g := ?_) ?_ ?_) | (refine call_valg (g := ?_) ?_ ?_)); rotate_left 1; (focus (simp only [Tryz.results5, Tryz.ntmps5, κt, wks, hb, hd2, vcs, κa, κb, κc, κd, κe, κf, κg, κh, κi, κj, κk, κl, κm, reduceCtorEq, reduceIte, κn, κo, κp, κq, κr, κs, tys] <;> exact rfl))) | refine draw_end (by decide +kernel) ?_ | refine cond_bool (fun hb => ?_) (fun hb => ?_) | refine cond_bit (fun hb => ?_) (fun hb => ?_) | refine And.intro (by omega) ?_ | refine And.intro (fun hb => ?_) (fun hb => ?_) | fail); (all_goals (first | (refine Fin.pure ?_ ?_ ?_ <;> (try simp only [Tryz.results5, Tryz.ntmps5, wks, hb, hd2, vcs, κa, κb, κc, κd, κe, κf, κg, κh, κi, κj, κk, κl, κm, reduceCtorEq, reduceIte, κn, κo, κp, κq, κr, κs, tys]) <;> (try simp only [injs])) | skip)))
    · have hp : putE q s = 0 := by unfold putE; rw [if_neg (fun h => h hz), if_neg hbig]
      have hp2 : putT q s = escW q s := by unfold putT; rw [hp]; rfl
      have hd2 : decide ((16384 : Int) < ((escW q s).length : Int)) = false := decide_eq_false (by omega)
      rw [hp, hp2]
      refine ev_go (fun cargs w => Tryz.call5 cargs w) Tryz.func5 rfl mixed (by kernel_rfl) rfl ?_; intro b0 hb0
      ((repeat' first | simp only [fins, mems, Tryz.results5, Tryz.ntmps5, κt, wks, hb, hd2, vcs, κa, κb, κc, κd, κe, κf, κg, κh, κi, κj, κk, κl, κm, reduceCtorEq, reduceIte, κn, κo, κp, κq, κr, κs, tys] | exact rfl | refine call_off (v := .any) ?_ | (first | (refine call_fn ?_ (hc _) ?_) | (refine call_fn_g ?_ (fun _ => hc _) ?_) | (refine call_fn ?_ (hw _) ?_) | (refine call_fn_g ?_ (fun _ => hw _) ?_)) | ((first | (refine call_val (g := ?_) ?_ ?_) | (refine call_valg (g := ?_) ?_ ?_)); rotate_left 1; (focus (simp only [Tryz.results5, Tryz.ntmps5, κt, wks, hb, hd2, vcs, κa, κb, κc, κd, κe, κf, κg, κh, κi, κj, κk, κl, κm, reduceCtorEq, reduceIte, κn, κo, κp, κq, κr, κs, tys] <;> exact rfl))) | refine draw_end (by decide +kernel) ?_ | refine cond_bool (fun hb => ?_) (fun hb => ?_) | refine cond_bit (fun hb => ?_) (fun hb => ?_) | refine And.intro (by omega) ?_ | refine And.intro (fun hb => ?_) (fun hb => ?_) | fail); (all_goals (first | (refine Fin.pure ?_ ?_ ?_ <;> (try simp only [Tryz.results5, Tryz.ntmps5, wks, hb, hd2, vcs, κa, κb, κc, κd, κe, κf, κg, κh, κi, κj, κk, κl, κm, reduceCtorEq, reduceIte, κn, κo, κp, κq, κr, κs, tys]) <;> (try simp only [injs])) | skip)))
  · have hb : (ptsErr s != 0) = true := by rw [bne_iff_ne]; exact hz
    have h1 : putE q s = ptsErr s := by unfold putE; rw [if_pos hz]
    have h2 : putT q s = [] := by unfold putT; rw [h1, if_neg hz]
    rw [h1, h2]
    refine ev_go (fun cargs w => Tryz.call5 cargs w) Tryz.func5 rfl mixed (by kernel_rfl) rfl ?_; intro b0 hb0
    ((repeat' first | simp only [fins, mems, Tryz.results5, Tryz.ntmps5, κt, wks, hb, vcs, κa, κb, κc, κd, κe, κf, κg, κh, κi, κj, κk, κl, κm, reduceCtorEq, reduceIte, κn, κo, κp, κq, κr, κs, tys] | exact rfl | refine call_off (v := .any) ?_ | (first | (refine call_fn ?_ (hc _) ?_) | (refine call_fn_g ?_ (fun _ => hc _) ?_)) | ((first | (refine call_val (g := ?_) ?_ ?_) | (refine call_valg (g := ?_) ?_ ?_)); rotate_left 1; (focus (simp only [Tryz.results5, Tryz.ntmps5, κt, wks, hb, vcs, κa, κb, κc, κd, κe, κf, κg, κh, κi, κj, κk, κl, κm, reduceCtorEq, reduceIte, κn, κo, κp, κq, κr, κs, tys] <;> exact rfl))) | refine draw_end (by decide +kernel) ?_ | refine cond_bool (fun hb => ?_) (fun hb => ?_) | refine cond_bit (fun hb => ?_) (fun hb => ?_) | refine And.intro (by omega) ?_ | refine And.intro (fun hb => ?_) (fun hb => ?_) | fail); (all_goals (first | (refine Fin.pure ?_ ?_ ?_ <;> (try simp only [Tryz.results5, Tryz.ntmps5, wks, hb, vcs, κa, κb, κc, κd, κe, κf, κg, κh, κi, κj, κk, κl, κm, reduceCtorEq, reduceIte, κn, κo, κp, κq, κr, κs, tys]) <;> (try simp only [injs])) | skip)))
set_option maxRecDepth 100000 in
theorem rGet_ev (s : List UInt8) (hs : s.length ≤ lim) (nm : Nat) : Ev cx 7 nm [.str s] Mem.nil (getV s) [] := by
  have hc := rCheck_ev s hs
  by_cases hz : ptsErr s = 0
  · have hb : (ptsErr s != 0) = false := by rw [hz]; rfl
    have hlen := ptsErr_len hz
    have hr := rRead_ev s (by omega)
    cases hrd : readL s with
    | none =>
      rw [hrd, tellV_none] at hr
      rw [getV_none hz hrd]
      refine ev_go (fun cargs w => Tryz.call7 cargs w) Tryz.func7 rfl mixed (by kernel_rfl) rfl ?_; intro b0 hb0
      ((repeat' first | simp only [fins, mems, Tryz.results7, Tryz.ntmps7, κt, wks, hb, Bool.not_false, vcs, κa, κb, κc, κd, κe, κf, κg, κh, κi, κj, κk, κl, κm, reduceCtorEq, reduceIte, κn, κo, κp, κq, κr, κs, tys] | exact rfl | refine call_off (v := .any) ?_ | (first | (refine call_fn ?_ (hc _) ?_) | (refine call_fn_g ?_ (fun _ => hc _) ?_) | (refine call_fn ?_ (hr _) ?_) | (refine call_fn_g ?_ (fun _ => hr _) ?_)) | ((first | (refine call_val (g := ?_) ?_ ?_) | (refine call_valg (g := ?_) ?_ ?_)); rotate_left 1; (focus (simp only [Tryz.results7, Tryz.ntmps7, κt, wks, hb, Bool.not_false, vcs, κa, κb, κc, κd, κe, κf, κg, κh, κi, κj, κk, κl, κm, reduceCtorEq, reduceIte, κn, κo, κp, κq, κr, κs, tys] <;> exact rfl))) | refine draw_end (by decide +kernel) ?_ | refine cond_bool (fun hb => ?_) (fun hb => ?_) | refine cond_bit (fun hb => ?_) (fun hb => ?_) | refine And.intro (by omega) ?_ | refine And.intro (fun hb => ?_) (fun hb => ?_) | fail); (all_goals (first | (refine Fin.pure ?_ ?_ ?_ <;> (try simp only [Tryz.results7, Tryz.ntmps7, wks, hb, Bool.not_false, vcs, κa, κb, κc, κd, κe, κf, κg, κh, κi, κj, κk, κl, κm, reduceCtorEq, reduceIte, κn, κo, κp, κq, κr, κs, tys]) <;> (try simp only [injs])) | skip)))
    | some x =>
      rw [hrd, tellV_some] at hr
      rw [getV_some hz hrd]
      refine ev_go (fun cargs w => Tryz.call7 cargs w) Tryz.func7 rfl mixed (by kernel_rfl) rfl ?_; intro b0 hb0
      ((repeat' first | simp only [fins, mems, Tryz.results7, Tryz.ntmps7, κt, wks, hb, Bool.not_true, vcs, κa, κb, κc, κd, κe, κf, κg, κh, κi, κj, κk, κl, κm, reduceCtorEq, reduceIte, κn, κo, κp, κq, κr, κs, tys] | exact rfl | refine call_off (v := .any) ?_ | (first | (refine call_fn ?_ (hc _) ?_) | (refine call_fn_g ?_ (fun _ => hc _) ?_) | (refine call_fn ?_ (hr _) ?_) | (refine call_fn_g ?_ (fun _ => hr _) ?_)) | ((first | (refine call_val (g := ?_) ?_ ?_) | (refine call_valg (g := ?_) ?_ ?_)); rotate_left 1; (focus (simp only [Tryz.results7, Tryz.ntmps7, κt, wks, hb, Bool.not_true, vcs, κa, κb, κc, κd, κe, κf, κg, κh, κi, κj, κk, κl, κm, reduceCtorEq, reduceIte, κn, κo, κp, κq, κr, κs, tys] <;> exact rfl))) | refine draw_end (by decide +kernel) ?_ | refine cond_bool (fun hb => ?_) (fun hb => ?_) | refine cond_bit (fun hb => ?_) (fun hb => ?_) | refine And.intro (by omega) ?_ | refine And.intro (fun hb => ?_) (fun hb => ?_) | fail); (all_goals (first | (refine Fin.pure ?_ ?_ ?_ <;> (try simp only [Tryz.results7, Tryz.ntmps7, wks, hb, Bool.not_true, vcs, κa, κb, κc, κd, κe, κf, κg, κh, κi, κj, κk, κl, κm, reduceCtorEq, reduceIte, κn, κo, κp, κq, κr, κs, tys]) <;> (try simp only [injs])) | skip)))
  · have hb : (ptsErr s != 0) = true := by rw [bne_iff_ne]; exact hz
    rw [getV_pts hz]
    refine ev_go (fun cargs w => Tryz.call7 cargs w) Tryz.func7 rfl mixed (by kernel_rfl) rfl ?_; intro b0 hb0
    ((repeat' first | simp only [fins, mems, Tryz.results7, Tryz.ntmps7, κt, wks, hb, vcs, κa, κb, κc, κd, κe, κf, κg, κh, κi, κj, κk, κl, κm, reduceCtorEq, reduceIte, κn, κo, κp, κq, κr, κs, tys] | exact rfl | refine call_off (v := .any) ?_ | (first | (refine call_fn ?_ (hc _) ?_) | (refine call_fn_g ?_ (fun _ => hc _) ?_)) | ((first | (refine call_val (g := ?_) ?_ ?_) | (refine call_valg (g := ?_) ?_ ?_)); rotate_left 1; (focus (simp only [Tryz.results7, Tryz.ntmps7, κt, wks, hb, vcs, κa, κb, κc, κd, κe, κf, κg, κh, κi, κj, κk, κl, κm, reduceCtorEq, reduceIte, κn, κo, κp, κq, κr, κs, tys] <;> exact rfl))) | refine draw_end (by decide +kernel) ?_ | refine cond_bool (fun hb => ?_) (fun hb => ?_) | refine cond_bit (fun hb => ?_) (fun hb => ?_) | refine And.intro (by omega) ?_ | refine And.intro (fun hb => ?_) (fun hb => ?_) | fail); (all_goals (first | (refine Fin.pure ?_ ?_ ?_ <;> (try simp only [Tryz.results7, Tryz.ntmps7, wks, hb, vcs, κa, κb, κc, κd, κe, κf, κg, κh, κi, κj, κk, κl, κm, reduceCtorEq, reduceIte, κn, κo, κp, κq, κr, κs, tys]) <;> (try simp only [injs])) | skip)))
set_option maxRecDepth 100000 in
set_option maxHeartbeats 8000000 in
theorem escTells_main (s : List UInt8) (q : Bool) (hs : s.length ≤ lim) (nm : Nat) : Ev cx 3 nm [.str s, .bool q] Mem.nil (.bool true) [] := by
  have hp1 := ePut_ev s q hs
  have hr1 := rPut_ev s q hs
  have hp2 := eGet_ev s hs
  have hr2 := rGet_ev s hs
  unfold getV at hp2 hr2
  have q1 : (putT q s == putT q s) = true := by simp
  have q2 : (putE q s == putE q s) = true := by simp
  have q3 : (getT s == getT s) = true := by simp
  have q4 : (getE s == getE s) = true := by simp
  by_cases h1 : 2000 < s.length
  · have d1 : decide ((2000 : Int) < (s.length : Int)) = true := decide_eq_true (by omega)
    by_cases h2 : s.length < 5000
    · have d2 : decide ((s.length : Int) < 5000) = true := decide_eq_true (by omega)
      refine ev_go (fun cargs w => Tryz.call3 cargs w) Tryz.func3 rfl mixed (by kernel_rfl) rfl ?_; intro b0 hb0
      ((repeat' first | simp only [fins, mems, Tryz.results3, Tryz.ntmps3, κt, wks, d1, d2, vcs, κa, κb, κc, κd, κe, κf, κg, κh, κi, κj, κk, κl, κm, reduceCtorEq, reduceIte, κn, κo, κp, κq, κr, κs, tys] | exact rfl | refine call_off (v := .any) ?_ | ((first | (refine call_val (g := ?_) ?_ ?_) | (refine call_valg (g := ?_) ?_ ?_)); rotate_left 1; (focus (simp only [Tryz.results3, Tryz.ntmps3, κt, wks, d1, d2, vcs, κa, κb, κc, κd, κe, κf, κg, κh, κi, κj, κk, κl, κm, reduceCtorEq, reduceIte, κn, κo, κp, κq, κr, κs, tys] <;> exact rfl))) | refine draw_end (by decide +kernel) ?_ | refine cond_bool (fun hb => ?_) (fun hb => ?_) | refine cond_bit (fun hb => ?_) (fun hb => ?_) | refine And.intro (by omega) ?_ | refine And.intro (fun hb => ?_) (fun hb => ?_) | fail); (all_goals (first | (refine Fin.pure ?_ ?_ ?_ <;> (try simp only [Tryz.results3, Tryz.ntmps3, wks, d1, d2, vcs, κa, κb, κc, κd, κe, κf, κg, κh, κi, κj, κk, κl, κm, reduceCtorEq, reduceIte, κn, κo, κp, κq, κr, κs, tys]) <;> (try simp only [injs])) | skip)))
    · have d2 : decide ((s.length : Int) < 5000) = false := decide_eq_false (by omega)
      by_cases h3 : 17000 < s.length
      · have d3 : decide ((17000 : Int) < (s.length : Int)) = true := decide_eq_true (by omega)
        refine ev_go (fun cargs w => Tryz.call3 cargs w) Tryz.func3 rfl mixed (by kernel_rfl) rfl ?_; intro b0 hb0
        ((repeat' first | simp only [fins, mems, Tryz.results3, Tryz.ntmps3, κt, wks, d1, d2, d3, vcs, κa, κb, κc, κd, κe, κf, κg, κh, κi, κj, κk, κl, κm, reduceCtorEq, reduceIte, κn, κo, κp, κq, κr, κs, tys] | exact rfl | refine call_off (v := .any) ?_ | ((first | (refine call_val (g := ?_) ?_ ?_) | (refine call_valg (g := ?_) ?_ ?_)); rotate_left 1; (focus (simp only [Tryz.results3, Tryz.ntmps3, κt, wks, d1, d2, d3, vcs, κa, κb, κc, κd, κe, κf, κg, κh, κi, κj, κk, κl, κm, reduceCtorEq, reduceIte, κn, κo, κp, κq, κr, κs, tys] <;> exact rfl))) | refine draw_end (by decide +kernel) ?_ | refine cond_bool (fun hb => ?_) (fun hb => ?_) | refine cond_bit (fun hb => ?_) (fun hb => ?_) | refine And.intro (by omega) ?_ | refine And.intro (fun hb => ?_) (fun hb => ?_) | fail); (all_goals (first | (refine Fin.pure ?_ ?_ ?_ <;> (try simp only [Tryz.results3, Tryz.ntmps3, wks, d1, d2, d3, vcs, κa, κb, κc, κd, κe, κf, κg, κh, κi, κj, κk, κl, κm, reduceCtorEq, reduceIte, κn, κo, κp, κq, κr, κs, tys]) <;> (try simp only [injs])) | skip)))
      · have d3 : decide ((17000 : Int) < (s.length : Int)) = false := decide_eq_false (by omega)
        refine ev_go (fun cargs w => Tryz.call3 cargs w) Tryz.func3 rfl mixed (by kernel_rfl) rfl ?_; intro b0 hb0
        ((repeat' first | simp only [fins, mems, Tryz.results3, Tryz.ntmps3, κt, wks, d1, d2, d3, q1, q2, q3, q4, vcs, κa, κb, κc, κd, κe, κf, κg, κh, κi, κj, κk, κl, κm, reduceCtorEq, reduceIte, κn, κo, κp, κq, κr, κs, tys] | exact rfl | refine call_off (v := .any) ?_ | ((first | (refine call_fn ?_ (hp1 _) ?_) | (refine call_fn_g ?_ (fun _ => hp1 _) ?_) | (refine call_fn ?_ (hr1 _) ?_) | (refine call_fn_g ?_ (fun _ => hr1 _) ?_)); (focus (simp only [Tryz.results3, Tryz.ntmps3, κt, wks, d1, d2, d3, q1, q2, q3, q4, vcs, κa, κb, κc, κd, κe, κf, κg, κh, κi, κj, κk, κl, κm, reduceCtorEq, reduceIte, κn, κo, κp, κq, κr, κs, tys] <;> exact rfl))) | ((first | (refine call_fn ?_ (hp2 _) ?_) | (refine call_fn_g ?_ (fun _ => hp2 _) ?_) | (refine call_fn ?_ (hr2 _) ?_) | (refine call_fn_g ?_ (fun _ => hr2 _) ?_)); (focus (simp only [Tryz.results3, Tryz.ntmps3, κt, wks, d1, d2, d3, q1, q2, q3, q4, vcs, κa, κb, κc, κd, κe, κf, κg, κh, κi, κj, κk, κl, κm, reduceCtorEq, reduceIte, κn, κo, κp, κq, κr, κs, tys] <;> exact rfl))) | ((first | (refine call_val (g := ?_) ?_ ?_) | (refine call_valg (g := ?_) ?_ ?_)); rotate_left 1; (focus (simp only [Tryz.results3, Tryz.ntmps3, κt, wks, d1, d2, d3, q1, q2, q3, q4, vcs, κa, κb, κc, κd, κe, κf, κg, κh, κi, κj, κk, κl, κm, reduceCtorEq, reduceIte, κn, κo, κp, κq, κr, κs, tys] <;> exact rfl))) | refine draw_end (by decide +kernel) ?_ | refine cond_bool (fun hb => ?_) (fun hb => ?_) | refine cond_bit (fun hb => ?_) (fun hb => ?_) | refine And.intro (by omega) ?_ | refine And.intro (fun hb => ?_) (fun hb => ?_) | fail); (all_goals (first | (refine Fin.pure ?_ ?_ ?_ <;> (try simp only [Tryz.results3, Tryz.ntmps3, wks, d1, d2, d3, q1, q2, q3, q4, vcs, κa, κb, κc, κd, κe, κf, κg, κh, κi, κj, κk, κl, κm, reduceCtorEq, reduceIte, κn, κo, κp, κq, κr, κs, tys]) <;> (try simp only [injs])) | skip)))
  · have d1 : decide ((2000 : Int) < (s.length : Int)) = false := decide_eq_false (by omega)
    have d3 : decide ((17000 : Int) < (s.length : Int)) = false := decide_eq_false (by omega)
    refine ev_go (fun cargs w => Tryz.call3 cargs w) Tryz.func3 rfl mixed (by kernel_rfl) rfl ?_; intro b0 hb0
    ((repeat' first | simp only [fins, mems, Tryz.results3, Tryz.ntmps3, κt, wks, d1, d3, q1, q2, q3, q4, vcs, κa, κb, κc, κd, κe, κf, κg, κh, κi, κj, κk, κl, κm, reduceCtorEq, reduceIte, κn, κo, κp, κq, κr, κs, tys] | exact rfl | refine call_off (v := .any) ?_ | ((first | (refine call_fn ?_ (hp1 _) ?_) | (refine call_fn_g ?_ (fun _ => hp1 _) ?_) | (refine call_fn ?_ (hr1 _) ?_) | (refine call_fn_g ?_ (fun _ => hr1 _) ?_)); (focus (simp only [Tryz.results3, Tryz.ntmps3, κt, wks, d1, d3, q1, q2, q3, q4, vcs, κa, κb, κc, κd, κe, κf, κg, κh, κi, κj, κk, κl, κm, reduceCtorEq, reduceIte, κn, κo, κp, κq, κr, κs, tys] <;> exact rfl))) | ((first | (refine call_fn ?_ (hp2 _) ?_) | (refine call_fn_g ?_ (fun _ => hp2 _) ?_) | (refine call_fn ?_ (hr2 _) ?_) | (refine call_fn_g ?_ (fun _ => hr2 _) ?_)); (focus (simp only [Tryz.results3, Tryz.ntmps3, κt, wks, d1, d3, q1, q2, q3, q4, vcs, κa, κb, κc, κd, κe, κf, κg, κh, κi, κj, κk, κl, κm, reduceCtorEq, reduceIte, κn, κo, κp, κq, κr, κs, tys] <;> exact rfl))) | ((first | (refine call_val (g := ?_) ?_ ?_) | (refine call_valg (g := ?_) ?_ ?_)); rotate_left 1; (focus (simp only [Tryz.results3, Tryz.ntmps3, κt, wks, d1, d3, q1, q2, q3, q4, vcs, κa, κb, κc, κd, κe, κf, κg, κh, κi, κj, κk, κl, κm, reduceCtorEq, reduceIte, κn, κo, κp, κq, κr, κs, tys] <;> exact rfl))) | refine draw_end (by decide +kernel) ?_ | refine cond_bool (fun hb => ?_) (fun hb => ?_) | refine cond_bit (fun hb => ?_) (fun hb => ?_) | refine And.intro (by omega) ?_ | refine And.intro (fun hb => ?_) (fun hb => ?_) | fail); (all_goals (first | (refine Fin.pure ?_ ?_ ?_ <;> (try simp only [Tryz.results3, Tryz.ntmps3, wks, d1, d3, q1, q2, q3, q4, vcs, κa, κb, κc, κd, κe, κf, κg, κh, κi, κj, κk, κl, κm, reduceCtorEq, reduceIte, κn, κo, κp, κq, κr, κs, tys]) <;> (try simp only [injs])) | skip)))
theorem escTells_args (xs : List V) (h : ShapeArgs cx.P Tryz.f3.params.toList xs) : Ev cx 3 0 xs Mem.nil (.bool true) [] := by
  rw [Tryz.params3] at h
  obtain ⟨_, v1, _, rfl, h1, _, v2, _, rfl, h2, h3⟩ := h
  obtain rfl := args_nil h3
  obtain ⟨s, rfl, hs⟩ := shape_str kind_9 h1
  obtain ⟨q, rfl⟩ := shape_bool kind_4 h2
  rw [argV_one kind_9 (by simp), argV_one kind_4 (by simp)]
  exact escTells_main s q (by unfold lim; omega) 0
end Go.Proofs.YtanahnknjboplaaGreatDoor
