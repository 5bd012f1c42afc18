/-
  Texts joined: XPi, XPj.
-/
import Derived.Test.YtoaclokiggoeiaaGreatDoorJw
import Derived.Test.YtoaclokiggoeiaaGreatDoorJ2
namespace Go.Proofs.YtoaclokiggoeiaaGreatDoor
set_option maxRecDepth 100000
set_option maxHeartbeats 32000000
set_option linter.unusedSimpArgs false
set_option linter.unusedVariables false
open Go Go.RowKit Go.Proofs.YtoaclokiggoeiaaGreatDoor.Vm Go.Lib
def bareA : List UInt8 := [60, 97, 47, 62]
def reps (k : Nat) : List UInt8 := (List.replicate k bareA).flatten
theorem reps_zero : reps 0 = [] := rfl
theorem reps_succ (k : Nat) : reps k ++ bareA = reps (k + 1) := by
  unfold reps
  rw [List.replicate_succ', List.flatten_append, List.flatten_singleton]
theorem reps_len (k : Nat) : (reps k).length = 4 * k := by
  induction k with
  | zero => rfl
  | succ k ih => rw [← reps_succ, List.length_append, ih]; simp [bareA]; omega
def tkA : Tk := ⟨3, [97], [], []⟩
theorem toksW_reps (k : Nat) : toksW (List.replicate k tkA) = reps k := by
  unfold toksW reps
  rw [List.flatMap_replicate]
  congr 2
theorem tokL_tkA : tokL tkA = true := by decide +kernel
theorem adj_reps : ∀ k, adjL (List.replicate k tkA) = false := by
  intro k
  induction k with
  | zero => rfl
  | succ k ih =>
    cases k with
    | zero => rfl
    | succ k => rw [List.replicate_succ, List.replicate_succ]; rw [List.replicate_succ] at ih; unfold adjL; rw [ih]; rfl
theorem all_reps (k : Nat) : ∀ t ∈ List.replicate k tkA, tokL t = true := fun t ht => by rw [List.eq_of_mem_replicate ht]; exact tokL_tkA
theorem lex_many : lexA (reps 512) = (List.replicate 512 tkA, 0, 0) := by
  have hj : joinE (List.replicate 512 tkA) = 0 := by
    unfold joinE
    rw [if_neg, if_neg]
    · rw [toksW_reps, reps_len, List.length_replicate]; omega
    · rintro (h | h)
      · rw [List.any_eq_true] at h
        obtain ⟨t, ht, h⟩ := h
        rw [all_reps 512 t ht] at h; cases h
      · rw [adj_reps] at h; cases h
  have h := lex_join hj
  unfold joinT at h
  rw [if_pos hj, toksW_reps] at h
  exact h
theorem pts_reps (k : Nat) (hk : k ≤ 600) : ptsErr (reps k) = 0 := by
  refine ptsErr_iff.2 ⟨by rw [reps_len]; omega, ?_⟩
  clear hk
  induction k with
  | zero => rfl
  | succ k ih => rw [← reps_succ]; exact dec_add ih rfl
theorem lex_more : lexA (reps 513) = ([], 2048, 4) := by
  unfold lexA
  rw [if_neg (fun h => h (pts_reps 513 (by omega))), ← reps_succ 512, ← toksW_reps 512, lexG_read _ bareA _ [] (all_reps 512) (adj_reps 512) (by rw [List.length_replicate, List.length_nil]; omega) (fun t ht hk => by
    have hm := List.mem_of_getLast? ht
    rw [List.eq_of_mem_replicate hm] at hk
    cases hk), lexG_many (by decide) (by rw [List.nil_append, List.length_replicate]; omega), toksW_reps, List.length_append, reps_len]
  rfl
def attA (k : Nat) : List UInt8 := (List.range k).flatMap fun i => [32, 97, UInt8.ofNat (97 + i), 61, 39, 39]
theorem attA_succ (k : Nat) : attA k ++ [32, 97] ++ [UInt8.ofNat (97 + k)] ++ [61, 39, 39] = attA (k + 1) := by
  unfold attA
  rw [List.range_succ, List.flatMap_append]
  simp
theorem attA_len (k : Nat) : (attA k).length = 6 * k := by
  induction k with
  | zero => rfl
  | succ k ih => rw [← attA_succ]; simp only [List.length_append,ih,List.length_cons,List.length_nil]; omega
theorem lex_attrs : lexA ([60, 97] ++ attA 17 ++ [47, 62]) = ([], 0, 4) := by rw [lexW_eq]; decide +kernel
theorem odd1 : oddB [60, 97, 32, 98, 61, 34, 49, 34, 99, 61, 34, 50, 34, 62] 0 = true := by rw [oddB_W]; decide +kernel
theorem odd2 : oddB [60, 97, 32, 98, 61, 34, 49, 34, 32, 98, 61, 34, 50, 34, 62] 0 = true := by rw [oddB_W]; decide +kernel
theorem odd3 : oddB [60, 33, 45, 45, 32, 45, 45, 62] 0 = true := by rw [oddB_W]; decide +kernel
theorem odd4 : oddB [60, 97] 0 = true := by rw [oddB_W]; decide +kernel
theorem odd5 : oddB [60, 32, 97, 62] 0 = true := by rw [oddB_W]; decide +kernel
theorem odd6 : oddB [60, 63, 120, 109, 108, 63, 62] 0 = true := by rw [oddB_W]; decide +kernel
theorem odd7 : oddB [120, 60, 97, 32, 98, 61, 49, 62] 1 = true := by rw [oddB_W]; decide +kernel
theorem odd8 : oddB [60, 97, 47, 62, 38] 4 = true := by rw [oddB_W]; decide +kernel
theorem odd9 : oddB [60, 58, 97, 62] 0 = true := by rw [oddB_W]; decide +kernel
theorem odd10 : oddB [60, 97, 58, 98, 58, 99, 62] 0 = true := by rw [oddB_W]; decide +kernel
theorem join1 : joinE [⟨1, [97], [⟨[98], [34, 10]⟩], []⟩] = 0 := by decide +kernel
theorem join1t : joinT [⟨1, [97], [⟨[98], [34, 10]⟩], []⟩] = [60, 97, 32, 98, 61, 34, 38, 113, 117, 111, 116, 59, 38, 35, 49, 48, 59, 34, 62] := by decide +kernel
theorem join2 : joinE [⟨4, [], [], [97]⟩, ⟨4, [], [], [98]⟩] = 8 := by decide +kernel
theorem join2t : joinT [⟨4, [], [], [97]⟩, ⟨4, [], [], [98]⟩] = [] := by decide +kernel
theorem tok1 : tokE ⟨1, [49, 97], [], []⟩ = 8 := by decide +kernel
theorem tok2 : tokE ⟨4, [], [], []⟩ = 8 := by decide +kernel
theorem tok3 : tokE ⟨0, [], [], []⟩ = 8 := by decide +kernel
theorem are1 : areB [] [] = true := by rw [areB_W]; decide +kernel
theorem are2 : areB [60, 97, 32, 98, 61, 39, 120, 10, 121, 39, 62] [⟨1, [97], [⟨[98], [120, 32, 121]⟩], []⟩] = true := by rw [areB_W]; decide +kernel
end Go.Proofs.YtoaclokiggoeiaaGreatDoor
namespace Go.Proofs.YtoaclokiggoeiaaGreatDoor
set_option maxRecDepth 100000
set_option maxHeartbeats 32000000
set_option linter.unusedSimpArgs false
set_option linter.unusedVariables false
open Nat renaming reduceAdd → Ka, reduceMul → Kb, reduceEqDiff → Kc, reduceLeDiff → Kd, reduceSub → Ke, reduceLT → Kf, reduceBEq → Kr, reduceBNe → Ks, reducePow → Kt
open Int renaming reduceToNat → Kg, reduceLE → Kh, reduceLT → Ki, reduceAdd → Kj, reduceSub → Kk, reduceMul → Kl, reduceNeg → Km, reduceBEq → Kn, reduceBNe → Ko, reduceEq → Kp, reduceNe → Kq
open Go Go.RowKit Go.Proofs.YtoaclokiggoeiaaGreatDoor.Vm Go.Lib
theorem odd_yes {s : List UInt8} {w : Nat} (h : oddB s w = true) (hs : s.length ≤ lim) (nm : Nat) : Ev cx 19 nm [.str s, .int .i64 w] Mem.nil (.bool true) [] := h ▸ odd_ev s w hs nm
theorem le_tk (k : Nat) (n t : List UInt8) : leL [.agg [.int .u8 k, .str n, .nils, .str t]] [.agg (tkC ⟨k, n, [], t⟩)] := by
  simp [leL,V.le,tkC]
theorem le_none : leL [.str [], .nils] [.str [], .sl false 4 (([] : List Tk).map tkC)] := by
  simp [leL,V.le]
theorem check_is {k : Nat} {n t : List UInt8} (h : tokE ⟨k, n, [], t⟩ = 8) (ho : (Tk.mk k n [] t).okTo lim) (nm : Nat) : Ev cx 18 nm [.agg [.int .u8 k, .str n, .nils, .str t]] Mem.nil (.int .i64 8) [] :=
  h ▸ (check_ev ⟨k, n, [], t⟩ ho nm).args_le (le_tk k n t)
theorem are_none (nm : Nat) : Ev cx 16 nm [.str [], .nils] Mem.nil (.bool true) [] :=
  are1 ▸ (are_ev [] [] (by decide) (by decide) (by simp) nm).args_le le_none
theorem lexNames_main (nm : Nat) : Ev cx 6 nm [] Mem.nil (.bool true) [] := by
  have ho1 := odd_yes odd1 (by decide)
  have ho2 := odd_yes odd2 (by decide)
  have ho3 := odd_yes odd3 (by decide)
  have ho4 := odd_yes odd4 (by decide)
  have ho5 := odd_yes odd5 (by decide)
  have ho6 := odd_yes odd6 (by decide)
  have ho7 := odd_yes odd7 (by decide)
  have ho8 := odd_yes odd8 (by decide)
  have ho9 := odd_yes odd9 (by decide)
  have ho10 := odd_yes odd10 (by decide)
  have hlx1 := lex_ev (reps 513) (by rw [reps_len]; decide)
  have hlx2 := lex_ev (reps 512) (by rw [reps_len]; decide)
  have hlx3 := lex_ev ([60, 97] ++ attA 17 ++ [47, 62]) (by decide)
  unfold lexV at hlx1 hlx2 hlx3
  rw [lex_more] at hlx1
  rw [lex_many] at hlx2
  rw [lex_attrs] at hlx3
  dsimp only at hlx1 hlx2 hlx3
  have hL : (List.replicate 512 tkA).length = 512 := List.length_replicate
  generalize List.replicate 512 tkA = L at hlx2 hL
  refine ev_go rfl (fun cargs w => Tryz.call6 cargs w) Tryz.func6 rfl mixed (by kernel_rfl) rfl ?_; intro b0 hb0
  repeat' first | simp only [Tryz.results6,Tryz.ntmps6,Kt,wks,vcs,Ka,Kb,Kc,Kd,Ke,Kf,Kg,Kh,Ki,Kj,Kk,Kl,Km,reduceCtorEq,reduceIte,Kn,Ko,Kp,Kq,Kr,Ks,tys] | exact rfl | ((first | (refine call_fn ?_ (ho1 _) ?_) | (refine call_fn_g ?_ (fun _ => ho1 _) ?_)); (focus (simp only [Tryz.results6,Tryz.ntmps6,Kt,wks,vcs,Ka,Kb,Kc,Kd,Ke,Kf,Kg,Kh,Ki,Kj,Kk,Kl,Km,reduceCtorEq,reduceIte,Kn,Ko,Kp,Kq,Kr,Ks,tys] <;> exact rfl))) | ((first | (refine call_fn ?_ (ho2 _) ?_) | (refine call_fn_g ?_ (fun _ => ho2 _) ?_)); (focus (simp only [Tryz.results6,Tryz.ntmps6,Kt,wks,vcs,Ka,Kb,Kc,Kd,Ke,Kf,Kg,Kh,Ki,Kj,Kk,Kl,Km,reduceCtorEq,reduceIte,Kn,Ko,Kp,Kq,Kr,Ks,tys] <;> exact rfl))) | ((first | (refine call_fn ?_ (ho3 _) ?_) | (refine call_fn_g ?_ (fun _ => ho3 _) ?_)); (focus (simp only [Tryz.results6,Tryz.ntmps6,Kt,wks,vcs,Ka,Kb,Kc,Kd,Ke,Kf,Kg,Kh,Ki,Kj,Kk,Kl,Km,reduceCtorEq,reduceIte,Kn,Ko,Kp,Kq,Kr,Ks,tys] <;> exact rfl))) | ((first | (refine call_fn ?_ (ho4 _) ?_) | (refine call_fn_g ?_ (fun _ => ho4 _) ?_)); (focus (simp only [Tryz.results6,Tryz.ntmps6,Kt,wks,vcs,Ka,Kb,Kc,Kd,Ke,Kf,Kg,Kh,Ki,Kj,Kk,Kl,Km,reduceCtorEq,reduceIte,Kn,Ko,Kp,Kq,Kr,Ks,tys] <;> exact rfl))) | ((first | (refine call_fn ?_ (ho5 _) ?_) | (refine call_fn_g ?_ (fun _ => ho5 _) ?_)); (focus (simp only [Tryz.results6,Tryz.ntmps6,Kt,wks,vcs,Ka,Kb,Kc,Kd,Ke,Kf,Kg,Kh,Ki,Kj,Kk,Kl,Km,reduceCtorEq,reduceIte,Kn,Ko,Kp,Kq,Kr,Ks,tys] <;> exact rfl))) | ((first | (refine call_fn ?_ (ho6 _) ?_) | (refine call_fn_g ?_ (fun _ => ho6 _) ?_)); (focus (simp only [Tryz.results6,Tryz.ntmps6,Kt,wks,vcs,Ka,Kb,Kc,Kd,Ke,Kf,Kg,Kh,Ki,Kj,Kk,Kl,Km,reduceCtorEq,reduceIte,Kn,Ko,Kp,Kq,Kr,Ks,tys] <;> exact rfl))) | ((first | (refine call_fn ?_ (ho7 _) ?_) | (refine call_fn_g ?_ (fun _ => ho7 _) ?_)); (focus (simp only [Tryz.results6,Tryz.ntmps6,Kt,wks,vcs,Ka,Kb,Kc,Kd,Ke,Kf,Kg,Kh,Ki,Kj,Kk,Kl,Km,reduceCtorEq,reduceIte,Kn,Ko,Kp,Kq,Kr,Ks,tys] <;> exact rfl))) | ((first | (refine call_fn ?_ (ho8 _) ?_) | (refine call_fn_g ?_ (fun _ => ho8 _) ?_)); (focus (simp only [Tryz.results6,Tryz.ntmps6,Kt,wks,vcs,Ka,Kb,Kc,Kd,Ke,Kf,Kg,Kh,Ki,Kj,Kk,Kl,Km,reduceCtorEq,reduceIte,Kn,Ko,Kp,Kq,Kr,Ks,tys] <;> exact rfl))) | ((first | (refine call_fn ?_ (ho9 _) ?_) | (refine call_fn_g ?_ (fun _ => ho9 _) ?_)); (focus (simp only [Tryz.results6,Tryz.ntmps6,Kt,wks,vcs,Ka,Kb,Kc,Kd,Ke,Kf,Kg,Kh,Ki,Kj,Kk,Kl,Km,reduceCtorEq,reduceIte,Kn,Ko,Kp,Kq,Kr,Ks,tys] <;> exact rfl))) | ((first | (refine call_fn ?_ (ho10 _) ?_) | (refine call_fn_g ?_ (fun _ => ho10 _) ?_)); (focus (simp only [Tryz.results6,Tryz.ntmps6,Kt,wks,vcs,Ka,Kb,Kc,Kd,Ke,Kf,Kg,Kh,Ki,Kj,Kk,Kl,Km,reduceCtorEq,reduceIte,Kn,Ko,Kp,Kq,Kr,Ks,tys] <;> exact rfl))) | ((first | apply cond_bool | apply cond_bit) <;> intro hb) | refine And.intro (by omega) ?_ | refine And.intro (fun hb => ?_) (fun hb => ?_) | fail
  (refine loop_can2 cxG (fun x : Nat => 512 - x) (fun x => x ≤ 512) (b0 + 1000) (fun x => [(1, .bool true), (2, .str (reps x)), (3, .int .i64 x)]) (fun x => []) (0) [] ?_ ?_ ?_ ?_; rotate_left 1; (focus (show b0 ≤ _; omega)); (focus (refine ⟨?_, ?_⟩ <;> (try simp only [cans,reps_zero,vcs,Ka,Kb,Kc,Kd,Ke,Kf,Kg,Kh,Ki,Kj,Kk,Kl,Km,reduceCtorEq,reduceIte,Kn,Ko,Kp,Kq,Kr,Ks,tys,injs]) <;> (try omega))); rotate_left 1)
  · exact Nat.zero_le _
  · intro i hi
    by_cases hlt : i < 512
    · have hd : decide ((i : Int) < 512) = true := decide_eq_true (by omega)
      have hwk : IntKind.i64.wrap ((i : Int) + 1) = ((i + 1 : Nat) : Int) := wrap_in (by omega) (by omega)
      have hl : (reps i ++ [60, 97, 47, 62]).length = 4 * i + 4 := by rw [List.length_append, reps_len]; rfl
      have hs : reps i ++ [60, 97, 47, 62] = reps (i + 1) := reps_succ i
      have hrl := reps_len i
      repeat' first | simp only [fins,mems,Tryz.results6,Tryz.ntmps6,Kt,wks,hd,hlt,hwk,hl,hs,vcs,Ka,Kb,Kc,Kd,Ke,Kf,Kg,Kh,Ki,Kj,Kk,Kl,Km,reduceCtorEq,reduceIte,Kn,Ko,Kp,Kq,Kr,Ks,tys] | exact rfl | refine call_off (v := .any) ?_ | ((first | apply cond_bool | apply cond_bit) <;> intro hb) | refine And.intro (by omega) ?_ | refine And.intro (fun hb => ?_) (fun hb => ?_) | fail
      all_goals ((refine again_can2 cxG (i + 1) [] ?_ ?_ ?_ ?_; rotate_left 2; (focus (show b0 ≤ _; omega)); (focus (refine ⟨?_, ?_⟩ <;> (try simp only [cans,hwk,hs,vcs,Ka,Kb,Kc,Kd,Ke,Kf,Kg,Kh,Ki,Kj,Kk,Kl,Km,reduceCtorEq,reduceIte,Kn,Ko,Kp,Kq,Kr,Ks,tys,injs]) <;> (try omega)))))
      all_goals (first | (show 512 - (i + 1) < 512 - i; omega) | (show i + 1 ≤ 512; omega) | skip)
    · obtain rfl : i = 512 := by omega
      clear hlt hi
      have hd : decide (((512 : Nat) : Int) < 512) = false := by decide
      have h4 : reps 512 ++ [60, 97, 47, 62] = reps 513 := reps_succ 512
      have h4l : (reps 513).length = 2052 := reps_len 513
      have h4l' : (reps 512).length = 2048 := reps_len 512
      have hla : (reps 512 ++ [60, 97, 47, 62]).length = 2052 := by rw [h4, h4l]
      repeat' first | simp only [Tryz.results6,Tryz.ntmps6,Kt,wks,plain_tk,hd,h4,h4l,h4l',hla,vcs,Ka,Kb,Kc,Kd,Ke,Kf,Kg,Kh,Ki,Kj,Kk,Kl,Km,reduceCtorEq,reduceIte,Kn,Ko,Kp,Kq,Kr,Ks,tys] | exact rfl | ((first | (refine call_fn ?_ (hlx1 _) ?_) | (refine call_fn_g ?_ (fun _ => hlx1 _) ?_)); (focus (simp only [Tryz.results6,Tryz.ntmps6,Kt,wks,plain_tk,hd,h4,h4l,h4l',hla,vcs,Ka,Kb,Kc,Kd,Ke,Kf,Kg,Kh,Ki,Kj,Kk,Kl,Km,reduceCtorEq,reduceIte,Kn,Ko,Kp,Kq,Kr,Ks,tys] <;> exact rfl))) | ((first | (refine call_fn ?_ (hlx2 _) ?_) | (refine call_fn_g ?_ (fun _ => hlx2 _) ?_)); (focus (simp only [Tryz.results6,Tryz.ntmps6,Kt,wks,plain_tk,hd,h4,h4l,h4l',hla,vcs,Ka,Kb,Kc,Kd,Ke,Kf,Kg,Kh,Ki,Kj,Kk,Kl,Km,reduceCtorEq,reduceIte,Kn,Ko,Kp,Kq,Kr,Ks,tys] <;> exact rfl))) | ((first | apply cond_bool | apply cond_bit) <;> intro hb) | refine And.intro (by omega) ?_ | refine And.intro (fun hb => ?_) (fun hb => ?_) | fail
      have ha0 : attA 0 = [] := rfl
      (refine loop_can2 cxG (fun x : Nat => 17 - x) (fun x => x ≤ 17) (b0 + 2000) (fun x => [(1, .bool true), (5, .int .i64 2048), (6, .int .i64 4), (7, .sl false 4 (L.map tkC)), (9, .int .i64 0), (10, .str (attA x)), (11, .int .i64 x)]) (fun x => []) (0) [] ?_ ?_ ?_ ?_; rotate_left 1; (focus (show b0 ≤ _; omega)); (focus (refine ⟨?_, ?_⟩ <;> (try simp only [cans,ha0,plain_tk,vcs,Ka,Kb,Kc,Kd,Ke,Kf,Kg,Kh,Ki,Kj,Kk,Kl,Km,reduceCtorEq,reduceIte,Kn,Ko,Kp,Kq,Kr,Ks,tys,injs]) <;> (try omega))); rotate_left 1)
      · exact Nat.zero_le _
      · intro i hi
        by_cases hlt : i < 17
        · have hd : decide ((i : Int) < 17) = true := decide_eq_true (by omega)
          have hwk : IntKind.i64.wrap ((i : Int) + 1) = ((i + 1 : Nat) : Int) := wrap_in (by omega) (by omega)
          have hw97 : IntKind.i64.wrap (97 + (i : Int)) = ((97 + i : Nat) : Int) := by rw [wrap_in (by omega) (by omega)]; omega
          have hw8 : IntKind.u8.wrap ((97 + i : Nat) : Int) = ((97 + i : Nat) : Int) := IntWalk.u8_in _ (by omega)
          have hal := attA_len i
          have hnx := attA_succ i
          have hl1 : (attA i ++ [32, 97]).length ≤ 200 := by rw [List.length_append, hal]; simp only [List.length_cons,List.length_nil]; omega
          have hl2 : (attA i ++ [32, 97] ++ [UInt8.ofNat (97 + i)]).length ≤ 200 := by rw [List.length_append, List.length_append, hal]; simp only [List.length_cons,List.length_nil]; omega
          have hrow : [V.int IntKind.u8 ((97 + i : Nat) : Int)] = byteRow (UInt8.ofNat (97 + i)) := by
            unfold byteRow
            rw [UInt8.toNat_ofNat_of_lt' (by show 97 + i < 256; omega)]
          have hr1 : (byteRow (UInt8.ofNat (97 + i))).length = 1 := rfl
          have hr2 : (byteRow (UInt8.ofNat (97 + i))).all V.one = true := rfl
          repeat' first | simp only [fins,mems,Tryz.results6,Tryz.ntmps6,Kt,wks,hd,hlt,hwk,hw97,hw8,hrow,hr1,hr2,hal,hl1,hl2,vcs,Ka,Kb,Kc,Kd,Ke,Kf,Kg,Kh,Ki,Kj,Kk,Kl,Km,reduceCtorEq,reduceIte,Kn,Ko,Kp,Kq,Kr,Ks,tys] | exact rfl | refine call_off (v := .any) ?_ | (refine ext_toStr (v := ?_) (bs := [UInt8.ofNat (97 + i)]) ?_ ?_ ?_ ?_ ?_ ?_ ?_; rotate_left 1; (iterate 2 (focus (simp only [Tryz.results6,Tryz.ntmps6,Kt,wks,hd,hlt,hwk,hw97,hw8,hrow,hr1,hr2,hal,hl1,hl2,vcs,Ka,Kb,Kc,Kd,Ke,Kf,Kg,Kh,Ki,Kj,Kk,Kl,Km,reduceCtorEq,reduceIte,Kn,Ko,Kp,Kq,Kr,Ks,tys]; done))); (focus (simp only [Tryz.results6,Tryz.ntmps6,Kt,wks,hd,hlt,hwk,hw97,hw8,hrow,hr1,hr2,hal,hl1,hl2,vcs,Ka,Kb,Kc,Kd,Ke,Kf,Kg,Kh,Ki,Kj,Kk,Kl,Km,reduceCtorEq,reduceIte,Kn,Ko,Kp,Kq,Kr,Ks,tys] <;> exact rfl)); (focus (exact rfl)); (focus (simp only [mems,Tryz.results6,Tryz.ntmps6,Kt,wks,hd,hlt,hwk,hw97,hw8,hrow,hr1,hr2,hal,hl1,hl2,vcs,Ka,Kb,Kc,Kd,Ke,Kf,Kg,Kh,Ki,Kj,Kk,Kl,Km,reduceCtorEq,reduceIte,Kn,Ko,Kp,Kq,Kr,Ks,tys]; done)); (focus (simp only [Tryz.results6,Tryz.ntmps6,Kt,wks,hd,hlt,hwk,hw97,hw8,hrow,hr1,hr2,hal,hl1,hl2,vcs,Ka,Kb,Kc,Kd,Ke,Kf,Kg,Kh,Ki,Kj,Kk,Kl,Km,reduceCtorEq,reduceIte,Kn,Ko,Kp,Kq,Kr,Ks,tys] <;> exact rfl))) | (refine extG_true ?_) | (refine extG_false ?_) | ((first | apply cond_bool | apply cond_bit) <;> intro hb) | refine And.intro (by omega) ?_ | refine And.intro (fun hb => ?_) (fun hb => ?_) | fail
          all_goals ((refine again_can2 cxG (i + 1) [] ?_ ?_ ?_ ?_; rotate_left 2; (focus (show b0 ≤ _; omega)); (focus (refine ⟨?_, ?_⟩ <;> (try simp only [cans,hwk,hnx,plain_tk,vcs,Ka,Kb,Kc,Kd,Ke,Kf,Kg,Kh,Ki,Kj,Kk,Kl,Km,reduceCtorEq,reduceIte,Kn,Ko,Kp,Kq,Kr,Ks,tys,injs]) <;> (try omega)))))
          all_goals (first | (show 17 - (i + 1) < 17 - i; omega) | (show i + 1 ≤ 17; omega) | skip)
        · obtain rfl : i = 17 := by omega
          clear hlt hi
          have hd : decide (((17 : Nat) : Int) < 17) = false := by decide
          have hal : (attA 17).length = 102 := attA_len 17
          have hal1 : ([60, 97] ++ attA 17).length = 104 := by rw [List.length_append, hal]; rfl
          have hal2 : ([60, 97] ++ attA 17 ++ [47, 62]).length = 106 := by rw [List.length_append, hal1]; rfl
          have hop1 := open_ev [97] [⟨[98], [34, 10]⟩]
          have hjo1 := join_ev [⟨1, [97], [⟨[98], [34, 10]⟩], []⟩] (by decide) (fun t ht => by rw [List.mem_singleton.1 ht]; exact ⟨⟨by decide, by decide, by decide, by decide⟩, by decide⟩)
          rw [join1, join1t] at hjo1
          generalize attA 17 = AT at hlx3 hal hal1 hal2
          repeat' first | simp only [fins,mems,Tryz.results6,Tryz.ntmps6,Kt,wks,plain_tk,hd,hal,hal1,hal2,fresh_self,List.length_cons,List.length_nil,vcs,Ka,Kb,Kc,Kd,Ke,Kf,Kg,Kh,Ki,Kj,Kk,Kl,Km,reduceCtorEq,reduceIte,Kn,Ko,Kp,Kq,Kr,Ks,tys] | exact rfl | refine call_off (v := .any) ?_ | (first | (refine call_fn ?_ (hlx3 _) ?_) | (refine call_fn_g ?_ (fun _ => hlx3 _) ?_)) | (refine call_fn_full ?_ [b0 + 2224] (hop1 (b0 + 2224) _ _ ?_ only_mem (by omega)) ?_ ?_) | ((first | apply cond_bool | apply cond_bit) <;> intro hb) | refine And.intro (by omega) ?_ | refine And.intro (fun hb => ?_) (fun hb => ?_) | fail
          refine call_fn_vd (xs := ?_) [b0 + 2256, b0 + 2224] ?_ (hjo1 _) ?_ ?_ rfl ?_
          rotate_left 1
          · simp only [mems,wks,vcs,Ka,Kb,Kc,Kd,Ke,Kf,Kg,Kh,Ki,Kj,Kk,Kl,Km,reduceCtorEq,reduceIte,Kn,Ko,Kp,Kq,Kr,Ks,tys] <;> exact rfl
          · simp only [dps,fins,mems,wks,finLL_cons,finLL_nil,finLLOk_cons,finLLOk_nil,leLL_cons,tkC,prC,plainL,V.plain,List.map_cons,List.map_nil,Bool.and_self,Bool.true_and,vcs,Ka,Kb,Kc,Kd,Ke,Kf,Kg,Kh,Ki,Kj,Kk,Kl,Km,reduceCtorEq,reduceIte,Kn,Ko,Kp,Kq,Kr,Ks,tys]
          · simp only [dps,fins,mems,wks,finLL_cons,finLL_nil,finLLOk_cons,finLLOk_nil,leLL_cons,tkC,prC,plainL,V.plain,List.map_cons,List.map_nil,Bool.and_self,Bool.true_and,vcs,Ka,Kb,Kc,Kd,Ke,Kf,Kg,Kh,Ki,Kj,Kk,Kl,Km,reduceCtorEq,reduceIte,Kn,Ko,Kp,Kq,Kr,Ks,tys]
          have hjo2 := join_ev [⟨4, [], [], [97]⟩, ⟨4, [], [], [98]⟩] (by decide) (fun t ht => by
            simp only [List.mem_cons,List.not_mem_nil,or_false] at ht
            rcases ht with rfl | rfl <;> exact ⟨⟨by decide, by decide, by decide, fun a ha => by cases ha⟩, by decide⟩)
          rw [join2, join2t] at hjo2
          repeat' first | simp only [fins,mems,Tryz.results6,Tryz.ntmps6,Kt,wks,plain_tk,fresh_self,List.length_cons,List.length_nil,vcs,Ka,Kb,Kc,Kd,Ke,Kf,Kg,Kh,Ki,Kj,Kk,Kl,Km,reduceCtorEq,reduceIte,Kn,Ko,Kp,Kq,Kr,Ks,tys] | exact rfl | refine call_off (v := .any) ?_ | ((first | apply cond_bool | apply cond_bit) <;> intro hb) | refine And.intro (by omega) ?_ | refine And.intro (fun hb => ?_) (fun hb => ?_) | fail
          refine call_fn_vd (xs := ?_) [b0 + 2400] ?_ (hjo2 _) ?_ ?_ rfl ?_
          rotate_left 1
          · simp only [mems,wks,vcs,Ka,Kb,Kc,Kd,Ke,Kf,Kg,Kh,Ki,Kj,Kk,Kl,Km,reduceCtorEq,reduceIte,Kn,Ko,Kp,Kq,Kr,Ks,tys] <;> exact rfl
          · simp only [dps,fins,mems,wks,finLL_cons,finLL_nil,finLLOk_cons,finLLOk_nil,leLL_cons,tkC,prC,plainL,V.plain,List.map_cons,List.map_nil,Bool.and_self,Bool.true_and,vcs,Ka,Kb,Kc,Kd,Ke,Kf,Kg,Kh,Ki,Kj,Kk,Kl,Km,reduceCtorEq,reduceIte,Kn,Ko,Kp,Kq,Kr,Ks,tys]
          · simp only [dps,fins,mems,wks,finLL_cons,finLL_nil,finLLOk_cons,finLLOk_nil,leLL_cons,tkC,prC,plainL,V.plain,List.map_cons,List.map_nil,Bool.and_self,Bool.true_and,vcs,Ka,Kb,Kc,Kd,Ke,Kf,Kg,Kh,Ki,Kj,Kk,Kl,Km,reduceCtorEq,reduceIte,Kn,Ko,Kp,Kq,Kr,Ks,tys]
          have hok : ∀ k n t, n.length ≤ 2 → t.length ≤ 2 → (Tk.mk k n [] t).okTo lim := fun k n t h1 h2 => ⟨Nat.zero_le _, Nat.le_trans h1 (by decide), Nat.le_trans h2 (by decide), fun a ha => by cases ha⟩
          have hck1 := check_is tok1 (hok _ _ _ (by decide) (by decide))
          have hck2 := check_is tok2 (hok _ _ _ (by decide) (by decide))
          have hck3 := check_is tok3 (hok _ _ _ (by decide) (by decide))
          repeat' first | simp only [Tryz.results6,Tryz.ntmps6,Kt,wks,plain_tk,hL,fresh_self,List.length_map,List.length_cons,List.length_nil,vcs,Ka,Kb,Kc,Kd,Ke,Kf,Kg,Kh,Ki,Kj,Kk,Kl,Km,reduceCtorEq,reduceIte,Kn,Ko,Kp,Kq,Kr,Ks,tys] | exact rfl | ((first | (refine call_fn ?_ (alive_ev _) ?_) | (refine call_fn_g ?_ (fun _ => alive_ev _) ?_) | (refine call_fn ?_ (openN_ev [49, 97] _) ?_) | (refine call_fn_g ?_ (fun _ => openN_ev [49, 97] _) ?_) | (refine call_fn ?_ (hck1 _) ?_) | (refine call_fn_g ?_ (fun _ => hck1 _) ?_) | (refine call_fn ?_ (are_none _) ?_) | (refine call_fn_g ?_ (fun _ => are_none _) ?_)); (focus (simp only [Tryz.results6,Tryz.ntmps6,Kt,wks,plain_tk,hL,fresh_self,List.length_map,List.length_cons,List.length_nil,vcs,Ka,Kb,Kc,Kd,Ke,Kf,Kg,Kh,Ki,Kj,Kk,Kl,Km,reduceCtorEq,reduceIte,Kn,Ko,Kp,Kq,Kr,Ks,tys] <;> exact rfl))) | ((first | (refine call_fn ?_ (hck2 _) ?_) | (refine call_fn_g ?_ (fun _ => hck2 _) ?_)); (focus (simp only [Tryz.results6,Tryz.ntmps6,Kt,wks,plain_tk,hL,fresh_self,List.length_map,List.length_cons,List.length_nil,vcs,Ka,Kb,Kc,Kd,Ke,Kf,Kg,Kh,Ki,Kj,Kk,Kl,Km,reduceCtorEq,reduceIte,Kn,Ko,Kp,Kq,Kr,Ks,tys] <;> exact rfl))) | ((first | (refine call_fn ?_ (hck3 _) ?_) | (refine call_fn_g ?_ (fun _ => hck3 _) ?_)); (focus (simp only [Tryz.results6,Tryz.ntmps6,Kt,wks,plain_tk,hL,fresh_self,List.length_map,List.length_cons,List.length_nil,vcs,Ka,Kb,Kc,Kd,Ke,Kf,Kg,Kh,Ki,Kj,Kk,Kl,Km,reduceCtorEq,reduceIte,Kn,Ko,Kp,Kq,Kr,Ks,tys] <;> exact rfl))) | ((first | apply cond_bool | apply cond_bit) <;> intro hb) | refine And.intro (by omega) ?_ | refine And.intro (fun hb => ?_) (fun hb => ?_) | fail
          have hop2 := open_ev [97] [⟨[98], [120, 32, 121]⟩]
          have har := are_ev [60, 97, 32, 98, 61, 39, 120, 10, 121, 39, 62] [⟨1, [97], [⟨[98], [120, 32, 121]⟩], []⟩] (by decide) (by decide) (fun t ht => by rw [List.mem_singleton.1 ht]; exact (by decide))
          rw [are2] at har
          repeat' first | simp only [fins,mems,Tryz.results6,Tryz.ntmps6,Kt,wks,plain_tk,hL,fresh_self,List.length_map,List.length_cons,List.length_nil,vcs,Ka,Kb,Kc,Kd,Ke,Kf,Kg,Kh,Ki,Kj,Kk,Kl,Km,reduceCtorEq,reduceIte,Kn,Ko,Kp,Kq,Kr,Ks,tys] | exact rfl | refine call_off (v := .any) ?_ | (refine call_on_fn ?_ [b0 + 3488] (hop2 (b0 + 3488) _ _ ?_ only_mem (by omega)) ?_ ?_) | ((first | apply cond_bool | apply cond_bit) <;> intro hb) | refine And.intro (by omega) ?_ | refine And.intro (fun hb => ?_) (fun hb => ?_) | fail
          refine call_fn_gvd (xs := ?_) [b0 + 3520, b0 + 3488] ?_ (fun _ => har _) (fun _ => ?_) (fun _ => ?_) rfl ?_
          rotate_left 1
          · simp only [mems,wks,vcs,Ka,Kb,Kc,Kd,Ke,Kf,Kg,Kh,Ki,Kj,Kk,Kl,Km,reduceCtorEq,reduceIte,Kn,Ko,Kp,Kq,Kr,Ks,tys] <;> exact rfl
          · simp only [dps,fins,mems,wks,finLL_cons,finLL_nil,finLLOk_cons,finLLOk_nil,leLL_cons,tkC,prC,plainL,V.plain,List.map_cons,List.map_nil,Bool.and_self,Bool.true_and,vcs,Ka,Kb,Kc,Kd,Ke,Kf,Kg,Kh,Ki,Kj,Kk,Kl,Km,reduceCtorEq,reduceIte,Kn,Ko,Kp,Kq,Kr,Ks,tys]
          · simp only [dps,fins,mems,wks,finLL_cons,finLL_nil,finLLOk_cons,finLLOk_nil,leLL_cons,tkC,prC,plainL,V.plain,List.map_cons,List.map_nil,Bool.and_self,Bool.true_and,vcs,Ka,Kb,Kc,Kd,Ke,Kf,Kg,Kh,Ki,Kj,Kk,Kl,Km,reduceCtorEq,reduceIte,Kn,Ko,Kp,Kq,Kr,Ks,tys]
          (repeat' first | simp only [fins,mems,Tryz.results6,Tryz.ntmps6,Kt,wks,plain_tk,hL,fresh_self,List.length_map,List.length_cons,List.length_nil,vcs,Ka,Kb,Kc,Kd,Ke,Kf,Kg,Kh,Ki,Kj,Kk,Kl,Km,reduceCtorEq,reduceIte,Kn,Ko,Kp,Kq,Kr,Ks,tys] | exact rfl | refine call_off (v := .any) ?_ | ((first | apply cond_bool | apply cond_bit) <;> intro hb) | refine And.intro (by omega) ?_ | refine And.intro (fun hb => ?_) (fun hb => ?_) | fail | refine Fin.pure ?_ ?_ ?_ | simp only [injs])
theorem lexNames_args (xs : List V) (h : ShapeArgs cx.P Tryz.f6.params.toList xs) : Ev cx 6 0 xs Mem.nil (.bool true) [] := by
  rw [Tryz.params6] at h
  obtain rfl := args_nil h
  exact lexNames_main 0
end Go.Proofs.YtoaclokiggoeiaaGreatDoor
