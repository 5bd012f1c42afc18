/-
  Texts joined: XGm.
-/
import Derived.Test.YtanahnknjboplaaDoorMi
/-
  EscNames by the machine: the limit's and errors' numbers, and the chapter's examples.
-/
namespace Go.Proofs.YtanahnknjboplaaDoor
set_option linter.unusedSimpArgs false
set_option linter.unusedVariables false
open Nat renaming reduceAdd → κa, reduceMul → κb, reduceEqDiff → κc, reduceLeDiff → κd, reduceSub → κe, reduceLT → κf, reduceBEq → κr, reduceBNe → κs, reducePow → κt
open Int renaming reduceToNat → κg, reduceLE → κh, reduceLT → κi, reduceAdd → κj, reduceSub → κk, reduceMul → κl, reduceNeg → κm, reduceBEq → κn, reduceBNe → κo, reduceEq → κp, reduceNe → κq
open Go Go.RowKit Go.Proofs.YtanahnknjboplaaDoor.Vm Go.Lib

theorem oddN1 (nm : Nat) : Ev cx 15 nm [.str [38, 35, 48, 59]] Mem.nil (.bool true) [] := odd_yes (by decide +kernel) (by decide) nm
theorem oddN2 (nm : Nat) : Ev cx 15 nm [.str [38, 110, 98, 115, 112, 59]] Mem.nil (.bool true) [] := odd_yes (by decide +kernel) (by decide) nm
theorem oddN3 (nm : Nat) : Ev cx 15 nm [.str [38, 35, 120, 48, 48, 52, 49, 59]] Mem.nil (.bool true) [] := odd_yes (by decide +kernel) (by decide) nm
theorem oddN4 (nm : Nat) : Ev cx 15 nm [.str [38]] Mem.nil (.bool true) [] := odd_yes (by decide +kernel) (by decide) nm
theorem oddN5 (nm : Nat) : Ev cx 15 nm [.str [97, 60]] Mem.nil (.bool true) [] := odd_yes (by decide +kernel) (by decide) nm
theorem oddN6 (nm : Nat) : Ev cx 15 nm [.str [38, 35, 59]] Mem.nil (.bool true) [] := odd_yes (by decide +kernel) (by decide) nm
theorem oddN7 (nm : Nat) : Ev cx 15 nm [.str [38, 35, 120, 59]] Mem.nil (.bool true) [] := odd_yes (by decide +kernel) (by decide) nm
theorem oddN8 (nm : Nat) : Ev cx 15 nm [.str [38, 35, 49, 49, 49, 52, 49, 49, 50, 59]] Mem.nil (.bool true) [] := odd_yes (by decide +kernel) (by decide) nm
theorem oddN9 (nm : Nat) : Ev cx 15 nm [.str [38, 35, 120, 68, 56, 48, 48, 59]] Mem.nil (.bool true) [] := odd_yes (by decide +kernel) (by decide) nm
theorem oddN10 (nm : Nat) : Ev cx 15 nm [.str [38, 97, 109, 112]] Mem.nil (.bool true) [] := odd_yes (by decide +kernel) (by decide) nm
theorem oddN11 (nm : Nat) : Ev cx 15 nm [.str [38, 59]] Mem.nil (.bool true) [] := odd_yes (by decide +kernel) (by decide) nm
theorem readN1 (nm : Nat) : Ev cx 17 nm [.str [38, 113, 117, 111, 116, 59, 38, 97, 112, 111, 115, 59, 62, 34, 39], .str [34, 39, 62, 34, 39]] Mem.nil (.bool true) [] := reads_yes (by decide +kernel) (by decide) nm
theorem readN2 (nm : Nat) : Ev cx 17 nm [.str [38, 35, 120, 49, 70, 54, 52, 50, 59, 38, 35, 57, 59], .str [240, 159, 153, 130, 9]] Mem.nil (.bool true) [] := reads_yes (by decide +kernel) (by decide) nm
theorem writeN1 (nm : Nat) : Ev cx 18 nm [.str [9, 10, 13, 39], .bool true, .str [38, 35, 57, 59, 38, 35, 49, 48, 59, 38, 35, 49, 51, 59, 39]] Mem.nil (.bool true) [] := writes_yes (by decide +kernel) (by decide) nm
theorem writeN2 (nm : Nat) : Ev cx 18 nm [.str [9, 10, 13], .bool false, .str [9, 10, 38, 35, 49, 51, 59]] Mem.nil (.bool true) [] := writes_yes (by decide +kernel) (by decide) nm
def manyB (k : Nat) : List UInt8 := List.replicate k 38 ++ List.replicate (4000 - k) 0
theorem manyB_length {k : Nat} (h : k ≤ 4000) : (manyB k).length = 4000 := by unfold manyB; rw [List.length_append, List.length_replicate, List.length_replicate]; omega
theorem manyB_zero : (manyB 0).map byteRow = List.replicate 4000 [.int .u8 0] := by unfold manyB; rw [List.replicate_zero, List.nil_append, List.map_replicate]; rfl
theorem made_many : madeK cx.P 36 4000 = ⟨1, (manyB 0).map byteRow⟩ := by
  unfold madeK
  rw [el_36, manyB_zero]; rfl
theorem manyB_all : manyB 4000 = List.replicate 4000 38 := by unfold manyB; rw [Nat.sub_self, List.replicate_zero, List.append_nil]
theorem manyB_set {k : Nat} (h : k < 4000) : ((manyB k).map byteRow).set k [.int .u8 38] = (manyB (k + 1)).map byteRow := by
  have e : [V.int .u8 38] = byteRow 38 := rfl
  rw [e, ← List.map_set]
  congr 1
  unfold manyB
  rw [List.set_append_right _ _ (by simp)]
  simp only [List.length_replicate, Nat.sub_self]
  obtain ⟨j, hj⟩ : ∃ j, 4000 - k = j + 1 := ⟨4000 - k - 1, by omega⟩
  rw [hj, List.replicate_succ, List.set_cons_zero, show 4000 - (k + 1) = j by omega, List.replicate_succ', List.append_assoc]; rfl
theorem manyB_get {k : Nat} (h : k < 4000) : ((manyB k).map byteRow)[k]? = some [.int .u8 0] := by
  rw [List.getElem?_map]
  unfold manyB
  rw [List.getElem?_append_right (by simp)]
  simp only [List.length_replicate, Nat.sub_self]
  rw [List.getElem?_replicate]
  rw [if_pos (by omega)]; rfl
theorem ren_bytesC (σ : List (Nat × Nat)) (bs : List UInt8) : Blk.ren σ ⟨1, bs.map byteRow⟩ = ⟨1, bs.map byteRow⟩ := Blk.ren_plain (plain_bsI bs) rfl
theorem renOk_bytesC (σ : List (Nat × Nat)) (bs : List UInt8) : Blk.renOk σ ⟨1, bs.map byteRow⟩ = true := by
  simp only [Blk.renOk, renOkLL, plain_bsI bs, Bool.true_or, Bool.true_and]
  rfl
theorem enc_rep : ∀ n, enc (List.replicate n 38) = List.replicate n 38
  | 0 => rfl
  | n + 1 => by
    have : enc (List.replicate (n + 1) 38) = encodeRune 38 ++ enc (List.replicate n 38) := by simp [enc, List.replicate_succ]
    rw [this, enc_rep n, show encodeRune 38 = [38] by decide +kernel, List.replicate_succ]; rfl
theorem escW_rep : ∀ n, (escW false (List.replicate n 38)).length = 5 * n
  | 0 => rfl
  | n + 1 => by
    have : escW false (List.replicate (n + 1) 38) = escB false 38 ++ escW false (List.replicate n 38) := by rw [List.replicate_succ]; rfl
    rw [this, List.length_append, escW_rep n, show (escB false 38).length = 5 by decide]; omega
theorem put_many : putE false (manyB 4000) = 4 ∧ putT false (manyB 4000) = [] := by
  rw [manyB_all]
  have hp : ptsErr (List.replicate 4000 38) = 0 := pts_iff.2 ⟨by rw [List.length_replicate]; decide, by rw [← enc_rep 4000, dec_enc _ (by rw [List.all_eq_true]; intro z hz; rw [List.eq_of_mem_replicate hz]; decide)]; rfl⟩
  have hw := escW_rep 4000
  have he : putE false (List.replicate 4000 38) = 4 := by unfold putE; rw [if_neg (by rw [hp]; exact fun h => h rfl), if_pos (by omega)]
  exact ⟨he, by unfold putT; rw [he]; rfl⟩
theorem put_nul : putE false [0] = 50 ∧ putT false [0] = [] := by decide +kernel
theorem get_ff : getE [255] = 50 ∧ getT [255] = [] := by rw [getE_F, getT_F]; decide +kernel
set_option maxRecDepth 100000 in
set_option maxHeartbeats 16000000 in
theorem escNames_main (nm : Nat) : Ev cx 4 nm [] Mem.nil (.bool true) [] := by
  have p1 := ePut_ev (manyB 4000) false (by rw [manyB_length (by omega)]; decide)
  rw [put_many.1, put_many.2] at p1
  have p2 := ePut_ev [0] false (by decide)
  rw [put_nul.1, put_nul.2] at p2
  have g1 := eGet_ev [255] (by decide)
  unfold getV at g1
  rw [get_ff.1, get_ff.2] at g1
  refine ev_go (fun cargs w => Tryd.call4 cargs w) Tryd.func4 rfl mixed (by kernel_rfl) rfl ?_; intro b0 hb0
  repeat' first | simp only [fins, mems, Tryd.results4, Tryd.ntmps4, κt, wks, vcs, κa, κb, κc, κd, κe, κf, κg, κh, κi, κj, κk, κl, κm, reduceCtorEq, reduceIte, κn, κo, κp, κq, κr, κs, tys] | exact rfl | refine call_off (v := .any) ?_ | (refine ext_make (n := ?_) (c := ?_) (kx := ?_) (ky := ?_) ?_ ?_ ?_ ?_ ?_ ?_; rotate_left 4; (iterate 2 (focus (simp only [Tryd.results4, Tryd.ntmps4, κt, wks, vcs, κa, κb, κc, κd, κe, κf, κg, κh, κi, κj, κk, κl, κm, reduceCtorEq, reduceIte, κn, κo, κp, κq, κr, κs, tys] <;> exact rfl))); (iterate 2 (focus (simp only [Tryd.results4, Tryd.ntmps4, κt, wks, vcs, κa, κb, κc, κd, κe, κf, κg, κh, κi, κj, κk, κl, κm, reduceCtorEq, reduceIte, κn, κo, κp, κq, κr, κs, tys] <;> omega))); (focus (simp only [madeOk, Tryd.results4, Tryd.ntmps4, κt, wks, vcs, κa, κb, κc, κd, κe, κf, κg, κh, κi, κj, κk, κl, κm, reduceCtorEq, reduceIte, κn, κo, κp, κq, κr, κs, tys] <;> omega))) | (refine extG_true ?_) | (refine extG_false ?_) | ((first | (refine call_val (g := ?_) ?_ ?_) | (refine call_valg (g := ?_) ?_ ?_)); rotate_left 1; (focus (simp only [Tryd.results4, Tryd.ntmps4, κt, wks, vcs, κa, κb, κc, κd, κe, κf, κg, κh, κi, κj, κk, κl, κm, reduceCtorEq, reduceIte, κn, κo, κp, κq, κr, κs, tys] <;> exact rfl))) | refine draw_end (by decide +kernel) ?_ | refine cond_bool (fun hb => ?_) (fun hb => ?_) | refine cond_bit (fun hb => ?_) (fun hb => ?_) | refine And.intro (by omega) ?_ | refine And.intro (fun hb => ?_) (fun hb => ?_) | fail
  (refine loop_can2 cxG (fun x : Nat => 4000 - x) (fun x => x ≤ 4000) (b0 + 16) (fun x => [(1, .own b0 0 4000), (2, .int .i64 x)]) (fun x => [(b0, ⟨1, (manyB x).map byteRow⟩)]) (0) [some (b0 + 16)] ?_ ?_ ?_ ?_; rotate_left 1; (focus (show b0 ≤ _; omega)); (focus (refine ⟨?_, ?_⟩ <;> (try simp only [cans, made_many, isRow_inst, ren_bytesC, renOk_bytesC, plain_bsI, vcs, κa, κb, κc, κd, κe, κf, κg, κh, κi, κj, κk, κl, κm, reduceCtorEq, reduceIte, κn, κo, κp, κq, κr, κs, tys, injs]) <;> (try omega))); rotate_left 1)
  · exact Nat.zero_le _
  · intro k hk
    by_cases hlt : k < 4000
    · have hd : decide ((k : Int) < 4000) = true := decide_eq_true (by omega)
      have hwk : IntKind.i64.wrap ((k : Int) + 1) = ((k + 1 : Nat) : Int) := wrap_in (by omega) (by omega)
      have hset := manyB_set hlt
      have hget := manyB_get hlt
      have hml := manyB_length hk
      repeat' first | simp only [fins, mems, Tryd.results4, Tryd.ntmps4, κt, wks, hd, hlt, hset, hget, hml, List.length_map, vcs, κa, κb, κc, κd, κe, κf, κg, κh, κi, κj, κk, κl, κm, reduceCtorEq, reduceIte, κn, κo, κp, κq, κr, κs, tys] | exact rfl | refine call_off (v := .any) ?_ | ((first | (refine call_val (g := ?_) ?_ ?_) | (refine call_valg (g := ?_) ?_ ?_)); rotate_left 1; (focus (simp only [Tryd.results4, Tryd.ntmps4, κt, wks, hd, hlt, hset, hget, hml, List.length_map, vcs, κa, κb, κc, κd, κe, κf, κg, κh, κi, κj, κk, κl, κm, reduceCtorEq, reduceIte, κn, κo, κp, κq, κr, κs, tys] <;> exact rfl))) | refine draw_end (by decide +kernel) ?_ | refine cond_bool (fun hb => ?_) (fun hb => ?_) | refine cond_bit (fun hb => ?_) (fun hb => ?_) | refine And.intro (by omega) ?_ | refine And.intro (fun hb => ?_) (fun hb => ?_) | fail
      all_goals ((refine again_can2 cxG (k + 1) [some b0] ?_ ?_ ?_ ?_; rotate_left 2; (focus (show b0 ≤ _; omega)); (focus (refine ⟨?_, ?_⟩ <;> (try simp only [cans, made_many, isRow_inst, plain_bsI, ren_bytesC, renOk_bytesC, hwk, vcs, κa, κb, κc, κd, κe, κf, κg, κh, κi, κj, κk, κl, κm, reduceCtorEq, reduceIte, κn, κo, κp, κq, κr, κs, tys, injs]) <;> (try omega)))))
      all_goals (first | (show 4000 - (k + 1) < 4000 - k; omega) | (show k + 1 ≤ 4000; omega) | skip)
    · have hke : k = 4000 := by omega
      subst hke
      have hml := manyB_length (k := 4000) (Nat.le_refl _)
      have htk : ((manyB 4000).map byteRow).take 4000 = (manyB 4000).map byteRow := List.take_of_length_le (by rw [List.length_map, hml]; exact Nat.le_refl _)
      generalize manyB 4000 = mb at hml htk p1
      ((repeat' first | simp only [fins, mems, Tryd.results4, Tryd.ntmps4, κt, wks, hml, htk, List.length_map, Nat.le_refl, vcs, κa, κb, κc, κd, κe, κf, κg, κh, κi, κj, κk, κl, κm, reduceCtorEq, reduceIte, κn, κo, κp, κq, κr, κs, tys] | exact rfl | refine call_off (v := .any) ?_ | ((first | (refine call_fn ?_ (p1 _) ?_) | (refine call_fn_g ?_ (fun _ => p1 _) ?_) | (refine call_fn ?_ (oddN1 _) ?_) | (refine call_fn_g ?_ (fun _ => oddN1 _) ?_) | (refine call_fn ?_ (readN1 _) ?_) | (refine call_fn_g ?_ (fun _ => readN1 _) ?_) | (refine call_fn ?_ (writeN1 _) ?_) | (refine call_fn_g ?_ (fun _ => writeN1 _) ?_)); (focus (simp only [Tryd.results4, Tryd.ntmps4, κt, wks, hml, htk, List.length_map, Nat.le_refl, vcs, κa, κb, κc, κd, κe, κf, κg, κh, κi, κj, κk, κl, κm, reduceCtorEq, reduceIte, κn, κo, κp, κq, κr, κs, tys] <;> exact rfl))) | ((first | (refine call_fn ?_ (p2 _) ?_) | (refine call_fn_g ?_ (fun _ => p2 _) ?_) | (refine call_fn ?_ (oddN2 _) ?_) | (refine call_fn_g ?_ (fun _ => oddN2 _) ?_) | (refine call_fn ?_ (readN2 _) ?_) | (refine call_fn_g ?_ (fun _ => readN2 _) ?_) | (refine call_fn ?_ (writeN2 _) ?_) | (refine call_fn_g ?_ (fun _ => writeN2 _) ?_)); (focus (simp only [Tryd.results4, Tryd.ntmps4, κt, wks, hml, htk, List.length_map, Nat.le_refl, vcs, κa, κb, κc, κd, κe, κf, κg, κh, κi, κj, κk, κl, κm, reduceCtorEq, reduceIte, κn, κo, κp, κq, κr, κs, tys] <;> exact rfl))) | ((first | (refine call_fn ?_ (oddN3 _) ?_) | (refine call_fn_g ?_ (fun _ => oddN3 _) ?_)); (focus (simp only [Tryd.results4, Tryd.ntmps4, κt, wks, hml, htk, List.length_map, Nat.le_refl, vcs, κa, κb, κc, κd, κe, κf, κg, κh, κi, κj, κk, κl, κm, reduceCtorEq, reduceIte, κn, κo, κp, κq, κr, κs, tys] <;> exact rfl))) | ((first | (refine call_fn ?_ (oddN4 _) ?_) | (refine call_fn_g ?_ (fun _ => oddN4 _) ?_)); (focus (simp only [Tryd.results4, Tryd.ntmps4, κt, wks, hml, htk, List.length_map, Nat.le_refl, vcs, κa, κb, κc, κd, κe, κf, κg, κh, κi, κj, κk, κl, κm, reduceCtorEq, reduceIte, κn, κo, κp, κq, κr, κs, tys] <;> exact rfl))) | ((first | (refine call_fn ?_ (oddN5 _) ?_) | (refine call_fn_g ?_ (fun _ => oddN5 _) ?_)); (focus (simp only [Tryd.results4, Tryd.ntmps4, κt, wks, hml, htk, List.length_map, Nat.le_refl, vcs, κa, κb, κc, κd, κe, κf, κg, κh, κi, κj, κk, κl, κm, reduceCtorEq, reduceIte, κn, κo, κp, κq, κr, κs, tys] <;> exact rfl))) | ((first | (refine call_fn ?_ (oddN6 _) ?_) | (refine call_fn_g ?_ (fun _ => oddN6 _) ?_)); (focus (simp only [Tryd.results4, Tryd.ntmps4, κt, wks, hml, htk, List.length_map, Nat.le_refl, vcs, κa, κb, κc, κd, κe, κf, κg, κh, κi, κj, κk, κl, κm, reduceCtorEq, reduceIte, κn, κo, κp, κq, κr, κs, tys] <;> exact rfl))) | ((first | (refine call_fn ?_ (oddN7 _) ?_) | (refine call_fn_g ?_ (fun _ => oddN7 _) ?_)); (focus (simp only [Tryd.results4, Tryd.ntmps4, κt, wks, hml, htk, List.length_map, Nat.le_refl, vcs, κa, κb, κc, κd, κe, κf, κg, κh, κi, κj, κk, κl, κm, reduceCtorEq, reduceIte, κn, κo, κp, κq, κr, κs, tys] <;> exact rfl))) | ((first | (refine call_fn ?_ (oddN8 _) ?_) | (refine call_fn_g ?_ (fun _ => oddN8 _) ?_)); (focus (simp only [Tryd.results4, Tryd.ntmps4, κt, wks, hml, htk, List.length_map, Nat.le_refl, vcs, κa, κb, κc, κd, κe, κf, κg, κh, κi, κj, κk, κl, κm, reduceCtorEq, reduceIte, κn, κo, κp, κq, κr, κs, tys] <;> exact rfl))) | ((first | (refine call_fn ?_ (oddN9 _) ?_) | (refine call_fn_g ?_ (fun _ => oddN9 _) ?_)); (focus (simp only [Tryd.results4, Tryd.ntmps4, κt, wks, hml, htk, List.length_map, Nat.le_refl, vcs, κa, κb, κc, κd, κe, κf, κg, κh, κi, κj, κk, κl, κm, reduceCtorEq, reduceIte, κn, κo, κp, κq, κr, κs, tys] <;> exact rfl))) | ((first | (refine call_fn ?_ (oddN10 _) ?_) | (refine call_fn_g ?_ (fun _ => oddN10 _) ?_)); (focus (simp only [Tryd.results4, Tryd.ntmps4, κt, wks, hml, htk, List.length_map, Nat.le_refl, vcs, κa, κb, κc, κd, κe, κf, κg, κh, κi, κj, κk, κl, κm, reduceCtorEq, reduceIte, κn, κo, κp, κq, κr, κs, tys] <;> exact rfl))) | ((first | (refine call_fn ?_ (oddN11 _) ?_) | (refine call_fn_g ?_ (fun _ => oddN11 _) ?_)); (focus (simp only [Tryd.results4, Tryd.ntmps4, κt, wks, hml, htk, List.length_map, Nat.le_refl, vcs, κa, κb, κc, κd, κe, κf, κg, κh, κi, κj, κk, κl, κm, reduceCtorEq, reduceIte, κn, κo, κp, κq, κr, κs, tys] <;> exact rfl))) | (first | (refine call_fn ?_ (g1 _) ?_) | (refine call_fn_g ?_ (fun _ => g1 _) ?_) | (refine call_fn ?_ (alive_ev _) ?_) | (refine call_fn_g ?_ (fun _ => alive_ev _) ?_)) | (refine ext_toStr (v := ?_) (bs := mb) ?_ ?_ ?_ ?_ ?_ ?_ ?_; rotate_left 1; (iterate 2 (focus (simp only [Tryd.results4, Tryd.ntmps4, κt, wks, hml, htk, List.length_map, Nat.le_refl, vcs, κa, κb, κc, κd, κe, κf, κg, κh, κi, κj, κk, κl, κm, reduceCtorEq, reduceIte, κn, κo, κp, κq, κr, κs, tys]; done))); (focus (simp only [Tryd.results4, Tryd.ntmps4, κt, wks, hml, htk, List.length_map, Nat.le_refl, vcs, κa, κb, κc, κd, κe, κf, κg, κh, κi, κj, κk, κl, κm, reduceCtorEq, reduceIte, κn, κo, κp, κq, κr, κs, tys] <;> exact rfl)); (focus (exact rfl)); (focus (simp only [mems, Tryd.results4, Tryd.ntmps4, κt, wks, hml, htk, List.length_map, Nat.le_refl, vcs, κa, κb, κc, κd, κe, κf, κg, κh, κi, κj, κk, κl, κm, reduceCtorEq, reduceIte, κn, κo, κp, κq, κr, κs, tys]; done)); (focus (simp only [Tryd.results4, Tryd.ntmps4, κt, wks, hml, htk, List.length_map, Nat.le_refl, vcs, κa, κb, κc, κd, κe, κf, κg, κh, κi, κj, κk, κl, κm, reduceCtorEq, reduceIte, κn, κo, κp, κq, κr, κs, tys] <;> exact rfl))) | (refine extG_true ?_) | (refine extG_false ?_) | ((first | (refine call_val (g := ?_) ?_ ?_) | (refine call_valg (g := ?_) ?_ ?_)); rotate_left 1; (focus (simp only [Tryd.results4, Tryd.ntmps4, κt, wks, hml, htk, List.length_map, Nat.le_refl, vcs, κa, κb, κc, κd, κe, κf, κg, κh, κi, κj, κk, κl, κm, reduceCtorEq, reduceIte, κn, κo, κp, κq, κr, κs, tys] <;> exact rfl))) | refine draw_end (by decide +kernel) ?_ | refine cond_bool (fun hb => ?_) (fun hb => ?_) | refine cond_bit (fun hb => ?_) (fun hb => ?_) | refine And.intro (by omega) ?_ | refine And.intro (fun hb => ?_) (fun hb => ?_) | fail); (all_goals (first | (refine Fin.pure ?_ ?_ ?_ <;> (try simp only [Tryd.results4, Tryd.ntmps4, wks, hml, htk, List.length_map, Nat.le_refl, vcs, κa, κb, κc, κd, κe, κf, κg, κh, κi, κj, κk, κl, κm, reduceCtorEq, reduceIte, κn, κo, κp, κq, κr, κs, tys]) <;> (try simp only [injs])) | skip)))
theorem escNames_args (xs : List V) (h : ShapeArgs cx.P Tryd.f4.params.toList xs) : Ev cx 4 0 xs Mem.nil (.bool true) [] := by
  rw [Tryd.params4] at h
  obtain rfl := args_nil h
  exact escNames_main 0
end Go.Proofs.YtanahnknjboplaaDoor
