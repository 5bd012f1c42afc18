/-
  Texts joined: XNt, XNu, XNv, XNw, XNx, XLo, XLj.
-/
import Derived.Test.YtoaclokiggoeiaaGreatDoorMk
namespace Go.Proofs.YtoaclokiggoeiaaGreatDoor
set_option maxRecDepth 100000
set_option maxHeartbeats 32000000
set_option linter.unusedSimpArgs false
set_option linter.unusedVariables false
open Nat renaming reduceAdd → Ka, reduceMul → Kb, reduceEqDiff → Kc, reduceLeDiff → Kd, reduceSub → Ke, reduceLT → Kf, reduceBEq → Kr, reduceBNe → Ks, reducePow → Kt
open Int renaming reduceToNat → Kg, reduceLE → Kh, reduceLT → Ki, reduceAdd → Kj, reduceSub → Kk, reduceMul → Kl, reduceNeg → Km, reduceBEq → Kn, reduceBNe → Ko, reduceEq → Kp, reduceNe → Kq
open Go Go.RowKit Go.Proofs.YtoaclokiggoeiaaGreatDoor.Vm Go.Lib
theorem wadd {a b : Nat} (h : a + b ≤ 4000000) : IntKind.i64.wrap ((a : Int) + (b : Int)) = ((a + b : Nat) : Int) := by rw [wrap_in (by omega) (by omega)]; omega
theorem wadd1 {a : Nat} (h : a ≤ 4000000) : IntKind.i64.wrap ((a : Int) + 1) = ((a + 1 : Nat) : Int) := by rw [wrap_in (by omega) (by omega)]; omega
theorem wadd2 {a : Nat} (h : a ≤ 4000000) : IntKind.i64.wrap ((a : Int) + 2) = ((a + 2 : Nat) : Int) := by rw [wrap_in (by omega) (by omega)]; omega
theorem at_cons {s r : List UInt8} {p : Nat} {c : UInt8} (h : s.drop p = c :: r) : s[p]? = some c ∧ p < s.length ∧ s.drop (p + 1) = r ∧ r.length = s.length - (p + 1) := by
  have h1 : s[p]? = some c := by
    have := congrArg (fun l => l[0]?) h
    simpa [List.getElem?_drop] using this
  have h2 := (List.getElem?_eq_some_iff.1 h1).1
  have h3 : s.drop (p + 1) = r := by
    have := congrArg (List.drop 1) h
    rwa [List.drop_drop, List.drop_succ_cons, List.drop_zero] at this
  refine ⟨h1, h2, h3, ?_⟩
  rw [← h3, List.length_drop]
theorem at_nil {s : List UInt8} {p : Nat} (h : s.drop p = []) : s.length ≤ p := List.drop_eq_nil_iff.1 h
theorem blank_pos {s : List UInt8} {p : Nat} (hp : p ≤ s.length) : s.drop (p + blankN (s.drop p)) = skipL (s.drop p) ∧ p + blankN (s.drop p) ≤ s.length := by
  have h1 := skip_le (s.drop p)
  have h2 : (s.drop p).length = s.length - p := List.length_drop
  have h3 : blankN (s.drop p) ≤ s.length - p := by unfold blankN; omega
  refine ⟨?_, by omega⟩
  rw [← List.drop_drop]
  unfold blankN skipL
  have e : s.drop p = (s.drop p).takeWhile blankB ++ (s.drop p).dropWhile blankB := (List.takeWhile_append_dropWhile).symm
  have hl := congrArg List.length e
  rw [List.length_append] at hl
  conv => lhs; arg 2; rw [e]
  rw [List.drop_left' (by omega)]
theorem name_pos {s n r : List UInt8} {p : Nat} (h : nameO (s.drop p) = some (n, r)) : wordW (s.drop p) = n ∧ s.drop (p + n.length) = r ∧ p + n.length ≤ s.length ∧ n ≠ [] := by
  obtain ⟨h1, h2, h3⟩ := name_some h
  obtain ⟨e, hn, _, _⟩ := name_lt h
  refine ⟨by unfold wordW; rw [h1, if_pos h3], ?_, ?_, hn⟩
  · rw [← List.drop_drop, e, List.drop_left]
  · have := congrArg List.length e
    rw [List.length_drop, List.length_append] at this
    have := List.length_pos_iff.2 hn
    omega
theorem name_no {s : List UInt8} (h : nameO s = none) : wordW s = [] := by
  have := name_none h
  unfold wordW; rw [this]; rfl
def outS (s : List UInt8) (i : Nat) : List UInt8 := (s.take i).map flatB ++ s.drop i
theorem out_length {s : List UInt8} {i : Nat} (h : i ≤ s.length) : (outS s i).length = s.length := by simp [outS]; omega
theorem out_at {s : List UInt8} {i : Nat} {c : UInt8} (h : s[i]? = some c) : (outS s i)[i]? = some c := by
  have hlt := (List.getElem?_eq_some_iff.1 h).1
  unfold outS
  rw [List.getElem?_append_right (by simp; omega)]
  simp only [List.length_map,List.length_take,List.getElem?_drop]
  rw [show i + (i - min i s.length) = i by omega]; exact h
theorem out_next {s : List UInt8} {i : Nat} {c : UInt8} (h : s[i]? = some c) : outS s (i + 1) = (outS s i).set i (flatB c) := by
  obtain ⟨hlt, hc⟩ := List.getElem?_eq_some_iff.1 h
  unfold outS
  rw [List.take_succ_eq_append_getElem hlt, hc, List.map_append, List.set_append_right _ _ (by simp; omega)]
  simp only [List.length_map,List.length_take,List.map_cons,List.map_nil,List.append_assoc,List.singleton_append]
  rw [show i - min i s.length = 0 by omega, List.drop_eq_getElem_cons hlt, List.set_cons_zero]
theorem out_end (s : List UInt8) : outS s s.length = s.map flatB := by simp [outS]
theorem out_same {s : List UInt8} {i : Nat} {c : UInt8} (h : s[i]? = some c) (hb : blankB c = false) : outS s (i + 1) = outS s i := by
  have h2 := out_at h
  rw [out_next h]
  have : flatB c = c := by unfold flatB; rw [hb]; rfl
  rw [this]
  obtain ⟨hlt, hc⟩ := List.getElem?_eq_some_iff.1 h2
  rw [← hc, List.set_getElem_self]
theorem byte_set (bs : List UInt8) (i : Nat) (c : UInt8) : (bs.map byteRow).set i (byteRow c) = (bs.set i c).map byteRow := (List.map_set).symm
theorem byte_at {bs : List UInt8} {i : Nat} {c : UInt8} (h : bs[i]? = some c) : (bs.map byteRow)[i]? = some (byteRow c) := by rw [List.getElem?_map, h]; rfl
theorem le_typed (t : TypeId) (r : List (List V)) : leBlk (@Blk.mk 1 r (.typed t)) (@Blk.mk 1 r instCells) = True := by
  refine eq_true ⟨rfl, ?_, leLL_refl r⟩
  exact .inr ⟨rfl, rfl⟩
theorem rTold_ev (s : List UInt8) (hs : s.length ≤ 1000000) (nm : Nat) : Ev cx 88 nm [.str s] Mem.nil (tellV (toldO s)) [] := by
  have hread := rRead_ev (s.map flatB) (by simp; omega)
  unfold toldO
  generalize readL (s.map flatB) = R at hread ⊢
  refine ev_go rfl (fun cargs w => Tryz.call88 cargs w) Tryz.func88 rfl mixed (by kernel_rfl) rfl ?_; intro b0 hb0
  repeat' first | simp only [fins,mems,Tryz.results88,Tryz.ntmps88,Kt,wks,vcs,Ka,Kb,Kc,Kd,Ke,Kf,Kg,Kh,Ki,Kj,Kk,Kl,Km,reduceCtorEq,reduceIte,Kn,Ko,Kp,Kq,Kr,Ks,tys] | exact rfl | refine call_off (v := .any) ?_ | (refine ext_toBytesO (bs := ?_) (el := ?_) ?_ ?_ ?_ ?_ ?_; rotate_left 2; (focus (simp only [Tryz.results88,Tryz.ntmps88,Kt,wks,vcs,Ka,Kb,Kc,Kd,Ke,Kf,Kg,Kh,Ki,Kj,Kk,Kl,Km,reduceCtorEq,reduceIte,Kn,Ko,Kp,Kq,Kr,Ks,tys]; done)); (focus (simp only [Tryz.results88,Tryz.ntmps88,Kt,wks,vcs,Ka,Kb,Kc,Kd,Ke,Kf,Kg,Kh,Ki,Kj,Kk,Kl,Km,reduceCtorEq,reduceIte,Kn,Ko,Kp,Kq,Kr,Ks,tys] <;> exact rfl)); (focus (simp only [Tryz.results88,Tryz.ntmps88,Kt,wks,vcs,Ka,Kb,Kc,Kd,Ke,Kf,Kg,Kh,Ki,Kj,Kk,Kl,Km,reduceCtorEq,reduceIte,Kn,Ko,Kp,Kq,Kr,Ks,tys]; done)); (focus (simp only [Tryz.results88,Tryz.ntmps88,Kt,wks,vcs,Ka,Kb,Kc,Kd,Ke,Kf,Kg,Kh,Ki,Kj,Kk,Kl,Km,reduceCtorEq,reduceIte,Kn,Ko,Kp,Kq,Kr,Ks,tys] <;> exact rfl))) | (refine extG_true ?_) | (refine extG_false ?_) | ((first | apply cond_bool | apply cond_bit) <;> intro hb) | refine And.intro (by omega) ?_ | refine And.intro (fun hb => ?_) (fun hb => ?_)
  (refine loop_can2 cxG (fun x : Nat => s.length - x) (fun x => x ≤ s.length) (b0 + 16) (fun x => [(4, .own b0 0 s.length), (5, .int .i64 x)]) (fun x => [(b0, ⟨1, (outS s x).map byteRow⟩)]) (0) [some (b0 + 48)] ?_ ?_ ?_ ?_; rotate_left 1; (focus (show b0 ≤ _; omega)); (focus (refine ⟨?_, ?_⟩ <;> (try simp only [cans,le_typed,plain_bsI,isRow_inst,isRow_typed,ren_bytesI,renOk_bytesI,outS,List.take_zero,List.map_nil,List.drop_zero,List.nil_append,vcs,Ka,Kb,Kc,Kd,Ke,Kf,Kg,Kh,Ki,Kj,Kk,Kl,Km,reduceCtorEq,reduceIte,Kn,Ko,Kp,Kq,Kr,Ks,tys,injs]) <;> (try omega))); rotate_left 1)
  · exact Nat.zero_le _
  · intro i hi
    have hol := out_length hi
    by_cases hlt : i < s.length
    · obtain ⟨c, hc⟩ : ∃ c, s[i]? = some c := ⟨_, List.getElem?_eq_getElem hlt⟩
      have hd : decide (i < s.length) = true := decide_eq_true hlt
      have hwk := wadd1 (a := i) (by omega)
      have hrow := byte_at (out_at hc)
      have hb := rBlank_ev c
      have hi' : i < ((outS s i).map byteRow).length := by rw [List.length_map, hol]; exact hlt
      cases hp : blankB c with
      | true =>
        rw [hp] at hb
        have hnx : ((outS s i).map byteRow).set i [.int .u8 32] = (outS s (i + 1)).map byteRow := by
          have h32 : flatB c = 32 := by unfold flatB; rw [hp]; rfl
          rw [out_next hc, h32, ← byte_set]; rfl
        repeat' first | simp only [fins,mems,Tryz.results88,Tryz.ntmps88,Kt,wks,hc,hd,hlt,hi',hrow,hwk,hol,hnx,byteRow,List.length_map,vcs,Ka,Kb,Kc,Kd,Ke,Kf,Kg,Kh,Ki,Kj,Kk,Kl,Km,reduceCtorEq,reduceIte,Kn,Ko,Kp,Kq,Kr,Ks,tys] | exact rfl | refine call_off (v := .any) ?_ | (first | (refine call_fn ?_ (hb _) ?_) | (refine call_fn_g ?_ (fun _ => hb _) ?_)) | ((first | apply cond_bool | apply cond_bit) <;> intro hb) | refine And.intro (by omega) ?_ | refine And.intro (fun hb => ?_) (fun hb => ?_)
        all_goals ((refine again_can2 cxG (i + 1) [some b0] ?_ ?_ ?_ ?_; rotate_left 2; (focus (show b0 ≤ _; omega)); (focus (refine ⟨?_, ?_⟩ <;> (try simp only [cans,le_typed,plain_bsI,isRow_inst,isRow_typed,ren_bytesI,renOk_bytesI,hwk,hnx,vcs,Ka,Kb,Kc,Kd,Ke,Kf,Kg,Kh,Ki,Kj,Kk,Kl,Km,reduceCtorEq,reduceIte,Kn,Ko,Kp,Kq,Kr,Ks,tys,injs]) <;> (try omega)))))
        all_goals (first | (show s.length - (i + 1) < s.length - i; omega) | (show i + 1 ≤ s.length; omega) | skip)
      | false =>
        rw [hp] at hb
        have hnx := out_same hc hp
        repeat' first | simp only [fins,mems,Tryz.results88,Tryz.ntmps88,Kt,wks,hc,hd,hlt,hi',hrow,hwk,hol,byteRow,List.length_map,vcs,Ka,Kb,Kc,Kd,Ke,Kf,Kg,Kh,Ki,Kj,Kk,Kl,Km,reduceCtorEq,reduceIte,Kn,Ko,Kp,Kq,Kr,Ks,tys] | exact rfl | refine call_off (v := .any) ?_ | (first | (refine call_fn ?_ (hb _) ?_) | (refine call_fn_g ?_ (fun _ => hb _) ?_)) | ((first | apply cond_bool | apply cond_bit) <;> intro hb) | refine And.intro (by omega) ?_ | refine And.intro (fun hb => ?_) (fun hb => ?_)
        all_goals ((refine again_can2 cxG (i + 1) [some b0] ?_ ?_ ?_ ?_; rotate_left 2; (focus (show b0 ≤ _; omega)); (focus (refine ⟨?_, ?_⟩ <;> (try simp only [cans,le_typed,plain_bsI,isRow_inst,isRow_typed,ren_bytesI,renOk_bytesI,hwk,hnx,vcs,Ka,Kb,Kc,Kd,Ke,Kf,Kg,Kh,Ki,Kj,Kk,Kl,Km,reduceCtorEq,reduceIte,Kn,Ko,Kp,Kq,Kr,Ks,tys,injs]) <;> (try omega)))))
        all_goals (first | (show s.length - (i + 1) < s.length - i; omega) | (show i + 1 ≤ s.length; omega) | skip)
    · have hke : i = s.length := by omega
      subst hke
      have hd : decide (s.length < s.length) = false := decide_eq_false (by omega)
      rw [out_end]
      have htk : ((s.map flatB).map byteRow).take s.length = (s.map flatB).map byteRow := List.take_of_length_le (by simp)
      cases R with
      | none =>
        rw [tellV_none] at hread ⊢
        (repeat' first | simp only [fins,mems,Tryz.results88,Tryz.ntmps88,Kt,wks,hd,htk,List.length_map,Nat.le_refl,vcs,Ka,Kb,Kc,Kd,Ke,Kf,Kg,Kh,Ki,Kj,Kk,Kl,Km,reduceCtorEq,reduceIte,Kn,Ko,Kp,Kq,Kr,Ks,tys] | exact rfl | refine call_off (v := .any) ?_ | (first | (refine call_fn ?_ (hread _) ?_) | (refine call_fn_g ?_ (fun _ => hread _) ?_)) | (refine ext_toStr (v := ?_) (bs := (s.map flatB)) ?_ ?_ ?_ ?_ ?_ ?_ ?_; rotate_left 1; (iterate 2 (focus (simp only [Tryz.results88,Tryz.ntmps88,Kt,wks,hd,htk,List.length_map,Nat.le_refl,vcs,Ka,Kb,Kc,Kd,Ke,Kf,Kg,Kh,Ki,Kj,Kk,Kl,Km,reduceCtorEq,reduceIte,Kn,Ko,Kp,Kq,Kr,Ks,tys]; done))); (focus (simp only [Tryz.results88,Tryz.ntmps88,Kt,wks,hd,htk,List.length_map,Nat.le_refl,vcs,Ka,Kb,Kc,Kd,Ke,Kf,Kg,Kh,Ki,Kj,Kk,Kl,Km,reduceCtorEq,reduceIte,Kn,Ko,Kp,Kq,Kr,Ks,tys] <;> exact rfl)); (focus (exact rfl)); (focus (simp only [mems,Tryz.results88,Tryz.ntmps88,Kt,wks,hd,htk,List.length_map,Nat.le_refl,vcs,Ka,Kb,Kc,Kd,Ke,Kf,Kg,Kh,Ki,Kj,Kk,Kl,Km,reduceCtorEq,reduceIte,Kn,Ko,Kp,Kq,Kr,Ks,tys]; done)); (focus (simp only [Tryz.results88,Tryz.ntmps88,Kt,wks,hd,htk,List.length_map,Nat.le_refl,vcs,Ka,Kb,Kc,Kd,Ke,Kf,Kg,Kh,Ki,Kj,Kk,Kl,Km,reduceCtorEq,reduceIte,Kn,Ko,Kp,Kq,Kr,Ks,tys] <;> exact rfl))) | (refine extG_true ?_) | (refine extG_false ?_) | ((first | apply cond_bool | apply cond_bit) <;> intro hb) | refine And.intro (by omega) ?_ | refine And.intro (fun hb => ?_) (fun hb => ?_) | refine Fin.pure ?_ ?_ ?_ | simp only [injs])
      | some x =>
        rw [tellV_some] at hread ⊢
        (repeat' first | simp only [fins,mems,Tryz.results88,Tryz.ntmps88,Kt,wks,hd,htk,List.length_map,Nat.le_refl,vcs,Ka,Kb,Kc,Kd,Ke,Kf,Kg,Kh,Ki,Kj,Kk,Kl,Km,reduceCtorEq,reduceIte,Kn,Ko,Kp,Kq,Kr,Ks,tys] | exact rfl | refine call_off (v := .any) ?_ | (first | (refine call_fn ?_ (hread _) ?_) | (refine call_fn_g ?_ (fun _ => hread _) ?_)) | (refine ext_toStr (v := ?_) (bs := (s.map flatB)) ?_ ?_ ?_ ?_ ?_ ?_ ?_; rotate_left 1; (iterate 2 (focus (simp only [Tryz.results88,Tryz.ntmps88,Kt,wks,hd,htk,List.length_map,Nat.le_refl,vcs,Ka,Kb,Kc,Kd,Ke,Kf,Kg,Kh,Ki,Kj,Kk,Kl,Km,reduceCtorEq,reduceIte,Kn,Ko,Kp,Kq,Kr,Ks,tys]; done))); (focus (simp only [Tryz.results88,Tryz.ntmps88,Kt,wks,hd,htk,List.length_map,Nat.le_refl,vcs,Ka,Kb,Kc,Kd,Ke,Kf,Kg,Kh,Ki,Kj,Kk,Kl,Km,reduceCtorEq,reduceIte,Kn,Ko,Kp,Kq,Kr,Ks,tys] <;> exact rfl)); (focus (exact rfl)); (focus (simp only [mems,Tryz.results88,Tryz.ntmps88,Kt,wks,hd,htk,List.length_map,Nat.le_refl,vcs,Ka,Kb,Kc,Kd,Ke,Kf,Kg,Kh,Ki,Kj,Kk,Kl,Km,reduceCtorEq,reduceIte,Kn,Ko,Kp,Kq,Kr,Ks,tys]; done)); (focus (simp only [Tryz.results88,Tryz.ntmps88,Kt,wks,hd,htk,List.length_map,Nat.le_refl,vcs,Ka,Kb,Kc,Kd,Ke,Kf,Kg,Kh,Ki,Kj,Kk,Kl,Km,reduceCtorEq,reduceIte,Kn,Ko,Kp,Kq,Kr,Ks,tys] <;> exact rfl))) | (refine extG_true ?_) | (refine extG_false ?_) | ((first | apply cond_bool | apply cond_bit) <;> intro hb) | refine And.intro (by omega) ?_ | refine And.intro (fun hb => ?_) (fun hb => ?_) | refine Fin.pure ?_ ?_ ?_ | simp only [injs])
def takV (s : List UInt8) : Option (Tk × List UInt8) → V
  | some (t, r) => .tup [.agg (tkC t), .int .i64 ((s.length - r.length : Nat) : Int)]
  | none => .tup [.agg (tkC ⟨0, [], [], []⟩), .int .i64 (-1)]
theorem takV_none (s : List UInt8) : takV s none = .tup [.agg (tkC ⟨0, [], [], []⟩), .int .i64 (-1)] := rfl
theorem takV_some (s : List UInt8) (t : Tk) (r : List UInt8) : takV s (some (t, r)) = .tup [.agg (tkC t), .int .i64 ((s.length - r.length : Nat) : Int)] := rfl
theorem rShut_ev (s t : List UInt8) (at' : Nat) (hs : s.length ≤ 1000000) (h : s.drop at' = 60 :: 47 :: t) (nm : Nat) : Ev cx 65 nm [.str s, .int .i64 at'] Mem.nil (takV s (tagO (47 :: t))) [] := by
  obtain ⟨_, a1, a2, _⟩ := at_cons h
  obtain ⟨_, a3, a4, _⟩ := at_cons a2
  have a4 : s.drop (at' + 2) = t := a4
  have hwd := rWord_ev s (at' + 2) hs (by omega)
  rw [a4] at hwd
  have w0 := wadd2 (a := at') (by omega)
  have b4 : at' + 2 ≤ s.length := by omega
  generalize hp0 : at' + 2 = p0 at *
  have ht : tagO (47 :: t) = (nameO t).bind fun p => (afterO 62 (skipL p.2)).map fun r => (⟨2, p.1, [], []⟩, r) := by
    unfold tagO; rw [after_cons, if_pos rfl]
  rw [ht]
  cases h1 : nameO t with
  | none =>
    rw [Option.bind_none, takV_none]
    have hw := name_no h1
    rw [hw] at hwd
    have hbl := rBlanks_ev s p0 hs (by omega)
    obtain ⟨_, p2⟩ := blank_pos (s := s) (p := p0) (by omega)
    generalize blankN (s.drop p0) = k at hbl p2
    have w1 := wadd (a := p0) (b := k) (by omega)
    have w00 : IntKind.i64.wrap (p0 : Int) = (p0 : Int) := wrap_in (by omega) (by omega)
    refine ev_go rfl (fun cargs w => Tryz.call65 cargs w) Tryz.func65 rfl mixed (by kernel_rfl) rfl ?_; intro b0 hb0
    (repeat' first | simp only [fins,mems,Tryz.results65,Tryz.ntmps65,Kt,wks,w0,w00,w1,tkC,List.map_nil,List.length_nil,Int.ofNat_zero,Int.add_zero,vcs,Ka,Kb,Kc,Kd,Ke,Kf,Kg,Kh,Ki,Kj,Kk,Kl,Km,reduceCtorEq,reduceIte,Kn,Ko,Kp,Kq,Kr,Ks,tys] | exact rfl | refine call_off (v := .any) ?_ | (first | (refine call_fn ?_ (hwd _) ?_) | (refine call_fn_g ?_ (fun _ => hwd _) ?_) | (refine call_fn ?_ (hbl _) ?_) | (refine call_fn_g ?_ (fun _ => hbl _) ?_)) | ((first | apply cond_bool | apply cond_bit) <;> intro hb) | refine And.intro (by omega) ?_ | refine And.intro (fun hb => ?_) (fun hb => ?_) | refine Fin.pure ?_ ?_ ?_ | simp only [injs])
  | some p =>
    obtain ⟨n, r1⟩ := p
    rw [← a4] at h1
    obtain ⟨q1, q2, q3, q4⟩ := name_pos h1
    rw [a4] at q1
    rw [q1] at hwd
    have w1 := wadd (a := p0) (b := n.length) (by omega)
    generalize hp1 : p0 + n.length = pn at *
    have hbl := rBlanks_ev s pn hs (by omega)
    obtain ⟨p1, p2⟩ := blank_pos (s := s) (p := pn) (by omega)
    rw [q2] at hbl p1 p2
    have w2 := wadd (a := pn) (b := blankN r1) (by omega)
    have w3 := wadd1 (a := pn + blankN r1) (by omega)
    have hn0 : (n == []) = false := by simpa using q4
    simp only [Option.bind_some]
    have hz : (0 : Int) ≤ ((pn + blankN r1 : Nat) : Int) := by omega
    generalize pn + blankN r1 = p at p1 p2 w2 w3 hz
    cases hsk : skipL r1 with
    | nil =>
      rw [hsk] at p1
      have hl := at_nil p1
      have hd : decide (s.length ≤ p) = true := decide_eq_true hl
      have ha : afterO 62 [] = none := rfl
      rw [ha, Option.map_none, takV_none]
      refine ev_go rfl (fun cargs w => Tryz.call65 cargs w) Tryz.func65 rfl mixed (by kernel_rfl) rfl ?_; intro b0 hb0
      (repeat' first | simp only [fins,mems,Tryz.results65,Tryz.ntmps65,Kt,wks,w0,w1,w2,w3,hz,hn0,hd,tkC,List.map_nil,vcs,Ka,Kb,Kc,Kd,Ke,Kf,Kg,Kh,Ki,Kj,Kk,Kl,Km,reduceCtorEq,reduceIte,Kn,Ko,Kp,Kq,Kr,Ks,tys] | exact rfl | refine call_off (v := .any) ?_ | (first | (refine call_fn ?_ (hwd _) ?_) | (refine call_fn_g ?_ (fun _ => hwd _) ?_) | (refine call_fn ?_ (hbl _) ?_) | (refine call_fn_g ?_ (fun _ => hbl _) ?_)) | ((first | apply cond_bool | apply cond_bit) <;> intro hb) | refine And.intro (by omega) ?_ | refine And.intro (fun hb => ?_) (fun hb => ?_) | refine Fin.pure ?_ ?_ ?_ | simp only [injs])
    | cons c r =>
      rw [hsk] at p1
      obtain ⟨c1, c2, c3, c4⟩ := at_cons p1
      have hd : decide (s.length ≤ p) = false := decide_eq_false (by omega)
      have q62 : ((c.toNat : Int) == 62) = decide (c = 62) := beq_byte c 62
      rw [after_cons]
      by_cases hc : c = 62
      · rw [if_pos hc, Option.map_some, takV_some]
        rw [decide_eq_true hc] at q62
        have q62' : ((c.toNat : Int) != 62) = false := by unfold bne; rw [q62]; rfl
        have hlen : ((s.length - r.length : Nat) : Int) = ((p + 1 : Nat) : Int) := by omega
        rw [hlen]
        refine ev_go rfl (fun cargs w => Tryz.call65 cargs w) Tryz.func65 rfl mixed (by kernel_rfl) rfl ?_; intro b0 hb0
        (repeat' first | simp only [fins,mems,Tryz.results65,Tryz.ntmps65,Kt,wks,w0,w1,w2,w3,hz,hn0,hd,c1,c2,q62,q62',tkC,List.map_nil,Int.toNat_natCast,vcs,Ka,Kb,Kc,Kd,Ke,Kf,Kg,Kh,Ki,Kj,Kk,Kl,Km,reduceCtorEq,reduceIte,Kn,Ko,Kp,Kq,Kr,Ks,tys] | exact rfl | refine call_off (v := .any) ?_ | (first | (refine call_fn ?_ (hwd _) ?_) | (refine call_fn_g ?_ (fun _ => hwd _) ?_) | (refine call_fn ?_ (hbl _) ?_) | (refine call_fn_g ?_ (fun _ => hbl _) ?_)) | ((first | apply cond_bool | apply cond_bit) <;> intro hb) | refine And.intro (by omega) ?_ | refine And.intro (fun hb => ?_) (fun hb => ?_) | refine Fin.pure ?_ ?_ ?_ | simp only [injs])
      · rw [if_neg hc, Option.map_none, takV_none]
        rw [decide_eq_false hc] at q62
        have q62' : ((c.toNat : Int) != 62) = true := by unfold bne; rw [q62]; rfl
        refine ev_go rfl (fun cargs w => Tryz.call65 cargs w) Tryz.func65 rfl mixed (by kernel_rfl) rfl ?_; intro b0 hb0
        (repeat' first | simp only [fins,mems,Tryz.results65,Tryz.ntmps65,Kt,wks,w0,w1,w2,w3,hz,hn0,hd,c1,c2,q62,q62',tkC,List.map_nil,Int.toNat_natCast,vcs,Ka,Kb,Kc,Kd,Ke,Kf,Kg,Kh,Ki,Kj,Kk,Kl,Km,reduceCtorEq,reduceIte,Kn,Ko,Kp,Kq,Kr,Ks,tys] | exact rfl | refine call_off (v := .any) ?_ | (first | (refine call_fn ?_ (hwd _) ?_) | (refine call_fn_g ?_ (fun _ => hwd _) ?_) | (refine call_fn ?_ (hbl _) ?_) | (refine call_fn_g ?_ (fun _ => hbl _) ?_)) | ((first | apply cond_bool | apply cond_bit) <;> intro hb) | refine And.intro (by omega) ?_ | refine And.intro (fun hb => ?_) (fun hb => ?_) | refine Fin.pure ?_ ?_ ?_ | simp only [injs])
def takA (s : List UInt8) : Option (Pr × List UInt8) → V
  | some (a, r) => .tup [.agg (prC a), .int .i64 ((s.length - r.length : Nat) : Int)]
  | none => .tup [.agg [.str [], .str []], .int .i64 (-1)]
theorem takA_none (s : List UInt8) : takA s none = .tup [.agg [.str [], .str []], .int .i64 (-1)] := rfl
theorem takA_some (s : List UInt8) (a : Pr) (r : List UInt8) : takA s (some (a, r)) = .tup [.agg (prC a), .int .i64 ((s.length - r.length : Nat) : Int)] := rfl
def notQ (q c : UInt8) : Bool := c != q
theorem cut_span {s : List UInt8} {p e : Nat} {q : UInt8} (h : spanTo (notQ q) s p e) : (s[e]? = some q → cut1 q (s.drop p) = some ((s.drop p).take (e - p), s.drop (e + 1))) ∧ (e = s.length → cut1 q (s.drop p) = none) := by
  obtain ⟨h1, h2, h3⟩ := h
  have hn : q ∉ (s.drop p).take (e - p) := fun hm => by
    have := h3 q hm
    simp [notQ] at this
  constructor
  · intro he
    have hd : (s.drop p)[e - p]? = some q := by rw [List.getElem?_drop, Nat.add_sub_cancel' h1]; exact he
    rw [cut1_at hn hd, List.drop_drop]
    congr 3
    omega
  · intro he
    rw [cut1_none]
    have : (s.drop p).take (e - p) = s.drop p := List.take_of_length_le (by rw [List.length_drop]; omega)
    rwa [this] at hn
theorem rAttr_ev (s : List UInt8) (at' : Nat) (hs : s.length ≤ 1000000) (ha : at' ≤ s.length) (nm : Nat) : Ev cx 68 nm [.str s, .int .i64 at'] Mem.nil (takA s (attrO (s.drop at'))) [] := by
  have hwd := rWord_ev s at' hs ha
  have unf : ∀ r, attrO r = (nameO r).bind fun p => (afterO 61 (skipL p.2)).bind fun t => (valueO (skipL t)).map fun q => (⟨p.1, q.1⟩, q.2) := fun _ => rfl
  cases h1 : nameO (s.drop at') with
  | none =>
    rw [unf, h1, Option.bind_none, takA_none]
    rw [name_no h1] at hwd
    refine ev_go rfl (fun cargs w => Tryz.call68 cargs w) Tryz.func68 rfl mixed (by kernel_rfl) rfl ?_; intro b0 hb0
    (repeat' first | simp only [fins,mems,Tryz.results68,Tryz.ntmps68,Kt,wks,vcs,Ka,Kb,Kc,Kd,Ke,Kf,Kg,Kh,Ki,Kj,Kk,Kl,Km,reduceCtorEq,reduceIte,Kn,Ko,Kp,Kq,Kr,Ks,tys] | exact rfl | refine call_off (v := .any) ?_ | (first | (refine call_fn ?_ (hwd _) ?_) | (refine call_fn_g ?_ (fun _ => hwd _) ?_)) | refine draw_end (by decide +kernel) ?_ | ((first | apply cond_bool | apply cond_bit) <;> intro hb) | refine And.intro (by omega) ?_ | refine And.intro (fun hb => ?_) (fun hb => ?_) | refine Fin.pure ?_ ?_ ?_ | simp only [injs])
  | some p0 =>
    obtain ⟨n, r1⟩ := p0
    obtain ⟨q1, q2, q3, q4⟩ := name_pos h1
    rw [unf, h1]
    simp only [Option.bind_some]
    rw [q1] at hwd
    have w1 := wadd (a := at') (b := n.length) (by omega)
    generalize hp1 : at' + n.length = pn at *
    have hbl := rBlanks_ev s pn hs q3
    obtain ⟨p1, p2⟩ := blank_pos (s := s) (p := pn) q3
    rw [q2] at hbl p1 p2
    have w2 := wadd (a := pn) (b := blankN r1) (by omega)
    have w3 := wadd1 (a := pn + blankN r1) (by omega)
    have hn0 : (n == []) = false := by simpa using q4
    have hz : (0 : Int) ≤ ((pn + blankN r1 : Nat) : Int) := by omega
    generalize pn + blankN r1 = p at p1 p2 w2 w3 hz
    cases hsk : skipL r1 with
    | nil =>
      rw [hsk] at p1
      have hd : decide (s.length ≤ p) = true := decide_eq_true (at_nil p1)
      have hno : afterO 61 [] = none := rfl
      rw [hno, Option.bind_none, takA_none]
      refine ev_go rfl (fun cargs w => Tryz.call68 cargs w) Tryz.func68 rfl mixed (by kernel_rfl) rfl ?_; intro b0 hb0
      (repeat' first | simp only [fins,mems,Tryz.results68,Tryz.ntmps68,Kt,wks,w1,w2,w3,hz,hn0,hd,vcs,Ka,Kb,Kc,Kd,Ke,Kf,Kg,Kh,Ki,Kj,Kk,Kl,Km,reduceCtorEq,reduceIte,Kn,Ko,Kp,Kq,Kr,Ks,tys] | exact rfl | refine call_off (v := .any) ?_ | (first | (refine call_fn ?_ (hwd _) ?_) | (refine call_fn_g ?_ (fun _ => hwd _) ?_) | (refine call_fn ?_ (hbl _) ?_) | (refine call_fn_g ?_ (fun _ => hbl _) ?_)) | refine draw_end (by decide +kernel) ?_ | ((first | apply cond_bool | apply cond_bit) <;> intro hb) | refine And.intro (by omega) ?_ | refine And.intro (fun hb => ?_) (fun hb => ?_) | refine Fin.pure ?_ ?_ ?_ | simp only [injs])
    | cons c t =>
      rw [hsk] at p1
      obtain ⟨c1, c2, c3, c4⟩ := at_cons p1
      have hd : decide (s.length ≤ p) = false := decide_eq_false (by omega)
      have q61 : ((c.toNat : Int) == 61) = decide (c = 61) := beq_byte c 61
      rw [after_cons]
      by_cases hc : c = 61
      · rw [if_pos hc]
        simp only [Option.bind_some]
        rw [decide_eq_true hc] at q61
        have q61' : ((c.toNat : Int) != 61) = false := by unfold bne; rw [q61]; rfl
        have c2' : p + 1 ≤ s.length := c2
        generalize hp3 : p + 1 = pb at *
        have hbl2 := rBlanks_ev s pb hs c2'
        obtain ⟨p3, p4⟩ := blank_pos (s := s) (p := pb) c2'
        rw [c3] at hbl2 p3 p4
        have w4 := wadd (a := pb) (b := blankN t) (by omega)
        have w5 := wadd1 (a := pb + blankN t) (by omega)
        have hz2 : (0 : Int) ≤ ((pb + blankN t : Nat) : Int) := by omega
        generalize pb + blankN t = k at p3 p4 w4 w5 hz2
        cases hsk2 : skipL t with
        | nil =>
          rw [hsk2] at p3
          have hd2 : decide (s.length ≤ k) = true := decide_eq_true (at_nil p3)
          have hno : valueO [] = none := rfl
          rw [hno, Option.map_none, takA_none]
          refine ev_go rfl (fun cargs w => Tryz.call68 cargs w) Tryz.func68 rfl mixed (by kernel_rfl) rfl ?_; intro b0 hb0
          (repeat' first | simp only [Tryz.results68,Tryz.ntmps68,Kt,wks,w1,w2,w3,w4,w5,hz,hz2,hn0,hd,hd2,c1,c2,q61,q61',Int.toNat_natCast,vcs,Ka,Kb,Kc,Kd,Ke,Kf,Kg,Kh,Ki,Kj,Kk,Kl,Km,reduceCtorEq,reduceIte,Kn,Ko,Kp,Kq,Kr,Ks,tys] | exact rfl | ((first | (refine call_fn ?_ (hwd _) ?_) | (refine call_fn_g ?_ (fun _ => hwd _) ?_) | (refine call_fn ?_ (hbl _) ?_) | (refine call_fn_g ?_ (fun _ => hbl _) ?_)); (focus (simp only [Tryz.results68,Tryz.ntmps68,Kt,wks,w1,w2,w3,w4,w5,hz,hz2,hn0,hd,hd2,c1,c2,q61,q61',Int.toNat_natCast,vcs,Ka,Kb,Kc,Kd,Ke,Kf,Kg,Kh,Ki,Kj,Kk,Kl,Km,reduceCtorEq,reduceIte,Kn,Ko,Kp,Kq,Kr,Ks,tys] <;> exact rfl))) | ((first | (refine call_fn ?_ (hbl2 _) ?_) | (refine call_fn_g ?_ (fun _ => hbl2 _) ?_)); (focus (simp only [Tryz.results68,Tryz.ntmps68,Kt,wks,w1,w2,w3,w4,w5,hz,hz2,hn0,hd,hd2,c1,c2,q61,q61',Int.toNat_natCast,vcs,Ka,Kb,Kc,Kd,Ke,Kf,Kg,Kh,Ki,Kj,Kk,Kl,Km,reduceCtorEq,reduceIte,Kn,Ko,Kp,Kq,Kr,Ks,tys] <;> exact rfl))) | refine draw_end (by decide +kernel) ?_ | ((first | apply cond_bool | apply cond_bit) <;> intro hb) | refine And.intro (by omega) ?_ | refine And.intro (fun hb => ?_) (fun hb => ?_) | refine Fin.pure ?_ ?_ ?_ | simp only [injs])
        | cons q u =>
          rw [hsk2] at p3
          obtain ⟨e1, e2, e3, e4⟩ := at_cons p3
          have hd2 : decide (s.length ≤ k) = false := decide_eq_false (by omega)
          have q34 : ((q.toNat : Int) == 34) = decide (q = 34) := beq_byte q 34
          have q39 : ((q.toNat : Int) == 39) = decide (q = 39) := beq_byte q 39
          by_cases hq : q = 39 ∨ q = 34
          · have hq2 : (q = 34) ∨ (q ≠ 34 ∧ q = 39) := by
              by_cases h : q = 34
              · exact .inl h
              · exact .inr ⟨h, hq.resolve_right h⟩
            have hvo : valueO (q :: u) = (cut1 q u).bind fun p => (toldO p.1).map fun v => (v, p.2) := by unfold valueO; rw [quote_cons, if_pos hq]
            rw [hvo]
            rcases hq2 with h34 | ⟨h34, h39⟩
            · have h39 : ¬ q = 39 := by rintro rfl; cases h34
              rw [decide_eq_true h34] at q34
              rw [decide_eq_false h39] at q39
              have q34' : ((q.toNat : Int) != 34) = false := by unfold bne; rw [q34]; rfl
              have q39' : ((q.toNat : Int) != 39) = true := by unfold bne; rw [q39]; rfl
              refine ev_go rfl (fun cargs w => Tryz.call68 cargs w) Tryz.func68 rfl mixed (by kernel_rfl) rfl ?_; intro b0 hb0
              repeat' first | simp only [Tryz.results68,Tryz.ntmps68,Kt,wks,w1,w2,w3,w4,w5,hz,hz2,hn0,hd,hd2,c1,c2,e1,e2,q61,q61',q34,q39,q34',q39',Int.toNat_natCast,vcs,Ka,Kb,Kc,Kd,Ke,Kf,Kg,Kh,Ki,Kj,Kk,Kl,Km,reduceCtorEq,reduceIte,Kn,Ko,Kp,Kq,Kr,Ks,tys] | exact rfl | ((first | (refine call_fn ?_ (hwd _) ?_) | (refine call_fn_g ?_ (fun _ => hwd _) ?_) | (refine call_fn ?_ (hbl _) ?_) | (refine call_fn_g ?_ (fun _ => hbl _) ?_)); (focus (simp only [Tryz.results68,Tryz.ntmps68,Kt,wks,w1,w2,w3,w4,w5,hz,hz2,hn0,hd,hd2,c1,c2,e1,e2,q61,q61',q34,q39,q34',q39',Int.toNat_natCast,vcs,Ka,Kb,Kc,Kd,Ke,Kf,Kg,Kh,Ki,Kj,Kk,Kl,Km,reduceCtorEq,reduceIte,Kn,Ko,Kp,Kq,Kr,Ks,tys] <;> exact rfl))) | ((first | (refine call_fn ?_ (hbl2 _) ?_) | (refine call_fn_g ?_ (fun _ => hbl2 _) ?_)); (focus (simp only [Tryz.results68,Tryz.ntmps68,Kt,wks,w1,w2,w3,w4,w5,hz,hz2,hn0,hd,hd2,c1,c2,e1,e2,q61,q61',q34,q39,q34',q39',Int.toNat_natCast,vcs,Ka,Kb,Kc,Kd,Ke,Kf,Kg,Kh,Ki,Kj,Kk,Kl,Km,reduceCtorEq,reduceIte,Kn,Ko,Kp,Kq,Kr,Ks,tys] <;> exact rfl))) | refine draw_end (by decide +kernel) ?_ | ((first | apply cond_bool | apply cond_bit) <;> intro hb) | refine And.intro (by omega) ?_ | refine And.intro (fun hb => ?_) (fun hb => ?_)
              (refine loop_can2 cxG (fun x : Nat => s.length - x) (fun x => spanTo (notQ q) s (k + 1) x) (b0 + 16) (fun x => [(0, .str s), (1, .int .i64 k), (4, .ptr b0 0 0), (6, .str n), (7, .int .i64 x)]) (fun x => [(b0, ⟨2, [[.str [], .str []]]⟩)]) (k + 1) [some b0] ?_ ?_ ?_ ?_; rotate_left 1; (focus (show b0 ≤ _; omega)); (focus (refine ⟨?_, ?_⟩ <;> (try simp only [cans,isRow_inst,vcs,Ka,Kb,Kc,Kd,Ke,Kf,Kg,Kh,Ki,Kj,Kk,Kl,Km,reduceCtorEq,reduceIte,Kn,Ko,Kp,Kq,Kr,Ks,tys,injs]) <;> (try omega))); rotate_left 1)
              · exact span_zero _ (by omega)
              · intro e h
                have g1 := h.1
                have g2 := h.2.1
                have hwe := wadd1 (a := e) (by omega)
                obtain ⟨k1, k2⟩ := cut_span h
                rw [show s.drop (k + 1) = u from e3] at k2
                have k1 := fun h => (show cut1 q u = some ((s.drop (k + 1)).take (e - (k + 1)), s.drop (e + 1)) from by rw [← e3]; exact k1 h)
                have hz3 : (0 : Int) ≤ ((k + 1 : Nat) : Int) := by omega
                have hz4 : (0 : Int) ≤ (e : Int) := by omega
                have hz5 : ((k + 1 : Nat) : Int) ≤ (e : Int) := by omega
                have hz6 : (e : Int) ≤ (s.length : Int) := by omega
                have hz7 : (0 : Int) ≤ (k : Int) := by omega
                by_cases hx : e < s.length
                · obtain ⟨c', hc'⟩ : ∃ c, s[e]? = some c := ⟨_, List.getElem?_eq_getElem hx⟩
                  have hdx : decide (e < s.length) = true := decide_eq_true hx
                  have hqq : ((c'.toNat : Int) != (q.toNat : Int)) = notQ q c' := by
                    unfold notQ bne
                    rw [beq_byte c' q]
                    by_cases h : c' = q <;> simp [h]
                  have hee : ((e : Int) == (s.length : Int)) = false := by rw [beq_eq_false_iff_ne]; omega
                  have hee2 : (e == s.length) = false := by rw [beq_eq_false_iff_ne]; omega
                  cases hnq : notQ q c' with
                  | true =>
                    rw [hnq] at hqq
                    have hn := span_succ h hc' hnq
                    repeat' first | simp only [fins,mems,Tryz.results68,Tryz.ntmps68,Kt,wks,hc',hdx,hx,hqq,hwe,hz4,hz7,e1,e2,Int.toNat_natCast,vcs,Ka,Kb,Kc,Kd,Ke,Kf,Kg,Kh,Ki,Kj,Kk,Kl,Km,reduceCtorEq,reduceIte,Kn,Ko,Kp,Kq,Kr,Ks,tys] | exact rfl | refine call_off (v := .any) ?_ | refine draw_end (by decide +kernel) ?_ | refine And.intro (by omega) ?_
                    all_goals ((refine again_can2 cxG (e + 1) [some b0] ?_ ?_ ?_ ?_; rotate_left 2; (focus (show b0 ≤ _; omega)); (focus (refine ⟨?_, ?_⟩ <;> (try simp only [cans,isRow_inst,vcs,Ka,Kb,Kc,Kd,Ke,Kf,Kg,Kh,Ki,Kj,Kk,Kl,Km,reduceCtorEq,reduceIte,Kn,Ko,Kp,Kq,Kr,Ks,tys,injs]) <;> (try omega)))))
                    all_goals (first | (show s.length - (e + 1) < s.length - e; omega) | exact hn | skip)
                  | false =>
                    rw [hnq] at hqq
                    have hcq : c' = q := by simpa [notQ] using hnq
                    have hcut := k1 (by rw [hc', hcq])
                    rw [hcut]
                    simp only [Option.bind_some]
                    have htl := rTold_ev ((s.drop (k + 1)).take (e - (k + 1))) (by rw [List.length_take, List.length_drop]; omega)
                    have hlr : ((s.length - (s.drop (e + 1)).length : Nat) : Int) = ((e + 1 : Nat) : Int) := by rw [List.length_drop]; omega
                    cases hto : toldO ((s.drop (k + 1)).take (e - (k + 1))) with
                    | none =>
                      rw [hto, tellV_none] at htl
                      rw [Option.map_none, Option.map_none, takA_none]
                      (repeat' first | simp only [fins,mems,Tryz.results68,Tryz.ntmps68,Kt,wks,hc',hdx,hx,hqq,hwe,hee,hee2,w5,hz3,hz4,hz5,hz6,hz7,e1,e2,Int.toNat_natCast,Bool.not_false,Bool.not_true,vcs,Ka,Kb,Kc,Kd,Ke,Kf,Kg,Kh,Ki,Kj,Kk,Kl,Km,reduceCtorEq,reduceIte,Kn,Ko,Kp,Kq,Kr,Ks,tys] | exact rfl | refine call_off (v := .any) ?_ | (first | (refine call_fn ?_ (htl _) ?_) | (refine call_fn_g ?_ (fun _ => htl _) ?_)) | refine draw_end (by decide +kernel) ?_ | refine And.intro (by omega) ?_ | refine Fin.pure ?_ ?_ ?_ | simp only [injs])
                    | some v =>
                      rw [hto, tellV_some] at htl
                      rw [Option.map_some, Option.map_some, takA_some, hlr]
                      (repeat' first | simp only [fins,mems,Tryz.results68,Tryz.ntmps68,Kt,wks,prC,hc',hdx,hx,hqq,hwe,hee,hee2,w5,hz3,hz4,hz5,hz6,hz7,e1,e2,Int.toNat_natCast,Bool.not_false,Bool.not_true,vcs,Ka,Kb,Kc,Kd,Ke,Kf,Kg,Kh,Ki,Kj,Kk,Kl,Km,reduceCtorEq,reduceIte,Kn,Ko,Kp,Kq,Kr,Ks,tys] | exact rfl | refine call_off (v := .any) ?_ | (first | (refine call_fn ?_ (htl _) ?_) | (refine call_fn_g ?_ (fun _ => htl _) ?_)) | refine draw_end (by decide +kernel) ?_ | refine And.intro (by omega) ?_ | refine Fin.pure ?_ ?_ ?_ | simp only [injs])
                · have hxe : e = s.length := by omega
                  have hdx : decide (e < s.length) = false := decide_eq_false hx
                  have hcut := k2 hxe
                  have hee : ((e : Int) == (s.length : Int)) = true := by rw [hxe]; simp
                  have hee2 : (e == s.length) = true := by rw [hxe]; simp
                  rw [hcut, Option.bind_none, Option.map_none, takA_none]
                  (repeat' first | simp only [fins,mems,Tryz.results68,Tryz.ntmps68,Kt,wks,hdx,hx,hee,hee2,hz4,hz7,vcs,Ka,Kb,Kc,Kd,Ke,Kf,Kg,Kh,Ki,Kj,Kk,Kl,Km,reduceCtorEq,reduceIte,Kn,Ko,Kp,Kq,Kr,Ks,tys] | exact rfl | refine call_off (v := .any) ?_ | refine draw_end (by decide +kernel) ?_ | refine And.intro (by omega) ?_ | refine Fin.pure ?_ ?_ ?_ | simp only [injs])
            · rw [decide_eq_false h34] at q34
              rw [decide_eq_true h39] at q39
              have q34' : ((q.toNat : Int) != 34) = true := by unfold bne; rw [q34]; rfl
              have q39' : ((q.toNat : Int) != 39) = false := by unfold bne; rw [q39]; rfl
              refine ev_go rfl (fun cargs w => Tryz.call68 cargs w) Tryz.func68 rfl mixed (by kernel_rfl) rfl ?_; intro b0 hb0
              repeat' first | simp only [Tryz.results68,Tryz.ntmps68,Kt,wks,w1,w2,w3,w4,w5,hz,hz2,hn0,hd,hd2,c1,c2,e1,e2,q61,q61',q34,q39,q34',q39',Int.toNat_natCast,vcs,Ka,Kb,Kc,Kd,Ke,Kf,Kg,Kh,Ki,Kj,Kk,Kl,Km,reduceCtorEq,reduceIte,Kn,Ko,Kp,Kq,Kr,Ks,tys] | exact rfl | ((first | (refine call_fn ?_ (hwd _) ?_) | (refine call_fn_g ?_ (fun _ => hwd _) ?_) | (refine call_fn ?_ (hbl _) ?_) | (refine call_fn_g ?_ (fun _ => hbl _) ?_)); (focus (simp only [Tryz.results68,Tryz.ntmps68,Kt,wks,w1,w2,w3,w4,w5,hz,hz2,hn0,hd,hd2,c1,c2,e1,e2,q61,q61',q34,q39,q34',q39',Int.toNat_natCast,vcs,Ka,Kb,Kc,Kd,Ke,Kf,Kg,Kh,Ki,Kj,Kk,Kl,Km,reduceCtorEq,reduceIte,Kn,Ko,Kp,Kq,Kr,Ks,tys] <;> exact rfl))) | ((first | (refine call_fn ?_ (hbl2 _) ?_) | (refine call_fn_g ?_ (fun _ => hbl2 _) ?_)); (focus (simp only [Tryz.results68,Tryz.ntmps68,Kt,wks,w1,w2,w3,w4,w5,hz,hz2,hn0,hd,hd2,c1,c2,e1,e2,q61,q61',q34,q39,q34',q39',Int.toNat_natCast,vcs,Ka,Kb,Kc,Kd,Ke,Kf,Kg,Kh,Ki,Kj,Kk,Kl,Km,reduceCtorEq,reduceIte,Kn,Ko,Kp,Kq,Kr,Ks,tys] <;> exact rfl))) | refine draw_end (by decide +kernel) ?_ | ((first | apply cond_bool | apply cond_bit) <;> intro hb) | refine And.intro (by omega) ?_ | refine And.intro (fun hb => ?_) (fun hb => ?_)
              (refine loop_can2 cxG (fun x : Nat => s.length - x) (fun x => spanTo (notQ q) s (k + 1) x) (b0 + 16) (fun x => [(0, .str s), (1, .int .i64 k), (4, .ptr b0 0 0), (6, .str n), (7, .int .i64 x)]) (fun x => [(b0, ⟨2, [[.str [], .str []]]⟩)]) (k + 1) [some b0] ?_ ?_ ?_ ?_; rotate_left 1; (focus (show b0 ≤ _; omega)); (focus (refine ⟨?_, ?_⟩ <;> (try simp only [cans,isRow_inst,vcs,Ka,Kb,Kc,Kd,Ke,Kf,Kg,Kh,Ki,Kj,Kk,Kl,Km,reduceCtorEq,reduceIte,Kn,Ko,Kp,Kq,Kr,Ks,tys,injs]) <;> (try omega))); rotate_left 1)
              · exact span_zero _ (by omega)
              · intro e h
                have g1 := h.1
                have g2 := h.2.1
                have hwe := wadd1 (a := e) (by omega)
                obtain ⟨k1, k2⟩ := cut_span h
                rw [show s.drop (k + 1) = u from e3] at k2
                have k1 := fun h => (show cut1 q u = some ((s.drop (k + 1)).take (e - (k + 1)), s.drop (e + 1)) from by rw [← e3]; exact k1 h)
                have hz3 : (0 : Int) ≤ ((k + 1 : Nat) : Int) := by omega
                have hz4 : (0 : Int) ≤ (e : Int) := by omega
                have hz5 : ((k + 1 : Nat) : Int) ≤ (e : Int) := by omega
                have hz6 : (e : Int) ≤ (s.length : Int) := by omega
                have hz7 : (0 : Int) ≤ (k : Int) := by omega
                by_cases hx : e < s.length
                · obtain ⟨c', hc'⟩ : ∃ c, s[e]? = some c := ⟨_, List.getElem?_eq_getElem hx⟩
                  have hdx : decide (e < s.length) = true := decide_eq_true hx
                  have hqq : ((c'.toNat : Int) != (q.toNat : Int)) = notQ q c' := by
                    unfold notQ bne
                    rw [beq_byte c' q]
                    by_cases h : c' = q <;> simp [h]
                  have hee : ((e : Int) == (s.length : Int)) = false := by rw [beq_eq_false_iff_ne]; omega
                  have hee2 : (e == s.length) = false := by rw [beq_eq_false_iff_ne]; omega
                  cases hnq : notQ q c' with
                  | true =>
                    rw [hnq] at hqq
                    have hn := span_succ h hc' hnq
                    repeat' first | simp only [fins,mems,Tryz.results68,Tryz.ntmps68,Kt,wks,hc',hdx,hx,hqq,hwe,hz4,hz7,e1,e2,Int.toNat_natCast,vcs,Ka,Kb,Kc,Kd,Ke,Kf,Kg,Kh,Ki,Kj,Kk,Kl,Km,reduceCtorEq,reduceIte,Kn,Ko,Kp,Kq,Kr,Ks,tys] | exact rfl | refine call_off (v := .any) ?_ | refine draw_end (by decide +kernel) ?_ | refine And.intro (by omega) ?_
                    all_goals ((refine again_can2 cxG (e + 1) [some b0] ?_ ?_ ?_ ?_; rotate_left 2; (focus (show b0 ≤ _; omega)); (focus (refine ⟨?_, ?_⟩ <;> (try simp only [cans,isRow_inst,vcs,Ka,Kb,Kc,Kd,Ke,Kf,Kg,Kh,Ki,Kj,Kk,Kl,Km,reduceCtorEq,reduceIte,Kn,Ko,Kp,Kq,Kr,Ks,tys,injs]) <;> (try omega)))))
                    all_goals (first | (show s.length - (e + 1) < s.length - e; omega) | exact hn | skip)
                  | false =>
                    rw [hnq] at hqq
                    have hcq : c' = q := by simpa [notQ] using hnq
                    have hcut := k1 (by rw [hc', hcq])
                    rw [hcut]
                    simp only [Option.bind_some]
                    have htl := rTold_ev ((s.drop (k + 1)).take (e - (k + 1))) (by rw [List.length_take, List.length_drop]; omega)
                    have hlr : ((s.length - (s.drop (e + 1)).length : Nat) : Int) = ((e + 1 : Nat) : Int) := by rw [List.length_drop]; omega
                    cases hto : toldO ((s.drop (k + 1)).take (e - (k + 1))) with
                    | none =>
                      rw [hto, tellV_none] at htl
                      rw [Option.map_none, Option.map_none, takA_none]
                      (repeat' first | simp only [fins,mems,Tryz.results68,Tryz.ntmps68,Kt,wks,hc',hdx,hx,hqq,hwe,hee,hee2,w5,hz3,hz4,hz5,hz6,hz7,e1,e2,Int.toNat_natCast,Bool.not_false,Bool.not_true,vcs,Ka,Kb,Kc,Kd,Ke,Kf,Kg,Kh,Ki,Kj,Kk,Kl,Km,reduceCtorEq,reduceIte,Kn,Ko,Kp,Kq,Kr,Ks,tys] | exact rfl | refine call_off (v := .any) ?_ | (first | (refine call_fn ?_ (htl _) ?_) | (refine call_fn_g ?_ (fun _ => htl _) ?_)) | refine draw_end (by decide +kernel) ?_ | refine And.intro (by omega) ?_ | refine Fin.pure ?_ ?_ ?_ | simp only [injs])
                    | some v =>
                      rw [hto, tellV_some] at htl
                      rw [Option.map_some, Option.map_some, takA_some, hlr]
                      (repeat' first | simp only [fins,mems,Tryz.results68,Tryz.ntmps68,Kt,wks,prC,hc',hdx,hx,hqq,hwe,hee,hee2,w5,hz3,hz4,hz5,hz6,hz7,e1,e2,Int.toNat_natCast,Bool.not_false,Bool.not_true,vcs,Ka,Kb,Kc,Kd,Ke,Kf,Kg,Kh,Ki,Kj,Kk,Kl,Km,reduceCtorEq,reduceIte,Kn,Ko,Kp,Kq,Kr,Ks,tys] | exact rfl | refine call_off (v := .any) ?_ | (first | (refine call_fn ?_ (htl _) ?_) | (refine call_fn_g ?_ (fun _ => htl _) ?_)) | refine draw_end (by decide +kernel) ?_ | refine And.intro (by omega) ?_ | refine Fin.pure ?_ ?_ ?_ | simp only [injs])
                · have hxe : e = s.length := by omega
                  have hdx : decide (e < s.length) = false := decide_eq_false hx
                  have hcut := k2 hxe
                  have hee : ((e : Int) == (s.length : Int)) = true := by rw [hxe]; simp
                  have hee2 : (e == s.length) = true := by rw [hxe]; simp
                  rw [hcut, Option.bind_none, Option.map_none, takA_none]
                  (repeat' first | simp only [fins,mems,Tryz.results68,Tryz.ntmps68,Kt,wks,hdx,hx,hee,hee2,hz4,hz7,vcs,Ka,Kb,Kc,Kd,Ke,Kf,Kg,Kh,Ki,Kj,Kk,Kl,Km,reduceCtorEq,reduceIte,Kn,Ko,Kp,Kq,Kr,Ks,tys] | exact rfl | refine call_off (v := .any) ?_ | refine draw_end (by decide +kernel) ?_ | refine And.intro (by omega) ?_ | refine Fin.pure ?_ ?_ ?_ | simp only [injs])
          · have hno : valueO (q :: u) = none := by unfold valueO; rw [quote_cons, if_neg hq]; rfl
            rw [hno, Option.map_none, takA_none]
            rw [decide_eq_false (fun h => hq (.inr h))] at q34
            rw [decide_eq_false (fun h => hq (.inl h))] at q39
            have q34' : ((q.toNat : Int) != 34) = true := by unfold bne; rw [q34]; rfl
            have q39' : ((q.toNat : Int) != 39) = true := by unfold bne; rw [q39]; rfl
            refine ev_go rfl (fun cargs w => Tryz.call68 cargs w) Tryz.func68 rfl mixed (by kernel_rfl) rfl ?_; intro b0 hb0
            (repeat' first | simp only [Tryz.results68,Tryz.ntmps68,Kt,wks,w1,w2,w3,w4,w5,hz,hz2,hn0,hd,hd2,c1,c2,e1,e2,q61,q61',q34,q39,q34',q39',Int.toNat_natCast,vcs,Ka,Kb,Kc,Kd,Ke,Kf,Kg,Kh,Ki,Kj,Kk,Kl,Km,reduceCtorEq,reduceIte,Kn,Ko,Kp,Kq,Kr,Ks,tys] | exact rfl | ((first | (refine call_fn ?_ (hwd _) ?_) | (refine call_fn_g ?_ (fun _ => hwd _) ?_) | (refine call_fn ?_ (hbl _) ?_) | (refine call_fn_g ?_ (fun _ => hbl _) ?_)); (focus (simp only [Tryz.results68,Tryz.ntmps68,Kt,wks,w1,w2,w3,w4,w5,hz,hz2,hn0,hd,hd2,c1,c2,e1,e2,q61,q61',q34,q39,q34',q39',Int.toNat_natCast,vcs,Ka,Kb,Kc,Kd,Ke,Kf,Kg,Kh,Ki,Kj,Kk,Kl,Km,reduceCtorEq,reduceIte,Kn,Ko,Kp,Kq,Kr,Ks,tys] <;> exact rfl))) | ((first | (refine call_fn ?_ (hbl2 _) ?_) | (refine call_fn_g ?_ (fun _ => hbl2 _) ?_)); (focus (simp only [Tryz.results68,Tryz.ntmps68,Kt,wks,w1,w2,w3,w4,w5,hz,hz2,hn0,hd,hd2,c1,c2,e1,e2,q61,q61',q34,q39,q34',q39',Int.toNat_natCast,vcs,Ka,Kb,Kc,Kd,Ke,Kf,Kg,Kh,Ki,Kj,Kk,Kl,Km,reduceCtorEq,reduceIte,Kn,Ko,Kp,Kq,Kr,Ks,tys] <;> exact rfl))) | refine draw_end (by decide +kernel) ?_ | ((first | apply cond_bool | apply cond_bit) <;> intro hb) | refine And.intro (by omega) ?_ | refine And.intro (fun hb => ?_) (fun hb => ?_) | refine Fin.pure ?_ ?_ ?_ | simp only [injs])
      · rw [if_neg hc, Option.bind_none, takA_none]
        rw [decide_eq_false hc] at q61
        have q61' : ((c.toNat : Int) != 61) = true := by unfold bne; rw [q61]; rfl
        refine ev_go rfl (fun cargs w => Tryz.call68 cargs w) Tryz.func68 rfl mixed (by kernel_rfl) rfl ?_; intro b0 hb0
        (repeat' first | simp only [fins,mems,Tryz.results68,Tryz.ntmps68,Kt,wks,w1,w2,w3,hz,hn0,hd,c1,c2,q61,q61',Int.toNat_natCast,vcs,Ka,Kb,Kc,Kd,Ke,Kf,Kg,Kh,Ki,Kj,Kk,Kl,Km,reduceCtorEq,reduceIte,Kn,Ko,Kp,Kq,Kr,Ks,tys] | exact rfl | refine call_off (v := .any) ?_ | (first | (refine call_fn ?_ (hwd _) ?_) | (refine call_fn_g ?_ (fun _ => hwd _) ?_) | (refine call_fn ?_ (hbl _) ?_) | (refine call_fn_g ?_ (fun _ => hbl _) ?_)) | refine draw_end (by decide +kernel) ?_ | ((first | apply cond_bool | apply cond_bit) <;> intro hb) | refine And.intro (by omega) ?_ | refine And.intro (fun hb => ?_) (fun hb => ?_) | refine Fin.pure ?_ ?_ ?_ | simp only [injs])
def Suf (r s : List UInt8) : Prop := ∃ w, s = w ++ r
theorem Suf.refl (s : List UInt8) : Suf s s := ⟨[], rfl⟩
theorem Suf.trans {a b c : List UInt8} (h1 : Suf a b) (h2 : Suf b c) : Suf a c := by
  obtain ⟨x, rfl⟩ := h1
  obtain ⟨y, rfl⟩ := h2
  exact ⟨y ++ x, (List.append_assoc _ _ _).symm⟩
theorem Suf.cons {c : UInt8} {r s : List UInt8} (h : Suf (c :: r) s) : Suf r s := by
  obtain ⟨x, rfl⟩ := h
  exact ⟨x ++ [c], by simp⟩
theorem suf_at {r s : List UInt8} (h : Suf r s) : s.drop (s.length - r.length) = r ∧ r.length ≤ s.length := by
  obtain ⟨x, rfl⟩ := h
  have : (x ++ r).length - r.length = x.length := by simp
  rw [this]
  exact ⟨List.drop_left, by simp⟩
theorem suf_drop (s : List UInt8) (p : Nat) : Suf (s.drop p) s := ⟨s.take p, (List.take_append_drop p s).symm⟩
theorem skip_suf (s : List UInt8) : Suf (skipL s) s := ⟨s.takeWhile blankB, (List.takeWhile_append_dropWhile).symm⟩
theorem name_suf {s n r : List UInt8} (h : nameO s = some (n, r)) : Suf r s := ⟨n, (name_lt h).1⟩
theorem value_suf {s v r : List UInt8} (h : valueO s = some (v, r)) : Suf r s := by
  obtain ⟨a, h1, _⟩ := value_some h
  obtain ⟨q, _, rfl, _⟩ := quote_some h1
  exact ⟨q :: (a ++ [q]), by simp⟩
theorem attr_suf {s r : List UInt8} {a : Pr} (h : attrO s = some (a, r)) : Suf r s := by
  obtain ⟨r1, t, h1, h2, h3⟩ := attr_some h
  have e1 := skip_suf r1
  rw [h2] at e1
  exact ((value_suf h3).trans (skip_suf t)).trans (e1.cons.trans (name_suf h1))
theorem end_suf {s t : List UInt8} {k : Nat} (h : endO s = some (k, t)) : Suf t s := by
  unfold endO at h
  split at h
  · cases h; exact ⟨[62], rfl⟩
  · cases h; exact ⟨[47, 62], rfl⟩
  · cases h
theorem tagL_suf {n : List UInt8} {l : List Pr} {s v : List UInt8} {u : Tk} (h : tagL n l s = some (u, v)) : Suf v s :=
  tagL_ind (n := n) (P := fun _ s _ v => Suf v s) (fun _ s _ _ he => (end_suf he).trans (skip_suf s)) (fun _ s _ _ _ _ _ _ ha _ _ ih => ih.trans ((attr_suf ha).trans (skip_suf s))) _ l s u v (Nat.le_refl _) h
theorem tag_suf {s r : List UInt8} {t : Tk} (h : tagO s = some (t, r)) : Suf r s := by
  unfold tagO at h
  split at h
  · rename_i w hw
    obtain rfl := after_some hw
    obtain ⟨⟨n, r1⟩, h1, h2⟩ := Option.bind_eq_some_iff.1 h
    obtain ⟨r2, h3, h4⟩ := Option.map_eq_some_iff.1 h2
    cases h4
    have e1 := skip_suf r1
    rw [after_some h3] at e1
    exact (e1.cons.trans (name_suf h1)).trans ⟨[47], rfl⟩
  · obtain ⟨⟨n, r1⟩, h1, h2⟩ := Option.bind_eq_some_iff.1 h
    exact (tagL_suf h2).trans (name_suf h1)
theorem one_suf {s r : List UInt8} {t : Tk} (h : oneO s = some (t, r)) : Suf r s := by
  unfold oneO at h
  split at h
  · rename_i w hw
    obtain rfl := after_some hw
    exact (tag_suf h).trans ⟨[60], rfl⟩
  · obtain ⟨x, _, h2⟩ := Option.map_eq_some_iff.1 h
    cases h2
    exact ⟨textT s, (List.takeWhile_append_dropWhile).symm⟩
theorem attr_two {s r : List UInt8} {a : Pr} (h : attrO s = some (a, r)) : 2 ≤ s.length := by
  obtain ⟨r1, t, h1, h2, h3⟩ := attr_some h
  obtain ⟨e, hn, _, _⟩ := name_lt h1
  have l1 := congrArg List.length e
  have l2 := skip_le r1
  have := List.length_pos_iff.2 hn
  rw [h2] at l2
  simp only [List.length_append,List.length_cons] at l1 l2
  omega
theorem attr_short {s : List UInt8} (h : s.length ≤ 1) : attrO s = none := by
  cases ha : attrO s with
  | none => rfl
  | some p =>
    obtain ⟨a, r⟩ := p
    have := attr_two ha
    omega
theorem gap_zero {s : List UInt8} : ((skipL s).length < s.length) = (blankN s ≠ 0) := by
  have := skip_le s
  unfold blankN
  exact propext (by omega)
theorem rTagN_ev (s u : List UInt8) (at' : Nat) (hs : s.length ≤ 500000) (h : s.drop at' = 60 :: u) (h47 : afterO 47 u = none) (hn : nameO u = none) (nm : Nat) : Ev cx 47 nm [.str s, .int .i64 at'] Mem.nil (takV s (tagO u)) [] := by
  obtain ⟨_, a1, a2, _⟩ := at_cons h
  have ht : tagO u = none := by unfold tagO; rw [h47]; simp only [hn,Option.bind_none]
  have hwd := rWord_ev s (at' + 1) (by omega) a1
  rw [a2, name_no hn] at hwd
  have w0 := wadd1 (a := at') (by omega)
  rw [ht, takV_none]
  cases u with
  | nil =>
    have hd : decide (at' + 1 < s.length) = false := decide_eq_false (by have := at_nil a2; omega)
    refine ev_go rfl (fun cargs w => Tryz.call47 cargs w) Tryz.func47 rfl mixed (by kernel_rfl) rfl ?_; intro b0 hb0
    repeat' first | simp only [fins,mems,Tryz.results47,Tryz.ntmps47,Kt,wks,w0,hd,List.length_nil,Int.ofNat_zero,Int.add_zero,vcs,Ka,Kb,Kc,Kd,Ke,Kf,Kg,Kh,Ki,Kj,Kk,Kl,Km,reduceCtorEq,reduceIte,Kn,Ko,Kp,Kq,Kr,Ks,tys] | exact rfl | refine call_off (v := .any) ?_ | (first | (refine call_fn ?_ (hwd _) ?_) | (refine call_fn_g ?_ (fun _ => hwd _) ?_)) | ((first | apply cond_bool | apply cond_bit) <;> intro hb) | refine And.intro (by omega) ?_ | refine And.intro (fun hb => ?_) (fun hb => ?_)
    (refine loop_can2 cxG (fun x : Nat => x) (fun x => True) (b0 + 16) (fun x => [(4, .ptr b0 0 0), (6, .ptr (b0 + 1) 0 0)]) (fun x => [(b0, ⟨4, [[.int .u8 0, .str [], .nils, .str []]]⟩), (b0 + 1, ⟨4, [[.int .u8 1, .str [], .nils, .str []]]⟩)]) (0) [some b0, some (b0 + 304)] ?_ ?_ ?_ ?_; rotate_left 1; (focus (show b0 ≤ _; omega)); (focus (refine ⟨?_, ?_⟩ <;> (try simp only [cans,isRow_inst,vcs,Ka,Kb,Kc,Kd,Ke,Kf,Kg,Kh,Ki,Kj,Kk,Kl,Km,reduceCtorEq,reduceIte,Kn,Ko,Kp,Kq,Kr,Ks,tys,injs]) <;> (try omega))); rotate_left 1)
    · trivial
    · intro x _
      (repeat' first | simp only [fins,mems,Tryz.results47,Tryz.ntmps47,Kt,wks,tkC,List.map_nil,vcs,Ka,Kb,Kc,Kd,Ke,Kf,Kg,Kh,Ki,Kj,Kk,Kl,Km,reduceCtorEq,reduceIte,Kn,Ko,Kp,Kq,Kr,Ks,tys] | exact rfl | refine call_off (v := .any) ?_ | ((first | apply cond_bool | apply cond_bit) <;> intro hb) | refine And.intro (by omega) ?_ | refine And.intro (fun hb => ?_) (fun hb => ?_) | refine Fin.pure ?_ ?_ ?_ | simp only [injs])
  | cons c t =>
    obtain ⟨c1, c2, c3, c4⟩ := at_cons a2
    have hd : decide (at' + 1 < s.length) = true := decide_eq_true c2
    have q47 : ((c.toNat : Int) == 47) = false := by
      refine (show ((c.toNat : Int) == 47) = decide (c = 47) from beq_byte c 47).trans ?_
      rw [after_cons] at h47
      split at h47
      · cases h47
      · rename_i hc; exact decide_eq_false hc
    refine ev_go rfl (fun cargs w => Tryz.call47 cargs w) Tryz.func47 rfl mixed (by kernel_rfl) rfl ?_; intro b0 hb0
    repeat' first | simp only [fins,mems,Tryz.results47,Tryz.ntmps47,Kt,wks,w0,hd,c1,c2,q47,List.length_nil,Int.ofNat_zero,Int.add_zero,Int.toNat_natCast,vcs,Ka,Kb,Kc,Kd,Ke,Kf,Kg,Kh,Ki,Kj,Kk,Kl,Km,reduceCtorEq,reduceIte,Kn,Ko,Kp,Kq,Kr,Ks,tys] | exact rfl | refine call_off (v := .any) ?_ | (first | (refine call_fn ?_ (hwd _) ?_) | (refine call_fn_g ?_ (fun _ => hwd _) ?_)) | ((first | apply cond_bool | apply cond_bit) <;> intro hb) | refine And.intro (by omega) ?_ | refine And.intro (fun hb => ?_) (fun hb => ?_)
    (refine loop_can2 cxG (fun x : Nat => x) (fun x => True) (b0 + 16) (fun x => [(4, .ptr b0 0 0), (6, .ptr (b0 + 1) 0 0)]) (fun x => [(b0, ⟨4, [[.int .u8 0, .str [], .nils, .str []]]⟩), (b0 + 1, ⟨4, [[.int .u8 1, .str [], .nils, .str []]]⟩)]) (0) [some b0, some (b0 + 304)] ?_ ?_ ?_ ?_; rotate_left 1; (focus (show b0 ≤ _; omega)); (focus (refine ⟨?_, ?_⟩ <;> (try simp only [cans,isRow_inst,vcs,Ka,Kb,Kc,Kd,Ke,Kf,Kg,Kh,Ki,Kj,Kk,Kl,Km,reduceCtorEq,reduceIte,Kn,Ko,Kp,Kq,Kr,Ks,tys,injs]) <;> (try omega))); rotate_left 1)
    · trivial
    · intro x _
      (repeat' first | simp only [fins,mems,Tryz.results47,Tryz.ntmps47,Kt,wks,tkC,List.map_nil,vcs,Ka,Kb,Kc,Kd,Ke,Kf,Kg,Kh,Ki,Kj,Kk,Kl,Km,reduceCtorEq,reduceIte,Kn,Ko,Kp,Kq,Kr,Ks,tys] | exact rfl | refine call_off (v := .any) ?_ | ((first | apply cond_bool | apply cond_bit) <;> intro hb) | refine And.intro (by omega) ?_ | refine And.intro (fun hb => ?_) (fun hb => ?_) | refine Fin.pure ?_ ?_ ?_ | simp only [injs])
theorem end_other {c d : UInt8} {t : List UInt8} (h1 : c ≠ 62) (h2 : ¬ (c = 47 ∧ d = 62)) : endO (c :: d :: t) = none := by
  unfold endO
  split
  · rename_i e; cases e; exact absurd rfl h1
  · rename_i e; cases e; exact absurd ⟨rfl, rfl⟩ h2
  · rfl
theorem end_single {c : UInt8} (h1 : c ≠ 62) : endO [c] = none := by
  unfold endO
  split
  · rename_i e; cases e; exact absurd rfl h1
  · rename_i e; cases e
  · rfl
theorem two_at {s t : List UInt8} {p : Nat} {c d : UInt8} (h : s.drop p = c :: d :: t) : (s.drop p).take 2 = [c, d] ∧ (s.drop p).take (p + 2 - p) = [c, d] := by
  rw [h, show p + 2 - p = 2 by omega]; exact ⟨rfl, rfl⟩
theorem two_eq (c d : UInt8) : ([c, d] == [47, 62]) = decide (c = 47 ∧ d = 62) := by
  by_cases h : c = 47 ∧ d = 62
  · obtain ⟨rfl, rfl⟩ := h; rfl
  · rw [decide_eq_false h]
    rw [beq_eq_false_iff_ne]
    intro e
    cases e
    exact h ⟨rfl, rfl⟩
theorem two_eq1 (c d : UInt8) : decide ([c, d] = [47, 62]) = decide (c = 47 ∧ d = 62) := by
  congr 1
  simp
structure TSu where
  l : List Pr
  rest : List UInt8
def TInv (s n r0 : List UInt8) (x : TSu) : Prop := tagL n x.l x.rest = tagL n [] r0 ∧ Suf x.rest s ∧ x.l.length + x.rest.length ≤ 500000
theorem rTagB_ev (s u n r0 : List UInt8) (at' : Nat) (hs : s.length ≤ 500000) (h : s.drop at' = 60 :: u) (h47 : afterO 47 u = none) (hn : nameO u = some (n, r0)) (nm : Nat) : Ev cx 47 nm [.str s, .int .i64 at'] Mem.nil (takV s (tagO u)) [] := by
  obtain ⟨_, a1, a2, _⟩ := at_cons h
  have ht : tagO u = tagL n [] r0 := by unfold tagO; rw [h47]; simp only [hn,Option.bind_some]
  have hwd := rWord_ev s (at' + 1) (by omega) a1
  rw [a2] at hwd
  rw [← a2] at hn
  obtain ⟨n1, n2, n3, n4⟩ := name_pos hn
  rw [a2] at n1 hn
  rw [n1] at hwd
  have w0 := wadd1 (a := at') (by omega)
  have w1 := wadd (a := at' + 1) (b := n.length) (by omega)
  have hr0 : s.length - r0.length = at' + 1 + n.length := by rw [← n2, List.length_drop]; omega
  have hsuf : Suf r0 s := by rw [← n2]; exact suf_drop _ _
  have a1' : at' + 1 ≤ s.length := a1
  generalize hpn : at' + 1 + n.length = pn at *
  have hl0 := (suf_at hsuf).2
  have hn0 : (n == []) = false := by simpa using n4
  rw [ht]
  obtain ⟨c, t, rfl⟩ : ∃ c t, u = c :: t := by
    cases u with
    | nil =>
      obtain ⟨e, hne, _, _⟩ := name_lt hn
      exact absurd (List.append_eq_nil_iff.1 e.symm).1 hne
    | cons c t => exact ⟨c, t, rfl⟩
  obtain ⟨c1, c2, c3, c4⟩ := at_cons a2
  have hd : decide (at' + 1 < s.length) = true := decide_eq_true c2
  have q47 : ((c.toNat : Int) == 47) = false := by
    refine (show ((c.toNat : Int) == 47) = decide (c = 47) from beq_byte c 47).trans ?_
    rw [after_cons] at h47
    split at h47
    · cases h47
    · rename_i hc; exact decide_eq_false hc
  refine ev_go rfl (fun cargs w => Tryz.call47 cargs w) Tryz.func47 rfl mixed (by kernel_rfl) rfl ?_; intro b0 hb0
  repeat' first | simp only [fins,mems,Tryz.results47,Tryz.ntmps47,Kt,wks,w0,w1,hd,c1,c2,q47,Int.toNat_natCast,vcs,Ka,Kb,Kc,Kd,Ke,Kf,Kg,Kh,Ki,Kj,Kk,Kl,Km,reduceCtorEq,reduceIte,Kn,Ko,Kp,Kq,Kr,Ks,tys] | exact rfl | refine call_off (v := .any) ?_ | (first | (refine call_fn ?_ (hwd _) ?_) | (refine call_fn_g ?_ (fun _ => hwd _) ?_)) | ((first | apply cond_bool | apply cond_bit) <;> intro hb) | refine And.intro (by omega) ?_ | refine And.intro (fun hb => ?_) (fun hb => ?_)
  (refine loop_can2 cxG (fun x : TSu => x.rest.length) (fun x => TInv s n r0 x) (b0 + 16) (fun x => [(0, .str s), (1, .int .i64 ((s.length - x.rest.length : Nat) : Int)), (4, .ptr b0 0 0), (6, .ptr (b0 + 1) 0 0)]) (fun x => [(b0, ⟨4, [[.int .u8 0, .str [], .nils, .str []]]⟩), (b0 + 1, ⟨4, [[.int .u8 1, .str n, .own (b0 + 2) 0 x.l.length, .str []]]⟩), (b0 + 2, ⟨2, x.l.map prC⟩)]) (⟨[], r0⟩) [some b0, some (b0 + 304), none] ?_ ?_ ?_ ?_; rotate_left 1; (focus (show b0 ≤ _; omega)); (focus (refine ⟨?_, ?_⟩ <;> (try simp only [cans,isRow_inst,hr0,List.map_nil,List.length_nil,vcs,Ka,Kb,Kc,Kd,Ke,Kf,Kg,Kh,Ki,Kj,Kk,Kl,Km,reduceCtorEq,reduceIte,Kn,Ko,Kp,Kq,Kr,Ks,tys,injs]) <;> (try omega))); rotate_left 1)
  · exact ⟨rfl, hsuf, by show 0 + r0.length ≤ 500000; omega⟩
  · rintro ⟨xl, xr⟩ ⟨g1, g2, g3⟩
    dsimp only at g1 g2 g3 ⊢
    rw [← g1]
    obtain ⟨d1, d2⟩ := suf_at g2
    have hbl := rBlanks_ev s (s.length - xr.length) (by omega) (by omega)
    obtain ⟨p1, p2⟩ := blank_pos (s := s) (p := s.length - xr.length) (by omega)
    rw [d1] at hbl p1 p2
    have hgz := gap_zero (s := xr)
    have hsl := skip_le xr
    have hat := rAttr_ev s (s.length - xr.length + blankN xr) (by omega) p2
    rw [p1] at hat
    have w2 := wadd (a := s.length - xr.length) (b := blankN xr) (by omega)
    have w3 := wadd1 (a := s.length - xr.length + blankN xr) (by omega)
    have w4 := wadd2 (a := s.length - xr.length + blankN xr) (by omega)
    have htp : (xl.map prC).take xl.length = xl.map prC := List.take_of_length_le (by simp)
    have hnl : (xl.map prC).length = xl.length := List.length_map _
    have hz1 : (0 : Int) ≤ ((s.length - xr.length + blankN xr : Nat) : Int) := by omega
    have hz2 : ((s.length - xr.length + blankN xr : Nat) : Int) ≤ ((s.length - xr.length + blankN xr + 2 : Nat) : Int) := by omega
    generalize hk : blankN xr = k at hbl hgz
    generalize hp : s.length - xr.length + k = p at *
    rw [hk, hp] at p1 p2 hat w2 w3 w4 hz1 hz2
    have hkn : (((k : Nat) : Int) == 0) = (k == 0) := by
      by_cases h : k = 0
      · subst h; rfl
      · rw [beq_eq_false_iff_ne.2 h, beq_eq_false_iff_ne]; omega
    cases hsk : skipL xr with
    | nil =>
      rw [hsk] at p1 hat
      have hno := attr_short (s := []) (by simp)
      rw [hno, takA_none] at hat
      rw [tag_bad (by rw [hsk]; rfl) (by rw [hsk]; exact hno), takV_none]
      have hpl := at_nil p1
      have hd1 : decide (p < s.length) = false := decide_eq_false (by omega)
      have hd2 : decide (p + 1 < s.length) = false := decide_eq_false (by omega)
      cases hk0 : (k == 0) with
      | true =>
        rw [hk0] at hkn
        (repeat' first | simp only [fins,mems,Tryz.results47,Tryz.ntmps47,Kt,wks,w2,w3,w4,hz1,hz2,hn0,hkn,htp,hnl,plain_pr,tkC,prC,List.map_nil,Int.toNat_natCast,hd1,hd2,vcs,Ka,Kb,Kc,Kd,Ke,Kf,Kg,Kh,Ki,Kj,Kk,Kl,Km,reduceCtorEq,reduceIte,Kn,Ko,Kp,Kq,Kr,Ks,tys] | exact rfl | refine call_off (v := .any) ?_ | (first | (refine call_fn ?_ (hbl _) ?_) | (refine call_fn_g ?_ (fun _ => hbl _) ?_) | (refine call_fn ?_ (hat _) ?_) | (refine call_fn_g ?_ (fun _ => hat _) ?_)) | ((first | apply cond_bool | apply cond_bit) <;> intro hb) | refine And.intro (by omega) ?_ | refine And.intro (fun hb => ?_) (fun hb => ?_) | refine Fin.pure ?_ ?_ ?_ | simp only [injs])
      | false =>
        rw [hk0] at hkn
        (repeat' first | simp only [fins,mems,Tryz.results47,Tryz.ntmps47,Kt,wks,w2,w3,w4,hz1,hz2,hn0,hkn,htp,hnl,plain_pr,tkC,prC,List.map_nil,Int.toNat_natCast,hd1,hd2,vcs,Ka,Kb,Kc,Kd,Ke,Kf,Kg,Kh,Ki,Kj,Kk,Kl,Km,reduceCtorEq,reduceIte,Kn,Ko,Kp,Kq,Kr,Ks,tys] | exact rfl | refine call_off (v := .any) ?_ | (first | (refine call_fn ?_ (hbl _) ?_) | (refine call_fn_g ?_ (fun _ => hbl _) ?_) | (refine call_fn ?_ (hat _) ?_) | (refine call_fn_g ?_ (fun _ => hat _) ?_)) | ((first | apply cond_bool | apply cond_bit) <;> intro hb) | refine And.intro (by omega) ?_ | refine And.intro (fun hb => ?_) (fun hb => ?_) | refine Fin.pure ?_ ?_ ?_ | simp only [injs])
    | cons c t =>
      rw [hsk] at p1 hat
      obtain ⟨e1, e2, e3, e4⟩ := at_cons p1
      have hd1 : decide (p < s.length) = true := decide_eq_true e2
      have q62 : ((c.toNat : Int) == 62) = decide (c = 62) := beq_byte c 62
      by_cases h62 : c = 62
      · rw [decide_eq_true h62] at q62
        have hen : endO (skipL xr) = some (1, t) := by rw [hsk, h62]; rfl
        rw [tag_end hen, takV_some]
        have hlr : ((s.length - t.length : Nat) : Int) = ((p + 1 : Nat) : Int) := by omega
        rw [hlr]
        (repeat' first | simp only [fins,mems,Tryz.results47,Tryz.ntmps47,Kt,wks,w2,w3,w4,hz1,hz2,hn0,hkn,htp,hnl,plain_pr,tkC,prC,List.map_nil,Int.toNat_natCast,hd1,e1,e2,q62,vcs,Ka,Kb,Kc,Kd,Ke,Kf,Kg,Kh,Ki,Kj,Kk,Kl,Km,reduceCtorEq,reduceIte,Kn,Ko,Kp,Kq,Kr,Ks,tys] | exact rfl | refine call_off (v := .any) ?_ | (first | (refine call_fn ?_ (hbl _) ?_) | (refine call_fn_g ?_ (fun _ => hbl _) ?_)) | ((first | apply cond_bool | apply cond_bit) <;> intro hb) | refine And.intro (by omega) ?_ | refine And.intro (fun hb => ?_) (fun hb => ?_) | refine Fin.pure ?_ ?_ ?_ | simp only [injs])
      · rw [decide_eq_false h62] at q62
        cases t with
        | nil =>
          have hno := attr_short (s := [c]) (by simp)
          rw [hno, takA_none] at hat
          rw [tag_bad (by rw [hsk]; exact end_single h62) (by rw [hsk]; exact hno), takV_none]
          have hd2 : decide (p + 1 < s.length) = false := decide_eq_false (by simp at e4; omega)
          cases hk0 : (k == 0) with
          | true =>
            rw [hk0] at hkn
            (repeat' first | simp only [fins,mems,Tryz.results47,Tryz.ntmps47,Kt,wks,w2,w3,w4,hz1,hz2,hn0,hkn,htp,hnl,plain_pr,tkC,prC,List.map_nil,Int.toNat_natCast,hd1,hd2,e1,e2,q62,vcs,Ka,Kb,Kc,Kd,Ke,Kf,Kg,Kh,Ki,Kj,Kk,Kl,Km,reduceCtorEq,reduceIte,Kn,Ko,Kp,Kq,Kr,Ks,tys] | exact rfl | refine call_off (v := .any) ?_ | (first | (refine call_fn ?_ (hbl _) ?_) | (refine call_fn_g ?_ (fun _ => hbl _) ?_) | (refine call_fn ?_ (hat _) ?_) | (refine call_fn_g ?_ (fun _ => hat _) ?_)) | ((first | apply cond_bool | apply cond_bit) <;> intro hb) | refine And.intro (by omega) ?_ | refine And.intro (fun hb => ?_) (fun hb => ?_) | refine Fin.pure ?_ ?_ ?_ | simp only [injs])
          | false =>
            rw [hk0] at hkn
            (repeat' first | simp only [fins,mems,Tryz.results47,Tryz.ntmps47,Kt,wks,w2,w3,w4,hz1,hz2,hn0,hkn,htp,hnl,plain_pr,tkC,prC,List.map_nil,Int.toNat_natCast,hd1,hd2,e1,e2,q62,vcs,Ka,Kb,Kc,Kd,Ke,Kf,Kg,Kh,Ki,Kj,Kk,Kl,Km,reduceCtorEq,reduceIte,Kn,Ko,Kp,Kq,Kr,Ks,tys] | exact rfl | refine call_off (v := .any) ?_ | (first | (refine call_fn ?_ (hbl _) ?_) | (refine call_fn_g ?_ (fun _ => hbl _) ?_) | (refine call_fn ?_ (hat _) ?_) | (refine call_fn_g ?_ (fun _ => hat _) ?_)) | ((first | apply cond_bool | apply cond_bit) <;> intro hb) | refine And.intro (by omega) ?_ | refine And.intro (fun hb => ?_) (fun hb => ?_) | refine Fin.pure ?_ ?_ ?_ | simp only [injs])
        | cons d t =>
          obtain ⟨f1, f2, f3, f4⟩ := at_cons e3
          have hd2 : decide (p + 1 < s.length) = true := decide_eq_true f2
          have htwo := two_at p1
          have heq := two_eq c d
          have heq1 := two_eq1 c d
          have hz3 : ((p + 2 : Nat) : Int) ≤ (s.length : Int) := by omega
          by_cases hcd : c = 47 ∧ d = 62
          · rw [decide_eq_true hcd] at heq heq1
            have hen : endO (skipL xr) = some (3, t) := by rw [hsk, hcd.1, hcd.2]; rfl
            rw [tag_end hen, takV_some]
            have hlr : ((s.length - t.length : Nat) : Int) = ((p + 2 : Nat) : Int) := by omega
            rw [hlr]
            (repeat' first | simp only [fins,mems,Tryz.results47,Tryz.ntmps47,Kt,wks,w2,w3,w4,hz1,hz2,hn0,hkn,htp,hnl,plain_pr,tkC,prC,List.map_nil,Int.toNat_natCast,hd1,hd2,e1,e2,q62,htwo,heq,heq1,hz3,vcs,Ka,Kb,Kc,Kd,Ke,Kf,Kg,Kh,Ki,Kj,Kk,Kl,Km,reduceCtorEq,reduceIte,Kn,Ko,Kp,Kq,Kr,Ks,tys] | exact rfl | refine call_off (v := .any) ?_ | (first | (refine call_fn ?_ (hbl _) ?_) | (refine call_fn_g ?_ (fun _ => hbl _) ?_)) | ((first | apply cond_bool | apply cond_bit) <;> intro hb) | refine And.intro (by omega) ?_ | refine And.intro (fun hb => ?_) (fun hb => ?_) | refine Fin.pure ?_ ?_ ?_ | simp only [injs])
          · rw [decide_eq_false hcd] at heq heq1
            have hen : endO (skipL xr) = none := by rw [hsk]; exact end_other h62 hcd
            cases hao : attrO (c :: d :: t) with
            | none =>
              rw [hao, takA_none] at hat
              rw [tag_bad hen (by rw [hsk]; exact hao), takV_none]
              cases hk0 : (k == 0) with
              | true =>
                rw [hk0] at hkn
                (repeat' first | simp only [fins,mems,Tryz.results47,Tryz.ntmps47,Kt,wks,w2,w3,w4,hz1,hz2,hn0,hkn,htp,hnl,plain_pr,tkC,prC,List.map_nil,Int.toNat_natCast,hd1,hd2,e1,e2,q62,htwo,heq,heq1,hz3,vcs,Ka,Kb,Kc,Kd,Ke,Kf,Kg,Kh,Ki,Kj,Kk,Kl,Km,reduceCtorEq,reduceIte,Kn,Ko,Kp,Kq,Kr,Ks,tys] | exact rfl | refine call_off (v := .any) ?_ | (first | (refine call_fn ?_ (hbl _) ?_) | (refine call_fn_g ?_ (fun _ => hbl _) ?_) | (refine call_fn ?_ (hat _) ?_) | (refine call_fn_g ?_ (fun _ => hat _) ?_)) | ((first | apply cond_bool | apply cond_bit) <;> intro hb) | refine And.intro (by omega) ?_ | refine And.intro (fun hb => ?_) (fun hb => ?_) | refine Fin.pure ?_ ?_ ?_ | simp only [injs])
              | false =>
                rw [hk0] at hkn
                (repeat' first | simp only [fins,mems,Tryz.results47,Tryz.ntmps47,Kt,wks,w2,w3,w4,hz1,hz2,hn0,hkn,htp,hnl,plain_pr,tkC,prC,List.map_nil,Int.toNat_natCast,hd1,hd2,e1,e2,q62,htwo,heq,heq1,hz3,vcs,Ka,Kb,Kc,Kd,Ke,Kf,Kg,Kh,Ki,Kj,Kk,Kl,Km,reduceCtorEq,reduceIte,Kn,Ko,Kp,Kq,Kr,Ks,tys] | exact rfl | refine call_off (v := .any) ?_ | (first | (refine call_fn ?_ (hbl _) ?_) | (refine call_fn_g ?_ (fun _ => hbl _) ?_) | (refine call_fn ?_ (hat _) ?_) | (refine call_fn_g ?_ (fun _ => hat _) ?_)) | ((first | apply cond_bool | apply cond_bit) <;> intro hb) | refine And.intro (by omega) ?_ | refine And.intro (fun hb => ?_) (fun hb => ?_) | refine Fin.pure ?_ ?_ ?_ | simp only [injs])
            | some q =>
              obtain ⟨a, r⟩ := q
              rw [hao, takA_some] at hat
              have hsr := (attr_suf hao).trans (show Suf (c :: d :: t) s by rw [← p1]; exact suf_drop _ _)
              have hlr := (suf_at hsr).2
              have hneg : decide (((s.length - r.length : Nat) : Int) < 0) = false := decide_eq_false (by omega)
              have hao' : attrO (skipL xr) = some (a, r) := by rw [hsk]; exact hao
              cases hk0 : (k == 0) with
              | true =>
                rw [hk0] at hkn
                have hk0' : k = 0 := by simpa using hk0
                rw [tag_gap hen (by rw [hgz]; simpa using hk0'), takV_none]
                (repeat' first | simp only [fins,mems,Tryz.results47,Tryz.ntmps47,Kt,wks,w2,w3,w4,hz1,hz2,hn0,hkn,htp,hnl,plain_pr,tkC,prC,List.map_nil,Int.toNat_natCast,hd1,hd2,e1,e2,q62,htwo,heq,heq1,hz3,hneg,vcs,Ka,Kb,Kc,Kd,Ke,Kf,Kg,Kh,Ki,Kj,Kk,Kl,Km,reduceCtorEq,reduceIte,Kn,Ko,Kp,Kq,Kr,Ks,tys] | exact rfl | refine call_off (v := .any) ?_ | (first | (refine call_fn ?_ (hbl _) ?_) | (refine call_fn_g ?_ (fun _ => hbl _) ?_) | (refine call_fn ?_ (hat _) ?_) | (refine call_fn_g ?_ (fun _ => hat _) ?_)) | ((first | apply cond_bool | apply cond_bit) <;> intro hb) | refine And.intro (by omega) ?_ | refine And.intro (fun hb => ?_) (fun hb => ?_) | refine Fin.pure ?_ ?_ ?_ | simp only [injs])
              | false =>
                rw [hk0] at hkn
                have hk0' : k ≠ 0 := by simpa using hk0
                have hg : (skipL xr).length < xr.length := by rw [hgz]; exact hk0'
                have hha := has_ev xl a.name (by unfold lim; omega)
                cases hany : (xl.any fun b => a.name == b.name) with
                | true =>
                  rw [hany] at hha
                  rw [tag_twice hen hao' hany, takV_none]
                  (repeat' first | simp only [fins,mems,Tryz.results47,Tryz.ntmps47,Kt,wks,w2,w3,w4,hz1,hz2,hn0,hkn,htp,hnl,plain_pr,tkC,prC,List.map_nil,Int.toNat_natCast,hd1,hd2,e1,e2,q62,htwo,heq,heq1,hz3,hneg,vcs,Ka,Kb,Kc,Kd,Ke,Kf,Kg,Kh,Ki,Kj,Kk,Kl,Km,reduceCtorEq,reduceIte,Kn,Ko,Kp,Kq,Kr,Ks,tys] | exact rfl | refine call_off (v := .any) ?_ | (first | (refine call_fn ?_ (hbl _) ?_) | (refine call_fn_g ?_ (fun _ => hbl _) ?_) | (refine call_fn ?_ (hat _) ?_) | (refine call_fn_g ?_ (fun _ => hat _) ?_)) | ((refine call_fn_gvx (xs := ?_) [b0 + 2] ?_ (fun _ => ?_) (fun _ => ?_) rfl ((fun _ => hha _)) ?_); rotate_left 1) | omega | ((first | apply cond_bool | apply cond_bit) <;> intro hb) | refine And.intro (by omega) ?_ | refine And.intro (fun hb => ?_) (fun hb => ?_) | refine Fin.pure ?_ ?_ ?_ | simp only [injs])
                | false =>
                  rw [hany] at hha
                  have hta := tag_attr (n := n) hen hg hao' hany
                  have hlt := attr_lt hao
                  have hnx : xl.map prC ++ [[.str a.name, .str a.value]] = (xl ++ [a]).map prC := by simp [prC]
                  have hnn : (xl ++ [a]).length = xl.length + 1 := by simp
                  have hnv : (List.length (c :: d :: t)) ≤ xr.length := by rw [← hsk]; exact hsl
                  rw [hta]
                  repeat' first | simp only [fins,mems,Tryz.results47,Tryz.ntmps47,Kt,wks,w2,w3,w4,hz1,hz2,hn0,hkn,htp,hnl,plain_pr,tkC,prC,List.map_nil,Int.toNat_natCast,hd1,hd2,e1,e2,q62,htwo,heq,heq1,hz3,hneg,vcs,Ka,Kb,Kc,Kd,Ke,Kf,Kg,Kh,Ki,Kj,Kk,Kl,Km,reduceCtorEq,reduceIte,Kn,Ko,Kp,Kq,Kr,Ks,tys] | exact rfl | refine call_off (v := .any) ?_ | (first | (refine call_fn ?_ (hbl _) ?_) | (refine call_fn_g ?_ (fun _ => hbl _) ?_) | (refine call_fn ?_ (hat _) ?_) | (refine call_fn_g ?_ (fun _ => hat _) ?_)) | ((refine call_fn_gvx (xs := ?_) [b0 + 2] ?_ (fun _ => ?_) (fun _ => ?_) rfl ((fun _ => hha _)) ?_); rotate_left 1) | omega | ((first | apply cond_bool | apply cond_bit) <;> intro hb) | refine And.intro (by omega) ?_ | refine And.intro (fun hb => ?_) (fun hb => ?_)
                  all_goals ((refine again_can2 cxG (⟨xl ++ [a], r⟩) [some b0, some (b0 + 1), some (b0 + 976)] ?_ ?_ ?_ ?_; rotate_left 2; (focus (show b0 ≤ _; omega)); (focus (refine ⟨?_, ?_⟩ <;> (try simp only [cans,isRow_inst,hnx,hnn,htp,plain_pr,List.length_map,vcs,Ka,Kb,Kc,Kd,Ke,Kf,Kg,Kh,Ki,Kj,Kk,Kl,Km,reduceCtorEq,reduceIte,Kn,Ko,Kp,Kq,Kr,Ks,tys,injs]) <;> (try omega)))))
                  all_goals (first | exact ⟨hta.symm.trans g1, hsr, by show (xl ++ [a]).length + r.length ≤ 500000; rw [hnn]; omega⟩ | (show r.length < xr.length; omega) | skip)
theorem rTagS_ev (s t : List UInt8) (at' : Nat) (hs : s.length ≤ 500000) (h : s.drop at' = 60 :: 47 :: t) (nm : Nat) : Ev cx 47 nm [.str s, .int .i64 at'] Mem.nil (takV s (tagO (47 :: t))) [] := by
  obtain ⟨_, a1, a2, _⟩ := at_cons h
  obtain ⟨c1, c2, c3, c4⟩ := at_cons a2
  have hsh := rShut_ev s t at' (by omega) h
  have w0 := wadd1 (a := at') (by omega)
  have hd : decide (at' + 1 < s.length) = true := decide_eq_true c2
  have q47 : (((47 : UInt8).toNat : Int) == 47) = true := by decide
  cases ho : tagO (47 :: t) with
  | none =>
    rw [ho, takV_none] at hsh
    rw [takV_none]
    refine ev_go rfl (fun cargs w => Tryz.call47 cargs w) Tryz.func47 rfl mixed (by kernel_rfl) rfl ?_; intro b0 hb0
    (repeat' first | simp only [fins,mems,Tryz.results47,Tryz.ntmps47,Kt,wks,w0,hd,c1,c2,q47,tkC,List.map_nil,Int.toNat_natCast,vcs,Ka,Kb,Kc,Kd,Ke,Kf,Kg,Kh,Ki,Kj,Kk,Kl,Km,reduceCtorEq,reduceIte,Kn,Ko,Kp,Kq,Kr,Ks,tys] | exact rfl | refine call_off (v := .any) ?_ | (first | (refine call_fn ?_ (hsh _) ?_) | (refine call_fn_g ?_ (fun _ => hsh _) ?_)) | ((first | apply cond_bool | apply cond_bit) <;> intro hb) | refine And.intro (by omega) ?_ | refine And.intro (fun hb => ?_) (fun hb => ?_) | refine Fin.pure ?_ ?_ ?_ | simp only [injs])
  | some p =>
    obtain ⟨u, r⟩ := p
    rw [ho, takV_some] at hsh
    rw [takV_some]
    refine ev_go rfl (fun cargs w => Tryz.call47 cargs w) Tryz.func47 rfl mixed (by kernel_rfl) rfl ?_; intro b0 hb0
    (repeat' first | simp only [fins,mems,Tryz.results47,Tryz.ntmps47,Kt,wks,w0,hd,c1,c2,q47,tkC,plain_pr,Int.toNat_natCast,vcs,Ka,Kb,Kc,Kd,Ke,Kf,Kg,Kh,Ki,Kj,Kk,Kl,Km,reduceCtorEq,reduceIte,Kn,Ko,Kp,Kq,Kr,Ks,tys] | exact rfl | refine call_off (v := .any) ?_ | (first | (refine call_fn ?_ (hsh _) ?_) | (refine call_fn_g ?_ (fun _ => hsh _) ?_)) | ((first | apply cond_bool | apply cond_bit) <;> intro hb) | refine And.intro (by omega) ?_ | refine And.intro (fun hb => ?_) (fun hb => ?_) | refine Fin.pure ?_ ?_ ?_ | simp only [injs])
theorem rTag9_ev (s u : List UInt8) (at' : Nat) (hs : s.length ≤ 500000) (h : s.drop at' = 60 :: u) (nm : Nat) : Ev cx 47 nm [.str s, .int .i64 at'] Mem.nil (takV s (tagO u)) [] := by
  cases h47 : afterO 47 u with
  | some t =>
    obtain rfl := after_some h47
    exact rTagS_ev s t at' hs h nm
  | none =>
    cases hn : nameO u with
    | none => exact rTagN_ev s u at' hs h h47 hn nm
    | some p =>
      obtain ⟨n, r0⟩ := p
      exact rTagB_ev s u n r0 at' hs h h47 hn nm
theorem one_text {s : List UInt8} (h : afterO 60 s = none) : oneO s = (readL (textT s)).map fun x => (⟨4, [], [], x⟩, textR s) := by
  unfold oneO; rw [h]
theorem rOne9_ev (s : List UInt8) (at' : Nat) (hs : s.length ≤ 500000) (hlt : at' < s.length) (nm : Nat) : Ev cx 25 nm [.str s, .int .i64 at'] Mem.nil (takV s (oneO (s.drop at'))) [] := by
  obtain ⟨c, u, hcu⟩ : ∃ c u, s.drop at' = c :: u := by
    cases h : s.drop at' with
    | nil => exact absurd (at_nil h) (by omega)
    | cons c u => exact ⟨c, u, rfl⟩
  obtain ⟨c1, c2, c3, c4⟩ := at_cons hcu
  have q60 : ((c.toNat : Int) == 60) = decide (c = 60) := beq_byte c 60
  by_cases h60 : c = 60
  · subst h60
    rw [decide_eq_true rfl] at q60
    have htg := rTag9_ev s u at' hs hcu
    have ho : oneO (s.drop at') = tagO u := by
      rw [hcu]; unfold oneO; rw [after_cons, if_pos rfl]
    rw [ho]
    cases hto : tagO u with
    | none =>
      rw [hto, takV_none] at htg
      rw [takV_none]
      refine ev_go rfl (fun cargs w => Tryz.call25 cargs w) Tryz.func25 rfl mixed (by kernel_rfl) rfl ?_; intro b0 hb0
      (repeat' first | simp only [fins,mems,Tryz.results25,Tryz.ntmps25,Kt,wks,c1,c2,q60,tkC,List.map_nil,Int.toNat_natCast,vcs,Ka,Kb,Kc,Kd,Ke,Kf,Kg,Kh,Ki,Kj,Kk,Kl,Km,reduceCtorEq,reduceIte,Kn,Ko,Kp,Kq,Kr,Ks,tys] | exact rfl | refine call_off (v := .any) ?_ | (first | (refine call_fn ?_ (htg _) ?_) | (refine call_fn_g ?_ (fun _ => htg _) ?_)) | ((first | apply cond_bool | apply cond_bit) <;> intro hb) | refine And.intro (by omega) ?_ | refine And.intro (fun hb => ?_) (fun hb => ?_) | refine Fin.pure ?_ ?_ ?_ | simp only [injs])
    | some p =>
      obtain ⟨t, r⟩ := p
      rw [hto, takV_some] at htg
      rw [takV_some]
      refine ev_go rfl (fun cargs w => Tryz.call25 cargs w) Tryz.func25 rfl mixed (by kernel_rfl) rfl ?_; intro b0 hb0
      (repeat' first | simp only [fins,mems,Tryz.results25,Tryz.ntmps25,Kt,wks,c1,c2,q60,tkC,plain_pr,Int.toNat_natCast,vcs,Ka,Kb,Kc,Kd,Ke,Kf,Kg,Kh,Ki,Kj,Kk,Kl,Km,reduceCtorEq,reduceIte,Kn,Ko,Kp,Kq,Kr,Ks,tys] | exact rfl | refine call_off (v := .any) ?_ | (first | (refine call_fn ?_ (htg _) ?_) | (refine call_fn_g ?_ (fun _ => htg _) ?_)) | ((first | apply cond_bool | apply cond_bit) <;> intro hb) | refine And.intro (by omega) ?_ | refine And.intro (fun hb => ?_) (fun hb => ?_) | refine Fin.pure ?_ ?_ ?_ | simp only [injs])
  · rw [decide_eq_false h60] at q60
    have ha : afterO 60 (s.drop at') = none := by rw [hcu, after_cons, if_neg h60]
    rw [one_text ha]
    have hz0 : (0 : Int) ≤ (at' : Int) := by omega
    refine ev_go rfl (fun cargs w => Tryz.call25 cargs w) Tryz.func25 rfl mixed (by kernel_rfl) rfl ?_; intro b0 hb0
    repeat' first | simp only [fins,mems,Tryz.results25,Tryz.ntmps25,Kt,wks,c1,c2,q60,Int.toNat_natCast,vcs,Ka,Kb,Kc,Kd,Ke,Kf,Kg,Kh,Ki,Kj,Kk,Kl,Km,reduceCtorEq,reduceIte,Kn,Ko,Kp,Kq,Kr,Ks,tys] | exact rfl | refine call_off (v := .any) ?_ | ((first | apply cond_bool | apply cond_bit) <;> intro hb) | refine And.intro (by omega) ?_ | refine And.intro (fun hb => ?_) (fun hb => ?_)
    (refine loop_can2 cxG (fun x : Nat => s.length - x) (fun x => spanTo textB s at' x) (b0 + 16) (fun x => [(0, .str s), (1, .int .i64 at'), (4, .ptr b0 0 0), (6, .int .i64 x)]) (fun x => [(b0, ⟨4, [[.int .u8 0, .str [], .nils, .str []]]⟩)]) (at') [some b0] ?_ ?_ ?_ ?_; rotate_left 1; (focus (show b0 ≤ _; omega)); (focus (refine ⟨?_, ?_⟩ <;> (try simp only [cans,isRow_inst,vcs,Ka,Kb,Kc,Kd,Ke,Kf,Kg,Kh,Ki,Kj,Kk,Kl,Km,reduceCtorEq,reduceIte,Kn,Ko,Kp,Kq,Kr,Ks,tys,injs]) <;> (try omega))); rotate_left 1)
    · exact span_zero _ (by omega)
    · intro e h
      have g1 := h.1
      have g2 := h.2.1
      have hwe := wadd1 (a := e) (by omega)
      have hz1 : (0 : Int) ≤ (e : Int) := by omega
      have hz2 : (at' : Int) ≤ (e : Int) := by omega
      have hz3 : (e : Int) ≤ (s.length : Int) := by omega
      have hfin : ∀ (he : ∀ c, s[e]? = some c → textB c = false), (s.drop at').take (e - at') = textT (s.drop at') ∧ textR (s.drop at') = s.drop e := fun he => by
        obtain ⟨k1, k2⟩ := span_end h he
        exact ⟨k1.symm, k2⟩
      have hle : (textT (s.drop at')).length ≤ s.length := by
        have := congrArg List.length ((List.takeWhile_append_dropWhile (p := textB) (l := s.drop at')).symm)
        rw [List.length_append, List.length_drop] at this
        unfold textT; omega
      have hrd := rRead_ev (textT (s.drop at')) (by omega)
      have hlr : ((s.length - (s.drop e).length : Nat) : Int) = (e : Int) := by rw [List.length_drop]; omega
      by_cases hx : e < s.length
      · obtain ⟨c', hc'⟩ : ∃ c, s[e]? = some c := ⟨_, List.getElem?_eq_getElem hx⟩
        have hdx : decide (e < s.length) = true := decide_eq_true hx
        have hq0 : ((c'.toNat : Int) == 60) = decide (c' = 60) := beq_byte c' 60
        have hqq : ((c'.toNat : Int) != 60) = textB c' := by
          unfold textB bne
          rw [hq0]
          by_cases h : c' = 60 <;> simp [h]
        cases hnq : textB c' with
        | true =>
          rw [hnq] at hqq
          have hn := span_succ h hc' hnq
          repeat' first | simp only [fins,mems,Tryz.results25,Tryz.ntmps25,Kt,wks,hc',hdx,hx,hqq,hwe,hz1,Int.toNat_natCast,vcs,Ka,Kb,Kc,Kd,Ke,Kf,Kg,Kh,Ki,Kj,Kk,Kl,Km,reduceCtorEq,reduceIte,Kn,Ko,Kp,Kq,Kr,Ks,tys] | exact rfl | refine call_off (v := .any) ?_ | refine And.intro (by omega) ?_
          all_goals ((refine again_can2 cxG (e + 1) [some b0] ?_ ?_ ?_ ?_; rotate_left 2; (focus (show b0 ≤ _; omega)); (focus (refine ⟨?_, ?_⟩ <;> (try simp only [cans,isRow_inst,vcs,Ka,Kb,Kc,Kd,Ke,Kf,Kg,Kh,Ki,Kj,Kk,Kl,Km,reduceCtorEq,reduceIte,Kn,Ko,Kp,Kq,Kr,Ks,tys,injs]) <;> (try omega)))))
          all_goals (first | (show s.length - (e + 1) < s.length - e; omega) | exact hn | skip)
        | false =>
          rw [hnq] at hqq
          obtain ⟨k1, k2⟩ := hfin (fun d hd => by rw [hc'] at hd; cases hd; exact hnq)
          rw [k2]
          cases hto : readL (textT (s.drop at')) with
          | none =>
            rw [hto, tellV_none] at hrd
            rw [Option.map_none, takV_none]
            (repeat' first | simp only [fins,mems,Tryz.results25,Tryz.ntmps25,Kt,wks,tkC,List.map_nil,hc',hdx,hx,hqq,hz0,hz1,hz2,hz3,k1,Int.toNat_natCast,Bool.not_false,Bool.not_true,vcs,Ka,Kb,Kc,Kd,Ke,Kf,Kg,Kh,Ki,Kj,Kk,Kl,Km,reduceCtorEq,reduceIte,Kn,Ko,Kp,Kq,Kr,Ks,tys] | exact rfl | refine call_off (v := .any) ?_ | (first | (refine call_fn ?_ (hrd _) ?_) | (refine call_fn_g ?_ (fun _ => hrd _) ?_)) | refine And.intro (by omega) ?_ | refine Fin.pure ?_ ?_ ?_ | simp only [injs])
          | some v =>
            rw [hto, tellV_some] at hrd
            rw [Option.map_some, takV_some, hlr]
            (repeat' first | simp only [fins,mems,Tryz.results25,Tryz.ntmps25,Kt,wks,tkC,List.map_nil,hc',hdx,hx,hqq,hz0,hz1,hz2,hz3,k1,Int.toNat_natCast,Bool.not_false,Bool.not_true,vcs,Ka,Kb,Kc,Kd,Ke,Kf,Kg,Kh,Ki,Kj,Kk,Kl,Km,reduceCtorEq,reduceIte,Kn,Ko,Kp,Kq,Kr,Ks,tys] | exact rfl | refine call_off (v := .any) ?_ | (first | (refine call_fn ?_ (hrd _) ?_) | (refine call_fn_g ?_ (fun _ => hrd _) ?_)) | refine And.intro (by omega) ?_ | refine Fin.pure ?_ ?_ ?_ | simp only [injs])
      · have hdx : decide (e < s.length) = false := decide_eq_false hx
        obtain ⟨k1, k2⟩ := hfin (fun d hd => by rw [List.getElem?_eq_none (by omega)] at hd; cases hd)
        rw [k2]
        cases hto : readL (textT (s.drop at')) with
        | none =>
          rw [hto, tellV_none] at hrd
          rw [Option.map_none, takV_none]
          (repeat' first | simp only [fins,mems,Tryz.results25,Tryz.ntmps25,Kt,wks,tkC,List.map_nil,hdx,hx,hz0,hz1,hz2,hz3,k1,Int.toNat_natCast,Bool.not_false,Bool.not_true,vcs,Ka,Kb,Kc,Kd,Ke,Kf,Kg,Kh,Ki,Kj,Kk,Kl,Km,reduceCtorEq,reduceIte,Kn,Ko,Kp,Kq,Kr,Ks,tys] | exact rfl | refine call_off (v := .any) ?_ | (first | (refine call_fn ?_ (hrd _) ?_) | (refine call_fn_g ?_ (fun _ => hrd _) ?_)) | refine And.intro (by omega) ?_ | refine Fin.pure ?_ ?_ ?_ | simp only [injs])
        | some v =>
          rw [hto, tellV_some] at hrd
          rw [Option.map_some, takV_some, hlr]
          (repeat' first | simp only [fins,mems,Tryz.results25,Tryz.ntmps25,Kt,wks,tkC,List.map_nil,hdx,hx,hz0,hz1,hz2,hz3,k1,Int.toNat_natCast,Bool.not_false,Bool.not_true,vcs,Ka,Kb,Kc,Kd,Ke,Kf,Kg,Kh,Ki,Kj,Kk,Kl,Km,reduceCtorEq,reduceIte,Kn,Ko,Kp,Kq,Kr,Ks,tys] | exact rfl | refine call_off (v := .any) ?_ | (first | (refine call_fn ?_ (hrd _) ?_) | (refine call_fn_g ?_ (fun _ => hrd _) ?_)) | refine And.intro (by omega) ?_ | refine Fin.pure ?_ ?_ ?_ | simp only [injs])
theorem rLex_ev (s : List UInt8) (hs : s.length ≤ lim) (nm : Nat) : Ev cx 9 nm [.str s] Mem.nil (lexV (lexA s)) [] := by
  have hck := rCheck_ev s hs
  by_cases hp : ptsErr s = 0
  · obtain ⟨hsl, hsd⟩ := ptsErr_iff.1 hp
    have hA : lexA s = lexG s.length [] s := by unfold lexA; rw [if_neg (by simp [hp])]
    rw [hA]
    generalize hB : lexG s.length [] s = A
    obtain ⟨L, at0, e0⟩ := A
    unfold lexV
    rw [hp] at hck
    have hself : s.length - s.length = 0 := Nat.sub_self _
    refine ev_go rfl (fun cargs w => Tryz.call9 cargs w) Tryz.func9 rfl mixed (by kernel_rfl) rfl ?_; intro b0 hb0
    repeat' first | simp only [fins,mems,Tryz.results9,Tryz.ntmps9,Kt,wks,vcs,Ka,Kb,Kc,Kd,Ke,Kf,Kg,Kh,Ki,Kj,Kk,Kl,Km,reduceCtorEq,reduceIte,Kn,Ko,Kp,Kq,Kr,Ks,tys] | exact rfl | refine call_off (v := .any) ?_ | (first | (refine call_fn ?_ (hck _) ?_) | (refine call_fn_g ?_ (fun _ => hck _) ?_)) | ((first | apply cond_bool | apply cond_bit) <;> intro hb) | refine And.intro (by omega) ?_ | refine And.intro (fun hb => ?_) (fun hb => ?_)
    (refine loop_can2 cxG (fun x : LSt => x.rest.length) (fun x => lexG s.length x.l x.rest = (L, at0, e0) ∧ Suf x.rest s ∧ x.l.length ≤ 512) (b0 + 16) (fun x => [(0, .str s), (6, .own b0 0 x.l.length), (7, .int .i64 ((s.length - x.rest.length : Nat) : Int))]) (fun x => [(b0, ⟨4, x.l.map tkC⟩)]) (⟨[], s⟩) [none] ?_ ?_ ?_ ?_; rotate_left 1; (focus (show b0 ≤ _; omega)); (focus (refine ⟨?_, ?_⟩ <;> (try simp only [cans,isRow_inst,hself,List.map_nil,List.length_nil,Int.ofNat_zero,vcs,Ka,Kb,Kc,Kd,Ke,Kf,Kg,Kh,Ki,Kj,Kk,Kl,Km,reduceCtorEq,reduceIte,Kn,Ko,Kp,Kq,Kr,Ks,tys,injs]) <;> (try omega))); rotate_left 1)
    · exact ⟨hB, Suf.refl _, Nat.zero_le _⟩
    · rintro ⟨xl, xr⟩ ⟨g1, g2, g4⟩
      dsimp only at g1 g2 g4 ⊢
      obtain ⟨d1, d2⟩ := suf_at g2
      have hnl : (xl.map tkC).length = xl.length := List.length_map _
      by_cases hnil : xr = []
      · subst hnil
        rw [lexG_nil] at g1
        cases g1
        have hne : decide (s.length - ([] : List UInt8).length < s.length) = false := decide_eq_false (by simp)
        have hl0 : s.length - 0 = s.length := rfl
        have hne2 : decide (s.length < s.length) = false := decide_eq_false (by omega)
        (repeat' first | simp only [fins,mems,Tryz.results9,Tryz.ntmps9,Kt,wks,hne,hl0,hne2,plain_tk,hnl,List.length_nil,List.take_of_length_le,Nat.le_refl,vcs,Ka,Kb,Kc,Kd,Ke,Kf,Kg,Kh,Ki,Kj,Kk,Kl,Km,reduceCtorEq,reduceIte,Kn,Ko,Kp,Kq,Kr,Ks,tys] | exact rfl | refine call_off (v := .any) ?_ | ((first | apply cond_bool | apply cond_bit) <;> intro hb) | refine And.intro (by omega) ?_ | refine And.intro (fun hb => ?_) (fun hb => ?_) | refine Fin.pure ?_ ?_ ?_ | simp only [injs])
      · have hpos := List.length_pos_iff.2 hnil
        have hlt : s.length - xr.length < s.length := by omega
        have hone := rOne9_ev s (s.length - xr.length) (by omega) hlt
        rw [d1] at hone
        have hd : decide (s.length - xr.length < s.length) = true := decide_eq_true hlt
        generalize hpp : s.length - xr.length = p at *
        have hm1 : decide ((0 : Int) ≤ -1) = false := by decide
        have hm2 : decide ((-1 : Int) < 0) = true := by decide
        by_cases hm : 512 ≤ xl.length
        · have hge : ((xl.length : Int) == 512) = true := by rw [beq_iff_eq]; omega
          have hge2 : (xl.length == 512) = true := by rw [beq_iff_eq]; omega
          rw [lexG_many hnil hm, hpp] at g1
          cases g1
          cases ho : oneO xr with
          | none =>
            rw [ho, takV_none] at hone
            (repeat' first | simp only [fins,mems,Tryz.results9,Tryz.ntmps9,Kt,wks,tkC,List.map_nil,hd,hge,hge2,hnl,plain_tk,vcs,Ka,Kb,Kc,Kd,Ke,Kf,Kg,Kh,Ki,Kj,Kk,Kl,Km,reduceCtorEq,reduceIte,Kn,Ko,Kp,Kq,Kr,Ks,tys] | exact rfl | refine call_off (v := .any) ?_ | (first | (refine call_fn ?_ (hone _) ?_) | (refine call_fn_g ?_ (fun _ => hone _) ?_)) | ((first | apply cond_bool | apply cond_bit) <;> intro hb) | refine And.intro (by omega) ?_ | refine And.intro (fun hb => ?_) (fun hb => ?_) | refine Fin.pure ?_ ?_ ?_ | simp only [injs])
          | some q =>
            obtain ⟨t, r⟩ := q
            rw [ho, takV_some] at hone
            (repeat' first | simp only [fins,mems,Tryz.results9,Tryz.ntmps9,Kt,wks,tkC,plain_pr,List.map_nil,hd,hge,hge2,hnl,plain_tk,vcs,Ka,Kb,Kc,Kd,Ke,Kf,Kg,Kh,Ki,Kj,Kk,Kl,Km,reduceCtorEq,reduceIte,Kn,Ko,Kp,Kq,Kr,Ks,tys] | exact rfl | refine call_off (v := .any) ?_ | (first | (refine call_fn ?_ (hone _) ?_) | (refine call_fn_g ?_ (fun _ => hone _) ?_)) | ((first | apply cond_bool | apply cond_bit) <;> intro hb) | refine And.intro (by omega) ?_ | refine And.intro (fun hb => ?_) (fun hb => ?_) | refine Fin.pure ?_ ?_ ?_ | simp only [injs])
        · have hge : ((xl.length : Int) == 512) = false := by rw [beq_eq_false_iff_ne]; omega
          have hge2 : (xl.length == 512) = false := by rw [beq_eq_false_iff_ne]; omega
          cases ho : oneO xr with
          | none =>
            rw [ho, takV_none] at hone
            rw [lexG_bad hnil (by omega) ho, hpp] at g1
            cases g1
            (repeat' first | simp only [fins,mems,Tryz.results9,Tryz.ntmps9,Kt,wks,tkC,List.map_nil,hd,hge,hge2,hm1,hm2,hnl,plain_tk,vcs,Ka,Kb,Kc,Kd,Ke,Kf,Kg,Kh,Ki,Kj,Kk,Kl,Km,reduceCtorEq,reduceIte,Kn,Ko,Kp,Kq,Kr,Ks,tys] | exact rfl | refine call_off (v := .any) ?_ | (first | (refine call_fn ?_ (hone _) ?_) | (refine call_fn_g ?_ (fun _ => hone _) ?_)) | ((first | apply cond_bool | apply cond_bit) <;> intro hb) | refine And.intro (by omega) ?_ | refine And.intro (fun hb => ?_) (fun hb => ?_) | refine Fin.pure ?_ ?_ ?_ | simp only [injs])
          | some q =>
            obtain ⟨t, r⟩ := q
            have hrl := one_lt hnil ho
            rw [ho, takV_some] at hone
            have hsr := (one_suf ho).trans g2
            have hk1 : decide ((0 : Int) ≤ ((s.length - r.length : Nat) : Int)) = true := decide_eq_true (by omega)
            have hk2 : decide (((s.length - r.length : Nat) : Int) < 0) = false := decide_eq_false (by omega)
            have hnx : xl.map tkC ++ [[.int .u8 t.kind, .str t.name, .sl false 2 (t.attrs.map prC), .str t.text]] = (xl ++ [t]).map tkC := by rw [List.map_append]; rfl
            have hnl1 : (xl ++ [t]).length = xl.length + 1 := by simp
            by_cases h16 : 16 < t.attrs.length
            · rw [lexG_great hnil (by omega) ho h16, hpp] at g1
              cases g1
              have h16d : decide ((16 : Int) < (t.attrs.length : Int)) = true := decide_eq_true (by omega)
              (repeat' first | simp only [fins,mems,Tryz.results9,Tryz.ntmps9,Kt,wks,tkC,plain_pr,List.map_nil,hd,hge,hge2,hk1,hk2,h16d,hnl,plain_tk,List.length_map,vcs,Ka,Kb,Kc,Kd,Ke,Kf,Kg,Kh,Ki,Kj,Kk,Kl,Km,reduceCtorEq,reduceIte,Kn,Ko,Kp,Kq,Kr,Ks,tys] | exact rfl | refine call_off (v := .any) ?_ | (first | (refine call_fn ?_ (hone _) ?_) | (refine call_fn_g ?_ (fun _ => hone _) ?_)) | ((first | apply cond_bool | apply cond_bit) <;> intro hb) | refine And.intro (by omega) ?_ | refine And.intro (fun hb => ?_) (fun hb => ?_) | refine Fin.pure ?_ ?_ ?_ | simp only [injs])
            · rw [lexG_go hnil (by omega) ho (by omega)] at g1
              have h16d : decide ((16 : Int) < (t.attrs.length : Int)) = false := decide_eq_false (by omega)
              repeat' first | simp only [fins,mems,Tryz.results9,Tryz.ntmps9,Kt,wks,tkC,plain_pr,List.map_nil,hd,hge,hge2,hk1,hk2,h16d,hnl,plain_tk,List.length_map,vcs,Ka,Kb,Kc,Kd,Ke,Kf,Kg,Kh,Ki,Kj,Kk,Kl,Km,reduceCtorEq,reduceIte,Kn,Ko,Kp,Kq,Kr,Ks,tys] | exact rfl | refine call_off (v := .any) ?_ | (first | (refine call_fn ?_ (hone _) ?_) | (refine call_fn_g ?_ (fun _ => hone _) ?_)) | ((first | apply cond_bool | apply cond_bit) <;> intro hb) | refine And.intro (by omega) ?_ | refine And.intro (fun hb => ?_) (fun hb => ?_)
              all_goals ((refine again_can2 cxG (⟨xl ++ [t], r⟩) [some (b0 + 512)] ?_ ?_ ?_ ?_; rotate_left 2; (focus (show b0 ≤ _; omega)); (focus (refine ⟨?_, ?_⟩ <;> (try simp only [cans,isRow_inst,plain_pr,plain_tk,hnx,hnl1,List.length_map,vcs,Ka,Kb,Kc,Kd,Ke,Kf,Kg,Kh,Ki,Kj,Kk,Kl,Km,reduceCtorEq,reduceIte,Kn,Ko,Kp,Kq,Kr,Ks,tys,injs]) <;> (try omega)))))
              all_goals (first | exact ⟨g1, hsr, by show (xl ++ [t]).length ≤ 512; rw [hnl1]; omega⟩ | (show r.length < xr.length; omega) | skip)
  · have hA : lexA s = ([], 0, ptsErr s) := by unfold lexA; rw [if_pos (by simpa using hp)]
    have hb : (ptsErr s != 0) = true := by simpa using hp
    rw [hA]
    unfold lexV
    refine ev_go rfl (fun cargs w => Tryz.call9 cargs w) Tryz.func9 rfl mixed (by kernel_rfl) rfl ?_; intro b0 hb0
    (repeat' first | simp only [fins,mems,Tryz.results9,Tryz.ntmps9,Kt,wks,hb,vcs,Ka,Kb,Kc,Kd,Ke,Kf,Kg,Kh,Ki,Kj,Kk,Kl,Km,reduceCtorEq,reduceIte,Kn,Ko,Kp,Kq,Kr,Ks,tys] | exact rfl | refine call_off (v := .any) ?_ | (first | (refine call_fn ?_ (hck _) ?_) | (refine call_fn_g ?_ (fun _ => hck _) ?_)) | ((first | apply cond_bool | apply cond_bit) <;> intro hb) | refine And.intro (by omega) ?_ | refine And.intro (fun hb => ?_) (fun hb => ?_) | refine Fin.pure ?_ ?_ ?_ | simp only [injs])
def sameTo {α : Type} (a b : List α) (k : Nat) : Prop := ∀ i, i < k → a[i]? = b[i]?
theorem same_all {α : Type} {a b : List α} (hl : a.length = b.length) (h : sameTo a b a.length) : a = b := by
  refine List.ext_getElem? fun i => ?_
  by_cases hi : i < a.length
  · exact h i hi
  · rw [List.getElem?_eq_none (by omega), List.getElem?_eq_none (by omega)]
theorem sameTo_succ {α : Type} {a b : List α} {k : Nat} {x : α} (h : sameTo a b k) (ha : a[k]? = some x) (hb : b[k]? = some x) : sameTo a b (k + 1) := by
  intro i hi
  by_cases e : i = k
  · subst e; rw [ha, hb]
  · exact h i (by omega)
theorem same_no {α : Type} {a b : List α} {k : Nat} {x y : α} (ha : a[k]? = some x) (hb : b[k]? = some y) (h : x ≠ y) : a ≠ b := by
  rintro rfl
  rw [ha] at hb; cases hb; exact h rfl
theorem len_bne_eq {n m : Nat} (h : n = m) : ((n : Int) != (m : Int)) = false := by subst h; simp
theorem len_bne_ne {n m : Nat} (h : n ≠ m) : ((n : Int) != (m : Int)) = true := by rw [bne_iff_ne]; omega
theorem samePr_ev (a b : List Pr) (ha : a.length ≤ lim) (hb : b.length ≤ lim) (nm : Nat) : Ev cx 26 nm [.sl false 2 (a.map prC), .sl false 2 (b.map prC)] Mem.nil (.bool (decide (a = b))) [] := by
  unfold lim at ha hb
  by_cases hl : a.length = b.length
  · have e1 : (((a.length : Nat) : Int) != ((b.length : Nat) : Int)) = false := len_bne_eq hl
    refine ev_go rfl (fun cargs w => Tryz.call26 cargs w) Tryz.func26 rfl mixed (by kernel_rfl) rfl ?_; intro b0 hb0
    repeat' first | simp only [fins,mems,Tryz.results26,Tryz.ntmps26,Kt,wks,e1,Bool.not_true,List.length_map,vcs,Ka,Kb,Kc,Kd,Ke,Kf,Kg,Kh,Ki,Kj,Kk,Kl,Km,reduceCtorEq,reduceIte,Kn,Ko,Kp,Kq,Kr,Ks,tys] | exact rfl | refine call_off (v := .any) ?_ | refine draw_end (by decide +kernel) ?_ | ((first | apply cond_bool | apply cond_bit) <;> intro hb) | refine And.intro (by omega) ?_ | refine And.intro (fun hb => ?_) (fun hb => ?_)
    (refine loop_can2 cxG (fun x : Nat => a.length - x) (fun x => x ≤ a.length ∧ sameTo a b x) (b0 + 16) (fun x => [(0, .sl false 2 (a.map prC)), (1, .sl false 2 (b.map prC)), (5, .int .i64 x)]) (fun x => []) (0) [] ?_ ?_ ?_ ?_; rotate_left 1; (focus (show b0 ≤ _; omega)); (focus (refine ⟨?_, ?_⟩ <;> (try simp only [cans,plain_pr,List.length_map,vcs,Ka,Kb,Kc,Kd,Ke,Kf,Kg,Kh,Ki,Kj,Kk,Kl,Km,reduceCtorEq,reduceIte,Kn,Ko,Kp,Kq,Kr,Ks,tys,injs]) <;> (try omega))); rotate_left 1)
    · exact ⟨Nat.zero_le _, fun i hi => by omega⟩
    · rintro k ⟨hk, hsm⟩
      by_cases hlt : k < a.length
      · obtain ⟨x, hx⟩ : ∃ x, a[k]? = some x := ⟨_, List.getElem?_eq_getElem hlt⟩
        obtain ⟨y, hy⟩ : ∃ y, b[k]? = some y := ⟨_, List.getElem?_eq_getElem (hl ▸ hlt)⟩
        have hax := pr_at hx
        have hby := pr_at hy
        have hd : decide (k < a.length) = true := decide_eq_true hlt
        have hlt2 : k < b.length := hl ▸ hlt
        have hwk : IntKind.i64.wrap ((k : Int) + 1) = ((k + 1 : Nat) : Int) := wrap_in (by omega) (by omega)
        by_cases hxy : x = y
        · subst hxy
          have hsm' := sameTo_succ hsm hx hy
          repeat' first | simp only [fins,mems,Tryz.results26,Tryz.ntmps26,Kt,wks,plain_pr,hax,hby,prC,hd,hlt,hlt2,beq_self_eq_true,Bool.and_self,Bool.not_true,List.length_map,vcs,Ka,Kb,Kc,Kd,Ke,Kf,Kg,Kh,Ki,Kj,Kk,Kl,Km,reduceCtorEq,reduceIte,Kn,Ko,Kp,Kq,Kr,Ks,tys] | exact rfl | refine call_off (v := .any) ?_ | refine draw_end (by decide +kernel) ?_ | ((first | apply cond_bool | apply cond_bit) <;> intro hb) | refine And.intro (by omega) ?_ | refine And.intro (fun hb => ?_) (fun hb => ?_)
          all_goals ((refine again_can2 cxG (k + 1) [] ?_ ?_ ?_ ?_; rotate_left 2; (focus (show b0 ≤ _; omega)); (focus (refine ⟨?_, ?_⟩ <;> (try simp only [cans,plain_pr,hwk,List.length_map,vcs,Ka,Kb,Kc,Kd,Ke,Kf,Kg,Kh,Ki,Kj,Kk,Kl,Km,reduceCtorEq,reduceIte,Kn,Ko,Kp,Kq,Kr,Ks,tys,injs]) <;> (try omega)))))
          all_goals (first | (show a.length - (k + 1) < a.length - k; omega) | exact ⟨hlt, hsm'⟩ | skip)
        · have hr : decide (a = b) = false := decide_eq_false (same_no hx hy hxy)
          have e2 : ((x.name == y.name) && (x.value == y.value)) = false := by
            cases x with | mk xn xv => cases y with | mk yn yv =>
            simp only [Pr.mk.injEq,not_and] at hxy
            by_cases h1 : xn = yn
            · have := hxy h1
              simp [this]
            · simp [h1]
          (repeat' first | simp only [fins,mems,Tryz.results26,Tryz.ntmps26,Kt,wks,plain_pr,hax,hby,prC,hd,hlt,hlt2,hr,e2,Bool.and_true,Bool.not_false,List.length_map,vcs,Ka,Kb,Kc,Kd,Ke,Kf,Kg,Kh,Ki,Kj,Kk,Kl,Km,reduceCtorEq,reduceIte,Kn,Ko,Kp,Kq,Kr,Ks,tys] | exact rfl | refine call_off (v := .any) ?_ | refine draw_end (by decide +kernel) ?_ | ((first | apply cond_bool | apply cond_bit) <;> intro hb) | refine And.intro (by omega) ?_ | refine And.intro (fun hb => ?_) (fun hb => ?_) | refine Fin.pure ?_ ?_ ?_ | simp only [injs])
      · have hke : k = a.length := by omega
        subst hke
        have hr : decide (a = b) = true := decide_eq_true (same_all hl hsm)
        have hd : decide (a.length < a.length) = false := decide_eq_false (by omega)
        (repeat' first | simp only [fins,mems,Tryz.results26,Tryz.ntmps26,Kt,wks,hd,hr,List.length_map,vcs,Ka,Kb,Kc,Kd,Ke,Kf,Kg,Kh,Ki,Kj,Kk,Kl,Km,reduceCtorEq,reduceIte,Kn,Ko,Kp,Kq,Kr,Ks,tys] | exact rfl | refine call_off (v := .any) ?_ | refine draw_end (by decide +kernel) ?_ | ((first | apply cond_bool | apply cond_bit) <;> intro hb) | refine And.intro (by omega) ?_ | refine And.intro (fun hb => ?_) (fun hb => ?_) | refine Fin.pure ?_ ?_ ?_ | simp only [injs])
  · have e1 : (((a.length : Nat) : Int) != ((b.length : Nat) : Int)) = true := len_bne_ne hl
    have hr : decide (a = b) = false := decide_eq_false (fun e => hl (congrArg List.length e))
    refine ev_go rfl (fun cargs w => Tryz.call26 cargs w) Tryz.func26 rfl mixed (by kernel_rfl) rfl ?_; intro b0 hb0
    (repeat' first | simp only [fins,mems,Tryz.results26,Tryz.ntmps26,Kt,wks,e1,hr,Bool.not_false,List.length_map,vcs,Ka,Kb,Kc,Kd,Ke,Kf,Kg,Kh,Ki,Kj,Kk,Kl,Km,reduceCtorEq,reduceIte,Kn,Ko,Kp,Kq,Kr,Ks,tys] | exact rfl | refine call_off (v := .any) ?_ | refine draw_end (by decide +kernel) ?_ | ((first | apply cond_bool | apply cond_bit) <;> intro hb) | refine And.intro (by omega) ?_ | refine And.intro (fun hb => ?_) (fun hb => ?_) | refine Fin.pure ?_ ?_ ?_ | simp only [injs])
theorem tk_eq {x y : Tk} : x = y ↔ x.kind = y.kind ∧ x.name = y.name ∧ x.text = y.text ∧ x.attrs = y.attrs := by
  cases x; cases y; simp only [Tk.mk.injEq]; constructor
  · rintro ⟨h1, h2, h3, h4⟩; exact ⟨h1, h2, h4, h3⟩
  · rintro ⟨h1, h2, h3, h4⟩; exact ⟨h1, h2, h4, h3⟩
theorem sameTk_ev (a b : List Tk) (ha : a.length ≤ lim) (hb : b.length ≤ lim) (ha2 : ∀ t ∈ a, t.attrs.length ≤ lim) (hb2 : ∀ t ∈ b, t.attrs.length ≤ lim) (nm : Nat) : Ev cx 10 nm [.sl false 4 (a.map tkC), .sl false 4 (b.map tkC)] Mem.nil (.bool (decide (a = b))) [] := by
  unfold lim at ha hb
  by_cases hl : a.length = b.length
  · have e1 : (((a.length : Nat) : Int) != ((b.length : Nat) : Int)) = false := len_bne_eq hl
    refine ev_go rfl (fun cargs w => Tryz.call10 cargs w) Tryz.func10 rfl mixed (by kernel_rfl) rfl ?_; intro b0 hb0
    repeat' first | simp only [fins,mems,Tryz.results10,Tryz.ntmps10,Kt,wks,e1,List.length_map,vcs,Ka,Kb,Kc,Kd,Ke,Kf,Kg,Kh,Ki,Kj,Kk,Kl,Km,reduceCtorEq,reduceIte,Kn,Ko,Kp,Kq,Kr,Ks,tys] | exact rfl | refine call_off (v := .any) ?_ | refine draw_end (by decide +kernel) ?_ | ((first | apply cond_bool | apply cond_bit) <;> intro hb) | refine And.intro (by omega) ?_ | refine And.intro (fun hb => ?_) (fun hb => ?_)
    (refine loop_can2 cxG (fun x : Nat => a.length - x) (fun x => x ≤ a.length ∧ sameTo a b x) (b0 + 16) (fun x => [(0, .sl false 4 (a.map tkC)), (1, .sl false 4 (b.map tkC)), (5, .int .i64 x)]) (fun x => []) (0) [] ?_ ?_ ?_ ?_; rotate_left 1; (focus (show b0 ≤ _; omega)); (focus (refine ⟨?_, ?_⟩ <;> (try simp only [cans,plain_tk,List.length_map,vcs,Ka,Kb,Kc,Kd,Ke,Kf,Kg,Kh,Ki,Kj,Kk,Kl,Km,reduceCtorEq,reduceIte,Kn,Ko,Kp,Kq,Kr,Ks,tys,injs]) <;> (try omega))); rotate_left 1)
    · exact ⟨Nat.zero_le _, fun i hi => by omega⟩
    · rintro k ⟨hk, hsm⟩
      by_cases hlt : k < a.length
      · obtain ⟨x, hx⟩ : ∃ x, a[k]? = some x := ⟨_, List.getElem?_eq_getElem hlt⟩
        obtain ⟨y, hy⟩ : ∃ y, b[k]? = some y := ⟨_, List.getElem?_eq_getElem (hl ▸ hlt)⟩
        have hax := tk_at hx
        have hby := tk_at hy
        have hd : decide (k < a.length) = true := decide_eq_true hlt
        have hlt2 : k < b.length := hl ▸ hlt
        have hwk : IntKind.i64.wrap ((k : Int) + 1) = ((k + 1 : Nat) : Int) := wrap_in (by omega) (by omega)
        have hsp := samePr_ev x.attrs y.attrs (ha2 x (List.mem_of_getElem? hx)) (hb2 y (List.mem_of_getElem? hy))
        by_cases hxy : x = y
        · subst hxy
          have hsm' := sameTo_succ hsm hx hy
          have hz : decide (x.attrs = x.attrs) = true := decide_eq_true rfl
          rw [hz] at hsp
          repeat' first | simp only [fins,mems,Tryz.results10,Tryz.ntmps10,Kt,wks,plain_pr,hax,hby,tkC,hd,hlt,hlt2,beq_self_eq_true,bne_self_eq_false,Bool.and_self,Bool.not_true,List.length_map,vcs,Ka,Kb,Kc,Kd,Ke,Kf,Kg,Kh,Ki,Kj,Kk,Kl,Km,reduceCtorEq,reduceIte,Kn,Ko,Kp,Kq,Kr,Ks,tys] | exact rfl | refine call_off (v := .any) ?_ | (first | (refine call_fn ?_ (hsp _) ?_) | (refine call_fn_g ?_ (fun _ => hsp _) ?_)) | refine draw_end (by decide +kernel) ?_ | ((first | apply cond_bool | apply cond_bit) <;> intro hb) | refine And.intro (by omega) ?_ | refine And.intro (fun hb => ?_) (fun hb => ?_)
          all_goals ((refine again_can2 cxG (k + 1) [] ?_ ?_ ?_ ?_; rotate_left 2; (focus (show b0 ≤ _; omega)); (focus (refine ⟨?_, ?_⟩ <;> (try simp only [cans,plain_tk,hwk,List.length_map,vcs,Ka,Kb,Kc,Kd,Ke,Kf,Kg,Kh,Ki,Kj,Kk,Kl,Km,reduceCtorEq,reduceIte,Kn,Ko,Kp,Kq,Kr,Ks,tys,injs]) <;> (try omega)))))
          all_goals (first | (show a.length - (k + 1) < a.length - k; omega) | exact ⟨hlt, hsm'⟩ | skip)
        · have hr : decide (a = b) = false := decide_eq_false (same_no hx hy hxy)
          have hcs : ((x.kind : Int) != (y.kind : Int)) = true ∨ (((x.kind : Int) != (y.kind : Int)) = false ∧ (x.name == y.name) = false) ∨ (((x.kind : Int) != (y.kind : Int)) = false ∧ (x.name == y.name) = true ∧ (x.text == y.text) = false) ∨ (((x.kind : Int) != (y.kind : Int)) = false ∧ (x.name == y.name) = true ∧ (x.text == y.text) = true ∧ decide (x.attrs = y.attrs) = false) := by
            by_cases h1 : x.kind = y.kind
            · have k1 := len_bne_eq h1
              by_cases h2 : x.name = y.name
              · have k2 : (x.name == y.name) = true := by rw [h2]; simp
                by_cases h3 : x.text = y.text
                · have k3 : (x.text == y.text) = true := by rw [h3]; simp
                  right; right; right
                  exact ⟨k1, k2, k3, decide_eq_false (fun h4 => hxy (tk_eq.2 ⟨h1, h2, h3, h4⟩))⟩
                · right; right; left; exact ⟨k1, k2, beq_false_of_ne h3⟩
              · right; left; exact ⟨k1, beq_false_of_ne h2⟩
            · left; exact len_bne_ne h1
          generalize hg1 : ((x.kind : Int) != (y.kind : Int)) = g1 at hcs
          generalize hg2 : (x.name == y.name) = g2 at hcs
          generalize hg3 : (x.text == y.text) = g3 at hcs
          generalize hg4 : decide (x.attrs = y.attrs) = g4 at hcs hsp
          rcases hcs with rfl | ⟨rfl, rfl⟩ | ⟨rfl, rfl, rfl⟩ | ⟨rfl, rfl, rfl, rfl⟩
          all_goals ((repeat' first | simp only [fins,mems,Tryz.results10,Tryz.ntmps10,Kt,wks,plain_pr,hax,hby,tkC,hd,hlt,hlt2,hr,hg1,hg2,hg3,Bool.not_true,Bool.not_false,List.length_map,vcs,Ka,Kb,Kc,Kd,Ke,Kf,Kg,Kh,Ki,Kj,Kk,Kl,Km,reduceCtorEq,reduceIte,Kn,Ko,Kp,Kq,Kr,Ks,tys] | exact rfl | refine call_off (v := .any) ?_ | (first | (refine call_fn ?_ (hsp _) ?_) | (refine call_fn_g ?_ (fun _ => hsp _) ?_)) | (refine call_off (v := .any) ?_) | refine draw_end (by decide +kernel) ?_ | ((first | apply cond_bool | apply cond_bit) <;> intro hb) | refine And.intro (by omega) ?_ | refine And.intro (fun hb => ?_) (fun hb => ?_) | refine Fin.pure ?_ ?_ ?_ | simp only [injs]))
      · have hke : k = a.length := by omega
        subst hke
        have hr : decide (a = b) = true := decide_eq_true (same_all hl hsm)
        have hd : decide (a.length < a.length) = false := decide_eq_false (by omega)
        (repeat' first | simp only [fins,mems,Tryz.results10,Tryz.ntmps10,Kt,wks,hd,hr,List.length_map,vcs,Ka,Kb,Kc,Kd,Ke,Kf,Kg,Kh,Ki,Kj,Kk,Kl,Km,reduceCtorEq,reduceIte,Kn,Ko,Kp,Kq,Kr,Ks,tys] | exact rfl | refine call_off (v := .any) ?_ | refine draw_end (by decide +kernel) ?_ | ((first | apply cond_bool | apply cond_bit) <;> intro hb) | refine And.intro (by omega) ?_ | refine And.intro (fun hb => ?_) (fun hb => ?_) | refine Fin.pure ?_ ?_ ?_ | simp only [injs])
  · have e1 : (((a.length : Nat) : Int) != ((b.length : Nat) : Int)) = true := len_bne_ne hl
    have hr : decide (a = b) = false := decide_eq_false (fun e => hl (congrArg List.length e))
    refine ev_go rfl (fun cargs w => Tryz.call10 cargs w) Tryz.func10 rfl mixed (by kernel_rfl) rfl ?_; intro b0 hb0
    (repeat' first | simp only [fins,mems,Tryz.results10,Tryz.ntmps10,Kt,wks,e1,hr,List.length_map,vcs,Ka,Kb,Kc,Kd,Ke,Kf,Kg,Kh,Ki,Kj,Kk,Kl,Km,reduceCtorEq,reduceIte,Kn,Ko,Kp,Kq,Kr,Ks,tys] | exact rfl | refine call_off (v := .any) ?_ | refine draw_end (by decide +kernel) ?_ | ((first | apply cond_bool | apply cond_bit) <;> intro hb) | refine And.intro (by omega) ?_ | refine And.intro (fun hb => ?_) (fun hb => ?_) | refine Fin.pure ?_ ?_ ?_ | simp only [injs])
end Go.Proofs.YtoaclokiggoeiaaGreatDoor
