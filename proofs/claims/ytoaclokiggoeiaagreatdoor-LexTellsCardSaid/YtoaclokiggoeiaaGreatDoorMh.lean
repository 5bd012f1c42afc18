/-
  Texts joined: XGg, XGh, XGi, XEk, XEl, XEm, XLt, XEi.
-/
import Derived.Test.YtoaclokiggoeiaaGreatDoorMg
namespace Go.Proofs.YtoaclokiggoeiaaGreatDoor
set_option maxRecDepth 100000
set_option maxHeartbeats 32000000
set_option linter.unusedSimpArgs false
set_option linter.unusedVariables false
open Nat renaming reduceAdd → Ka, reduceMul → Kb, reduceEqDiff → Kc, reduceLeDiff → Kd, reduceSub → Ke, reduceLT → Kf, reduceBEq → Kr, reduceBNe → Ks, reducePow → Kt
open Int renaming reduceToNat → Kg, reduceLE → Kh, reduceLT → Ki, reduceAdd → Kj, reduceSub → Kk, reduceMul → Kl, reduceNeg → Km, reduceBEq → Kn, reduceBNe → Ko, reduceEq → Kp, reduceNe → Kq
open Go Go.RowKit Go.Proofs.YtoaclokiggoeiaaGreatDoor.Vm Go.Lib
theorem iface_err : ifaceT cx.P 71 = true := by kernel_rfl
theorem uintW_ev (s : List UInt8) (n : Nat) (hl : s.length ≤ 6) (h0 : s ≠ []) (hv : hexV 0 s = some n) (nm : Nat) : Ev cx 105 nm [.str s, .int .i64 16, .int .i64 32] Mem.nil (.tup [.int .u64 n, .val .nilIface]) [] := by
  refine ev_go rfl (fun cargs w => Tryz.call105 cargs w) Tryz.func105 rfl mixed (by kernel_rfl) rfl ?_; intro b0 hb0
  (repeat' first | simp only [fins,mems,Tryz.results105,Tryz.ntmps105,Kt,wks,vcs,Ka,Kb,Kc,Kd,Ke,Kf,Kg,Kh,Ki,Kj,Kk,Kl,Km,reduceCtorEq,reduceIte,Kn,Ko,Kp,Kq,Kr,Ks,tys] | exact rfl | refine call_off (v := .any) ?_ | (first | (refine call_fn ?_ (uint_ev s n hl h0 hv _) ?_) | (refine call_fn_g ?_ (fun _ => uint_ev s n hl h0 hv _) ?_)) | (refine And.intro iface_err ?_) | ((first | apply cond_bool | apply cond_bit) <;> intro hb) | refine And.intro (by omega) ?_ | refine And.intro (fun hb => ?_) (fun hb => ?_) | refine Fin.pure ?_ ?_ ?_ | simp only [injs])
def hexSet : List UInt8 := [48, 49, 50, 51, 52, 53, 54, 55, 56, 57, 97, 98, 99, 100, 101, 102, 65, 66, 67, 68, 69, 70]
theorem hexSet_in (c : UInt8) : inB hexSet c.toNat = (hexD c).isSome := by
  have key : ∀ n : Fin 256, inB hexSet n.val = (hexD (UInt8.ofNat n.val)).isSome := by decide +kernel
  have := key ⟨c.toNat, c.toNat_lt⟩
  simpa using this
theorem hexSet_all (s : List UInt8) : (s.all fun c => inB hexSet c.toNat) = (hexV 0 s).isSome := by
  rw [← hexV_all]
  unfold allHex
  congr 1
  funext c
  exact hexSet_in c
theorem hex_trim {s : List UInt8} : (trimL hexSet (trimR hexSet s) != []) = !(hexV 0 s).isSome := by
  rw [← hexSet_all]
  cases h : s.all fun c => inB hexSet c.toNat with
  | true => rw [trim_nil.2 h]; rfl
  | false =>
    have : trimL hexSet (trimR hexSet s) ≠ [] := fun e => by rw [trim_nil.1 e] at h; cases h
    simp [this]
def hexR (o : Option Nat) : V := .tup [.int .i64 (o.getD 0 : Nat), .bool o.isSome]
theorem hexR_none : hexR none = .tup [.int .i64 0, .bool false] := rfl
theorem hexR_some (n : Nat) : hexR (some n) = .tup [.int .i64 n, .bool true] := rfl
theorem eHex_ev (s : List UInt8) (hs : s.length ≤ lim) (nm : Nat) : Ev cx 83 nm [.str s] Mem.nil (hexR (hexL s)) [] := by
  by_cases h0 : s = []
  · have hn : hexL s = none := by unfold hexL; rw [if_pos (.inl h0)]
    subst h0
    have e0 : (([] : List UInt8) == []) = true := rfl
    rw [hn, hexR_none]
    refine ev_go rfl (fun cargs w => Tryz.call83 cargs w) Tryz.func83 rfl mixed (by kernel_rfl) rfl ?_; intro b0 hb0
    (repeat' first | simp only [fins,mems,Tryz.results83,Tryz.ntmps83,Kt,wks,e0,vcs,Ka,Kb,Kc,Kd,Ke,Kf,Kg,Kh,Ki,Kj,Kk,Kl,Km,reduceCtorEq,reduceIte,Kn,Ko,Kp,Kq,Kr,Ks,tys] | exact rfl | refine call_off (v := .any) ?_ | (refine call_off (v := .any) ?_) | refine draw_end (by decide +kernel) ?_ | ((first | apply cond_bool | apply cond_bit) <;> intro hb) | refine And.intro (by omega) ?_ | refine And.intro (fun hb => ?_) (fun hb => ?_) | refine Fin.pure ?_ ?_ ?_ | simp only [injs])
  have e0 : (s == []) = false := beq_false_of_ne h0
  by_cases h6 : 6 < s.length
  · have hn : hexL s = none := by unfold hexL; rw [if_pos (.inr (.inl h6))]
    have e1 : decide ((6 : Int) < (s.length : Int)) = true := decide_eq_true (by omega)
    rw [hn, hexR_none]
    refine ev_go rfl (fun cargs w => Tryz.call83 cargs w) Tryz.func83 rfl mixed (by kernel_rfl) rfl ?_; intro b0 hb0
    (repeat' first | simp only [fins,mems,Tryz.results83,Tryz.ntmps83,Kt,wks,e0,e1,vcs,Ka,Kb,Kc,Kd,Ke,Kf,Kg,Kh,Ki,Kj,Kk,Kl,Km,reduceCtorEq,reduceIte,Kn,Ko,Kp,Kq,Kr,Ks,tys] | exact rfl | refine call_off (v := .any) ?_ | (refine call_off (v := .any) ?_) | refine draw_end (by decide +kernel) ?_ | ((first | apply cond_bool | apply cond_bit) <;> intro hb) | refine And.intro (by omega) ?_ | refine And.intro (fun hb => ?_) (fun hb => ?_) | refine Fin.pure ?_ ?_ ?_ | simp only [injs])
  have e1 : decide ((6 : Int) < (s.length : Int)) = false := decide_eq_false (by omega)
  have e4 : 0 < s.length := List.length_pos_iff.2 h0
  obtain ⟨c, hc⟩ : ∃ c, s[0]? = some c := ⟨_, List.getElem?_eq_getElem e4⟩
  have e2 : ((c.toNat : Int) == 48) = decide (c = 48) := beq_byte c 48
  by_cases h48 : c = 48
  · have hn : hexL s = none := by unfold hexL; rw [if_pos (.inr (.inr (by rw [List.head?_eq_getElem?, hc, h48])))]
    have e3 : decide (c = 48) = true := decide_eq_true h48
    rw [e3] at e2
    rw [hn, hexR_none]
    refine ev_go rfl (fun cargs w => Tryz.call83 cargs w) Tryz.func83 rfl mixed (by kernel_rfl) rfl ?_; intro b0 hb0
    (repeat' first | simp only [fins,mems,Tryz.results83,Tryz.ntmps83,Kt,wks,e0,e1,e2,hc,e4,vcs,Ka,Kb,Kc,Kd,Ke,Kf,Kg,Kh,Ki,Kj,Kk,Kl,Km,reduceCtorEq,reduceIte,Kn,Ko,Kp,Kq,Kr,Ks,tys] | exact rfl | refine call_off (v := .any) ?_ | (refine call_off (v := .any) ?_) | refine draw_end (by decide +kernel) ?_ | ((first | apply cond_bool | apply cond_bit) <;> intro hb) | refine And.intro (by omega) ?_ | refine And.intro (fun hb => ?_) (fun hb => ?_) | refine Fin.pure ?_ ?_ ?_ | simp only [injs])
  have e3 : decide (c = 48) = false := decide_eq_false h48
  rw [e3] at e2
  have hL : hexL s = hexV 0 s := by
    unfold hexL; rw [if_neg]
    rintro (h | h | h)
    · exact h0 h
    · exact h6 h
    · rw [List.head?_eq_getElem?, hc] at h; cases h; exact h48 rfl
  have htr := trim_ev hexSet s (by decide) (by decide) (by decide) hs
  have hq := hex_trim (s := s)
  unfold hexSet at htr hq
  have hq' : (!(trimL [48, 49, 50, 51, 52, 53, 54, 55, 56, 57, 97, 98, 99, 100, 101, 102, 65, 66, 67, 68, 69, 70] (trimR [48, 49, 50, 51, 52, 53, 54, 55, 56, 57, 97, 98, 99, 100, 101, 102, 65, 66, 67, 68, 69, 70] s) == [])) = !(hexV 0 s).isSome := hq
  rw [hL]
  cases hv : hexV 0 s with
  | none =>
    rw [hv] at hq'
    rw [hexR_none]
    refine ev_go rfl (fun cargs w => Tryz.call83 cargs w) Tryz.func83 rfl mixed (by kernel_rfl) rfl ?_; intro b0 hb0
    (repeat' first | simp only [fins,mems,Tryz.results83,Tryz.ntmps83,Kt,wks,e0,e1,e2,hc,e4,hq',Option.isSome_none,Bool.not_false,vcs,Ka,Kb,Kc,Kd,Ke,Kf,Kg,Kh,Ki,Kj,Kk,Kl,Km,reduceCtorEq,reduceIte,Kn,Ko,Kp,Kq,Kr,Ks,tys] | exact rfl | refine call_off (v := .any) ?_ | (first | (refine call_fn ?_ (htr _) ?_) | (refine call_fn_g ?_ (fun _ => htr _) ?_)) | refine draw_end (by decide +kernel) ?_ | ((first | apply cond_bool | apply cond_bit) <;> intro hb) | refine And.intro (by omega) ?_ | refine And.intro (fun hb => ?_) (fun hb => ?_) | refine Fin.pure ?_ ?_ ?_ | simp only [injs])
  | some n =>
    rw [hv] at hq'
    have hn6 := hexV_lt s 0 n hv
    have hp6 : (16 : Nat) ^ s.length ≤ 16 ^ 6 := Nat.pow_le_pow_right (by omega) (by omega)
    have hn7 : n < 16777216 := by simp only [Nat.zero_add,Nat.one_mul] at hn6; exact Nat.lt_of_lt_of_le hn6 hp6
    have hw : IntKind.i64.wrap (n : Int) = (n : Int) := wrap_in (by omega) (by omega)
    rw [hexR_some]
    refine ev_go rfl (fun cargs w => Tryz.call83 cargs w) Tryz.func83 rfl mixed (by kernel_rfl) rfl ?_; intro b0 hb0
    (repeat' first | simp only [fins,mems,Tryz.results83,Tryz.ntmps83,Kt,wks,e0,e1,e2,hc,e4,hq',hw,Option.isSome_some,Bool.not_true,vcs,Ka,Kb,Kc,Kd,Ke,Kf,Kg,Kh,Ki,Kj,Kk,Kl,Km,reduceCtorEq,reduceIte,Kn,Ko,Kp,Kq,Kr,Ks,tys] | exact rfl | refine call_off (v := .any) ?_ | (first | (refine call_fn ?_ (htr _) ?_) | (refine call_fn_g ?_ (fun _ => htr _) ?_) | (refine call_fn ?_ (uintW_ev s n (by omega) h0 hv _) ?_) | (refine call_fn_g ?_ (fun _ => uintW_ev s n (by omega) h0 hv _) ?_)) | (refine And.intro iface_err ?_) | refine draw_end (by decide +kernel) ?_ | ((first | apply cond_bool | apply cond_bit) <;> intro hb) | refine And.intro (by omega) ?_ | refine And.intro (fun hb => ?_) (fun hb => ?_) | refine Fin.pure ?_ ?_ ?_ | simp only [injs])
theorem ePlain_ev (s : List UInt8) (hs : s.length ≤ lim) (nm : Nat) : Ev cx 84 nm [.str s] Mem.nil (hexR (decL s)) [] := by
  have h := numRead_ev s hs
  cases hd : decL s with
  | none =>
    rw [readE_none hd] at h
    rw [hexR_none]
    refine ev_go rfl (fun cargs w => Tryz.call84 cargs w) Tryz.func84 rfl mixed (by kernel_rfl) rfl ?_; intro b0 hb0
    (repeat' first | simp only [fins,mems,Tryz.results84,Tryz.ntmps84,Kt,wks,vcs,Ka,Kb,Kc,Kd,Ke,Kf,Kg,Kh,Ki,Kj,Kk,Kl,Km,reduceCtorEq,reduceIte,Kn,Ko,Kp,Kq,Kr,Ks,tys] | exact rfl | refine call_off (v := .any) ?_ | (first | (refine call_fn ?_ (h _) ?_) | (refine call_fn_g ?_ (fun _ => h _) ?_)) | ((first | apply cond_bool | apply cond_bit) <;> intro hb) | refine And.intro (by omega) ?_ | refine And.intro (fun hb => ?_) (fun hb => ?_) | refine Fin.pure ?_ ?_ ?_ | simp only [injs])
  | some n =>
    rw [readE_some hd] at h
    rw [hexR_some]
    refine ev_go rfl (fun cargs w => Tryz.call84 cargs w) Tryz.func84 rfl mixed (by kernel_rfl) rfl ?_; intro b0 hb0
    (repeat' first | simp only [fins,mems,Tryz.results84,Tryz.ntmps84,Kt,wks,vcs,Ka,Kb,Kc,Kd,Ke,Kf,Kg,Kh,Ki,Kj,Kk,Kl,Km,reduceCtorEq,reduceIte,Kn,Ko,Kp,Kq,Kr,Ks,tys] | exact rfl | refine call_off (v := .any) ?_ | (first | (refine call_fn ?_ (h _) ?_) | (refine call_fn_g ?_ (fun _ => h _) ?_)) | ((first | apply cond_bool | apply cond_bit) <;> intro hb) | refine And.intro (by omega) ?_ | refine And.intro (fun hb => ?_) (fun hb => ?_) | refine Fin.pure ?_ ?_ ?_ | simp only [injs])
def preR (s p : List UInt8) : V := if preB s p = true then .tup [.str (s.drop p.length), .bool true] else .tup [.str s, .bool false]
theorem preR_yes {s p : List UInt8} (h : preB s p = true) : preR s p = .tup [.str (s.drop p.length), .bool true] := by unfold preR; rw [if_pos h]
theorem preR_no {s p : List UInt8} (h : preB s p = false) : preR s p = .tup [.str s, .bool false] := by unfold preR; rw [if_neg (by simp [h])]
theorem cutPreS_ev (s p : List UInt8) (hs : s.length ≤ lim) (hp : p.length ≤ lim) (nm : Nat) : Ev cx 76 nm [.str s, .str p] Mem.nil (preR s p) [] := by
  have h := hasPre_ev s p hs hp
  unfold lim at hs hp
  cases hb : preB s p with
  | true =>
    have hle : p.length ≤ s.length := by
      unfold preB at hb
      simp only [Bool.and_eq_true,decide_eq_true_eq] at hb
      exact hb.1
    have hle' : (p.length : Int) ≤ (s.length : Int) := by omega
    rw [preR_yes hb]
    rw [hb] at h
    refine ev_go rfl (fun cargs w => Tryz.call76 cargs w) Tryz.func76 rfl mixed (by kernel_rfl) rfl ?_; intro b0 hb0
    (repeat' first | simp only [fins,mems,Tryz.results76,Tryz.ntmps76,Kt,wks,hle,hle',vcs,Ka,Kb,Kc,Kd,Ke,Kf,Kg,Kh,Ki,Kj,Kk,Kl,Km,reduceCtorEq,reduceIte,Kn,Ko,Kp,Kq,Kr,Ks,tys] | exact rfl | refine call_off (v := .any) ?_ | (first | (refine call_fn ?_ (h _) ?_) | (refine call_fn_g ?_ (fun _ => h _) ?_)) | ((first | apply cond_bool | apply cond_bit) <;> intro hb) | refine And.intro (by omega) ?_ | refine And.intro (fun hb => ?_) (fun hb => ?_) | refine Fin.pure ?_ ?_ ?_ | simp only [injs])
  | false =>
    rw [preR_no hb]
    rw [hb] at h
    refine ev_go rfl (fun cargs w => Tryz.call76 cargs w) Tryz.func76 rfl mixed (by kernel_rfl) rfl ?_; intro b0 hb0
    (repeat' first | simp only [fins,mems,Tryz.results76,Tryz.ntmps76,Kt,wks,vcs,Ka,Kb,Kc,Kd,Ke,Kf,Kg,Kh,Ki,Kj,Kk,Kl,Km,reduceCtorEq,reduceIte,Kn,Ko,Kp,Kq,Kr,Ks,tys] | exact rfl | refine call_off (v := .any) ?_ | (first | (refine call_fn ?_ (h _) ?_) | (refine call_fn_g ?_ (fun _ => h _) ?_)) | ((first | apply cond_bool | apply cond_bit) <;> intro hb) | refine And.intro (by omega) ?_ | refine And.intro (fun hb => ?_) (fun hb => ?_) | refine Fin.pure ?_ ?_ ?_ | simp only [injs])
theorem cutPre_ev (s p : List UInt8) (hs : s.length ≤ lim) (hp : p.length ≤ lim) (nm : Nat) : Ev cx 57 nm [.str s, .str p] Mem.nil (preR s p) [] := by
  have h := cutPreS_ev s p hs hp
  cases hb : preB s p with
  | true =>
    rw [preR_yes hb] at h ⊢
    refine ev_go rfl (fun cargs w => Tryz.call57 cargs w) Tryz.func57 rfl mixed (by kernel_rfl) rfl ?_; intro b0 hb0
    (repeat' first | simp only [fins,mems,Tryz.results57,Tryz.ntmps57,Kt,wks,vcs,Ka,Kb,Kc,Kd,Ke,Kf,Kg,Kh,Ki,Kj,Kk,Kl,Km,reduceCtorEq,reduceIte,Kn,Ko,Kp,Kq,Kr,Ks,tys] | exact rfl | refine call_off (v := .any) ?_ | (first | (refine call_fn ?_ (h _) ?_) | (refine call_fn_g ?_ (fun _ => h _) ?_)) | ((first | apply cond_bool | apply cond_bit) <;> intro hb) | refine And.intro (by omega) ?_ | refine And.intro (fun hb => ?_) (fun hb => ?_) | refine Fin.pure ?_ ?_ ?_ | simp only [injs])
  | false =>
    rw [preR_no hb] at h ⊢
    refine ev_go rfl (fun cargs w => Tryz.call57 cargs w) Tryz.func57 rfl mixed (by kernel_rfl) rfl ?_; intro b0 hb0
    (repeat' first | simp only [fins,mems,Tryz.results57,Tryz.ntmps57,Kt,wks,vcs,Ka,Kb,Kc,Kd,Ke,Kf,Kg,Kh,Ki,Kj,Kk,Kl,Km,reduceCtorEq,reduceIte,Kn,Ko,Kp,Kq,Kr,Ks,tys] | exact rfl | refine call_off (v := .any) ?_ | (first | (refine call_fn ?_ (h _) ?_) | (refine call_fn_g ?_ (fun _ => h _) ?_)) | ((first | apply cond_bool | apply cond_bit) <;> intro hb) | refine And.intro (by omega) ?_ | refine And.intro (fun hb => ?_) (fun hb => ?_) | refine Fin.pure ?_ ?_ ?_ | simp only [injs])
def namedL : List (V × V) := [(.str [97, 109, 112], .agg [.str [38]]), (.str [108, 116], .agg [.str [60]]), (.str [103, 116], .agg [.str [62]]), (.str [113, 117, 111, 116], .agg [.str [34]]), (.str [97, 112, 111, 115], .agg [.str [39]])]
theorem namedT : mapT cx.P 116 = some (9, 114) := by kernel_rfl
theorem namedF : namedL = [(.str [97, 109, 112], .agg [.str [38]]), (.str [108, 116], .agg [.str [60]]), (.str [103, 116], .agg [.str [62]]), (.str [113, 117, 111, 116], .agg [.str [34]]), (.str [97, 112, 111, 115], .agg [.str [39]])] := rfl
theorem named_ev (nm : Nat) : Ev cx 82 nm [] Mem.nil (.mp nm) [(nm, some (mapK namedL))] := by
  refine ev_go rfl (fun cargs w => Tryz.call82 cargs w) Tryz.func82 rfl mixed (by kernel_rfl) rfl ?_; intro b0 hb0
  repeat' first | simp only [fins,mems,Tryz.results82,Tryz.ntmps82,Kt,wks,namedT,namedF,vcs,Ka,Kb,Kc,Kd,Ke,Kf,Kg,Kh,Ki,Kj,Kk,Kl,Km,reduceCtorEq,reduceIte,Kn,Ko,Kp,Kq,Kr,Ks,tys] | exact rfl | refine call_off (v := .any) ?_ | (refine ext_makeMap ?_) | (refine extG_true ?_) | (refine extG_false ?_) | (refine ext_insert (y := ?_) (kv := ?_) (xv := ?_) (kvs := ?_) ?_ ?_ ?_ ?_ namedT ?_ ?_ ?_ ?_ ?_; rotate_left 4; (iterate 4 (focus (simp only [Tryz.results82,Tryz.ntmps82,Kt,wks,namedT,namedF,vcs,Ka,Kb,Kc,Kd,Ke,Kf,Kg,Kh,Ki,Kj,Kk,Kl,Km,reduceCtorEq,reduceIte,Kn,Ko,Kp,Kq,Kr,Ks,tys] <;> exact rfl))); (focus (kernel_rfl)); (iterate 3 (focus (exact rfl)))) | ((first | apply cond_bool | apply cond_bit) <;> intro hb) | refine And.intro (by omega) ?_ | refine And.intro (fun hb => ?_) (fun hb => ?_)
  all_goals ((refine Fin.give [(b0 + 16, some 0)] [] ?_ ?_ ?_ ?_ ?_ (fun q hq => by have hqq := nil_ho (l := []) q hq; first | (simp only [gives,tgt,List.map_cons,List.map_nil,List.mem_cons,List.not_mem_nil,or_false] at hqq ⊢; omega) | (simp only [gives,tgt,List.map_cons,List.map_nil,List.mem_cons,List.not_mem_nil,or_false] at hqq)) <;> (try simp only [Tryz.results82,Tryz.ntmps82,wks,namedF,ren_map,renOk_map,giv,vcs,Ka,Kb,Kc,Kd,Ke,Kf,Kg,Kh,Ki,Kj,Kk,Kl,Km,reduceCtorEq,reduceIte,Kn,Ko,Kp,Kq,Kr,Ks,tys]) <;> (try simp only [injs]) <;> (try omega)))
theorem find_named (s : List UInt8) : (∃ x, findV (.str s) namedL = some (some (.agg [.str x])) ∧ meantL s = some x ∧ x.length ≤ 1) ∨ (findV (.str s) namedL = some none ∧ meantL s = if s.head? = some 35 then (if s.tail.head? = some 120 then pointW (hexL s.tail.tail) else pointW (decL s.tail)) else none) := by
  by_cases h1 : s = [97, 109, 112]
  · subst h1; left; exact ⟨_, rfl, meant_amp, by simp⟩
  by_cases h2 : s = [108, 116]
  · subst h2; left; exact ⟨_, rfl, meant_lt, by simp⟩
  by_cases h3 : s = [103, 116]
  · subst h3; left; exact ⟨_, rfl, meant_gt, by simp⟩
  by_cases h4 : s = [113, 117, 111, 116]
  · subst h4; left; exact ⟨_, rfl, meant_quot, by simp⟩
  by_cases h5 : s = [97, 112, 111, 115]
  · subst h5; left; exact ⟨_, rfl, by decide, by simp⟩
  right
  have e1 : (s == [97, 109, 112]) = false := beq_false_of_ne h1
  have e2 : (s == [108, 116]) = false := beq_false_of_ne h2
  have e3 : (s == [103, 116]) = false := beq_false_of_ne h3
  have e4 : (s == [113, 117, 111, 116]) = false := beq_false_of_ne h4
  have e5 : (s == [97, 112, 111, 115]) = false := beq_false_of_ne h5
  refine ⟨?_, ?_⟩
  · simp only [namedF,findV,sameV,e1,e2,e3,e4,e5]
  · unfold meantL; rw [if_neg h1, if_neg h2, if_neg h3, if_neg h4, if_neg h5]
theorem refer_zero : zeroOf cx.P 114 = some (.agg #[.string ⟨#[]⟩]) := by kernel_rfl
def rdK (rest : List UInt8) (y n : Nat) : Blk := ⟨2, [[.str rest, .own y 0 n]]⟩
theorem rdK_def (rest : List UInt8) (y n : Nat) : rdK rest y n = ⟨2, [[.str rest, .own y 0 n]]⟩ := rfl
theorem refer_cut (rest : List UInt8) (hr : rest.length ≤ 1000000) (hc : cut1 59 rest = none) (q y : Nat) (out : List UInt8) (M : Mem) (nm : Nat) (hqy : q ≠ y) (hq : M q = some (rdK rest y out.length)) (hy : M y = some (rK out)) (ho : ∀ w, (M w).isSome = true → w ∈ [q, y]) (hqn : q < nm) (hyn : y < nm) :
    Ev cx 63 nm [.ptr q 0 0] M (.bool false) [(q, some (rdK rest y out.length)), (y, some (rK out))] := by
  have hcv := cut_ev rest 59 (by unfold lim; omega)
  have ev : cutV 59 rest = .tup [.str rest, .str [], .bool false] := by unfold cutV; rw [hc]
  rw [ev] at hcv
  rw [rdK_def] at hq ⊢
  refine ev_go rfl (fun cargs w => Tryz.call63 cargs w) Tryz.func63 rfl mixed (by kernel_rfl) rfl ?_; intro b0 hb0
  have ly : y < b0 := below_of hb0 (by rw [hy]; rfl)
  have y0 := lt_ne ly; have y1 := lt_ne_add ly; have y2 := lt_ne' ly; have y3 := lt_ne_add' ly
  have lq : q < b0 := below_of hb0 (by rw [hq]; rfl)
  have z0 := lt_ne lq; have z1 := lt_ne_add lq; have z2 := lt_ne' lq; have z3 := lt_ne_add' lq
  have n1 := eq_false hqy; have n4 := eq_false (Ne.symm hqy)
  repeat' first | simp only [fins,mems,Tryz.results63,Tryz.ntmps63,Kt,wks,hq,hy,z0,z1,z2,z3,y0,y1,y2,y3,n1,n4,Bool.not_false,vcs,Ka,Kb,Kc,Kd,Ke,Kf,Kg,Kh,Ki,Kj,Kk,Kl,Km,reduceCtorEq,reduceIte,Kn,Ko,Kp,Kq,Kr,Ks,tys] | exact rfl | refine call_off (v := .any) ?_ | (first | (refine call_fn ?_ (hcv _) ?_) | (refine call_fn_g ?_ (fun _ => hcv _) ?_)) | ((first | (refine call_val (g := ?_) ?_ ?_) | (refine call_valg (g := ?_) ?_ ?_)); rotate_left 1; (focus (simp only [Tryz.results63,Tryz.ntmps63,Kt,wks,hq,hy,z0,z1,z2,z3,y0,y1,y2,y3,n1,n4,Bool.not_false,vcs,Ka,Kb,Kc,Kd,Ke,Kf,Kg,Kh,Ki,Kj,Kk,Kl,Km,reduceCtorEq,reduceIte,Kn,Ko,Kp,Kq,Kr,Ks,tys] <;> exact rfl))) | refine draw_end (by decide +kernel) ?_ | ((first | apply cond_bool | apply cond_bit) <;> intro hb) | refine And.intro (by omega) ?_ | refine And.intro (fun hb => ?_) (fun hb => ?_)
  all_goals ((refine Fin.give [(q, none), (y, none)] [] ?_ ?_ ?_ ?_ ?_ (fun q hq => by have hqq := ho q hq; first | (simp only [gives,tgt,List.map_cons,List.map_nil,List.mem_cons,List.not_mem_nil,or_false] at hqq ⊢; omega) | (simp only [gives,tgt,List.map_cons,List.map_nil,List.mem_cons,List.not_mem_nil,or_false] at hqq)) <;> (try simp only [Tryz.results63,Tryz.ntmps63,wks,hq,hy,rK_def,ren_bytesI,renOk_bytesI,z0,z1,z2,z3,y0,y1,y2,y3,n1,n4,giv,vcs,Ka,Kb,Kc,Kd,Ke,Kf,Kg,Kh,Ki,Kj,Kk,Kl,Km,reduceCtorEq,reduceIte,Kn,Ko,Kp,Kq,Kr,Ks,tys]) <;> (try simp only [injs]) <;> (try omega)))
theorem refer_word (rest a b x : List UInt8) (hr : rest.length ≤ 1000000) (hc : cut1 59 rest = some (a, b)) (hf : findV (.str a) namedL = some (some (.agg [.str x]))) (hx : x.length ≤ 1) (q y : Nat) (out : List UInt8) (hout : out.length ≤ 1000000) (M : Mem) (nm : Nat) (hqy : q ≠ y) (hq : M q = some (rdK rest y out.length)) (hy : M y = some (rK out)) (ho : ∀ w, (M w).isSome = true → w ∈ [q, y]) (hqn : q < nm) (hyn : y < nm) :
    Ev cx 63 nm [.ptr q 0 0] M (.bool true) [(y, none), (q, some (rdK b nm (out ++ x).length)), (nm, some (rK (out ++ x)))] := by
  have hcv := cut_ev rest 59 (by unfold lim; omega)
  have ev : cutV 59 rest = .tup [.str a, .str b, .bool true] := by unfold cutV; rw [hc]
  rw [ev] at hcv
  have hmp : out.map byteRow ++ x.map byteRow = (out ++ x).map byteRow := by rw [List.map_append]
  rw [List.length_append]
  rw [rdK_def] at hq ⊢
  refine ev_go rfl (fun cargs w => Tryz.call63 cargs w) Tryz.func63 rfl mixed (by kernel_rfl) rfl ?_; intro b0 hb0
  have ly : y < b0 := below_of hb0 (by rw [hy]; rfl)
  have y0 := lt_ne ly; have y1 := lt_ne_add ly; have y2 := lt_ne' ly; have y3 := lt_ne_add' ly
  have lq : q < b0 := below_of hb0 (by rw [hq]; rfl)
  have z0 := lt_ne lq; have z1 := lt_ne_add lq; have z2 := lt_ne' lq; have z3 := lt_ne_add' lq
  have n1 := eq_false hqy; have n4 := eq_false (Ne.symm hqy)
  repeat' first | simp only [fins,mems,Tryz.results63,Tryz.ntmps63,Kt,wks,hq,hy,hf,hmp,refer_zero,gotV_true,rK_def,z0,z1,z2,z3,y0,y1,y2,y3,n1,n4,tyT,if_true,blkT_some,one_bsI,fresh_self,List.length_map,List.take_of_length_le,Nat.le_refl,Option.bind_some,Option.getD_some,Option.isSome_some,Bool.not_true,vcs,Ka,Kb,Kc,Kd,Ke,Kf,Kg,Kh,Ki,Kj,Kk,Kl,Km,reduceCtorEq,reduceIte,Kn,Ko,Kp,Kq,Kr,Ks,tys] | exact rfl | refine call_off (v := .any) ?_ | (first | (refine call_fn ?_ (hcv _) ?_) | (refine call_fn_g ?_ (fun _ => hcv _) ?_)) | (refine call_fn_new ?_ (named_ev _) ?_ ?_) | (refine ext_lookup (y := ?_) (kv := ?_) (kvs := ?_) (q := ?_) ?_ ?_ ?_ namedT ?_ ?_ refer_zero ?_ ?_ ?_; rotate_left 4; (iterate 3 (focus (simp only [Tryz.results63,Tryz.ntmps63,Kt,wks,hq,hy,hf,hmp,refer_zero,gotV_true,rK_def,z0,z1,z2,z3,y0,y1,y2,y3,n1,n4,tyT,if_true,blkT_some,one_bsI,fresh_self,List.length_map,List.take_of_length_le,Nat.le_refl,Option.bind_some,Option.getD_some,Option.isSome_some,Bool.not_true,vcs,Ka,Kb,Kc,Kd,Ke,Kf,Kg,Kh,Ki,Kj,Kk,Kl,Km,reduceCtorEq,reduceIte,Kn,Ko,Kp,Kq,Kr,Ks,tys] <;> exact rfl))); (focus (kernel_rfl)); (focus (exact rfl)); (focus (simp only [Tryz.results63,Tryz.ntmps63,Kt,wks,hq,hy,hf,hmp,refer_zero,gotV_true,rK_def,z0,z1,z2,z3,y0,y1,y2,y3,n1,n4,tyT,if_true,blkT_some,one_bsI,fresh_self,List.length_map,List.take_of_length_le,Nat.le_refl,Option.bind_some,Option.getD_some,Option.isSome_some,Bool.not_true,vcs,Ka,Kb,Kc,Kd,Ke,Kf,Kg,Kh,Ki,Kj,Kk,Kl,Km,reduceCtorEq,reduceIte,Kn,Ko,Kp,Kq,Kr,Ks,tys] <;> exact rfl)); (focus (intro v hv; cases hv <;> exact rfl))) | (refine extG_true ?_) | (refine extG_false ?_) | ((first | (refine call_val (g := ?_) ?_ ?_) | (refine call_valg (g := ?_) ?_ ?_)); rotate_left 1; (focus (simp only [Tryz.results63,Tryz.ntmps63,Kt,wks,hq,hy,hf,hmp,refer_zero,gotV_true,rK_def,z0,z1,z2,z3,y0,y1,y2,y3,n1,n4,tyT,if_true,blkT_some,one_bsI,fresh_self,List.length_map,List.take_of_length_le,Nat.le_refl,Option.bind_some,Option.getD_some,Option.isSome_some,Bool.not_true,vcs,Ka,Kb,Kc,Kd,Ke,Kf,Kg,Kh,Ki,Kj,Kk,Kl,Km,reduceCtorEq,reduceIte,Kn,Ko,Kp,Kq,Kr,Ks,tys] <;> exact rfl))) | omega | refine draw_end (by decide +kernel) ?_ | ((first | apply cond_bool | apply cond_bit) <;> intro hb) | refine And.intro (by omega) ?_ | refine And.intro (fun hb => ?_) (fun hb => ?_)
  all_goals ((refine Fin.give [(q, none), (b0 + 528, some 0)] [y] ?_ ?_ ?_ ?_ ?_ (fun q hq => by have hqq := ho q hq; first | (simp only [gives,tgt,List.map_cons,List.map_nil,List.mem_cons,List.not_mem_nil,or_false] at hqq ⊢; omega) | (simp only [gives,tgt,List.map_cons,List.map_nil,List.mem_cons,List.not_mem_nil,or_false] at hqq)) <;> (try simp only [Tryz.results63,Tryz.ntmps63,wks,hq,hy,rK_def,ren_bytesI,renOk_bytesI,z0,z1,z2,z3,y0,y1,y2,y3,n1,n4,giv,vcs,Ka,Kb,Kc,Kd,Ke,Kf,Kg,Kh,Ki,Kj,Kk,Kl,Km,reduceCtorEq,reduceIte,Kn,Ko,Kp,Kq,Kr,Ks,tys]) <;> (try simp only [injs]) <;> (try omega)))
theorem pre_iff {s p : List UInt8} : preB s p = true ↔ ∃ t, s = p ++ t := by
  unfold preB
  simp only [Bool.and_eq_true,decide_eq_true_eq,beq_iff_eq]
  constructor
  · rintro ⟨_, h⟩
    exact ⟨s.drop p.length, by conv => lhs; rw [← List.take_append_drop p.length s, h]⟩
  · rintro ⟨t, rfl⟩
    simp
theorem find_none {a : List UInt8} (hf : findV (.str a) namedL = some none) : meantL a = if a.head? = some 35 then (if a.tail.head? = some 120 then pointW (hexL a.tail.tail) else pointW (decL a.tail)) else none := by
  rcases find_named a with ⟨x, h, _⟩ | ⟨_, h⟩
  · rw [hf] at h; cases h
  · exact h
theorem meant_hex {a : List UInt8} (hf : findV (.str a) namedL = some none) (h : preB a [35, 120] = true) : meantL a = pointW (hexL (a.drop 2)) := by
  obtain ⟨t, rfl⟩ := pre_iff.1 h
  rw [find_none hf]; rfl
theorem meant_dec {a : List UInt8} (hf : findV (.str a) namedL = some none) (h : preB a [35, 120] = false) (h2 : preB a [35] = true) : meantL a = pointW (decL (a.drop 1)) := by
  obtain ⟨t, rfl⟩ := pre_iff.1 h2
  have h1 : ([35] ++ t).head? = some 35 := rfl
  rw [find_none hf, if_pos h1, if_neg]
  · rfl
  · intro h3
    simp only [List.cons_append,List.nil_append,List.tail_cons] at h3
    cases t with
    | nil => cases h3
    | cons c t =>
      cases h3
      have := pre_iff.2 (⟨t, rfl⟩ : ∃ t', [35] ++ 120 :: t = [35, 120] ++ t')
      rw [h] at this; cases this
theorem meant_non {a : List UInt8} (hf : findV (.str a) namedL = some none) (h2 : preB a [35] = false) : meantL a = none := by
  rw [find_none hf, if_neg]
  intro h3
  cases a with
  | nil => cases h3
  | cons c t =>
    cases h3
    have := pre_iff.2 (⟨t, rfl⟩ : ∃ t', 35 :: t = [35] ++ t')
    rw [h2] at this; cases this
theorem point_none : pointW none = none := rfl
theorem point_yes {n : Nat} (h : may (n : Int) = true) : pointW (some n) = some (encodeRune n) := by simp [pointW,h]
theorem point_no {n : Nat} (h : may (n : Int) = false) : pointW (some n) = none := by simp [pointW,h]
theorem of_one {n : Int} (h : may n = true) : ofErr [n] = 0 ∧ ofText [n] = encodeRune n := by
  have hl := encodeRune_length n
  have e : enc [n] = encodeRune n := by simp [enc]
  have he : ofErr [n] = 0 := by unfold ofErr; rw [if_pos (by simp [h]), e, if_neg (by omega)]
  exact ⟨he, by unfold ofText; rw [if_pos he, e]⟩
def basesR : List (List V) := [[.str [35, 120], .fn 83 []], [.str [35], .fn 84 []]]
theorem bases_def : basesR = [[.str [35, 120], .fn 83 []], [.str [35], .fn 84 []]] := rfl
theorem refer_num (rest a b : List UInt8) (hr : rest.length ≤ 1000000) (hc : cut1 59 rest = some (a, b)) (hf : findV (.str a) namedL = some none) (q y : Nat) (out : List UInt8) (hout : out.length ≤ 1000000) (M : Mem) (nm : Nat) (hqy : q ≠ y) (hq : M q = some (rdK rest y out.length)) (hy : M y = some (rK out)) (ho : ∀ w, (M w).isSome = true → w ∈ [q, y]) (hqn : q < nm) (hyn : y < nm)
    (v : V) (eff : List (Nat × Option Blk)) (hve : (meantL a = none ∧ v = .bool false ∧ eff = [(q, some (rdK rest y out.length)), (y, some (rK out))]) ∨ (∃ x, meantL a = some x ∧ v = .bool true ∧ eff = [(y, none), (q, some (rdK b nm (out ++ x).length)), (nm, some (rK (out ++ x)))])) :
    Ev cx 63 nm [.ptr q 0 0] M v eff := by
  have hal : a.length ≤ 1000000 := by
    have := (cut1_some hc).1
    rw [this] at hr; simp at hr; omega
  have hcv := cut_ev rest 59 (by unfold lim; omega)
  have ev : cutV 59 rest = .tup [.str a, .str b, .bool true] := by unfold cutV; rw [hc]
  rw [ev] at hcv
  have hp2 := cutPre_ev a [35, 120] (by unfold lim; omega) (by decide)
  have hp1 := cutPre_ev a [35] (by unfold lim; omega) (by decide)
  simp only [rdK_def] at hq hve
  refine ev_go rfl (fun cargs w => Tryz.call63 cargs w) Tryz.func63 rfl mixed (by kernel_rfl) rfl ?_; intro b0 hb0
  have ly : y < b0 := below_of hb0 (by rw [hy]; rfl)
  have y0 := lt_ne ly; have y1 := lt_ne_add ly; have y2 := lt_ne' ly; have y3 := lt_ne_add' ly
  have lq : q < b0 := below_of hb0 (by rw [hq]; rfl)
  have z0 := lt_ne lq; have z1 := lt_ne_add lq; have z2 := lt_ne' lq; have z3 := lt_ne_add' lq
  have n1 := eq_false hqy; have n4 := eq_false (Ne.symm hqy)
  repeat' first | simp only [fins,mems,Tryz.results63,Tryz.ntmps63,Kt,wks,hq,hy,hf,refer_zero,gotV_true,rK_def,z0,z1,z2,z3,y0,y1,y2,y3,n1,n4,Option.getD_none,Option.isSome_none,Bool.not_true,vcs,Ka,Kb,Kc,Kd,Ke,Kf,Kg,Kh,Ki,Kj,Kk,Kl,Km,reduceCtorEq,reduceIte,Kn,Ko,Kp,Kq,Kr,Ks,tys] | exact rfl | refine call_off (v := .any) ?_ | (first | (refine call_fn ?_ (hcv _) ?_) | (refine call_fn_g ?_ (fun _ => hcv _) ?_)) | (refine call_fn_new ?_ (named_ev _) ?_ ?_) | (refine ext_lookup (y := ?_) (kv := ?_) (kvs := ?_) (q := ?_) ?_ ?_ ?_ namedT ?_ ?_ refer_zero ?_ ?_ ?_; rotate_left 4; (iterate 3 (focus (simp only [Tryz.results63,Tryz.ntmps63,Kt,wks,hq,hy,hf,refer_zero,gotV_true,rK_def,z0,z1,z2,z3,y0,y1,y2,y3,n1,n4,Option.getD_none,Option.isSome_none,Bool.not_true,vcs,Ka,Kb,Kc,Kd,Ke,Kf,Kg,Kh,Ki,Kj,Kk,Kl,Km,reduceCtorEq,reduceIte,Kn,Ko,Kp,Kq,Kr,Ks,tys] <;> exact rfl))); (focus (kernel_rfl)); (focus (exact rfl)); (focus (simp only [Tryz.results63,Tryz.ntmps63,Kt,wks,hq,hy,hf,refer_zero,gotV_true,rK_def,z0,z1,z2,z3,y0,y1,y2,y3,n1,n4,Option.getD_none,Option.isSome_none,Bool.not_true,vcs,Ka,Kb,Kc,Kd,Ke,Kf,Kg,Kh,Ki,Kj,Kk,Kl,Km,reduceCtorEq,reduceIte,Kn,Ko,Kp,Kq,Kr,Ks,tys] <;> exact rfl)); (focus (intro v hv; cases hv <;> exact rfl))) | (refine extG_true ?_) | (refine extG_false ?_) | ((first | (refine call_val (g := ?_) ?_ ?_) | (refine call_valg (g := ?_) ?_ ?_)); rotate_left 1; (focus (simp only [Tryz.results63,Tryz.ntmps63,Kt,wks,hq,hy,hf,refer_zero,gotV_true,rK_def,z0,z1,z2,z3,y0,y1,y2,y3,n1,n4,Option.getD_none,Option.isSome_none,Bool.not_true,vcs,Ka,Kb,Kc,Kd,Ke,Kf,Kg,Kh,Ki,Kj,Kk,Kl,Km,reduceCtorEq,reduceIte,Kn,Ko,Kp,Kq,Kr,Ks,tys] <;> exact rfl))) | omega | refine draw_end (by decide +kernel) ?_ | ((first | apply cond_bool | apply cond_bit) <;> intro hb) | refine And.intro (by omega) ?_ | refine And.intro (fun hb => ?_) (fun hb => ?_)
  (refine loop_can2 cxG (fun x : Nat => 2 - x) (fun x => x ≤ 2 ∧ (0 < x → preB a [35, 120] = false) ∧ (1 < x → preB a [35] = false)) (b0 + 16) (fun x => [(0, .ptr q 0 0), (3, .str a), (4, .str b), (49, .own b0 0 2), (50, .int .i64 2), (51, .int .i64 x)]) (fun x => [(b0, ⟨2, basesR⟩), (q, ⟨2, [[.str rest, .own y 0 out.length]]⟩), (y, rK out)]) (0) [some (b0 + 432), some q, some y] ?_ ?_ ?_ ?_; rotate_left 1; (focus (show b0 ≤ _; omega)); (focus (refine ⟨?_, ?_⟩ <;> (try simp only [cans,hq,hy,bases_def,rK_def,ren_bytesI,renOk_bytesI,isRow_typed,z0,z1,z2,z3,y0,y1,y2,y3,n1,n4,vcs,Ka,Kb,Kc,Kd,Ke,Kf,Kg,Kh,Ki,Kj,Kk,Kl,Km,reduceCtorEq,reduceIte,Kn,Ko,Kp,Kq,Kr,Ks,tys,injs]) <;> (try omega))); rotate_left 1)
  · exact ⟨Nat.zero_le _, fun h => by omega, fun h => by omega⟩
  · rintro k ⟨hk, hk1, hk2⟩
    have hdl : ∀ j, (a.drop j).length ≤ lim := fun j => by rw [List.length_drop]; unfold lim; omega
    rcases (show k = 0 ∨ k = 1 ∨ k = 2 by omega) with rfl | rfl | rfl
    · have hwk : IntKind.i64.wrap 1 = 1 := by decide
      cases hb : preB a [35, 120] with
      | true =>
        have hp := hp2
        rw [preR_yes hb] at hp
        simp only [List.length_cons,List.length_nil] at hp
        have hm := meant_hex hf hb
        have hx := eHex_ev (a.drop 2) (hdl 2)
        cases hL : hexL (a.drop 2) with
        | none =>
          rw [hL, hexR_none] at hx
          rw [hL, point_none] at hm
          rcases hve with ⟨_, rfl, rfl⟩ | ⟨x, h, _⟩
          · repeat' first | simp only [fins,mems,Tryz.results63,Tryz.ntmps63,Kt,wks,hq,hy,bases_def,rK_def,z0,z1,z2,z3,y0,y1,y2,y3,n1,n4,intRow,Int.ofNat_zero,Int.ofNat_one,Bool.not_true,Bool.not_false,vcs,Ka,Kb,Kc,Kd,Ke,Kf,Kg,Kh,Ki,Kj,Kk,Kl,Km,reduceCtorEq,reduceIte,Kn,Ko,Kp,Kq,Kr,Ks,tys] | exact rfl | refine call_off (v := .any) ?_ | (first | (refine call_fn ?_ (hp _) ?_) | (refine call_fn_g ?_ (fun _ => hp _) ?_) | (refine call_fn ?_ (hx _) ?_) | (refine call_fn_g ?_ (fun _ => hx _) ?_)) | (refine call_off (v := .any) ?_) | ((first | (refine call_val (g := ?_) ?_ ?_) | (refine call_valg (g := ?_) ?_ ?_)); rotate_left 1; (focus (simp only [Tryz.results63,Tryz.ntmps63,Kt,wks,hq,hy,bases_def,rK_def,z0,z1,z2,z3,y0,y1,y2,y3,n1,n4,intRow,Int.ofNat_zero,Int.ofNat_one,Bool.not_true,Bool.not_false,vcs,Ka,Kb,Kc,Kd,Ke,Kf,Kg,Kh,Ki,Kj,Kk,Kl,Km,reduceCtorEq,reduceIte,Kn,Ko,Kp,Kq,Kr,Ks,tys] <;> exact rfl))) | refine draw_end (by decide +kernel) ?_ | ((first | apply cond_bool | apply cond_bit) <;> intro hb) | refine And.intro (by omega) ?_ | refine And.intro (fun hb => ?_) (fun hb => ?_)
            all_goals ((refine Fin.give [(q, none), (y, none)] [] ?_ ?_ ?_ ?_ ?_ (fun q hq => by have hqq := ho q hq; first | (simp only [gives,tgt,List.map_cons,List.map_nil,List.mem_cons,List.not_mem_nil,or_false] at hqq ⊢; omega) | (simp only [gives,tgt,List.map_cons,List.map_nil,List.mem_cons,List.not_mem_nil,or_false] at hqq)) <;> (try simp only [Tryz.results63,Tryz.ntmps63,wks,hq,hy,rK_def,ren_bytesI,renOk_bytesI,z0,z1,z2,z3,y0,y1,y2,y3,n1,n4,giv,vcs,Ka,Kb,Kc,Kd,Ke,Kf,Kg,Kh,Ki,Kj,Kk,Kl,Km,reduceCtorEq,reduceIte,Kn,Ko,Kp,Kq,Kr,Ks,tys]) <;> (try simp only [injs]) <;> (try omega)))
          · rw [hm] at h; cases h
        | some n =>
          rw [hL, hexR_some] at hx
          rw [hL] at hm
          have hmy := tMay_ev (n : Int)
          cases hmm : may (n : Int) with
          | false =>
            rw [hmm] at hmy
            rw [point_no hmm] at hm
            rcases hve with ⟨_, rfl, rfl⟩ | ⟨x, h, _⟩
            · repeat' first | simp only [fins,mems,Tryz.results63,Tryz.ntmps63,Kt,wks,hq,hy,bases_def,rK_def,z0,z1,z2,z3,y0,y1,y2,y3,n1,n4,intRow,Int.ofNat_zero,Int.ofNat_one,Bool.not_true,Bool.not_false,vcs,Ka,Kb,Kc,Kd,Ke,Kf,Kg,Kh,Ki,Kj,Kk,Kl,Km,reduceCtorEq,reduceIte,Kn,Ko,Kp,Kq,Kr,Ks,tys] | exact rfl | refine call_off (v := .any) ?_ | (first | (refine call_fn ?_ (hp _) ?_) | (refine call_fn_g ?_ (fun _ => hp _) ?_) | (refine call_fn ?_ (hx _) ?_) | (refine call_fn_g ?_ (fun _ => hx _) ?_) | (refine call_fn ?_ (hmy _) ?_) | (refine call_fn_g ?_ (fun _ => hmy _) ?_)) | ((first | (refine call_val (g := ?_) ?_ ?_) | (refine call_valg (g := ?_) ?_ ?_)); rotate_left 1; (focus (simp only [Tryz.results63,Tryz.ntmps63,Kt,wks,hq,hy,bases_def,rK_def,z0,z1,z2,z3,y0,y1,y2,y3,n1,n4,intRow,Int.ofNat_zero,Int.ofNat_one,Bool.not_true,Bool.not_false,vcs,Ka,Kb,Kc,Kd,Ke,Kf,Kg,Kh,Ki,Kj,Kk,Kl,Km,reduceCtorEq,reduceIte,Kn,Ko,Kp,Kq,Kr,Ks,tys] <;> exact rfl))) | refine draw_end (by decide +kernel) ?_ | ((first | apply cond_bool | apply cond_bit) <;> intro hb) | refine And.intro (by omega) ?_ | refine And.intro (fun hb => ?_) (fun hb => ?_)
              all_goals ((refine Fin.give [(q, none), (y, none)] [] ?_ ?_ ?_ ?_ ?_ (fun q hq => by have hqq := ho q hq; first | (simp only [gives,tgt,List.map_cons,List.map_nil,List.mem_cons,List.not_mem_nil,or_false] at hqq ⊢; omega) | (simp only [gives,tgt,List.map_cons,List.map_nil,List.mem_cons,List.not_mem_nil,or_false] at hqq)) <;> (try simp only [Tryz.results63,Tryz.ntmps63,wks,hq,hy,rK_def,ren_bytesI,renOk_bytesI,z0,z1,z2,z3,y0,y1,y2,y3,n1,n4,giv,vcs,Ka,Kb,Kc,Kd,Ke,Kf,Kg,Kh,Ki,Kj,Kk,Kl,Km,reduceCtorEq,reduceIte,Kn,Ko,Kp,Kq,Kr,Ks,tys]) <;> (try simp only [injs]) <;> (try omega)))
            · rw [hm] at h; cases h
          | true =>
            rw [hmm] at hmy
            rw [point_yes hmm] at hm
            rcases hve with ⟨h, _⟩ | ⟨x, h, rfl, rfl⟩
            · rw [hm] at h; cases h
            · rw [hm] at h; cases h
              obtain ⟨o1, o2⟩ := of_one hmm
              have hof := of_ev [(n : Int)] (by simp)
              rw [o1, o2] at hof
              simp only [intRow,List.map_cons,List.map_nil] at hof
              have hel := encodeRune_length (n : Int)
              have hmp : out.map byteRow ++ (encodeRune (n : Int)).map byteRow = (out ++ encodeRune (n : Int)).map byteRow := by rw [List.map_append]
              rw [List.length_append]
              repeat' first | simp only [fins,mems,Tryz.results63,Tryz.ntmps63,Kt,wks,hq,hy,bases_def,rK_def,z0,z1,z2,z3,y0,y1,y2,y3,n1,n4,intRow,Int.ofNat_zero,Int.ofNat_one,hmp,tyT,if_true,blkT_some,one_bsI,fresh_self,List.length_map,List.take_of_length_le,Nat.le_refl,Option.bind_some,Bool.not_true,Bool.not_false,vcs,Ka,Kb,Kc,Kd,Ke,Kf,Kg,Kh,Ki,Kj,Kk,Kl,Km,reduceCtorEq,reduceIte,Kn,Ko,Kp,Kq,Kr,Ks,tys] | exact rfl | refine call_off (v := .any) ?_ | (first | (refine call_fn ?_ (hp _) ?_) | (refine call_fn_g ?_ (fun _ => hp _) ?_) | (refine call_fn ?_ (hx _) ?_) | (refine call_fn_g ?_ (fun _ => hx _) ?_) | (refine call_fn ?_ (hmy _) ?_) | (refine call_fn_g ?_ (fun _ => hmy _) ?_)) | ((refine call_fn_vx (xs := ?_) [b0 + 544] ?_ ?_ ?_ rfl (hof _) ?_); rotate_left 1) | ((first | (refine call_val (g := ?_) ?_ ?_) | (refine call_valg (g := ?_) ?_ ?_)); rotate_left 1; (focus (simp only [Tryz.results63,Tryz.ntmps63,Kt,wks,hq,hy,bases_def,rK_def,z0,z1,z2,z3,y0,y1,y2,y3,n1,n4,intRow,Int.ofNat_zero,Int.ofNat_one,hmp,tyT,if_true,blkT_some,one_bsI,fresh_self,List.length_map,List.take_of_length_le,Nat.le_refl,Option.bind_some,Bool.not_true,Bool.not_false,vcs,Ka,Kb,Kc,Kd,Ke,Kf,Kg,Kh,Ki,Kj,Kk,Kl,Km,reduceCtorEq,reduceIte,Kn,Ko,Kp,Kq,Kr,Ks,tys] <;> exact rfl))) | omega | refine draw_end (by decide +kernel) ?_ | ((first | apply cond_bool | apply cond_bit) <;> intro hb) | refine And.intro (by omega) ?_ | refine And.intro (fun hb => ?_) (fun hb => ?_)
              all_goals ((refine Fin.give [(q, none), (b0 + 768, some 0)] [y] ?_ ?_ ?_ ?_ ?_ (fun q hq => by have hqq := ho q hq; first | (simp only [gives,tgt,List.map_cons,List.map_nil,List.mem_cons,List.not_mem_nil,or_false] at hqq ⊢; omega) | (simp only [gives,tgt,List.map_cons,List.map_nil,List.mem_cons,List.not_mem_nil,or_false] at hqq)) <;> (try simp only [Tryz.results63,Tryz.ntmps63,wks,hq,hy,rK_def,ren_bytesI,renOk_bytesI,z0,z1,z2,z3,y0,y1,y2,y3,n1,n4,giv,vcs,Ka,Kb,Kc,Kd,Ke,Kf,Kg,Kh,Ki,Kj,Kk,Kl,Km,reduceCtorEq,reduceIte,Kn,Ko,Kp,Kq,Kr,Ks,tys]) <;> (try simp only [injs]) <;> (try omega)))
      | false =>
        have hp := hp2
        rw [preR_no hb] at hp
        repeat' first | simp only [fins,mems,Tryz.results63,Tryz.ntmps63,Kt,wks,hq,hy,bases_def,rK_def,z0,z1,z2,z3,y0,y1,y2,y3,n1,n4,intRow,Int.ofNat_zero,Int.ofNat_one,hwk,Bool.not_true,Bool.not_false,vcs,Ka,Kb,Kc,Kd,Ke,Kf,Kg,Kh,Ki,Kj,Kk,Kl,Km,reduceCtorEq,reduceIte,Kn,Ko,Kp,Kq,Kr,Ks,tys] | exact rfl | refine call_off (v := .any) ?_ | (first | (refine call_fn ?_ (hp _) ?_) | (refine call_fn_g ?_ (fun _ => hp _) ?_)) | ((first | (refine call_val (g := ?_) ?_ ?_) | (refine call_valg (g := ?_) ?_ ?_)); rotate_left 1; (focus (simp only [Tryz.results63,Tryz.ntmps63,Kt,wks,hq,hy,bases_def,rK_def,z0,z1,z2,z3,y0,y1,y2,y3,n1,n4,intRow,Int.ofNat_zero,Int.ofNat_one,hwk,Bool.not_true,Bool.not_false,vcs,Ka,Kb,Kc,Kd,Ke,Kf,Kg,Kh,Ki,Kj,Kk,Kl,Km,reduceCtorEq,reduceIte,Kn,Ko,Kp,Kq,Kr,Ks,tys] <;> exact rfl))) | refine draw_end (by decide +kernel) ?_ | ((first | apply cond_bool | apply cond_bit) <;> intro hb) | refine And.intro (by omega) ?_ | refine And.intro (fun hb => ?_) (fun hb => ?_)
        all_goals ((refine again_can2 cxG (1) [some b0, some q, some y] ?_ ?_ ?_ ?_; rotate_left 2; (focus (show b0 ≤ _; omega)); (focus (refine ⟨?_, ?_⟩ <;> (try simp only [cans,hwk,bases_def,isRow_typed,Int.ofNat_one,hq,hy,rK_def,ren_bytesI,renOk_bytesI,z0,z1,z2,z3,y0,y1,y2,y3,n1,n4,vcs,Ka,Kb,Kc,Kd,Ke,Kf,Kg,Kh,Ki,Kj,Kk,Kl,Km,reduceCtorEq,reduceIte,Kn,Ko,Kp,Kq,Kr,Ks,tys,injs]) <;> (try omega)))))
        all_goals (first | omega | exact ⟨by omega, fun _ => hb, fun h => by omega⟩ | exact ⟨by omega, fun h => by omega⟩ | skip)
    · have hwk : IntKind.i64.wrap 2 = 2 := by decide
      cases hb : preB a [35] with
      | true =>
        have hp := hp1
        rw [preR_yes hb] at hp
        simp only [List.length_cons,List.length_nil] at hp
        have hm := meant_dec hf (hk1 (by omega)) hb
        have hx := ePlain_ev (a.drop 1) (hdl 1)
        cases hL : decL (a.drop 1) with
        | none =>
          rw [hL, hexR_none] at hx
          rw [hL, point_none] at hm
          rcases hve with ⟨_, rfl, rfl⟩ | ⟨x, h, _⟩
          · repeat' first | simp only [fins,mems,Tryz.results63,Tryz.ntmps63,Kt,wks,hq,hy,bases_def,rK_def,z0,z1,z2,z3,y0,y1,y2,y3,n1,n4,intRow,Int.ofNat_zero,Int.ofNat_one,Bool.not_true,Bool.not_false,vcs,Ka,Kb,Kc,Kd,Ke,Kf,Kg,Kh,Ki,Kj,Kk,Kl,Km,reduceCtorEq,reduceIte,Kn,Ko,Kp,Kq,Kr,Ks,tys] | exact rfl | refine call_off (v := .any) ?_ | (first | (refine call_fn ?_ (hp _) ?_) | (refine call_fn_g ?_ (fun _ => hp _) ?_) | (refine call_fn ?_ (hx _) ?_) | (refine call_fn_g ?_ (fun _ => hx _) ?_)) | (refine call_off (v := .any) ?_) | ((first | (refine call_val (g := ?_) ?_ ?_) | (refine call_valg (g := ?_) ?_ ?_)); rotate_left 1; (focus (simp only [Tryz.results63,Tryz.ntmps63,Kt,wks,hq,hy,bases_def,rK_def,z0,z1,z2,z3,y0,y1,y2,y3,n1,n4,intRow,Int.ofNat_zero,Int.ofNat_one,Bool.not_true,Bool.not_false,vcs,Ka,Kb,Kc,Kd,Ke,Kf,Kg,Kh,Ki,Kj,Kk,Kl,Km,reduceCtorEq,reduceIte,Kn,Ko,Kp,Kq,Kr,Ks,tys] <;> exact rfl))) | refine draw_end (by decide +kernel) ?_ | ((first | apply cond_bool | apply cond_bit) <;> intro hb) | refine And.intro (by omega) ?_ | refine And.intro (fun hb => ?_) (fun hb => ?_)
            all_goals ((refine Fin.give [(q, none), (y, none)] [] ?_ ?_ ?_ ?_ ?_ (fun q hq => by have hqq := ho q hq; first | (simp only [gives,tgt,List.map_cons,List.map_nil,List.mem_cons,List.not_mem_nil,or_false] at hqq ⊢; omega) | (simp only [gives,tgt,List.map_cons,List.map_nil,List.mem_cons,List.not_mem_nil,or_false] at hqq)) <;> (try simp only [Tryz.results63,Tryz.ntmps63,wks,hq,hy,rK_def,ren_bytesI,renOk_bytesI,z0,z1,z2,z3,y0,y1,y2,y3,n1,n4,giv,vcs,Ka,Kb,Kc,Kd,Ke,Kf,Kg,Kh,Ki,Kj,Kk,Kl,Km,reduceCtorEq,reduceIte,Kn,Ko,Kp,Kq,Kr,Ks,tys]) <;> (try simp only [injs]) <;> (try omega)))
          · rw [hm] at h; cases h
        | some n =>
          rw [hL, hexR_some] at hx
          rw [hL] at hm
          have hmy := tMay_ev (n : Int)
          cases hmm : may (n : Int) with
          | false =>
            rw [hmm] at hmy
            rw [point_no hmm] at hm
            rcases hve with ⟨_, rfl, rfl⟩ | ⟨x, h, _⟩
            · repeat' first | simp only [fins,mems,Tryz.results63,Tryz.ntmps63,Kt,wks,hq,hy,bases_def,rK_def,z0,z1,z2,z3,y0,y1,y2,y3,n1,n4,intRow,Int.ofNat_zero,Int.ofNat_one,Bool.not_true,Bool.not_false,vcs,Ka,Kb,Kc,Kd,Ke,Kf,Kg,Kh,Ki,Kj,Kk,Kl,Km,reduceCtorEq,reduceIte,Kn,Ko,Kp,Kq,Kr,Ks,tys] | exact rfl | refine call_off (v := .any) ?_ | (first | (refine call_fn ?_ (hp _) ?_) | (refine call_fn_g ?_ (fun _ => hp _) ?_) | (refine call_fn ?_ (hx _) ?_) | (refine call_fn_g ?_ (fun _ => hx _) ?_) | (refine call_fn ?_ (hmy _) ?_) | (refine call_fn_g ?_ (fun _ => hmy _) ?_)) | ((first | (refine call_val (g := ?_) ?_ ?_) | (refine call_valg (g := ?_) ?_ ?_)); rotate_left 1; (focus (simp only [Tryz.results63,Tryz.ntmps63,Kt,wks,hq,hy,bases_def,rK_def,z0,z1,z2,z3,y0,y1,y2,y3,n1,n4,intRow,Int.ofNat_zero,Int.ofNat_one,Bool.not_true,Bool.not_false,vcs,Ka,Kb,Kc,Kd,Ke,Kf,Kg,Kh,Ki,Kj,Kk,Kl,Km,reduceCtorEq,reduceIte,Kn,Ko,Kp,Kq,Kr,Ks,tys] <;> exact rfl))) | refine draw_end (by decide +kernel) ?_ | ((first | apply cond_bool | apply cond_bit) <;> intro hb) | refine And.intro (by omega) ?_ | refine And.intro (fun hb => ?_) (fun hb => ?_)
              all_goals ((refine Fin.give [(q, none), (y, none)] [] ?_ ?_ ?_ ?_ ?_ (fun q hq => by have hqq := ho q hq; first | (simp only [gives,tgt,List.map_cons,List.map_nil,List.mem_cons,List.not_mem_nil,or_false] at hqq ⊢; omega) | (simp only [gives,tgt,List.map_cons,List.map_nil,List.mem_cons,List.not_mem_nil,or_false] at hqq)) <;> (try simp only [Tryz.results63,Tryz.ntmps63,wks,hq,hy,rK_def,ren_bytesI,renOk_bytesI,z0,z1,z2,z3,y0,y1,y2,y3,n1,n4,giv,vcs,Ka,Kb,Kc,Kd,Ke,Kf,Kg,Kh,Ki,Kj,Kk,Kl,Km,reduceCtorEq,reduceIte,Kn,Ko,Kp,Kq,Kr,Ks,tys]) <;> (try simp only [injs]) <;> (try omega)))
            · rw [hm] at h; cases h
          | true =>
            rw [hmm] at hmy
            rw [point_yes hmm] at hm
            rcases hve with ⟨h, _⟩ | ⟨x, h, rfl, rfl⟩
            · rw [hm] at h; cases h
            · rw [hm] at h; cases h
              obtain ⟨o1, o2⟩ := of_one hmm
              have hof := of_ev [(n : Int)] (by simp)
              rw [o1, o2] at hof
              simp only [intRow,List.map_cons,List.map_nil] at hof
              have hel := encodeRune_length (n : Int)
              have hmp : out.map byteRow ++ (encodeRune (n : Int)).map byteRow = (out ++ encodeRune (n : Int)).map byteRow := by rw [List.map_append]
              rw [List.length_append]
              repeat' first | simp only [fins,mems,Tryz.results63,Tryz.ntmps63,Kt,wks,hq,hy,bases_def,rK_def,z0,z1,z2,z3,y0,y1,y2,y3,n1,n4,intRow,Int.ofNat_zero,Int.ofNat_one,hmp,tyT,if_true,blkT_some,one_bsI,fresh_self,List.length_map,List.take_of_length_le,Nat.le_refl,Option.bind_some,Bool.not_true,Bool.not_false,vcs,Ka,Kb,Kc,Kd,Ke,Kf,Kg,Kh,Ki,Kj,Kk,Kl,Km,reduceCtorEq,reduceIte,Kn,Ko,Kp,Kq,Kr,Ks,tys] | exact rfl | refine call_off (v := .any) ?_ | (first | (refine call_fn ?_ (hp _) ?_) | (refine call_fn_g ?_ (fun _ => hp _) ?_) | (refine call_fn ?_ (hx _) ?_) | (refine call_fn_g ?_ (fun _ => hx _) ?_) | (refine call_fn ?_ (hmy _) ?_) | (refine call_fn_g ?_ (fun _ => hmy _) ?_)) | ((refine call_fn_vx (xs := ?_) [b0 + 544] ?_ ?_ ?_ rfl (hof _) ?_); rotate_left 1) | ((first | (refine call_val (g := ?_) ?_ ?_) | (refine call_valg (g := ?_) ?_ ?_)); rotate_left 1; (focus (simp only [Tryz.results63,Tryz.ntmps63,Kt,wks,hq,hy,bases_def,rK_def,z0,z1,z2,z3,y0,y1,y2,y3,n1,n4,intRow,Int.ofNat_zero,Int.ofNat_one,hmp,tyT,if_true,blkT_some,one_bsI,fresh_self,List.length_map,List.take_of_length_le,Nat.le_refl,Option.bind_some,Bool.not_true,Bool.not_false,vcs,Ka,Kb,Kc,Kd,Ke,Kf,Kg,Kh,Ki,Kj,Kk,Kl,Km,reduceCtorEq,reduceIte,Kn,Ko,Kp,Kq,Kr,Ks,tys] <;> exact rfl))) | omega | refine draw_end (by decide +kernel) ?_ | ((first | apply cond_bool | apply cond_bit) <;> intro hb) | refine And.intro (by omega) ?_ | refine And.intro (fun hb => ?_) (fun hb => ?_)
              all_goals ((refine Fin.give [(q, none), (b0 + 768, some 0)] [y] ?_ ?_ ?_ ?_ ?_ (fun q hq => by have hqq := ho q hq; first | (simp only [gives,tgt,List.map_cons,List.map_nil,List.mem_cons,List.not_mem_nil,or_false] at hqq ⊢; omega) | (simp only [gives,tgt,List.map_cons,List.map_nil,List.mem_cons,List.not_mem_nil,or_false] at hqq)) <;> (try simp only [Tryz.results63,Tryz.ntmps63,wks,hq,hy,rK_def,ren_bytesI,renOk_bytesI,z0,z1,z2,z3,y0,y1,y2,y3,n1,n4,giv,vcs,Ka,Kb,Kc,Kd,Ke,Kf,Kg,Kh,Ki,Kj,Kk,Kl,Km,reduceCtorEq,reduceIte,Kn,Ko,Kp,Kq,Kr,Ks,tys]) <;> (try simp only [injs]) <;> (try omega)))
      | false =>
        have hp := hp1
        rw [preR_no hb] at hp
        repeat' first | simp only [fins,mems,Tryz.results63,Tryz.ntmps63,Kt,wks,hq,hy,bases_def,rK_def,z0,z1,z2,z3,y0,y1,y2,y3,n1,n4,intRow,Int.ofNat_zero,Int.ofNat_one,hwk,Bool.not_true,Bool.not_false,vcs,Ka,Kb,Kc,Kd,Ke,Kf,Kg,Kh,Ki,Kj,Kk,Kl,Km,reduceCtorEq,reduceIte,Kn,Ko,Kp,Kq,Kr,Ks,tys] | exact rfl | refine call_off (v := .any) ?_ | (first | (refine call_fn ?_ (hp _) ?_) | (refine call_fn_g ?_ (fun _ => hp _) ?_)) | ((first | (refine call_val (g := ?_) ?_ ?_) | (refine call_valg (g := ?_) ?_ ?_)); rotate_left 1; (focus (simp only [Tryz.results63,Tryz.ntmps63,Kt,wks,hq,hy,bases_def,rK_def,z0,z1,z2,z3,y0,y1,y2,y3,n1,n4,intRow,Int.ofNat_zero,Int.ofNat_one,hwk,Bool.not_true,Bool.not_false,vcs,Ka,Kb,Kc,Kd,Ke,Kf,Kg,Kh,Ki,Kj,Kk,Kl,Km,reduceCtorEq,reduceIte,Kn,Ko,Kp,Kq,Kr,Ks,tys] <;> exact rfl))) | refine draw_end (by decide +kernel) ?_ | ((first | apply cond_bool | apply cond_bit) <;> intro hb) | refine And.intro (by omega) ?_ | refine And.intro (fun hb => ?_) (fun hb => ?_)
        all_goals ((refine again_can2 cxG (2) [some b0, some q, some y] ?_ ?_ ?_ ?_; rotate_left 2; (focus (show b0 ≤ _; omega)); (focus (refine ⟨?_, ?_⟩ <;> (try simp only [cans,hwk,bases_def,isRow_typed,Int.ofNat_one,hq,hy,rK_def,ren_bytesI,renOk_bytesI,z0,z1,z2,z3,y0,y1,y2,y3,n1,n4,vcs,Ka,Kb,Kc,Kd,Ke,Kf,Kg,Kh,Ki,Kj,Kk,Kl,Km,reduceCtorEq,reduceIte,Kn,Ko,Kp,Kq,Kr,Ks,tys,injs]) <;> (try omega)))))
        all_goals (first | omega | exact ⟨by omega, hk1, fun _ => hb⟩ | exact ⟨by omega, fun _ => hk1 (by omega), fun _ => hb⟩ | exact ⟨by omega, fun _ => hb⟩ | exact ⟨by omega, fun _ => hk1 (by omega)⟩ | skip)
    · have hm := meant_non hf (hk2 (by omega))
      rcases hve with ⟨_, rfl, rfl⟩ | ⟨x, h, _⟩
      · repeat' first | simp only [fins,mems,Tryz.results63,Tryz.ntmps63,Kt,wks,hq,hy,bases_def,rK_def,z0,z1,z2,z3,y0,y1,y2,y3,n1,n4,intRow,Int.ofNat_zero,Int.ofNat_one,Bool.not_true,Bool.not_false,vcs,Ka,Kb,Kc,Kd,Ke,Kf,Kg,Kh,Ki,Kj,Kk,Kl,Km,reduceCtorEq,reduceIte,Kn,Ko,Kp,Kq,Kr,Ks,tys] | exact rfl | refine call_off (v := .any) ?_ | ((first | (refine call_val (g := ?_) ?_ ?_) | (refine call_valg (g := ?_) ?_ ?_)); rotate_left 1; (focus (simp only [Tryz.results63,Tryz.ntmps63,Kt,wks,hq,hy,bases_def,rK_def,z0,z1,z2,z3,y0,y1,y2,y3,n1,n4,intRow,Int.ofNat_zero,Int.ofNat_one,Bool.not_true,Bool.not_false,vcs,Ka,Kb,Kc,Kd,Ke,Kf,Kg,Kh,Ki,Kj,Kk,Kl,Km,reduceCtorEq,reduceIte,Kn,Ko,Kp,Kq,Kr,Ks,tys] <;> exact rfl))) | refine draw_end (by decide +kernel) ?_ | ((first | apply cond_bool | apply cond_bit) <;> intro hb) | refine And.intro (by omega) ?_ | refine And.intro (fun hb => ?_) (fun hb => ?_)
        all_goals ((refine Fin.give [(q, none), (y, none)] [] ?_ ?_ ?_ ?_ ?_ (fun q hq => by have hqq := ho q hq; first | (simp only [gives,tgt,List.map_cons,List.map_nil,List.mem_cons,List.not_mem_nil,or_false] at hqq ⊢; omega) | (simp only [gives,tgt,List.map_cons,List.map_nil,List.mem_cons,List.not_mem_nil,or_false] at hqq)) <;> (try simp only [Tryz.results63,Tryz.ntmps63,wks,hq,hy,rK_def,ren_bytesI,renOk_bytesI,z0,z1,z2,z3,y0,y1,y2,y3,n1,n4,giv,vcs,Ka,Kb,Kc,Kd,Ke,Kf,Kg,Kh,Ki,Kj,Kk,Kl,Km,reduceCtorEq,reduceIte,Kn,Ko,Kp,Kq,Kr,Ks,tys]) <;> (try simp only [injs]) <;> (try omega)))
      · rw [hm] at h; cases h
theorem call_off_bnd {Q : Post} {st : List Frm} {nm : Nat} {e : Env} {M : Mem} {d : Bool} {fs : List (List Nat)} {ops : List Oper} {dst : Option Tmp} {f : Operand} {args : Array Operand} {ats : Array TypeId} {t : TypeId} {pos : String} {af : Array Edge} {gd : Option (Nat × Bool)} {r : List Oper} {i : Nat} {g : FuncId} {fi : List V} {v : V}
    (hf : evalV cx.G false e f = .fnb g fi) (h : goOps cx Q st nm (e.putD dst (.gd false v)) M d (fs ++ [[]]) ops r (i + 1)) : goCallG cx Q st nm e M d fs false ops ⟨dst, .call ⟨.value f, args, ats⟩, t, pos, af, gd⟩ r i := by
  unfold goCallG vcCallG
  refine .inl ?_
  simp only [hf,V.tgt]
  exact ⟨[], v, fun h => (by cases h), h⟩
theorem meant_length {a x : List UInt8} (h : meantL a = some x) : x.length ≤ 4 := by
  have hp : ∀ o, pointW o = some x → x.length ≤ 4 := fun o h => by
    cases o with
    | none => cases h
    | some n =>
      cases hm : may (n : Int) with
      | true => rw [point_yes hm] at h; cases h; exact (encodeRune_length (n : Int)).2
      | false => rw [point_no hm] at h; cases h
  unfold meantL at h
  repeat' split at h
  all_goals (first | (cases h; simp; done) | exact hp _ h | cases h)
def getE (s : List UInt8) : Int := if ptsErr s ≠ 0 then ptsErr s else match readL s with | none => 80 | some _ => 0
def getT (s : List UInt8) : List UInt8 := if getE s = 0 then (readL s).getD [] else []
def getV (s : List UInt8) : V := .tup [.str (getT s), .int .i64 (getE s)]
theorem getV_pts {s : List UInt8} (h : ptsErr s ≠ 0) : getV s = .tup [.str [], .int .i64 (ptsErr s)] := by
  have he : getE s = ptsErr s := by unfold getE; rw [if_pos h]
  unfold getV getT; rw [he, if_neg h]
theorem getV_none {s : List UInt8} (h : ptsErr s = 0) (h2 : readL s = none) : getV s = .tup [.str [], .int .i64 80] := by
  have he : getE s = 80 := by unfold getE; rw [if_neg (by simp [h]), h2]
  unfold getV getT; rw [he]; rfl
theorem getV_some {s x : List UInt8} (h : ptsErr s = 0) (h2 : readL s = some x) : getV s = .tup [.str x, .int .i64 0] := by
  have he : getE s = 0 := by unfold getE; rw [if_neg (by simp [h]), h2]
  unfold getV getT; rw [he, h2]; rfl
section
variable (rest a b : List UInt8) (hr : rest.length ≤ 1000000) (hc : cut1 59 rest = some (a, b))
include hr hc
theorem refer_no (hm : meantL a = none) (q y : Nat) (out : List UInt8) (hout : out.length ≤ 1000000) (M : Mem) (nm : Nat) (hqy : q ≠ y) (hq : M q = some (rdK rest y out.length)) (hy : M y = some (rK out)) (ho : ∀ w, (M w).isSome = true → w ∈ [q, y]) (hqn : q < nm) (hyn : y < nm) :
    Ev cx 63 nm [.ptr q 0 0] M (.bool false) [(q, some (rdK rest y out.length)), (y, some (rK out))] := by
  rcases find_named a with ⟨x, _, h, _⟩ | ⟨hf, _⟩
  · rw [hm] at h; cases h
  · exact refer_num rest a b hr hc hf q y out hout M nm hqy hq hy ho hqn hyn _ _ (.inl ⟨hm, rfl, rfl⟩)
theorem refer_yes (x : List UInt8) (hm : meantL a = some x) (q y : Nat) (out : List UInt8) (hout : out.length ≤ 1000000) (M : Mem) (nm : Nat) (hqy : q ≠ y) (hq : M q = some (rdK rest y out.length)) (hy : M y = some (rK out)) (ho : ∀ w, (M w).isSome = true → w ∈ [q, y]) (hqn : q < nm) (hyn : y < nm) :
    Ev cx 63 nm [.ptr q 0 0] M (.bool true) [(y, none), (q, some (rdK b nm (out ++ x).length)), (nm, some (rK (out ++ x)))] := by
  rcases find_named a with ⟨x', hf, h, hx⟩ | ⟨hf, _⟩
  · rw [hm] at h; cases h
    exact refer_word rest a b x hr hc hf hx q y out hout M nm hqy hq hy ho hqn hyn
  · exact refer_num rest a b hr hc hf q y out hout M nm hqy hq hy ho hqn hyn _ _ (.inr ⟨x, hm, rfl, rfl⟩)
end
structure RSt where
  rest : List UInt8
  out : List UInt8
def RSt.inv (s : List UInt8) (x : RSt) : Prop := readL s = (readL x.rest).map (x.out ++ ·) ∧ x.rest.length ≤ s.length ∧ x.out.length ≤ 4 * (s.length - x.rest.length)
theorem map_app (o : Option (List UInt8)) (a b : List UInt8) : (o.map (b ++ ·)).map (a ++ ·) = o.map ((a ++ b) ++ ·) := by cases o <;> simp
theorem eGet_ev (s : List UInt8) (hs : s.length ≤ lim) (nm : Nat) : Ev cx 44 nm [.str s] Mem.nil (getV s) [] := by
  by_cases hz : ptsErr s = 0
  · have hb : (ptsErr s != 0) = false := by rw [hz]; rfl
    have hlen := ptsErr_len hz
    refine ev_go rfl (fun cargs w => Tryz.call44 cargs w) Tryz.func44 rfl mixed (by kernel_rfl) rfl ?_; intro b0 hb0
    repeat' first | simp only [fins,mems,Tryz.results44,Tryz.ntmps44,Kt,wks,hb,vcs,Ka,Kb,Kc,Kd,Ke,Kf,Kg,Kh,Ki,Kj,Kk,Kl,Km,reduceCtorEq,reduceIte,Kn,Ko,Kp,Kq,Kr,Ks,tys] | exact rfl | refine call_off (v := .any) ?_ | (first | (refine call_fn ?_ (tCheck_ev s hs _) ?_) | (refine call_fn_g ?_ (fun _ => tCheck_ev s hs _) ?_)) | ((first | (refine call_val (g := ?_) ?_ ?_) | (refine call_valg (g := ?_) ?_ ?_)); rotate_left 1; (focus (simp only [Tryz.results44,Tryz.ntmps44,Kt,wks,hb,vcs,Ka,Kb,Kc,Kd,Ke,Kf,Kg,Kh,Ki,Kj,Kk,Kl,Km,reduceCtorEq,reduceIte,Kn,Ko,Kp,Kq,Kr,Ks,tys] <;> exact rfl))) | ((first | apply cond_bool | apply cond_bit) <;> intro hb) | refine And.intro (by omega) ?_ | refine And.intro (fun hb => ?_) (fun hb => ?_)
    (refine loop_can2 cxG (fun x : RSt => x.rest.length) (fun x => x.inv s) (b0 + 16) (fun x => [(5, .ptr b0 0 0), (6, .fnb 63 [.ptr b0 0 0])]) (fun x => [(b0, rdK x.rest (b0 + 1) x.out.length), (b0 + 1, rK x.out)]) (RSt.mk s []) [some (b0 + 144), none] ?_ ?_ ?_ ?_; rotate_left 1; (focus (show b0 ≤ _; omega)); (focus (refine ⟨?_, ?_⟩ <;> (try simp only [cans,rdK_def,rK_def,ren_bytesI,renOk_bytesI,isRow_typed,isRow_inst,List.map_nil,List.length_nil,vcs,Ka,Kb,Kc,Kd,Ke,Kf,Kg,Kh,Ki,Kj,Kk,Kl,Km,reduceCtorEq,reduceIte,Kn,Ko,Kp,Kq,Kr,Ks,tys,injs]) <;> (try omega))); rotate_left 1)
    · refine ⟨?_, Nat.le_refl _, Nat.zero_le _⟩
      cases readL s <;> rfl
    · rintro ⟨rest, out⟩ ⟨h1, h2, h3⟩
      simp only at h1 h2 h3
      cases rest with
      | nil =>
        have hd : (([] : List UInt8) != []) = false := rfl
        have hr : readL s = some out := by rw [h1, readL_nil]; simp
        have hv := getV_some hz hr
        have htk : (out.map byteRow).take out.length = out.map byteRow := List.take_of_length_le (by simp)
        (repeat' first | simp only [fins,mems,Tryz.results44,Tryz.ntmps44,Kt,wks,hd,hv,htk,rdK_def,rK_def,List.length_map,Nat.le_refl,vcs,Ka,Kb,Kc,Kd,Ke,Kf,Kg,Kh,Ki,Kj,Kk,Kl,Km,reduceCtorEq,reduceIte,Kn,Ko,Kp,Kq,Kr,Ks,tys] | exact rfl | refine call_off (v := .any) ?_ | (refine ext_toStr (v := ?_) (bs := out) ?_ ?_ ?_ ?_ ?_ ?_ ?_; rotate_left 1; (iterate 2 (focus (simp only [Tryz.results44,Tryz.ntmps44,Kt,wks,hd,hv,htk,rdK_def,rK_def,List.length_map,Nat.le_refl,vcs,Ka,Kb,Kc,Kd,Ke,Kf,Kg,Kh,Ki,Kj,Kk,Kl,Km,reduceCtorEq,reduceIte,Kn,Ko,Kp,Kq,Kr,Ks,tys]; done))); (focus (simp only [Tryz.results44,Tryz.ntmps44,Kt,wks,hd,hv,htk,rdK_def,rK_def,List.length_map,Nat.le_refl,vcs,Ka,Kb,Kc,Kd,Ke,Kf,Kg,Kh,Ki,Kj,Kk,Kl,Km,reduceCtorEq,reduceIte,Kn,Ko,Kp,Kq,Kr,Ks,tys] <;> exact rfl)); (focus (exact rfl)); (focus (simp only [mems,Tryz.results44,Tryz.ntmps44,Kt,wks,hd,hv,htk,rdK_def,rK_def,List.length_map,Nat.le_refl,vcs,Ka,Kb,Kc,Kd,Ke,Kf,Kg,Kh,Ki,Kj,Kk,Kl,Km,reduceCtorEq,reduceIte,Kn,Ko,Kp,Kq,Kr,Ks,tys]; done)); (focus (simp only [Tryz.results44,Tryz.ntmps44,Kt,wks,hd,hv,htk,rdK_def,rK_def,List.length_map,Nat.le_refl,vcs,Ka,Kb,Kc,Kd,Ke,Kf,Kg,Kh,Ki,Kj,Kk,Kl,Km,reduceCtorEq,reduceIte,Kn,Ko,Kp,Kq,Kr,Ks,tys] <;> exact rfl))) | (refine extG_true ?_) | (refine extG_false ?_) | ((first | (refine call_val (g := ?_) ?_ ?_) | (refine call_valg (g := ?_) ?_ ?_)); rotate_left 1; (focus (simp only [Tryz.results44,Tryz.ntmps44,Kt,wks,hd,hv,htk,rdK_def,rK_def,List.length_map,Nat.le_refl,vcs,Ka,Kb,Kc,Kd,Ke,Kf,Kg,Kh,Ki,Kj,Kk,Kl,Km,reduceCtorEq,reduceIte,Kn,Ko,Kp,Kq,Kr,Ks,tys] <;> exact rfl))) | ((first | apply cond_bool | apply cond_bit) <;> intro hb) | refine And.intro (by omega) ?_ | refine And.intro (fun hb => ?_) (fun hb => ?_) | refine Fin.pure ?_ ?_ ?_ | simp only [injs])
      | cons c r =>
        have hd : (!((c :: r) == [])) = true := rfl
        have hl0 : 0 < (c :: r).length := by simp
        have hl1 : 1 ≤ (c :: r).length := by simp
        have hl2 : (1 : Int) ≤ ((c :: r).length : Int) := by simp only [List.length_cons]; omega
        simp only [List.length_cons] at hl0 hl1 hl2 h2 h3
        have q60 : ((c.toNat : Int) == 60) = decide (c = 60) := beq_byte c 60
        have q38 : ((c.toNat : Int) == 38) = decide (c = 38) := beq_byte c 38
        by_cases c60 : c = 60
        · have d60 : decide (c = 60) = true := decide_eq_true c60
          rw [d60] at q60
          have hr : readL s = none := by rw [h1, c60, readL_lt]; rfl
          have hv := getV_none hz hr
          (repeat' first | simp only [fins,mems,Tryz.results44,Tryz.ntmps44,Kt,wks,hd,hl0,hl1,hl2,hv,q60,rdK_def,rK_def,List.getElem?_cons_zero,List.drop_succ_cons,List.drop_zero,vcs,Ka,Kb,Kc,Kd,Ke,Kf,Kg,Kh,Ki,Kj,Kk,Kl,Km,reduceCtorEq,reduceIte,Kn,Ko,Kp,Kq,Kr,Ks,tys] | exact rfl | refine call_off (v := .any) ?_ | ((first | (refine call_val (g := ?_) ?_ ?_) | (refine call_valg (g := ?_) ?_ ?_)); rotate_left 1; (focus (simp only [Tryz.results44,Tryz.ntmps44,Kt,wks,hd,hl0,hl1,hl2,hv,q60,rdK_def,rK_def,List.getElem?_cons_zero,List.drop_succ_cons,List.drop_zero,vcs,Ka,Kb,Kc,Kd,Ke,Kf,Kg,Kh,Ki,Kj,Kk,Kl,Km,reduceCtorEq,reduceIte,Kn,Ko,Kp,Kq,Kr,Ks,tys] <;> exact rfl))) | ((first | apply cond_bool | apply cond_bit) <;> intro hb) | refine And.intro (by omega) ?_ | refine And.intro (fun hb => ?_) (fun hb => ?_) | refine Fin.pure ?_ ?_ ?_ | simp only [injs])
        have d60 : decide (c = 60) = false := decide_eq_false c60
        rw [d60] at q60
        by_cases c38 : c = 38
        · have d38 : decide (c = 38) = true := decide_eq_true c38
          rw [d38] at q38
          subst c38
          cases hc : cut1 59 r with
          | none =>
            have hr : readL s = none := by rw [h1, readL_none hc]; rfl
            have hv := getV_none hz hr
            have href := refer_cut r (by omega) hc b0 (b0 + 1) out
            (repeat' first | simp only [fins,mems,Tryz.results44,Tryz.ntmps44,Kt,wks,hd,hl0,hl1,hl2,hv,q60,q38,rdK_def,rK_def,List.getElem?_cons_zero,List.drop_succ_cons,List.drop_zero,Bool.not_false,vcs,Ka,Kb,Kc,Kd,Ke,Kf,Kg,Kh,Ki,Kj,Kk,Kl,Km,reduceCtorEq,reduceIte,Kn,Ko,Kp,Kq,Kr,Ks,tys] | exact rfl | refine call_off (v := .any) ?_ | ((refine call_on_bnd (fi := ?_) ?_ ?_ [b0, b0 + 1] (href _ _ (by omega) ?_ ?_ only_mem (by omega) (by omega)) ?_ ?_); rotate_left 1) | ((first | (refine call_val (g := ?_) ?_ ?_) | (refine call_valg (g := ?_) ?_ ?_)); rotate_left 1; (focus (simp only [Tryz.results44,Tryz.ntmps44,Kt,wks,hd,hl0,hl1,hl2,hv,q60,q38,rdK_def,rK_def,List.getElem?_cons_zero,List.drop_succ_cons,List.drop_zero,Bool.not_false,vcs,Ka,Kb,Kc,Kd,Ke,Kf,Kg,Kh,Ki,Kj,Kk,Kl,Km,reduceCtorEq,reduceIte,Kn,Ko,Kp,Kq,Kr,Ks,tys] <;> exact rfl))) | ((first | apply cond_bool | apply cond_bit) <;> intro hb) | refine And.intro (by omega) ?_ | refine And.intro (fun hb => ?_) (fun hb => ?_) | refine Fin.pure ?_ ?_ ?_ | simp only [injs])
          | some p =>
            obtain ⟨a, b⟩ := p
            have hcl := cut1_len hc
            cases hm : meantL a with
            | none =>
              have hr : readL s = none := by rw [h1, readL_bad hc hm]; rfl
              have hv := getV_none hz hr
              have href := refer_no r a b (by omega) hc hm b0 (b0 + 1) out (by omega)
              (repeat' first | simp only [fins,mems,Tryz.results44,Tryz.ntmps44,Kt,wks,hd,hl0,hl1,hl2,hv,q60,q38,rdK_def,rK_def,List.getElem?_cons_zero,List.drop_succ_cons,List.drop_zero,Bool.not_false,vcs,Ka,Kb,Kc,Kd,Ke,Kf,Kg,Kh,Ki,Kj,Kk,Kl,Km,reduceCtorEq,reduceIte,Kn,Ko,Kp,Kq,Kr,Ks,tys] | exact rfl | refine call_off (v := .any) ?_ | ((refine call_on_bnd (fi := ?_) ?_ ?_ [b0, b0 + 1] (href _ _ (by omega) ?_ ?_ only_mem (by omega) (by omega)) ?_ ?_); rotate_left 1) | ((first | (refine call_val (g := ?_) ?_ ?_) | (refine call_valg (g := ?_) ?_ ?_)); rotate_left 1; (focus (simp only [Tryz.results44,Tryz.ntmps44,Kt,wks,hd,hl0,hl1,hl2,hv,q60,q38,rdK_def,rK_def,List.getElem?_cons_zero,List.drop_succ_cons,List.drop_zero,Bool.not_false,vcs,Ka,Kb,Kc,Kd,Ke,Kf,Kg,Kh,Ki,Kj,Kk,Kl,Km,reduceCtorEq,reduceIte,Kn,Ko,Kp,Kq,Kr,Ks,tys] <;> exact rfl))) | ((first | apply cond_bool | apply cond_bit) <;> intro hb) | refine And.intro (by omega) ?_ | refine And.intro (fun hb => ?_) (fun hb => ?_) | refine Fin.pure ?_ ?_ ?_ | simp only [injs])
            | some x =>
              have hxl := meant_length hm
              have hr : readL s = (readL b).map ((out ++ x) ++ ·) := by rw [h1, readL_ref hc hm, map_app]
              have href := refer_yes r a b (by omega) hc x hm b0 (b0 + 1) out (by omega)
              have q38n : (((38 : UInt8).toNat : Int) != 38) = false := rfl
              repeat' first | simp only [fins,mems,Tryz.results44,Tryz.ntmps44,Kt,wks,hd,hl0,hl1,hl2,q60,q38,q38n,rdK_def,rK_def,fresh_self,List.getElem?_cons_zero,List.drop_succ_cons,List.drop_zero,Bool.not_true,vcs,Ka,Kb,Kc,Kd,Ke,Kf,Kg,Kh,Ki,Kj,Kk,Kl,Km,reduceCtorEq,reduceIte,Kn,Ko,Kp,Kq,Kr,Ks,tys] | exact rfl | refine call_off (v := .any) ?_ | ((refine call_on_bnd (fi := ?_) ?_ ?_ [b0, b0 + 1] (href _ _ (by omega) ?_ ?_ only_mem (by omega) (by omega)) ?_ ?_); rotate_left 1) | ((first | (refine call_val (g := ?_) ?_ ?_) | (refine call_valg (g := ?_) ?_ ?_)); rotate_left 1; (focus (simp only [Tryz.results44,Tryz.ntmps44,Kt,wks,hd,hl0,hl1,hl2,q60,q38,q38n,rdK_def,rK_def,fresh_self,List.getElem?_cons_zero,List.drop_succ_cons,List.drop_zero,Bool.not_true,vcs,Ka,Kb,Kc,Kd,Ke,Kf,Kg,Kh,Ki,Kj,Kk,Kl,Km,reduceCtorEq,reduceIte,Kn,Ko,Kp,Kq,Kr,Ks,tys] <;> exact rfl))) | ((first | apply cond_bool | apply cond_bit) <;> intro hb) | refine And.intro (by omega) ?_ | refine And.intro (fun hb => ?_) (fun hb => ?_)
              all_goals ((refine again_can2 cxG (RSt.mk b (out ++ x)) [some b0, some (b0 + 448)] ?_ ?_ ?_ ?_; rotate_left 2; (focus (show b0 ≤ _; omega)); (focus (refine ⟨?_, ?_⟩ <;> (try simp only [cans,rdK_def,rK_def,ren_bytesI,renOk_bytesI,isRow_typed,isRow_inst,List.length_map,vcs,Ka,Kb,Kc,Kd,Ke,Kf,Kg,Kh,Ki,Kj,Kk,Kl,Km,reduceCtorEq,reduceIte,Kn,Ko,Kp,Kq,Kr,Ks,tys,injs]) <;> (try omega)))))
              all_goals (first | (show b.length < (38 :: r).length; simp only [List.length_cons]; omega) | (refine ⟨hr, ?_, ?_⟩ <;> simp only [List.length_append] <;> omega) | skip)
        · have d38 : decide (c = 38) = false := decide_eq_false c38
          rw [d38] at q38
          have q38n : ((c.toNat : Int) != 38) = true := by unfold bne; rw [q38]; rfl
          have hr : readL s = (readL r).map ((out ++ [c]) ++ ·) := by rw [h1, readL_other c60 c38]; cases readL r <;> simp
          have hsn : out.map byteRow ++ [[V.int .u8 c.toNat]] = (out ++ [c]).map byteRow := by rw [List.map_append]; rfl
          repeat' first | simp only [fins,mems,Tryz.results44,Tryz.ntmps44,Kt,wks,hd,hl0,hl1,hl2,q60,q38,q38n,hsn,rdK_def,rK_def,fresh_self,tyT,if_true,blkT_some,one_bsI,List.length_map,List.take_of_length_le,Nat.le_refl,Option.bind_some,List.getElem?_cons_zero,List.drop_succ_cons,List.drop_zero,Bool.not_true,Bool.not_false,vcs,Ka,Kb,Kc,Kd,Ke,Kf,Kg,Kh,Ki,Kj,Kk,Kl,Km,reduceCtorEq,reduceIte,Kn,Ko,Kp,Kq,Kr,Ks,tys] | exact rfl | refine call_off (v := .any) ?_ | ((refine call_off_bnd (v := .any) (g := ?_) (fi := ?_) ?_ ?_); rotate_left 2) | ((first | (refine call_val (g := ?_) ?_ ?_) | (refine call_valg (g := ?_) ?_ ?_)); rotate_left 1; (focus (simp only [Tryz.results44,Tryz.ntmps44,Kt,wks,hd,hl0,hl1,hl2,q60,q38,q38n,hsn,rdK_def,rK_def,fresh_self,tyT,if_true,blkT_some,one_bsI,List.length_map,List.take_of_length_le,Nat.le_refl,Option.bind_some,List.getElem?_cons_zero,List.drop_succ_cons,List.drop_zero,Bool.not_true,Bool.not_false,vcs,Ka,Kb,Kc,Kd,Ke,Kf,Kg,Kh,Ki,Kj,Kk,Kl,Km,reduceCtorEq,reduceIte,Kn,Ko,Kp,Kq,Kr,Ks,tys] <;> exact rfl))) | ((first | apply cond_bool | apply cond_bit) <;> intro hb) | refine And.intro (by omega) ?_ | refine And.intro (fun hb => ?_) (fun hb => ?_)
          all_goals ((refine again_can2 cxG (RSt.mk r (out ++ [c])) [some b0, some (b0 + 672)] ?_ ?_ ?_ ?_; rotate_left 2; (focus (show b0 ≤ _; omega)); (focus (refine ⟨?_, ?_⟩ <;> (try simp only [cans,rdK_def,rK_def,ren_bytesI,renOk_bytesI,isRow_typed,isRow_inst,List.length_map,List.length_append,List.length_cons,List.length_nil,vcs,Ka,Kb,Kc,Kd,Ke,Kf,Kg,Kh,Ki,Kj,Kk,Kl,Km,reduceCtorEq,reduceIte,Kn,Ko,Kp,Kq,Kr,Ks,tys,injs]) <;> (try omega)))))
          all_goals (first | (show r.length < (c :: r).length; simp only [List.length_cons]; omega) | (refine ⟨hr, ?_, ?_⟩ <;> simp only [List.length_append,List.length_cons,List.length_nil] <;> omega) | skip)
  · have hb : (ptsErr s != 0) = true := by rw [bne_iff_ne]; exact hz
    have hv := getV_pts hz
    refine ev_go rfl (fun cargs w => Tryz.call44 cargs w) Tryz.func44 rfl mixed (by kernel_rfl) rfl ?_; intro b0 hb0
    (repeat' first | simp only [fins,mems,Tryz.results44,Tryz.ntmps44,Kt,wks,hb,hv,vcs,Ka,Kb,Kc,Kd,Ke,Kf,Kg,Kh,Ki,Kj,Kk,Kl,Km,reduceCtorEq,reduceIte,Kn,Ko,Kp,Kq,Kr,Ks,tys] | exact rfl | refine call_off (v := .any) ?_ | (first | (refine call_fn ?_ (tCheck_ev s hs _) ?_) | (refine call_fn_g ?_ (fun _ => tCheck_ev s hs _) ?_)) | ((first | (refine call_val (g := ?_) ?_ ?_) | (refine call_valg (g := ?_) ?_ ?_)); rotate_left 1; (focus (simp only [Tryz.results44,Tryz.ntmps44,Kt,wks,hb,hv,vcs,Ka,Kb,Kc,Kd,Ke,Kf,Kg,Kh,Ki,Kj,Kk,Kl,Km,reduceCtorEq,reduceIte,Kn,Ko,Kp,Kq,Kr,Ks,tys] <;> exact rfl))) | ((first | apply cond_bool | apply cond_bit) <;> intro hb) | refine And.intro (by omega) ?_ | refine And.intro (fun hb => ?_) (fun hb => ?_) | refine Fin.pure ?_ ?_ ?_ | simp only [injs])
theorem letter_leaves : ∀ p1 p2 p3 p4 p5 : Bool, (p1 = true ∧ p2 = true) ∨ (p1 = true ∧ p2 = false ∧ p3 = true ∧ p4 = true) ∨ (p1 = true ∧ p2 = false ∧ p3 = true ∧ p4 = false ∧ p5 = true) ∨ (p1 = true ∧ p2 = false ∧ p3 = true ∧ p4 = false ∧ p5 = false) ∨ (p1 = true ∧ p2 = false ∧ p3 = false ∧ p5 = true) ∨ (p1 = true ∧ p2 = false ∧ p3 = false ∧ p5 = false) ∨
    (p1 = false ∧ p3 = true ∧ p4 = true) ∨ (p1 = false ∧ p3 = true ∧ p4 = false ∧ p5 = true) ∨ (p1 = false ∧ p3 = true ∧ p4 = false ∧ p5 = false) ∨ (p1 = false ∧ p3 = false ∧ p5 = true) ∨ (p1 = false ∧ p3 = false ∧ p5 = false) := by
  intro p1 p2 p3 p4 p5; cases p1 <;> cases p2 <;> cases p3 <;> cases p4 <;> cases p5 <;> simp
theorem letB_eq {c : UInt8} {p1 p2 p3 p4 p5 : Bool} (h1 : decide ((97 : Int) ≤ c.toNat) = p1) (h2 : decide ((c.toNat : Int) ≤ 122) = p2) (h3 : decide ((65 : Int) ≤ c.toNat) = p3) (h4 : decide ((c.toNat : Int) ≤ 90) = p4) (h5 : decide (c = 95) = p5) : letB c = ((p1 && p2) || (p3 && p4) || p5) := by
  unfold letB
  rw [← h1, ← h2, ← h3, ← h4, ← h5]
  have e1 : ((97 : Int) ≤ c.toNat) = (97 ≤ c.toNat) := propext (by omega)
  have e2 : ((c.toNat : Int) ≤ 122) = (c.toNat ≤ 122) := propext (by omega)
  have e3 : ((65 : Int) ≤ c.toNat) = (65 ≤ c.toNat) := propext (by omega)
  have e4 : ((c.toNat : Int) ≤ 90) = (c.toNat ≤ 90) := propext (by omega)
  simp only [e1,e2,e3,e4]
theorem rLetter_ev (c : UInt8) (nm : Nat) : Ev cx 28 nm [.int .u8 c.toNat] Mem.nil (.bool (letB c)) [] := by
  have hq : ((c.toNat : Int) == 95) = decide (c = 95) := beq_byte c 95
  generalize h1 : decide ((97 : Int) ≤ c.toNat) = p1
  generalize h2 : decide ((c.toNat : Int) ≤ 122) = p2
  generalize h3 : decide ((65 : Int) ≤ c.toNat) = p3
  generalize h4 : decide ((c.toNat : Int) ≤ 90) = p4
  generalize h5 : decide (c = 95) = p5
  have he := letB_eq h1 h2 h3 h4 h5
  rcases letter_leaves p1 p2 p3 p4 p5 with ⟨rfl, rfl⟩ | ⟨rfl, rfl, rfl, rfl⟩ | ⟨rfl, rfl, rfl, rfl, rfl⟩ | ⟨rfl, rfl, rfl, rfl, rfl⟩ | ⟨rfl, rfl, rfl, rfl⟩ | ⟨rfl, rfl, rfl, rfl⟩ | ⟨rfl, rfl, rfl⟩ | ⟨rfl, rfl, rfl, rfl⟩ | ⟨rfl, rfl, rfl, rfl⟩ | ⟨rfl, rfl, rfl⟩ | ⟨rfl, rfl, rfl⟩
  all_goals simp only [Bool.true_and,Bool.false_and,Bool.and_false,Bool.true_or,Bool.or_true,Bool.false_or,Bool.or_false,Bool.and_true] at he
  all_goals (
    refine ev_go rfl (fun cargs w => Tryz.call28 cargs w) Tryz.func28 rfl mixed (by kernel_rfl) rfl ?_; intro b0 hb0
    (repeat' first | simp only [fins,mems,Tryz.results28,Tryz.ntmps28,Kt,wks,hq,h1,h2,h3,h4,h5,he,vcs,Ka,Kb,Kc,Kd,Ke,Kf,Kg,Kh,Ki,Kj,Kk,Kl,Km,reduceCtorEq,reduceIte,Kn,Ko,Kp,Kq,Kr,Ks,tys] | exact rfl | refine call_off (v := .any) ?_ | ((first | apply cond_bool | apply cond_bit) <;> intro hb) | refine And.intro (by omega) ?_ | refine And.intro (fun hb => ?_) (fun hb => ?_) | refine Fin.pure ?_ ?_ ?_ | simp only [injs]))
theorem orO : ∀ n : Nat, n < 256 → (decide (97 ≤ IntKind.u8.wrap ((BitVec.ofInt IntKind.u8.bits (n : Int) ||| BitVec.ofInt IntKind.u8.bits 32).toNat : Int)) && decide (IntKind.u8.wrap ((BitVec.ofInt IntKind.u8.bits (n : Int) ||| BitVec.ofInt IntKind.u8.bits 32).toNat : Int) ≤ 122)) = ((decide (97 ≤ n) && decide (n ≤ 122)) || (decide (65 ≤ n) && decide (n ≤ 90))) := by decide +kernel
theorem part_leaves : ∀ p1 p2 p5 f p6 p7 p8 p9 : Bool, (p1 = true ∧ p2 = true) ∨ (p1 = true ∧ p2 = false ∧ p5 = true) ∨ (p1 = false ∧ p5 = true) ∨ (p1 = true ∧ p2 = false ∧ p5 = false ∧ f = true) ∨ (p1 = false ∧ p5 = false ∧ f = true) ∨
    (p1 = true ∧ p2 = false ∧ p5 = false ∧ f = false ∧ p6 = true ∧ p7 = true) ∨ (p1 = true ∧ p2 = false ∧ p5 = false ∧ f = false ∧ p6 = true ∧ p7 = false ∧ p8 = true) ∨ (p1 = true ∧ p2 = false ∧ p5 = false ∧ f = false ∧ p6 = true ∧ p7 = false ∧ p8 = false) ∨
    (p1 = true ∧ p2 = false ∧ p5 = false ∧ f = false ∧ p6 = false ∧ p8 = true) ∨ (p1 = true ∧ p2 = false ∧ p5 = false ∧ f = false ∧ p6 = false ∧ p8 = false) ∨
    (p1 = false ∧ p5 = false ∧ f = false ∧ p6 = true ∧ p7 = true) ∨ (p1 = false ∧ p5 = false ∧ f = false ∧ p6 = true ∧ p7 = false ∧ p8 = true) ∨ (p1 = false ∧ p5 = false ∧ f = false ∧ p6 = true ∧ p7 = false ∧ p8 = false) ∨
    (p1 = false ∧ p5 = false ∧ f = false ∧ p6 = false ∧ p8 = true) ∨ (p1 = false ∧ p5 = false ∧ f = false ∧ p6 = false ∧ p8 = false) := by
  intro p1 p2 p5 f p6 p7 p8 p9; cases p1 <;> cases p2 <;> cases p5 <;> cases f <;> cases p6 <;> cases p7 <;> cases p8 <;> simp
theorem partB_eq {c : UInt8} {f p1 p2 p5 p6 p7 p8 p9 : Bool} (h1 : decide (97 ≤ IntKind.u8.wrap ((BitVec.ofInt IntKind.u8.bits (c.toNat : Int) ||| BitVec.ofInt IntKind.u8.bits 32).toNat : Int)) = p1) (h2 : decide (IntKind.u8.wrap ((BitVec.ofInt IntKind.u8.bits (c.toNat : Int) ||| BitVec.ofInt IntKind.u8.bits 32).toNat : Int) ≤ 122) = p2)
    (h5 : decide (c = 95) = p5) (h6 : decide ((48 : Int) ≤ c.toNat) = p6) (h7 : decide ((c.toNat : Int) ≤ 57) = p7) (h8 : decide (c = 46) = p8) (h9 : decide (c = 45) = p9) : partB f c = ((p1 && p2) || p5 || (!f && ((p6 && p7) || p8 || p9))) := by
  have e := orO c.toNat c.toNat_lt
  rw [h1, h2] at e
  unfold partB letB
  rw [← e, ← h5, ← h6, ← h7, ← h8, ← h9]
  have e1 : ((48 : Int) ≤ c.toNat) = (48 ≤ c.toNat) := propext (by omega)
  have e2 : ((c.toNat : Int) ≤ 57) = (c.toNat ≤ 57) := propext (by omega)
  simp only [e1,e2]
theorem part_ev (c : UInt8) (f : Bool) (nm : Nat) : Ev cx 27 nm [.int .u8 c.toNat, .bool f] Mem.nil (.bool (partB f c)) [] := by
  have q5 : ((c.toNat : Int) == 95) = decide (c = 95) := beq_byte c 95
  have q8 : ((c.toNat : Int) == 46) = decide (c = 46) := beq_byte c 46
  have q9 : ((c.toNat : Int) == 45) = decide (c = 45) := beq_byte c 45
  generalize h1 : decide (97 ≤ IntKind.u8.wrap ((BitVec.ofInt IntKind.u8.bits (c.toNat : Int) ||| BitVec.ofInt IntKind.u8.bits 32).toNat : Int)) = p1
  generalize h2 : decide (IntKind.u8.wrap ((BitVec.ofInt IntKind.u8.bits (c.toNat : Int) ||| BitVec.ofInt IntKind.u8.bits 32).toNat : Int) ≤ 122) = p2
  generalize h5 : decide (c = 95) = p5
  generalize h6 : decide ((48 : Int) ≤ c.toNat) = p6
  generalize h7 : decide ((c.toNat : Int) ≤ 57) = p7
  generalize h8 : decide (c = 46) = p8
  generalize h9 : decide (c = 45) = p9
  have he := partB_eq (f := f) h1 h2 h5 h6 h7 h8 h9
  rcases part_leaves p1 p2 p5 f p6 p7 p8 p9 with ⟨rfl, rfl⟩ | ⟨rfl, rfl, rfl⟩ | ⟨rfl, rfl⟩ | ⟨rfl, rfl, rfl, rfl⟩ | ⟨rfl, rfl, rfl⟩ | ⟨rfl, rfl, rfl, rfl, rfl, rfl⟩ | ⟨rfl, rfl, rfl, rfl, rfl, rfl, rfl⟩ | ⟨rfl, rfl, rfl, rfl, rfl, rfl, rfl⟩ | ⟨rfl, rfl, rfl, rfl, rfl, rfl⟩ | ⟨rfl, rfl, rfl, rfl, rfl, rfl⟩ | ⟨rfl, rfl, rfl, rfl, rfl⟩ | ⟨rfl, rfl, rfl, rfl, rfl, rfl⟩ | ⟨rfl, rfl, rfl, rfl, rfl, rfl⟩ | ⟨rfl, rfl, rfl, rfl, rfl⟩ | ⟨rfl, rfl, rfl, rfl, rfl⟩
  all_goals simp only [Bool.true_and,Bool.false_and,Bool.and_false,Bool.true_or,Bool.or_true,Bool.false_or,Bool.or_false,Bool.and_true,Bool.not_true,Bool.not_false] at he
  all_goals (
    refine ev_go rfl (fun cargs w => Tryz.call27 cargs w) Tryz.func27 rfl mixed (by kernel_rfl) rfl ?_; intro b0 hb0
    (repeat' first | simp only [fins,mems,Tryz.results27,Tryz.ntmps27,Kt,wks,q5,q8,q9,h1,h2,h5,h6,h7,h8,h9,he,vcs,Ka,Kb,Kc,Kd,Ke,Kf,Kg,Kh,Ki,Kj,Kk,Kl,Km,reduceCtorEq,reduceIte,Kn,Ko,Kp,Kq,Kr,Ks,tys] | exact rfl | refine call_off (v := .any) ?_ | ((first | apply cond_bool | apply cond_bit) <;> intro hb) | refine And.intro (by omega) ?_ | refine And.intro (fun hb => ?_) (fun hb => ?_) | refine Fin.pure ?_ ?_ ?_ | simp only [injs]))
theorem rname_leaves : ∀ l z a b p8 p9 : Bool, (l = true) ∨ (l = false ∧ z = true) ∨ (l = false ∧ z = false ∧ a = true ∧ p8 = true) ∨ (l = false ∧ z = false ∧ a = true ∧ p8 = false ∧ p9 = true) ∨ (l = false ∧ z = false ∧ a = true ∧ p8 = false ∧ p9 = false) ∨
    (l = false ∧ z = false ∧ a = false ∧ b = true ∧ p8 = true) ∨ (l = false ∧ z = false ∧ a = false ∧ b = true ∧ p8 = false ∧ p9 = true) ∨ (l = false ∧ z = false ∧ a = false ∧ b = true ∧ p8 = false ∧ p9 = false) ∨ (l = false ∧ z = false ∧ a = false ∧ b = false) := by
  intro l z a b p8 p9; cases l <;> cases z <;> cases a <;> cases b <;> cases p8 <;> cases p9 <;> simp
theorem partB_eq2 {c : UInt8} {f l a b p8 p9 : Bool} (h1 : letB c = l) (h2 : decide ((c.toNat : Int) < 48) = a) (h3 : decide ((57 : Int) < c.toNat) = b) (h8 : decide (c = 46) = p8) (h9 : decide (c = 45) = p9) : partB f c = (l || (!f && ((!a && !b) || p8 || p9))) := by
  unfold partB
  rw [h1, ← h2, ← h3, ← h8, ← h9]
  have e1 : decide (48 ≤ c.toNat) = !decide ((c.toNat : Int) < 48) := by rw [Bool.eq_iff_iff]; simp; omega
  have e2 : decide (c.toNat ≤ 57) = !decide ((57 : Int) < c.toNat) := by rw [Bool.eq_iff_iff]; simp; omega
  rw [e1, e2]
theorem namedTo_succ {s : List UInt8} {k : Nat} {c : UInt8} (h : namedTo s k) (hc : s[k]? = some c) (hp : partB (k == 0) c = true) : namedTo s (k + 1) := by
  intro i x hi hx
  by_cases e : i = k
  · subst e; rw [hc] at hx; cases hx; exact hp
  · exact h i x (by omega) hx
theorem zero_int (k : Nat) : ((k : Int) == 0) = (k == 0) := by
  rw [Bool.eq_iff_iff, beq_iff_eq, beq_iff_eq]; omega
theorem rName_ev (s : List UInt8) (hs : s.length ≤ lim) (nm : Nat) : Ev cx 12 nm [.str s] Mem.nil (.bool (nameL s)) [] := by
  unfold lim at hs
  refine ev_go rfl (fun cargs w => Tryz.call12 cargs w) Tryz.func12 rfl mixed (by kernel_rfl) rfl ?_; intro b0 hb0
  repeat' first | simp only [fins,mems,Tryz.results12,Tryz.ntmps12,Kt,wks,vcs,Ka,Kb,Kc,Kd,Ke,Kf,Kg,Kh,Ki,Kj,Kk,Kl,Km,reduceCtorEq,reduceIte,Kn,Ko,Kp,Kq,Kr,Ks,tys] | exact rfl | refine call_off (v := .any) ?_ | ((first | apply cond_bool | apply cond_bit) <;> intro hb) | refine And.intro (by omega) ?_ | refine And.intro (fun hb => ?_) (fun hb => ?_)
  (refine loop_can2 cxG (fun x : Nat => s.length - x) (fun x => x ≤ s.length ∧ namedTo s x) (b0 + 16) (fun x => [(0, .str s), (3, .int .i64 x)]) (fun x => []) (0) [] ?_ ?_ ?_ ?_; rotate_left 1; (focus (show b0 ≤ _; omega)); (focus (refine ⟨?_, ?_⟩ <;> (try simp only [cans,vcs,Ka,Kb,Kc,Kd,Ke,Kf,Kg,Kh,Ki,Kj,Kk,Kl,Km,reduceCtorEq,reduceIte,Kn,Ko,Kp,Kq,Kr,Ks,tys,injs]) <;> (try omega))); rotate_left 1)
  · exact ⟨Nat.zero_le _, fun i c hi => by omega⟩
  · rintro k ⟨hk, hn⟩
    by_cases hlt : k < s.length
    · obtain ⟨c, hc⟩ : ∃ c, s[k]? = some c := ⟨_, List.getElem?_eq_getElem hlt⟩
      have hd : decide (k < s.length) = true := decide_eq_true hlt
      have hwk : IntKind.i64.wrap ((k : Int) + 1) = ((k + 1 : Nat) : Int) := wrap_in (by omega) (by omega)
      have hle := rLetter_ev c
      have q8 : ((c.toNat : Int) != 46) = !decide (c = 46) := congrArg not (beq_byte c 46)
      have q9 : ((c.toNat : Int) != 45) = !decide (c = 45) := congrArg not (beq_byte c 45)
      have qz := zero_int k
      generalize h1 : letB c = l at hle
      generalize h2 : decide ((c.toNat : Int) < 48) = a
      generalize h3 : decide ((57 : Int) < c.toNat) = b
      generalize h8 : decide (c = 46) = p8
      generalize h9 : decide (c = 45) = p9
      have he := partB_eq2 (f := k == 0) h1 h2 h3 h8 h9
      cases hp : partB (k == 0) c with
      | false =>
        have hnf := nameL_false hc hp
        rw [hp] at he
        generalize hz : (k == 0) = z at he qz
        rcases rname_leaves l z a b p8 p9 with rfl | ⟨rfl, rfl⟩ | ⟨rfl, rfl, rfl, rfl⟩ | ⟨rfl, rfl, rfl, rfl, rfl⟩ | ⟨rfl, rfl, rfl, rfl, rfl⟩ | ⟨rfl, rfl, rfl, rfl, rfl⟩ | ⟨rfl, rfl, rfl, rfl, rfl, rfl⟩ | ⟨rfl, rfl, rfl, rfl, rfl, rfl⟩ | ⟨rfl, rfl, rfl, rfl⟩
        all_goals (try (exfalso; simp at he; done))
        all_goals ((repeat' first | simp only [fins,mems,Tryz.results12,Tryz.ntmps12,Kt,wks,hc,hd,hlt,hnf,q8,q9,qz,h2,h3,h8,h9,Bool.not_true,Bool.not_false,vcs,Ka,Kb,Kc,Kd,Ke,Kf,Kg,Kh,Ki,Kj,Kk,Kl,Km,reduceCtorEq,reduceIte,Kn,Ko,Kp,Kq,Kr,Ks,tys] | exact rfl | refine call_off (v := .any) ?_ | (first | (refine call_fn ?_ (hle _) ?_) | (refine call_fn_g ?_ (fun _ => hle _) ?_)) | ((first | apply cond_bool | apply cond_bit) <;> intro hb) | refine And.intro (by omega) ?_ | refine And.intro (fun hb => ?_) (fun hb => ?_) | refine Fin.pure ?_ ?_ ?_ | simp only [injs]))
      | true =>
        have hn' := namedTo_succ hn hc hp
        rw [hp] at he
        generalize hz : (k == 0) = z at he qz
        rcases rname_leaves l z a b p8 p9 with rfl | ⟨rfl, rfl⟩ | ⟨rfl, rfl, rfl, rfl⟩ | ⟨rfl, rfl, rfl, rfl, rfl⟩ | ⟨rfl, rfl, rfl, rfl, rfl⟩ | ⟨rfl, rfl, rfl, rfl, rfl⟩ | ⟨rfl, rfl, rfl, rfl, rfl, rfl⟩ | ⟨rfl, rfl, rfl, rfl, rfl, rfl⟩ | ⟨rfl, rfl, rfl, rfl⟩
        all_goals (try (exfalso; simp at he; done))
        all_goals (repeat' first | simp only [fins,mems,Tryz.results12,Tryz.ntmps12,Kt,wks,hc,hd,hlt,hwk,q8,q9,qz,h2,h3,h8,h9,Bool.not_true,Bool.not_false,vcs,Ka,Kb,Kc,Kd,Ke,Kf,Kg,Kh,Ki,Kj,Kk,Kl,Km,reduceCtorEq,reduceIte,Kn,Ko,Kp,Kq,Kr,Ks,tys] | exact rfl | refine call_off (v := .any) ?_ | (first | (refine call_fn ?_ (hle _) ?_) | (refine call_fn_g ?_ (fun _ => hle _) ?_)) | ((first | apply cond_bool | apply cond_bit) <;> intro hb) | refine And.intro (by omega) ?_ | refine And.intro (fun hb => ?_) (fun hb => ?_))
        all_goals ((refine again_can2 cxG (k + 1) [] ?_ ?_ ?_ ?_; rotate_left 2; (focus (show b0 ≤ _; omega)); (focus (refine ⟨?_, ?_⟩ <;> (try simp only [cans,hwk,vcs,Ka,Kb,Kc,Kd,Ke,Kf,Kg,Kh,Ki,Kj,Kk,Kl,Km,reduceCtorEq,reduceIte,Kn,Ko,Kp,Kq,Kr,Ks,tys,injs]) <;> (try omega)))))
        all_goals (first | (show s.length - (k + 1) < s.length - k; omega) | exact ⟨hlt, hn'⟩ | skip)
    · have hke : k = s.length := by omega
      subst hke
      have hd : decide (s.length < s.length) = false := decide_eq_false (by omega)
      by_cases hne : s = []
      · subst hne
        have hb : (([] : List UInt8) == []) = true := rfl
        have e : nameL [] = false := rfl
        (repeat' first | simp only [fins,mems,Tryz.results12,Tryz.ntmps12,Kt,wks,hd,hb,e,vcs,Ka,Kb,Kc,Kd,Ke,Kf,Kg,Kh,Ki,Kj,Kk,Kl,Km,reduceCtorEq,reduceIte,Kn,Ko,Kp,Kq,Kr,Ks,tys] | exact rfl | refine call_off (v := .any) ?_ | ((first | apply cond_bool | apply cond_bit) <;> intro hb) | refine And.intro (by omega) ?_ | refine And.intro (fun hb => ?_) (fun hb => ?_) | refine Fin.pure ?_ ?_ ?_ | simp only [injs])
      · have hb : (s == []) = false := beq_false_of_ne hne
        have e := nameL_true hne hn
        (repeat' first | simp only [fins,mems,Tryz.results12,Tryz.ntmps12,Kt,wks,hd,hb,e,vcs,Ka,Kb,Kc,Kd,Ke,Kf,Kg,Kh,Ki,Kj,Kk,Kl,Km,reduceCtorEq,reduceIte,Kn,Ko,Kp,Kq,Kr,Ks,tys] | exact rfl | refine call_off (v := .any) ?_ | ((first | apply cond_bool | apply cond_bit) <;> intro hb) | refine And.intro (by omega) ?_ | refine And.intro (fun hb => ?_) (fun hb => ?_) | refine Fin.pure ?_ ?_ ?_ | simp only [injs])
theorem empty_f {s : List UInt8} (h : s ≠ []) : s.isEmpty = false := by cases s with | nil => exact absurd rfl h | cons => rfl
theorem name_ev (s : List UInt8) (hs : s.length ≤ lim) (nm : Nat) : Ev cx 11 nm [.str s] Mem.nil (.bool (nameL s)) [] := by
  unfold lim at hs
  have hb : (s == []) = s.isEmpty := by cases s <;> rfl
  refine ev_go rfl (fun cargs w => Tryz.call11 cargs w) Tryz.func11 rfl mixed (by kernel_rfl) rfl ?_; intro b0 hb0
  repeat' first | simp only [fins,mems,Tryz.results11,Tryz.ntmps11,Kt,wks,hb,vcs,Ka,Kb,Kc,Kd,Ke,Kf,Kg,Kh,Ki,Kj,Kk,Kl,Km,reduceCtorEq,reduceIte,Kn,Ko,Kp,Kq,Kr,Ks,tys] | exact rfl | refine call_off (v := .any) ?_ | ((first | apply cond_bool | apply cond_bit) <;> intro hb) | refine And.intro (by omega) ?_ | refine And.intro (fun hb => ?_) (fun hb => ?_)
  (refine loop_can2 cxG (fun x : Nat => s.length - x) (fun x => x ≤ s.length ∧ namedTo s x) (b0 + 16) (fun x => [(0, .str s), (3, .bool (!s.isEmpty)), (8, .int .i64 s.length), (9, .int .i64 x)]) (fun x => []) (0) [] ?_ ?_ ?_ ?_; rotate_left 1; (focus (show b0 ≤ _; omega)); (focus (refine ⟨?_, ?_⟩ <;> (try simp only [cans,vcs,Ka,Kb,Kc,Kd,Ke,Kf,Kg,Kh,Ki,Kj,Kk,Kl,Km,reduceCtorEq,reduceIte,Kn,Ko,Kp,Kq,Kr,Ks,tys,injs]) <;> (try omega))); rotate_left 1)
  · exact ⟨Nat.zero_le _, fun i c hi => by omega⟩
  · rintro k ⟨hk, hn⟩
    by_cases hlt : k < s.length
    · obtain ⟨c, hc⟩ : ∃ c, s[k]? = some c := ⟨_, List.getElem?_eq_getElem hlt⟩
      have hne : s ≠ [] := by rintro rfl; simp at hlt
      have hie := empty_f hne
      have hd : decide (k < s.length) = true := decide_eq_true hlt
      have hwk : IntKind.i64.wrap ((k : Int) + 1) = ((k + 1 : Nat) : Int) := wrap_in (by omega) (by omega)
      have hle := part_ev c (k == 0)
      have qz := zero_int k
      cases hp : partB (k == 0) c with
      | false =>
        have hnf := nameL_false hc hp
        rw [hp] at hle
        (repeat' first | simp only [fins,mems,Tryz.results11,Tryz.ntmps11,Kt,wks,hc,hd,hlt,hie,hnf,qz,vcs,Ka,Kb,Kc,Kd,Ke,Kf,Kg,Kh,Ki,Kj,Kk,Kl,Km,reduceCtorEq,reduceIte,Kn,Ko,Kp,Kq,Kr,Ks,tys] | exact rfl | refine call_off (v := .any) ?_ | (first | (refine call_fn ?_ (hle _) ?_) | (refine call_fn_g ?_ (fun _ => hle _) ?_)) | ((first | apply cond_bool | apply cond_bit) <;> intro hb) | refine And.intro (by omega) ?_ | refine And.intro (fun hb => ?_) (fun hb => ?_) | refine Fin.pure ?_ ?_ ?_ | simp only [injs])
      | true =>
        have hn' := namedTo_succ hn hc hp
        rw [hp] at hle
        repeat' first | simp only [fins,mems,Tryz.results11,Tryz.ntmps11,Kt,wks,hc,hd,hlt,hwk,hie,qz,vcs,Ka,Kb,Kc,Kd,Ke,Kf,Kg,Kh,Ki,Kj,Kk,Kl,Km,reduceCtorEq,reduceIte,Kn,Ko,Kp,Kq,Kr,Ks,tys] | exact rfl | refine call_off (v := .any) ?_ | (first | (refine call_fn ?_ (hle _) ?_) | (refine call_fn_g ?_ (fun _ => hle _) ?_)) | ((first | apply cond_bool | apply cond_bit) <;> intro hb) | refine And.intro (by omega) ?_ | refine And.intro (fun hb => ?_) (fun hb => ?_)
        all_goals ((refine again_can2 cxG (k + 1) [] ?_ ?_ ?_ ?_; rotate_left 2; (focus (show b0 ≤ _; omega)); (focus (refine ⟨?_, ?_⟩ <;> (try simp only [cans,hwk,hie,vcs,Ka,Kb,Kc,Kd,Ke,Kf,Kg,Kh,Ki,Kj,Kk,Kl,Km,reduceCtorEq,reduceIte,Kn,Ko,Kp,Kq,Kr,Ks,tys,injs]) <;> (try omega)))))
        all_goals (first | (show s.length - (k + 1) < s.length - k; omega) | exact ⟨hlt, hn'⟩ | skip)
    · have hke : k = s.length := by omega
      subst hke
      have hd : decide (s.length < s.length) = false := decide_eq_false (by omega)
      by_cases hne : s = []
      · subst hne
        have e : nameL [] = false := rfl
        (repeat' first | simp only [fins,mems,Tryz.results11,Tryz.ntmps11,Kt,wks,hd,List.isEmpty_nil,e,vcs,Ka,Kb,Kc,Kd,Ke,Kf,Kg,Kh,Ki,Kj,Kk,Kl,Km,reduceCtorEq,reduceIte,Kn,Ko,Kp,Kq,Kr,Ks,tys] | exact rfl | refine call_off (v := .any) ?_ | ((first | apply cond_bool | apply cond_bit) <;> intro hb) | refine And.intro (by omega) ?_ | refine And.intro (fun hb => ?_) (fun hb => ?_) | refine Fin.pure ?_ ?_ ?_ | simp only [injs])
      · have hie := empty_f hne
        have e := nameL_true hne hn
        (repeat' first | simp only [fins,mems,Tryz.results11,Tryz.ntmps11,Kt,wks,hd,hie,e,vcs,Ka,Kb,Kc,Kd,Ke,Kf,Kg,Kh,Ki,Kj,Kk,Kl,Km,reduceCtorEq,reduceIte,Kn,Ko,Kp,Kq,Kr,Ks,tys] | exact rfl | refine call_off (v := .any) ?_ | ((first | apply cond_bool | apply cond_bit) <;> intro hb) | refine And.intro (by omega) ?_ | refine And.intro (fun hb => ?_) (fun hb => ?_) | refine Fin.pure ?_ ?_ ?_ | simp only [injs])
theorem full_ev (s : List UInt8) (hs : s.length ≤ lim) (nm : Nat) : Ev cx 13 nm [.str s] Mem.nil (.bool (fullL s)) [] := by
  have hev := cut_ev s 58 hs
  cases hc : cut1 58 s with
  | none =>
    have ev : cutV 58 s = .tup [.str s, .str [], .bool false] := by unfold cutV; rw [hc]
    have hf : fullL s = nameL s := by unfold fullL; rw [hc]
    have hn := name_ev s hs
    rw [ev] at hev
    rw [hf]
    cases h : nameL s <;> rw [h] at hn <;> (
      refine ev_go rfl (fun cargs w => Tryz.call13 cargs w) Tryz.func13 rfl mixed (by kernel_rfl) rfl ?_; intro b0 hb0
      (repeat' first | simp only [fins,mems,Tryz.results13,Tryz.ntmps13,Kt,wks,vcs,Ka,Kb,Kc,Kd,Ke,Kf,Kg,Kh,Ki,Kj,Kk,Kl,Km,reduceCtorEq,reduceIte,Kn,Ko,Kp,Kq,Kr,Ks,tys] | exact rfl | refine call_off (v := .any) ?_ | (first | (refine call_fn ?_ (hev _) ?_) | (refine call_fn_g ?_ (fun _ => hev _) ?_) | (refine call_fn ?_ (hn _) ?_) | (refine call_fn_g ?_ (fun _ => hn _) ?_)) | (refine call_off (v := .any) ?_) | ((first | apply cond_bool | apply cond_bit) <;> intro hb) | refine And.intro (by omega) ?_ | refine And.intro (fun hb => ?_) (fun hb => ?_) | refine Fin.pure ?_ ?_ ?_ | simp only [injs]))
  | some p =>
    obtain ⟨a, b⟩ := p
    obtain ⟨_, _, _, e3⟩ := index1_some hc
    have ev : cutV 58 s = .tup [.str a, .str b, .bool true] := by unfold cutV; rw [hc]
    have hf : fullL s = (nameL a && nameL b) := by unfold fullL; rw [hc]
    have hn1 := name_ev a (by omega)
    have hn2 := name_ev b (by omega)
    rw [ev] at hev
    rw [hf]
    cases h1 : nameL a <;> rw [h1] at hn1 <;> (
      refine ev_go rfl (fun cargs w => Tryz.call13 cargs w) Tryz.func13 rfl mixed (by kernel_rfl) rfl ?_; intro b0 hb0
      (repeat' first | simp only [fins,mems,Tryz.results13,Tryz.ntmps13,Kt,wks,vcs,Ka,Kb,Kc,Kd,Ke,Kf,Kg,Kh,Ki,Kj,Kk,Kl,Km,reduceCtorEq,reduceIte,Kn,Ko,Kp,Kq,Kr,Ks,tys] | exact rfl | refine call_off (v := .any) ?_ | ((first | (refine call_fn ?_ (hn1 _) ?_) | (refine call_fn_g ?_ (fun _ => hn1 _) ?_)); (focus (simp only [Tryz.results13,Tryz.ntmps13,Kt,wks,vcs,Ka,Kb,Kc,Kd,Ke,Kf,Kg,Kh,Ki,Kj,Kk,Kl,Km,reduceCtorEq,reduceIte,Kn,Ko,Kp,Kq,Kr,Ks,tys] <;> exact rfl))) | ((first | (refine call_fn ?_ (hn2 _) ?_) | (refine call_fn_g ?_ (fun _ => hn2 _) ?_)); (focus (simp only [Tryz.results13,Tryz.ntmps13,Kt,wks,vcs,Ka,Kb,Kc,Kd,Ke,Kf,Kg,Kh,Ki,Kj,Kk,Kl,Km,reduceCtorEq,reduceIte,Kn,Ko,Kp,Kq,Kr,Ks,tys] <;> exact rfl))) | (first | (refine call_fn ?_ (hev _) ?_) | (refine call_fn_g ?_ (fun _ => hev _) ?_)) | (refine call_off (v := .any) ?_) | ((first | apply cond_bool | apply cond_bit) <;> intro hb) | refine And.intro (by omega) ?_ | refine And.intro (fun hb => ?_) (fun hb => ?_) | refine Fin.pure ?_ ?_ ?_ | simp only [injs]))
def partsV (d : UInt8) (s : List UInt8) : V := match cut1 d s with
  | none => .tup [.str [], .str s, .bool false]
  | some (a, b) => .tup [.str a, .str b, .bool true]
theorem notin_succ {d : UInt8} {s : List UInt8} {k : Nat} {c : UInt8} (h : d ∉ s.take k) (hc : s[k]? = some c) (hne : c ≠ d) : d ∉ s.take (k + 1) := by
  obtain ⟨hk, rfl⟩ := List.getElem?_eq_some_iff.1 hc
  rw [List.take_succ_eq_append_getElem hk]
  simp only [List.mem_append,List.mem_singleton,not_or]
  exact ⟨h, fun e => hne e.symm⟩
theorem rParts_ev (s : List UInt8) (hs : s.length ≤ lim) (nm : Nat) : Ev cx 30 nm [.str s] Mem.nil (partsV 58 s) [] := by
  unfold lim at hs
  refine ev_go rfl (fun cargs w => Tryz.call30 cargs w) Tryz.func30 rfl mixed (by kernel_rfl) rfl ?_; intro b0 hb0
  repeat' first | simp only [fins,mems,Tryz.results30,Tryz.ntmps30,Kt,wks,vcs,Ka,Kb,Kc,Kd,Ke,Kf,Kg,Kh,Ki,Kj,Kk,Kl,Km,reduceCtorEq,reduceIte,Kn,Ko,Kp,Kq,Kr,Ks,tys] | exact rfl | refine call_off (v := .any) ?_ | refine draw_end (by decide +kernel) ?_ | ((first | apply cond_bool | apply cond_bit) <;> intro hb) | refine And.intro (by omega) ?_ | refine And.intro (fun hb => ?_) (fun hb => ?_)
  (refine loop_can2 cxG (fun x : Nat => s.length - x) (fun x => x ≤ s.length ∧ (58 : UInt8) ∉ s.take x) (b0 + 16) (fun x => [(0, .str s), (5, .int .i64 x)]) (fun x => []) (0) [] ?_ ?_ ?_ ?_; rotate_left 1; (focus (show b0 ≤ _; omega)); (focus (refine ⟨?_, ?_⟩ <;> (try simp only [cans,vcs,Ka,Kb,Kc,Kd,Ke,Kf,Kg,Kh,Ki,Kj,Kk,Kl,Km,reduceCtorEq,reduceIte,Kn,Ko,Kp,Kq,Kr,Ks,tys,injs]) <;> (try omega))); rotate_left 1)
  · exact ⟨Nat.zero_le _, by simp⟩
  · rintro k ⟨hk, hn⟩
    by_cases hlt : k < s.length
    · obtain ⟨c, hc⟩ : ∃ c, s[k]? = some c := ⟨_, List.getElem?_eq_getElem hlt⟩
      have hd : decide (k < s.length) = true := decide_eq_true hlt
      have hwk : IntKind.i64.wrap ((k : Int) + 1) = ((k + 1 : Nat) : Int) := wrap_in (by omega) (by omega)
      have q8 : ((c.toNat : Int) == 58) = decide (c = 58) := beq_byte c 58
      by_cases h8 : c = 58
      · have h8' : decide (c = 58) = true := decide_eq_true h8
        subst h8
        have ev : partsV 58 s = .tup [.str (s.take k), .str (s.drop (k + 1)), .bool true] := by unfold partsV; rw [cut1_at hn hc]
        have h3 : ((k + 1 : Nat) : Int) ≤ s.length := by omega
        have h5 : k + 1 ≤ s.length := by omega
        (repeat' first | simp only [fins,mems,Tryz.results30,Tryz.ntmps30,Kt,wks,hc,hd,hlt,hwk,q8,h8',ev,h3,h5,hk,vcs,Ka,Kb,Kc,Kd,Ke,Kf,Kg,Kh,Ki,Kj,Kk,Kl,Km,reduceCtorEq,reduceIte,Kn,Ko,Kp,Kq,Kr,Ks,tys] | exact rfl | refine call_off (v := .any) ?_ | refine draw_end (by decide +kernel) ?_ | ((first | apply cond_bool | apply cond_bit) <;> intro hb) | refine And.intro (by omega) ?_ | refine And.intro (fun hb => ?_) (fun hb => ?_) | refine Fin.pure ?_ ?_ ?_ | simp only [injs])
      · have h8' : decide (c = 58) = false := decide_eq_false h8
        repeat' first | simp only [fins,mems,Tryz.results30,Tryz.ntmps30,Kt,wks,hc,hd,hlt,hwk,q8,h8',vcs,Ka,Kb,Kc,Kd,Ke,Kf,Kg,Kh,Ki,Kj,Kk,Kl,Km,reduceCtorEq,reduceIte,Kn,Ko,Kp,Kq,Kr,Ks,tys] | exact rfl | refine call_off (v := .any) ?_ | refine draw_end (by decide +kernel) ?_ | ((first | apply cond_bool | apply cond_bit) <;> intro hb) | refine And.intro (by omega) ?_ | refine And.intro (fun hb => ?_) (fun hb => ?_)
        all_goals ((refine again_can2 cxG (k + 1) [] ?_ ?_ ?_ ?_; rotate_left 2; (focus (show b0 ≤ _; omega)); (focus (refine ⟨?_, ?_⟩ <;> (try simp only [cans,hwk,vcs,Ka,Kb,Kc,Kd,Ke,Kf,Kg,Kh,Ki,Kj,Kk,Kl,Km,reduceCtorEq,reduceIte,Kn,Ko,Kp,Kq,Kr,Ks,tys,injs]) <;> (try omega)))))
        all_goals (first | (show s.length - (k + 1) < s.length - k; omega) | exact ⟨hlt, notin_succ hn hc h8⟩ | skip)
    · have hke : k = s.length := by omega
      subst hke
      rw [List.take_length] at hn
      have hd : decide (s.length < s.length) = false := decide_eq_false (by omega)
      have ev : partsV 58 s = .tup [.str [], .str s, .bool false] := by unfold partsV; rw [cut1_none.2 hn]
      (repeat' first | simp only [fins,mems,Tryz.results30,Tryz.ntmps30,Kt,wks,hd,ev,vcs,Ka,Kb,Kc,Kd,Ke,Kf,Kg,Kh,Ki,Kj,Kk,Kl,Km,reduceCtorEq,reduceIte,Kn,Ko,Kp,Kq,Kr,Ks,tys] | exact rfl | refine call_off (v := .any) ?_ | refine draw_end (by decide +kernel) ?_ | ((first | apply cond_bool | apply cond_bit) <;> intro hb) | refine And.intro (by omega) ?_ | refine And.intro (fun hb => ?_) (fun hb => ?_) | refine Fin.pure ?_ ?_ ?_ | simp only [injs])
theorem rFull_ev (s : List UInt8) (hs : s.length ≤ lim) (nm : Nat) : Ev cx 14 nm [.str s] Mem.nil (.bool (fullL s)) [] := by
  have hev := rParts_ev s hs
  cases hc : cut1 58 s with
  | none =>
    have ev : partsV 58 s = .tup [.str [], .str s, .bool false] := by unfold partsV; rw [hc]
    have hf : fullL s = nameL s := by unfold fullL; rw [hc]
    have hn := rName_ev s hs
    rw [ev] at hev
    rw [hf]
    cases h : nameL s <;> rw [h] at hn <;> (
      refine ev_go rfl (fun cargs w => Tryz.call14 cargs w) Tryz.func14 rfl mixed (by kernel_rfl) rfl ?_; intro b0 hb0
      (repeat' first | simp only [fins,mems,Tryz.results14,Tryz.ntmps14,Kt,wks,vcs,Ka,Kb,Kc,Kd,Ke,Kf,Kg,Kh,Ki,Kj,Kk,Kl,Km,reduceCtorEq,reduceIte,Kn,Ko,Kp,Kq,Kr,Ks,tys] | exact rfl | refine call_off (v := .any) ?_ | (first | (refine call_fn ?_ (hev _) ?_) | (refine call_fn_g ?_ (fun _ => hev _) ?_) | (refine call_fn ?_ (hn _) ?_) | (refine call_fn_g ?_ (fun _ => hn _) ?_)) | (refine call_off (v := .any) ?_) | ((first | apply cond_bool | apply cond_bit) <;> intro hb) | refine And.intro (by omega) ?_ | refine And.intro (fun hb => ?_) (fun hb => ?_) | refine Fin.pure ?_ ?_ ?_ | simp only [injs]))
  | some p =>
    obtain ⟨a, b⟩ := p
    obtain ⟨_, _, _, e3⟩ := index1_some hc
    have ev : partsV 58 s = .tup [.str a, .str b, .bool true] := by unfold partsV; rw [hc]
    have hf : fullL s = (nameL b && nameL a) := by unfold fullL; rw [hc, Bool.and_comm]
    have hn1 := rName_ev a (by omega)
    have hn2 := rName_ev b (by omega)
    rw [ev] at hev
    rw [hf]
    cases h1 : nameL b <;> rw [h1] at hn2 <;> (
      refine ev_go rfl (fun cargs w => Tryz.call14 cargs w) Tryz.func14 rfl mixed (by kernel_rfl) rfl ?_; intro b0 hb0
      (repeat' first | simp only [fins,mems,Tryz.results14,Tryz.ntmps14,Kt,wks,vcs,Ka,Kb,Kc,Kd,Ke,Kf,Kg,Kh,Ki,Kj,Kk,Kl,Km,reduceCtorEq,reduceIte,Kn,Ko,Kp,Kq,Kr,Ks,tys] | exact rfl | refine call_off (v := .any) ?_ | ((first | (refine call_fn ?_ (hn1 _) ?_) | (refine call_fn_g ?_ (fun _ => hn1 _) ?_)); (focus (simp only [Tryz.results14,Tryz.ntmps14,Kt,wks,vcs,Ka,Kb,Kc,Kd,Ke,Kf,Kg,Kh,Ki,Kj,Kk,Kl,Km,reduceCtorEq,reduceIte,Kn,Ko,Kp,Kq,Kr,Ks,tys] <;> exact rfl))) | ((first | (refine call_fn ?_ (hn2 _) ?_) | (refine call_fn_g ?_ (fun _ => hn2 _) ?_)); (focus (simp only [Tryz.results14,Tryz.ntmps14,Kt,wks,vcs,Ka,Kb,Kc,Kd,Ke,Kf,Kg,Kh,Ki,Kj,Kk,Kl,Km,reduceCtorEq,reduceIte,Kn,Ko,Kp,Kq,Kr,Ks,tys] <;> exact rfl))) | (first | (refine call_fn ?_ (hev _) ?_) | (refine call_fn_g ?_ (fun _ => hev _) ?_)) | (refine call_off (v := .any) ?_) | ((first | apply cond_bool | apply cond_bit) <;> intro hb) | refine And.intro (by omega) ?_ | refine And.intro (fun hb => ?_) (fun hb => ?_) | refine Fin.pure ?_ ?_ ?_ | simp only [injs]))
def prC (a : Pr) : List V := [.str a.name, .str a.value]
def tkC (t : Tk) : List V := [.int .u8 t.kind, .str t.name, .sl false 2 (t.attrs.map prC), .str t.text]
theorem pr_at {l : List Pr} {k : Nat} {a : Pr} (h : l[k]? = some a) : (l.map prC)[k]? = some (prC a) := by rw [List.getElem?_map, h]; rfl
theorem tk_at {l : List Tk} {k : Nat} {a : Tk} (h : l[k]? = some a) : (l.map tkC)[k]? = some (tkC a) := by rw [List.getElem?_map, h]; rfl
theorem plain_pr (l : List Pr) : plainLL (l.map prC) = true := plainLL_map _ (fun _ => rfl) l
theorem plain_tk (l : List Tk) : plainLL (l.map tkC) = true := plainLL_map _ (fun t => by simp [tkC,plainL,V.plain,plain_pr]) l
theorem notany_succ {α : Type} {p : α → Bool} {l : List α} {k : Nat} {x : α} (h : (l.take k).any p = false) (hc : l[k]? = some x) (hx : p x = false) : (l.take (k + 1)).any p = false := by
  obtain ⟨hk, rfl⟩ := List.getElem?_eq_some_iff.1 hc
  rw [List.take_succ_eq_append_getElem hk, List.any_append, h]
  simp [hx]
theorem has_ev (l : List Pr) (s : List UInt8) (hl : l.length ≤ lim) (nm : Nat) : Ev cx 69 nm [.sl false 2 (l.map prC), .str s] Mem.nil (.bool (l.any fun b => s == b.name)) [] := by
  unfold lim at hl
  refine ev_go rfl (fun cargs w => Tryz.call69 cargs w) Tryz.func69 rfl mixed (by kernel_rfl) rfl ?_; intro b0 hb0
  repeat' first | simp only [fins,mems,Tryz.results69,Tryz.ntmps69,Kt,wks,vcs,Ka,Kb,Kc,Kd,Ke,Kf,Kg,Kh,Ki,Kj,Kk,Kl,Km,reduceCtorEq,reduceIte,Kn,Ko,Kp,Kq,Kr,Ks,tys] | exact rfl | refine call_off (v := .any) ?_ | ((first | apply cond_bool | apply cond_bit) <;> intro hb) | refine And.intro (by omega) ?_ | refine And.intro (fun hb => ?_) (fun hb => ?_)
  (refine loop_can2 cxG (fun x : Nat => l.length - x) (fun x => x ≤ l.length ∧ ((l.take x).any fun b => s == b.name) = false) (b0 + 16) (fun x => [(0, .sl false 2 (l.map prC)), (1, .str s), (5, .int .i64 x)]) (fun x => []) (0) [] ?_ ?_ ?_ ?_; rotate_left 1; (focus (show b0 ≤ _; omega)); (focus (refine ⟨?_, ?_⟩ <;> (try simp only [cans,plain_pr,vcs,Ka,Kb,Kc,Kd,Ke,Kf,Kg,Kh,Ki,Kj,Kk,Kl,Km,reduceCtorEq,reduceIte,Kn,Ko,Kp,Kq,Kr,Ks,tys,injs]) <;> (try omega))); rotate_left 1)
  · exact ⟨Nat.zero_le _, by simp⟩
  · rintro k ⟨hk, hn⟩
    by_cases hlt : k < l.length
    · obtain ⟨a, ha⟩ : ∃ a, l[k]? = some a := ⟨_, List.getElem?_eq_getElem hlt⟩
      have hat := pr_at ha
      have hd : decide (k < l.length) = true := decide_eq_true hlt
      have hwk : IntKind.i64.wrap ((k : Int) + 1) = ((k + 1 : Nat) : Int) := wrap_in (by omega) (by omega)
      cases hp : (a.name == s) with
      | true =>
        have hr : (l.any fun b => s == b.name) = true := List.any_eq_true.2 ⟨a, List.mem_of_getElem? ha, by rw [beq_iff_eq] at hp ⊢; exact hp.symm⟩
        (repeat' first | simp only [fins,mems,Tryz.results69,Tryz.ntmps69,Kt,wks,hat,prC,hd,hlt,hp,hr,List.length_map,vcs,Ka,Kb,Kc,Kd,Ke,Kf,Kg,Kh,Ki,Kj,Kk,Kl,Km,reduceCtorEq,reduceIte,Kn,Ko,Kp,Kq,Kr,Ks,tys] | exact rfl | refine call_off (v := .any) ?_ | ((first | apply cond_bool | apply cond_bit) <;> intro hb) | refine And.intro (by omega) ?_ | refine And.intro (fun hb => ?_) (fun hb => ?_) | refine Fin.pure ?_ ?_ ?_ | simp only [injs])
      | false =>
        have hx : (s == a.name) = false := by
          rw [beq_eq_false_iff_ne] at hp ⊢; exact fun e => hp e.symm
        have hn' := notany_succ (p := fun b : Pr => s == b.name) hn ha hx
        repeat' first | simp only [fins,mems,Tryz.results69,Tryz.ntmps69,Kt,wks,hat,prC,hd,hlt,hp,hwk,List.length_map,vcs,Ka,Kb,Kc,Kd,Ke,Kf,Kg,Kh,Ki,Kj,Kk,Kl,Km,reduceCtorEq,reduceIte,Kn,Ko,Kp,Kq,Kr,Ks,tys] | exact rfl | refine call_off (v := .any) ?_ | ((first | apply cond_bool | apply cond_bit) <;> intro hb) | refine And.intro (by omega) ?_ | refine And.intro (fun hb => ?_) (fun hb => ?_)
        all_goals ((refine again_can2 cxG (k + 1) [] ?_ ?_ ?_ ?_; rotate_left 2; (focus (show b0 ≤ _; omega)); (focus (refine ⟨?_, ?_⟩ <;> (try simp only [cans,plain_pr,hwk,vcs,Ka,Kb,Kc,Kd,Ke,Kf,Kg,Kh,Ki,Kj,Kk,Kl,Km,reduceCtorEq,reduceIte,Kn,Ko,Kp,Kq,Kr,Ks,tys,injs]) <;> (try omega)))))
        all_goals (first | (show l.length - (k + 1) < l.length - k; omega) | exact ⟨hlt, hn'⟩ | skip)
    · have hke : k = l.length := by omega
      subst hke
      rw [List.take_length] at hn
      have hd : decide (l.length < l.length) = false := decide_eq_false (by omega)
      (repeat' first | simp only [fins,mems,Tryz.results69,Tryz.ntmps69,Kt,wks,hd,hn,List.length_map,vcs,Ka,Kb,Kc,Kd,Ke,Kf,Kg,Kh,Ki,Kj,Kk,Kl,Km,reduceCtorEq,reduceIte,Kn,Ko,Kp,Kq,Kr,Ks,tys] | exact rfl | refine call_off (v := .any) ?_ | ((first | apply cond_bool | apply cond_bit) <;> intro hb) | refine And.intro (by omega) ?_ | refine And.intro (fun hb => ?_) (fun hb => ?_) | refine Fin.pure ?_ ?_ ?_ | simp only [injs])
theorem contN_take {n : Int} {l : List UInt8} {k : Nat} {b : UInt8} (h : l[k]? = some b) : contN n (l.take (k + 1)) = 64 * contN n (l.take k) + (b.toNat : Int) % 64 := by
  obtain ⟨hk, rfl⟩ := List.getElem?_eq_some_iff.1 h
  rw [List.take_succ_eq_append_getElem hk, contN_snoc]
theorem contN_nil (n : Int) : contN n [] = n := rfl
theorem one_nil : one [] = none := rfl
theorem oneZ_none {s : List UInt8} (h : one s = none) : oneZ s = 0 := by unfold oneZ; rw [h]
theorem oneK_none {s : List UInt8} (h : one s = none) : oneK s = 0 := by unfold oneK; rw [h]
theorem oneZ_some {s : List UInt8} {z : Int} {k : Nat} (h : one s = some (z, k)) : oneZ s = z := by unfold oneZ; rw [h]
theorem oneK_some {s : List UInt8} {z : Int} {k : Nat} (h : one s = some (z, k)) : oneK s = k := by unfold oneK; rw [h]
theorem rOne_ev (s : List UInt8) (hs : s.length ≤ lim) (nm : Nat) : Ev cx 86 nm [.str s] Mem.nil (.tup [.int .i64 (oneZ s), .int .i64 (oneK s)]) [] := by
  unfold lim at hs
  by_cases hne : s = []
  · subst hne
    have e1 := oneZ_none one_nil
    have e2 := oneK_none one_nil
    have hd : (([] : List UInt8) == []) = true := rfl
    refine ev_go rfl (fun cargs w => Tryz.call86 cargs w) Tryz.func86 rfl mixed (by kernel_rfl) rfl ?_; intro b0 hb0
    (repeat' first | simp only [fins,mems,Tryz.results86,Tryz.ntmps86,Kt,wks,e1,e2,hd,vcs,Ka,Kb,Kc,Kd,Ke,Kf,Kg,Kh,Ki,Kj,Kk,Kl,Km,reduceCtorEq,reduceIte,Kn,Ko,Kp,Kq,Kr,Ks,tys] | exact rfl | refine call_off (v := .any) ?_ | refine draw_end' (ps := [(5, 9)]) (by decide +kernel) (by simp only [List.forall_mem_cons,List.getD_cons_zero,List.getD_cons_succ,Tryz.results86,Tryz.ntmps86,Kt,wks,e1,e2,hd,vcs,Ka,Kb,Kc,Kd,Ke,Kf,Kg,Kh,Ki,Kj,Kk,Kl,Km,reduceCtorEq,reduceIte,Kn,Ko,Kp,Kq,Kr,Ks,tys] <;> (try simp) <;> (try omega)) ?_ | refine draw_end (by decide +kernel) ?_ | ((first | apply cond_bool | apply cond_bit) <;> intro hb) | refine And.intro (by omega) ?_ | refine And.intro (fun hb => ?_) (fun hb => ?_) | refine Fin.pure ?_ ?_ ?_ | simp only [injs])
  obtain ⟨b, l, rfl⟩ := List.exists_cons_of_ne_nil hne
  have hd : ((b :: l) == []) = false := rfl
  have hb : (b.toNat : Int) < 256 := by have := b.toNat_lt; omega
  have hb0 : (0 : Int) ≤ (b.toNat : Int) := by omega
  have hwb : IntKind.i64.wrap (b.toNat : Int) = (b.toNat : Int) := wrap_in (by omega) (by omega)
  obtain ⟨hr1, hr2⟩ := headS_range (b.toNat : Int)
  obtain ⟨hn1, hn2, hn3⟩ := headN_range (c := (b.toNat : Int)) ⟨hb0, hb⟩
  have hhd := head_ev (b.toNat : Int) hb0 hb
  obtain ⟨k, hk⟩ : ∃ k : Nat, headS (b.toNat : Int) = k := ⟨(headS (b.toNat : Int)).toNat, by omega⟩
  have hk4 : k ≤ 4 := by omega
  rw [hk] at hhd
  generalize hN : headN (b.toNat : Int) = n0 at hhd hn1 hn2 hn3
  by_cases hbad : k = 0 ∨ (b :: l).length < k
  · have ho : one (b :: l) = none := one_no hk (by rcases hbad with h | h; exact .inl h; exact .inr (.inl h))
    have e1 := oneZ_none ho
    have e2 := oneK_none ho
    by_cases h0 : k = 0
    · subst h0
      refine ev_go rfl (fun cargs w => Tryz.call86 cargs w) Tryz.func86 rfl mixed (by kernel_rfl) rfl ?_; intro b0 hb0
      (repeat' first | simp only [fins,mems,Tryz.results86,Tryz.ntmps86,Kt,wks,e1,e2,hd,hwb,vcs,Ka,Kb,Kc,Kd,Ke,Kf,Kg,Kh,Ki,Kj,Kk,Kl,Km,reduceCtorEq,reduceIte,Kn,Ko,Kp,Kq,Kr,Ks,tys] | exact rfl | refine call_off (v := .any) ?_ | (first | (refine call_fn ?_ (hhd _) ?_) | (refine call_fn_g ?_ (fun _ => hhd _) ?_)) | refine draw_end' (ps := [(5, 9)]) (by decide +kernel) (by simp only [List.forall_mem_cons,List.getD_cons_zero,List.getD_cons_succ,Tryz.results86,Tryz.ntmps86,Kt,wks,e1,e2,hd,hwb,vcs,Ka,Kb,Kc,Kd,Ke,Kf,Kg,Kh,Ki,Kj,Kk,Kl,Km,reduceCtorEq,reduceIte,Kn,Ko,Kp,Kq,Kr,Ks,tys] <;> (try simp) <;> (try omega)) ?_ | refine draw_end (by decide +kernel) ?_ | ((first | apply cond_bool | apply cond_bit) <;> intro hb) | refine And.intro (by omega) ?_ | refine And.intro (fun hb => ?_) (fun hb => ?_) | refine Fin.pure ?_ ?_ ?_ | simp only [injs])
    · have hg : decide (l.length + 1 < k) = true := decide_eq_true (by simpa using hbad.resolve_left h0)
      have hg0 : ((k : Int) == 0) = false := beq_false_of_ne (by omega)
      refine ev_go rfl (fun cargs w => Tryz.call86 cargs w) Tryz.func86 rfl mixed (by kernel_rfl) rfl ?_; intro b0 hb0
      (repeat' first | simp only [fins,mems,Tryz.results86,Tryz.ntmps86,Kt,wks,e1,e2,hd,hwb,hg,hg0,List.length_cons,vcs,Ka,Kb,Kc,Kd,Ke,Kf,Kg,Kh,Ki,Kj,Kk,Kl,Km,reduceCtorEq,reduceIte,Kn,Ko,Kp,Kq,Kr,Ks,tys] | exact rfl | refine call_off (v := .any) ?_ | (first | (refine call_fn ?_ (hhd _) ?_) | (refine call_fn_g ?_ (fun _ => hhd _) ?_)) | refine draw_end' (ps := [(5, 9)]) (by decide +kernel) (by simp only [List.forall_mem_cons,List.getD_cons_zero,List.getD_cons_succ,Tryz.results86,Tryz.ntmps86,Kt,wks,e1,e2,hd,hwb,hg,hg0,List.length_cons,vcs,Ka,Kb,Kc,Kd,Ke,Kf,Kg,Kh,Ki,Kj,Kk,Kl,Km,reduceCtorEq,reduceIte,Kn,Ko,Kp,Kq,Kr,Ks,tys] <;> (try simp) <;> (try omega)) ?_ | refine draw_end (by decide +kernel) ?_ | ((first | apply cond_bool | apply cond_bit) <;> intro hb) | refine And.intro (by omega) ?_ | refine And.intro (fun hb => ?_) (fun hb => ?_) | refine Fin.pure ?_ ?_ ?_ | simp only [injs])
  · have hg : decide (l.length + 1 < k) = false := decide_eq_false (by simp at hbad; omega)
    have hg0 : ((k : Int) == 0) = false := beq_false_of_ne (by omega)
    have hkl : k ≤ l.length + 1 := by simp at hbad; omega
    have hk1 : 1 ≤ k := by omega
    simp only [List.length_cons] at hs
    refine ev_go rfl (fun cargs w => Tryz.call86 cargs w) Tryz.func86 rfl mixed (by kernel_rfl) rfl ?_; intro b0 hb0
    repeat' first | simp only [fins,mems,Tryz.results86,Tryz.ntmps86,Kt,wks,hd,hwb,hg,hg0,List.length_cons,vcs,Ka,Kb,Kc,Kd,Ke,Kf,Kg,Kh,Ki,Kj,Kk,Kl,Km,reduceCtorEq,reduceIte,Kn,Ko,Kp,Kq,Kr,Ks,tys] | exact rfl | refine call_off (v := .any) ?_ | (first | (refine call_fn ?_ (hhd _) ?_) | (refine call_fn_g ?_ (fun _ => hhd _) ?_)) | refine draw_end' (ps := [(5, 9)]) (by decide +kernel) (by simp only [List.forall_mem_cons,List.getD_cons_zero,List.getD_cons_succ,Tryz.results86,Tryz.ntmps86,Kt,wks,hd,hwb,hg,hg0,List.length_cons,vcs,Ka,Kb,Kc,Kd,Ke,Kf,Kg,Kh,Ki,Kj,Kk,Kl,Km,reduceCtorEq,reduceIte,Kn,Ko,Kp,Kq,Kr,Ks,tys] <;> (try simp) <;> (try omega)) ?_ | refine draw_end (by decide +kernel) ?_ | refine And.intro (by omega) ?_
    (refine loop_can2 cxG (fun x : Nat => k - x) (fun x => 1 ≤ x ∧ x ≤ k) (b0 + 16) (fun x => [(0, .str (b :: l)), (4, .int .i64 k), (5, .int .i64 (contN n0 (l.take (x - 1)))), (6, .int .i64 x)]) (fun x => []) (1) [] ?_ ?_ ?_ ?_; rotate_left 1; (focus (show b0 ≤ _; omega)); (focus (refine ⟨?_, ?_⟩ <;> (try simp only [cans,List.take_zero,contN_nil,vcs,Ka,Kb,Kc,Kd,Ke,Kf,Kg,Kh,Ki,Kj,Kk,Kl,Km,reduceCtorEq,reduceIte,Kn,Ko,Kp,Kq,Kr,Ks,tys,injs]) <;> (try omega))); rotate_left 1)
    · exact ⟨Nat.le_refl _, hk1⟩
    · rintro i ⟨hi1, hi2⟩
      by_cases hlt : i < k
      · have hdi : decide (i < k) = true := decide_eq_true hlt
        obtain ⟨j, rfl⟩ : ∃ j, i = j + 1 := ⟨i - 1, by omega⟩
        simp only [Nat.add_sub_cancel] at *
        obtain ⟨c, hc⟩ : ∃ c, l[j]? = some c := ⟨_, List.getElem?_eq_getElem (by omega)⟩
        have hcs : contN n0 (l.take (j + 1)) = 64 * contN n0 (l.take j) + (c.toNat : Int) % 64 := contN_take hc
        have hcl := contN_le (l.take j) n0 hn1
        have hj2 : (l.take j).length = j := by rw [List.length_take]; omega
        rw [hj2] at hcl
        have hj3 : j ≤ 2 := by omega
        have hn31 : n0 ≤ 31 := by
          refine hn3 ?_
          omega
        have hpw : (n0 + 1) * 64 ^ j ≤ 131072 := by
          rcases (show j = 0 ∨ j = 1 ∨ j = 2 by omega) with rfl | rfl | rfl <;> simp only [Int.pow_zero,Int.pow_one,show (64:Int) ^ 1 = 64 from rfl,show (64:Int) ^ 2 = 4096 from rfl] <;> omega
        have hcw : (c.toNat : Int) < 256 := by have := c.toNat_lt; omega
        have hcm : (c.toNat : Int).tmod 64 = (c.toNat : Int) % 64 := Int.tmod_eq_emod_of_nonneg (by omega)
        have w1 : IntKind.i64.wrap (64 * contN n0 (l.take j)) = 64 * contN n0 (l.take j) := wrap_in (by omega) (by omega)
        have w2 : IntKind.i64.wrap (c.toNat : Int) = (c.toNat : Int) := wrap_in (by omega) (by omega)
        have w3 : IntKind.i64.wrap ((c.toNat : Int) % 64) = (c.toNat : Int) % 64 := wrap_in (by omega) (by omega)
        have w4 : IntKind.i64.wrap (64 * contN n0 (l.take j) + (c.toNat : Int) % 64) = contN n0 (l.take (j + 1)) := by
          rw [hcs]; exact wrap_in (by omega) (by omega)
        have w5 : IntKind.i64.wrap (((j + 1 : Nat) : Int) + 1) = ((j + 1 + 1 : Nat) : Int) := wrap_in (by omega) (by omega)
        repeat' first | simp only [fins,mems,Tryz.results86,Tryz.ntmps86,Kt,wks,hdi,hc,hcm,w1,w2,w3,w4,w5,List.getElem?_cons_succ,List.length_cons,vcs,Ka,Kb,Kc,Kd,Ke,Kf,Kg,Kh,Ki,Kj,Kk,Kl,Km,reduceCtorEq,reduceIte,Kn,Ko,Kp,Kq,Kr,Ks,tys] | exact rfl | refine call_off (v := .any) ?_ | refine draw_end' (ps := [(5, 9)]) (by decide +kernel) (by simp only [List.forall_mem_cons,List.getD_cons_zero,List.getD_cons_succ,Tryz.results86,Tryz.ntmps86,Kt,wks,hdi,hc,hcm,w1,w2,w3,w4,w5,List.getElem?_cons_succ,List.length_cons,vcs,Ka,Kb,Kc,Kd,Ke,Kf,Kg,Kh,Ki,Kj,Kk,Kl,Km,reduceCtorEq,reduceIte,Kn,Ko,Kp,Kq,Kr,Ks,tys] <;> (try simp) <;> (try omega)) ?_ | refine draw_end (by decide +kernel) ?_ | ((first | apply cond_bool | apply cond_bit) <;> intro hb) | refine And.intro (by omega) ?_ | refine And.intro (fun hb => ?_) (fun hb => ?_)
        ((refine again_can2 cxG (j + 1 + 1) [] ?_ ?_ ?_ ?_; rotate_left 2; (focus (show b0 ≤ _; omega)); (focus (refine ⟨?_, ?_⟩ <;> (try simp only [cans,hdi,hcm,w1,w2,w3,w4,w5,Nat.add_sub_cancel,show j + 2 - 1 = j + 1 from rfl,vcs,Ka,Kb,Kc,Kd,Ke,Kf,Kg,Kh,Ki,Kj,Kk,Kl,Km,reduceCtorEq,reduceIte,Kn,Ko,Kp,Kq,Kr,Ks,tys,injs]) <;> (try omega)))))
        all_goals (first | (show k - (j + 1 + 1) < k - (j + 1); omega) | (show 1 ≤ j + 1 + 1 ∧ j + 1 + 1 ≤ k; omega) | skip)
      · have hke : i = k := by omega
        subst hke
        have hdi : decide (i < i) = false := decide_eq_false (by omega)
        cases hm : may (contN n0 (l.take (i - 1))) with
        | false =>
          have ho : one (b :: l) = none := one_no hk (.inr (.inr ⟨by simp only [List.length_cons]; exact hkl, fun n hn hmn => by rw [hn, hN, hm] at hmn; cases hmn⟩))
          have e1 := oneZ_none ho
          have e2 := oneK_none ho
          (repeat' first | simp only [fins,mems,Tryz.results86,Tryz.ntmps86,Kt,wks,hdi,e1,e2,vcs,Ka,Kb,Kc,Kd,Ke,Kf,Kg,Kh,Ki,Kj,Kk,Kl,Km,reduceCtorEq,reduceIte,Kn,Ko,Kp,Kq,Kr,Ks,tys] | exact rfl | refine call_off (v := .any) ?_ | (first | (refine call_fn ?_ ((by have := rMay_ev (contN n0 (l.take (i - 1))); rw [hm] at this; exact this _)) ?_) | (refine call_fn_g ?_ (fun _ => (by have := rMay_ev (contN n0 (l.take (i - 1))); rw [hm] at this; exact this _)) ?_)) | (refine call_off (v := .any) ?_) | (refine ext_toStr (v := ?_) (bs := ?_) ?_ ?_ ?_ ?_ ?_ ?_ ?_; rotate_left 2; (iterate 2 (focus (simp only [Tryz.results86,Tryz.ntmps86,Kt,wks,hdi,e1,e2,vcs,Ka,Kb,Kc,Kd,Ke,Kf,Kg,Kh,Ki,Kj,Kk,Kl,Km,reduceCtorEq,reduceIte,Kn,Ko,Kp,Kq,Kr,Ks,tys]; done))); (focus (simp only [Tryz.results86,Tryz.ntmps86,Kt,wks,hdi,e1,e2,vcs,Ka,Kb,Kc,Kd,Ke,Kf,Kg,Kh,Ki,Kj,Kk,Kl,Km,reduceCtorEq,reduceIte,Kn,Ko,Kp,Kq,Kr,Ks,tys] <;> exact rfl)); (focus (exact rfl)); (focus (simp only [mems,Tryz.results86,Tryz.ntmps86,Kt,wks,hdi,e1,e2,vcs,Ka,Kb,Kc,Kd,Ke,Kf,Kg,Kh,Ki,Kj,Kk,Kl,Km,reduceCtorEq,reduceIte,Kn,Ko,Kp,Kq,Kr,Ks,tys]; done)); (focus (simp only [Tryz.results86,Tryz.ntmps86,Kt,wks,hdi,e1,e2,vcs,Ka,Kb,Kc,Kd,Ke,Kf,Kg,Kh,Ki,Kj,Kk,Kl,Km,reduceCtorEq,reduceIte,Kn,Ko,Kp,Kq,Kr,Ks,tys] <;> exact rfl))) | (refine extG_true ?_) | (refine extG_false ?_) | refine draw_end' (ps := [(5, 9)]) (by decide +kernel) (by simp only [List.forall_mem_cons,List.getD_cons_zero,List.getD_cons_succ,Tryz.results86,Tryz.ntmps86,Kt,wks,hdi,e1,e2,vcs,Ka,Kb,Kc,Kd,Ke,Kf,Kg,Kh,Ki,Kj,Kk,Kl,Km,reduceCtorEq,reduceIte,Kn,Ko,Kp,Kq,Kr,Ks,tys] <;> (try simp) <;> (try omega)) ?_ | refine draw_end (by decide +kernel) ?_ | ((first | apply cond_bool | apply cond_bit) <;> intro hb) | refine And.intro (by omega) ?_ | refine And.intro (fun hb => ?_) (fun hb => ?_) | refine Fin.pure ?_ ?_ ?_ | simp only [injs])
        | true =>
          have hc0 : ((l.length : Int) + 1) = ((l.length + 1 : Nat) : Int) := by omega
          have hsl : (i : Int) ≤ ((l.length + 1 : Nat) : Int) := by omega
          have hnn : i ≤ (b :: l).length := by simp only [List.length_cons]; exact hkl
          by_cases heq : encodeRune (contN n0 (l.take (i - 1))) = (b :: l).take i
          · have ho : one (b :: l) = some (contN n0 (l.take (i - 1)), i) := one_yes hm heq hnn
            have e1 := oneZ_some ho
            have e2 := oneK_some ho
            have hq : (encodeRune (contN n0 (l.take (i - 1))) == (b :: l).take i) = true := by rw [heq]; simp
            (repeat' first | simp only [fins,mems,Tryz.results86,Tryz.ntmps86,Kt,wks,hdi,e1,e2,hq,hnn,hsl,hkl,vcs,Ka,Kb,Kc,Kd,Ke,Kf,Kg,Kh,Ki,Kj,Kk,Kl,Km,reduceCtorEq,reduceIte,Kn,Ko,Kp,Kq,Kr,Ks,tys] | exact rfl | refine call_off (v := .any) ?_ | (first | (refine call_fn ?_ ((by have := rMay_ev (contN n0 (l.take (i - 1))); rw [hm] at this; exact this _)) ?_) | (refine call_fn_g ?_ (fun _ => (by have := rMay_ev (contN n0 (l.take (i - 1))); rw [hm] at this; exact this _)) ?_) | (refine call_fn ?_ (rBytes_ev (contN n0 (l.take (i - 1))) hm _) ?_) | (refine call_fn_g ?_ (fun _ => rBytes_ev (contN n0 (l.take (i - 1))) hm _) ?_)) | (refine ext_toStr (v := ?_) (bs := ?_) ?_ ?_ ?_ ?_ ?_ ?_ ?_; rotate_left 2; (iterate 2 (focus (simp only [Tryz.results86,Tryz.ntmps86,Kt,wks,hdi,e1,e2,hq,hnn,hsl,hkl,vcs,Ka,Kb,Kc,Kd,Ke,Kf,Kg,Kh,Ki,Kj,Kk,Kl,Km,reduceCtorEq,reduceIte,Kn,Ko,Kp,Kq,Kr,Ks,tys]; done))); (focus (simp only [Tryz.results86,Tryz.ntmps86,Kt,wks,hdi,e1,e2,hq,hnn,hsl,hkl,vcs,Ka,Kb,Kc,Kd,Ke,Kf,Kg,Kh,Ki,Kj,Kk,Kl,Km,reduceCtorEq,reduceIte,Kn,Ko,Kp,Kq,Kr,Ks,tys] <;> exact rfl)); (focus (exact rfl)); (focus (simp only [mems,Tryz.results86,Tryz.ntmps86,Kt,wks,hdi,e1,e2,hq,hnn,hsl,hkl,vcs,Ka,Kb,Kc,Kd,Ke,Kf,Kg,Kh,Ki,Kj,Kk,Kl,Km,reduceCtorEq,reduceIte,Kn,Ko,Kp,Kq,Kr,Ks,tys]; done)); (focus (simp only [Tryz.results86,Tryz.ntmps86,Kt,wks,hdi,e1,e2,hq,hnn,hsl,hkl,vcs,Ka,Kb,Kc,Kd,Ke,Kf,Kg,Kh,Ki,Kj,Kk,Kl,Km,reduceCtorEq,reduceIte,Kn,Ko,Kp,Kq,Kr,Ks,tys] <;> exact rfl))) | (refine extG_true ?_) | (refine extG_false ?_) | refine draw_end' (ps := [(5, 9)]) (by decide +kernel) (by simp only [List.forall_mem_cons,List.getD_cons_zero,List.getD_cons_succ,Tryz.results86,Tryz.ntmps86,Kt,wks,hdi,e1,e2,hq,hnn,hsl,hkl,vcs,Ka,Kb,Kc,Kd,Ke,Kf,Kg,Kh,Ki,Kj,Kk,Kl,Km,reduceCtorEq,reduceIte,Kn,Ko,Kp,Kq,Kr,Ks,tys] <;> (try simp) <;> (try omega)) ?_ | refine draw_end (by decide +kernel) ?_ | ((first | apply cond_bool | apply cond_bit) <;> intro hb) | refine And.intro (by omega) ?_ | refine And.intro (fun hb => ?_) (fun hb => ?_) | refine Fin.pure ?_ ?_ ?_ | simp only [injs])
          · have ho : one (b :: l) = none := one_no hk (.inr (.inr ⟨hnn, fun n hn _ => by rw [hn, hN]; exact heq⟩))
            have e1 := oneZ_none ho
            have e2 := oneK_none ho
            have hq : (encodeRune (contN n0 (l.take (i - 1))) == (b :: l).take i) = false := beq_false_of_ne heq
            (repeat' first | simp only [fins,mems,Tryz.results86,Tryz.ntmps86,Kt,wks,hdi,e1,e2,hq,hnn,hsl,hkl,vcs,Ka,Kb,Kc,Kd,Ke,Kf,Kg,Kh,Ki,Kj,Kk,Kl,Km,reduceCtorEq,reduceIte,Kn,Ko,Kp,Kq,Kr,Ks,tys] | exact rfl | refine call_off (v := .any) ?_ | (first | (refine call_fn ?_ ((by have := rMay_ev (contN n0 (l.take (i - 1))); rw [hm] at this; exact this _)) ?_) | (refine call_fn_g ?_ (fun _ => (by have := rMay_ev (contN n0 (l.take (i - 1))); rw [hm] at this; exact this _)) ?_) | (refine call_fn ?_ (rBytes_ev (contN n0 (l.take (i - 1))) hm _) ?_) | (refine call_fn_g ?_ (fun _ => rBytes_ev (contN n0 (l.take (i - 1))) hm _) ?_)) | (refine ext_toStr (v := ?_) (bs := ?_) ?_ ?_ ?_ ?_ ?_ ?_ ?_; rotate_left 2; (iterate 2 (focus (simp only [Tryz.results86,Tryz.ntmps86,Kt,wks,hdi,e1,e2,hq,hnn,hsl,hkl,vcs,Ka,Kb,Kc,Kd,Ke,Kf,Kg,Kh,Ki,Kj,Kk,Kl,Km,reduceCtorEq,reduceIte,Kn,Ko,Kp,Kq,Kr,Ks,tys]; done))); (focus (simp only [Tryz.results86,Tryz.ntmps86,Kt,wks,hdi,e1,e2,hq,hnn,hsl,hkl,vcs,Ka,Kb,Kc,Kd,Ke,Kf,Kg,Kh,Ki,Kj,Kk,Kl,Km,reduceCtorEq,reduceIte,Kn,Ko,Kp,Kq,Kr,Ks,tys] <;> exact rfl)); (focus (exact rfl)); (focus (simp only [mems,Tryz.results86,Tryz.ntmps86,Kt,wks,hdi,e1,e2,hq,hnn,hsl,hkl,vcs,Ka,Kb,Kc,Kd,Ke,Kf,Kg,Kh,Ki,Kj,Kk,Kl,Km,reduceCtorEq,reduceIte,Kn,Ko,Kp,Kq,Kr,Ks,tys]; done)); (focus (simp only [Tryz.results86,Tryz.ntmps86,Kt,wks,hdi,e1,e2,hq,hnn,hsl,hkl,vcs,Ka,Kb,Kc,Kd,Ke,Kf,Kg,Kh,Ki,Kj,Kk,Kl,Km,reduceCtorEq,reduceIte,Kn,Ko,Kp,Kq,Kr,Ks,tys] <;> exact rfl))) | (refine extG_true ?_) | (refine extG_false ?_) | refine draw_end' (ps := [(5, 9)]) (by decide +kernel) (by simp only [List.forall_mem_cons,List.getD_cons_zero,List.getD_cons_succ,Tryz.results86,Tryz.ntmps86,Kt,wks,hdi,e1,e2,hq,hnn,hsl,hkl,vcs,Ka,Kb,Kc,Kd,Ke,Kf,Kg,Kh,Ki,Kj,Kk,Kl,Km,reduceCtorEq,reduceIte,Kn,Ko,Kp,Kq,Kr,Ks,tys] <;> (try simp) <;> (try omega)) ?_ | refine draw_end (by decide +kernel) ?_ | ((first | apply cond_bool | apply cond_bit) <;> intro hb) | refine And.intro (by omega) ?_ | refine And.intro (fun hb => ?_) (fun hb => ?_) | refine Fin.pure ?_ ?_ ?_ | simp only [injs])
theorem rAll_ev (s : List UInt8) (hs : s.length ≤ 16384) (nm : Nat) : Ev cx 64 nm [.str s] Mem.nil (.tup [.sl false 1 (((dec s).getD []).map intRow), .bool (dec s).isSome]) [] := by
  refine ev_go rfl (fun cargs w => Tryz.call64 cargs w) Tryz.func64 rfl mixed (by kernel_rfl) rfl ?_; intro b0 hb0
  repeat' first | simp only [fins,mems,Tryz.results64,Tryz.ntmps64,Kt,wks,vcs,Ka,Kb,Kc,Kd,Ke,Kf,Kg,Kh,Ki,Kj,Kk,Kl,Km,reduceCtorEq,reduceIte,Kn,Ko,Kp,Kq,Kr,Ks,tys] | exact rfl | refine call_off (v := .any) ?_ | ((first | apply cond_bool | apply cond_bit) <;> intro hb) | refine And.intro (by omega) ?_ | refine And.intro (fun hb => ?_) (fun hb => ?_)
  (refine loop_can2 cxG (fun x : List UInt8 × List Int => x.1.length) (fun x => x.1.length + x.2.length ≤ s.length ∧ dec s = (dec x.1).map (x.2 ++ ·)) (b0 + 16) (fun x => [(0, .str x.1), (4, .own b0 0 x.2.length)]) (fun x => [(b0, ⟨1, x.2.map intRow⟩)]) ((s, [])) [none] ?_ ?_ ?_ ?_; rotate_left 1; (focus (show b0 ≤ _; omega)); (focus (refine ⟨?_, ?_⟩ <;> (try simp only [cans,isRow_inst,plain_i,List.map_nil,vcs,Ka,Kb,Kc,Kd,Ke,Kf,Kg,Kh,Ki,Kj,Kk,Kl,Km,reduceCtorEq,reduceIte,Kn,Ko,Kp,Kq,Kr,Ks,tys,injs]) <;> (try omega))); rotate_left 1)
  · refine ⟨by simp, ?_⟩
    cases dec s <;> rfl
  · rintro ⟨r, zs⟩ ⟨h1, h2⟩
    simp only at h1 h2
    have hr : r.length ≤ lim := by unfold lim; omega
    by_cases hne : r = []
    · subst hne
      have hd : (([] : List UInt8) == []) = true := rfl
      have e0 : dec s = some zs := by rw [h2, dec_nil]; simp
      have e1 : (dec s).isSome = true := by rw [e0]; rfl
      have e2 : (dec s).getD [] = zs := by rw [e0]; rfl
      (repeat' first | simp only [fins,mems,Tryz.results64,Tryz.ntmps64,Kt,wks,hd,e1,e2,plain_i,take_i,memL_cons,memL_nil,List.length_map,Nat.le_refl,vcs,Ka,Kb,Kc,Kd,Ke,Kf,Kg,Kh,Ki,Kj,Kk,Kl,Km,reduceCtorEq,reduceIte,Kn,Ko,Kp,Kq,Kr,Ks,tys] | exact rfl | refine call_off (v := .any) ?_ | ((first | apply cond_bool | apply cond_bit) <;> intro hb) | refine And.intro (by omega) ?_ | refine And.intro (fun hb => ?_) (fun hb => ?_) | refine Fin.pure ?_ ?_ ?_ | simp only [injs])
    · have hd : (r == []) = false := beq_false_of_ne hne
      cases ho : one r with
      | none =>
        have k1 := oneZ_none ho
        have k2 := oneK_none ho
        have e0 : dec s = none := by rw [h2, dec_bad hne ho]; rfl
        have e1 : (dec s).isSome = false := by rw [e0]; rfl
        have e2 : (dec s).getD [] = [] := by rw [e0]; rfl
        (repeat' first | simp only [fins,mems,Tryz.results64,Tryz.ntmps64,Kt,wks,hd,e1,e2,k1,k2,plain_i,List.map_nil,vcs,Ka,Kb,Kc,Kd,Ke,Kf,Kg,Kh,Ki,Kj,Kk,Kl,Km,reduceCtorEq,reduceIte,Kn,Ko,Kp,Kq,Kr,Ks,tys] | exact rfl | refine call_off (v := .any) ?_ | (first | (refine call_fn ?_ (rOne_ev r hr _) ?_) | (refine call_fn_g ?_ (fun _ => rOne_ev r hr _) ?_)) | ((first | apply cond_bool | apply cond_bit) <;> intro hb) | refine And.intro (by omega) ?_ | refine And.intro (fun hb => ?_) (fun hb => ?_) | refine Fin.pure ?_ ?_ ?_ | simp only [injs])
      | some p =>
        obtain ⟨z, k⟩ := p
        obtain ⟨_, hm, _, hk1, hk2⟩ := one_some ho
        have k1 := oneZ_some ho
        have k2 := oneK_some ho
        have hk0 : ((k : Int) == 0) = false := beq_false_of_ne (by omega)
        have hds : dec s = (dec (r.drop k)).map ((zs ++ [z]) ++ ·) := by
          rw [h2, dec_step ho]
          cases dec (r.drop k) <;> simp
        have hlen : (r.drop k).length = r.length - k := by simp
        have hsn : zs.map intRow ++ [[V.int .i64 z]] = (zs ++ [z]).map intRow := by simp [intRow]
        repeat' first | simp only [fins,mems,Tryz.results64,Tryz.ntmps64,Kt,wks,hd,hk0,k1,k2,hk2,plain_i,hsn,List.map_nil,List.length_map,Nat.le_refl,Option.bind_some,Option.bind_none,vcs,Ka,Kb,Kc,Kd,Ke,Kf,Kg,Kh,Ki,Kj,Kk,Kl,Km,reduceCtorEq,reduceIte,Kn,Ko,Kp,Kq,Kr,Ks,tys] | exact rfl | refine call_off (v := .any) ?_ | (first | (refine call_fn ?_ (rOne_ev r hr _) ?_) | (refine call_fn_g ?_ (fun _ => rOne_ev r hr _) ?_)) | ((first | apply cond_bool | apply cond_bit) <;> intro hb) | refine And.intro (by omega) ?_ | refine And.intro (fun hb => ?_) (fun hb => ?_)
        ((refine again_can2 cxG ((r.drop k, zs ++ [z])) [some (b0 + 240)] ?_ ?_ ?_ ?_; rotate_left 2; (focus (show b0 ≤ _; omega)); (focus (refine ⟨?_, ?_⟩ <;> (try simp only [cans,isRow_inst,plain_i,ren_ints,List.length_append,List.length_cons,List.length_nil,vcs,Ka,Kb,Kc,Kd,Ke,Kf,Kg,Kh,Ki,Kj,Kk,Kl,Km,reduceCtorEq,reduceIte,Kn,Ko,Kp,Kq,Kr,Ks,tys,injs]) <;> (try omega)))))
        all_goals (first | (show (r.drop k).length < r.length; omega) | exact ⟨by simp only [List.length_append,List.length_cons,List.length_nil]; omega, hds⟩ | skip)
theorem rIs_ev (s : List UInt8) (hs : s.length ≤ 16384) (nm : Nat) : Ev cx 46 nm [.str s] Mem.nil (.bool (dec s).isSome) [] := by
  refine ev_go rfl (fun cargs w => Tryz.call46 cargs w) Tryz.func46 rfl mixed (by kernel_rfl) rfl ?_; intro b0 hb0
  (repeat' first | simp only [fins,mems,Tryz.results46,Tryz.ntmps46,Kt,wks,vcs,Ka,Kb,Kc,Kd,Ke,Kf,Kg,Kh,Ki,Kj,Kk,Kl,Km,reduceCtorEq,reduceIte,Kn,Ko,Kp,Kq,Kr,Ks,tys] | exact rfl | refine call_off (v := .any) ?_ | (first | (refine call_fn ?_ (rAll_ev s hs _) ?_) | (refine call_fn_g ?_ (fun _ => rAll_ev s hs _) ?_)) | ((first | apply cond_bool | apply cond_bit) <;> intro hb) | refine And.intro (by omega) ?_ | refine And.intro (fun hb => ?_) (fun hb => ?_) | refine Fin.pure ?_ ?_ ?_ | simp only [injs])
theorem rCheck_ev (s : List UInt8) (hs : s.length ≤ lim) (nm : Nat) : Ev cx 24 nm [.str s] Mem.nil (.int .i64 (ptsErr s)) [] := by
  unfold lim at hs
  by_cases hb : 16384 < s.length
  · have hd : decide ((16384 : Int) < s.length) = true := decide_eq_true (by omega)
    have he : ptsErr s = 4 := by unfold ptsErr; rw [if_pos hb]
    refine ev_go rfl (fun cargs w => Tryz.call24 cargs w) Tryz.func24 rfl mixed (by kernel_rfl) rfl ?_; intro b0 hb0
    (repeat' first | simp only [fins,mems,Tryz.results24,Tryz.ntmps24,Kt,wks,hd,he,vcs,Ka,Kb,Kc,Kd,Ke,Kf,Kg,Kh,Ki,Kj,Kk,Kl,Km,reduceCtorEq,reduceIte,Kn,Ko,Kp,Kq,Kr,Ks,tys] | exact rfl | refine call_off (v := .any) ?_ | ((first | apply cond_bool | apply cond_bit) <;> intro hb) | refine And.intro (by omega) ?_ | refine And.intro (fun hb => ?_) (fun hb => ?_) | refine Fin.pure ?_ ?_ ?_ | simp only [injs])
  · have hd : decide ((16384 : Int) < s.length) = false := decide_eq_false (by omega)
    cases hq : dec s with
    | none =>
      have he : ptsErr s = 50 := by unfold ptsErr; rw [if_neg hb, hq]
      have hi : (dec s).isSome = false := by rw [hq]; rfl
      have hev := rIs_ev s (by omega)
      rw [hi] at hev
      refine ev_go rfl (fun cargs w => Tryz.call24 cargs w) Tryz.func24 rfl mixed (by kernel_rfl) rfl ?_; intro b0 hb0
      (repeat' first | simp only [fins,mems,Tryz.results24,Tryz.ntmps24,Kt,wks,hd,he,vcs,Ka,Kb,Kc,Kd,Ke,Kf,Kg,Kh,Ki,Kj,Kk,Kl,Km,reduceCtorEq,reduceIte,Kn,Ko,Kp,Kq,Kr,Ks,tys] | exact rfl | refine call_off (v := .any) ?_ | (first | (refine call_fn ?_ (hev _) ?_) | (refine call_fn_g ?_ (fun _ => hev _) ?_)) | ((first | apply cond_bool | apply cond_bit) <;> intro hb) | refine And.intro (by omega) ?_ | refine And.intro (fun hb => ?_) (fun hb => ?_) | refine Fin.pure ?_ ?_ ?_ | simp only [injs])
    | some zs =>
      have he : ptsErr s = 0 := by unfold ptsErr; rw [if_neg hb, hq]
      have hi : (dec s).isSome = true := by rw [hq]; rfl
      have hev := rIs_ev s (by omega)
      rw [hi] at hev
      refine ev_go rfl (fun cargs w => Tryz.call24 cargs w) Tryz.func24 rfl mixed (by kernel_rfl) rfl ?_; intro b0 hb0
      (repeat' first | simp only [fins,mems,Tryz.results24,Tryz.ntmps24,Kt,wks,hd,he,vcs,Ka,Kb,Kc,Kd,Ke,Kf,Kg,Kh,Ki,Kj,Kk,Kl,Km,reduceCtorEq,reduceIte,Kn,Ko,Kp,Kq,Kr,Ks,tys] | exact rfl | refine call_off (v := .any) ?_ | (first | (refine call_fn ?_ (hev _) ?_) | (refine call_fn_g ?_ (fun _ => hev _) ?_)) | ((first | apply cond_bool | apply cond_bit) <;> intro hb) | refine And.intro (by omega) ?_ | refine And.intro (fun hb => ?_) (fun hb => ?_) | refine Fin.pure ?_ ?_ ?_ | simp only [injs])
end Go.Proofs.YtoaclokiggoeiaaGreatDoor
