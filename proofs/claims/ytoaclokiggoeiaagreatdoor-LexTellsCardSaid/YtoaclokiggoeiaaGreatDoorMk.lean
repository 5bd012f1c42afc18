/-
  Texts joined: XNs, XGo, XGp, XGr.
-/
import Derived.Test.YtoaclokiggoeiaaGreatDoorMj
namespace Go.Proofs.YtoaclokiggoeiaaGreatDoor
set_option maxRecDepth 100000
set_option maxHeartbeats 32000000
set_option linter.unusedSimpArgs false
set_option linter.unusedVariables false
open Nat renaming reduceAdd → Ka, reduceMul → Kb, reduceEqDiff → Kc, reduceLeDiff → Kd, reduceSub → Ke, reduceLT → Kf, reduceBEq → Kr, reduceBNe → Ks, reducePow → Kt
open Int renaming reduceToNat → Kg, reduceLE → Kh, reduceLT → Ki, reduceAdd → Kj, reduceSub → Kk, reduceMul → Kl, reduceNeg → Km, reduceBEq → Kn, reduceBNe → Ko, reduceEq → Kp, reduceNe → Kq
open Go Go.RowKit Go.Proofs.YtoaclokiggoeiaaGreatDoor.Vm Go.Lib
def spanTo (p : UInt8 → Bool) (s : List UInt8) (at' e : Nat) : Prop := at' ≤ e ∧ e ≤ s.length ∧ ∀ c ∈ (s.drop at').take (e - at'), p c = true
theorem span_zero (p : UInt8 → Bool) {s : List UInt8} {at' : Nat} (h : at' ≤ s.length) : spanTo p s at' at' := ⟨Nat.le_refl _, h, by simp⟩
theorem span_succ {p : UInt8 → Bool} {s : List UInt8} {at' e : Nat} {c : UInt8} (h : spanTo p s at' e) (hc : s[e]? = some c) (hp : p c = true) : spanTo p s at' (e + 1) := by
  obtain ⟨h1, h2, h3⟩ := h
  have hlt := (List.getElem?_eq_some_iff.1 hc).1
  refine ⟨by omega, hlt, ?_⟩
  have hd : (s.drop at')[e - at']? = some c := by rw [List.getElem?_drop, Nat.add_sub_cancel' h1]; exact hc
  obtain ⟨hk, hcc⟩ := List.getElem?_eq_some_iff.1 hd
  rw [show e + 1 - at' = (e - at') + 1 by omega, List.take_succ_eq_append_getElem hk]
  intro x hx
  rcases List.mem_append.1 hx with hx | hx
  · exact h3 x hx
  · rw [List.mem_singleton] at hx; rw [hx, hcc]; exact hp
theorem take_drop_while {p : UInt8 → Bool} : ∀ {s : List UInt8} {x : Nat}, (∀ c ∈ s.take x, p c = true) → (∀ c, s[x]? = some c → p c = false) → s.takeWhile p = s.take x ∧ s.dropWhile p = s.drop x
  | [], x, _, _ => by simp
  | c :: s, 0, _, h2 => by
    have := h2 c rfl
    simp [List.takeWhile_cons,List.dropWhile_cons,this]
  | c :: s, x + 1, h1, h2 => by
    have hc := h1 c (by simp)
    obtain ⟨e1, e2⟩ := take_drop_while (s := s) (x := x) (fun d hd => h1 d (by simp [hd])) (fun d hd => h2 d (by simpa using hd))
    simp [List.takeWhile_cons,List.dropWhile_cons,hc,e1,e2]
theorem span_end {p : UInt8 → Bool} {s : List UInt8} {at' e : Nat} (h : spanTo p s at' e) (he : ∀ c, s[e]? = some c → p c = false) : (s.drop at').takeWhile p = (s.drop at').take (e - at') ∧ (s.drop at').dropWhile p = s.drop e := by
  obtain ⟨h1, h2, h3⟩ := h
  obtain ⟨e1, e2⟩ := take_drop_while h3 (fun c hc => he c (by rw [List.getElem?_drop, Nat.add_sub_cancel' h1] at hc; exact hc))
  refine ⟨e1, ?_⟩
  rw [e2, List.drop_drop, Nat.add_sub_cancel' h1]
theorem rBlank_ev (c : UInt8) (nm : Nat) : Ev cx 87 nm [.int .u8 c.toNat] Mem.nil (.bool (blankB c)) [] := by
  have q1 : ((c.toNat : Int) == 32) = (c == 32) := beq_byte c 32
  have q2 : ((c.toNat : Int) == 9) = (c == 9) := beq_byte c 9
  have q3 : ((c.toNat : Int) == 10) = (c == 10) := beq_byte c 10
  have q4 : ((c.toNat : Int) == 13) = (c == 13) := beq_byte c 13
  unfold blankB
  cases h1 : (c == 32) <;> cases h2 : (c == 9) <;> cases h3 : (c == 10) <;> cases h4 : (c == 13) <;> rw [h1] at q1 <;> rw [h2] at q2 <;> rw [h3] at q3 <;> rw [h4] at q4
  all_goals (
    refine ev_go rfl (fun cargs w => Tryz.call87 cargs w) Tryz.func87 rfl mixed (by kernel_rfl) rfl ?_; intro b0 hb0
    (repeat' first | simp only [fins,mems,Tryz.results87,Tryz.ntmps87,Kt,wks,q1,q2,q3,q4,vcs,Ka,Kb,Kc,Kd,Ke,Kf,Kg,Kh,Ki,Kj,Kk,Kl,Km,reduceCtorEq,reduceIte,Kn,Ko,Kp,Kq,Kr,Ks,tys] | exact rfl | refine call_off (v := .any) ?_ | ((first | apply cond_bool | apply cond_bit) <;> intro hb) | refine And.intro (by omega) ?_ | refine And.intro (fun hb => ?_) (fun hb => ?_) | refine Fin.pure ?_ ?_ ?_ | simp only [injs]))
def blankN (s : List UInt8) : Nat := s.length - (skipL s).length
theorem blank_end {s : List UInt8} {at' e : Nat} (h : spanTo blankB s at' e) (he : ∀ c, s[e]? = some c → blankB c = false) : blankN (s.drop at') = e - at' ∧ skipL (s.drop at') = s.drop e := by
  have h2 := (span_end h he).2
  obtain ⟨g1, g2, _⟩ := h
  refine ⟨?_, h2⟩
  unfold blankN skipL
  rw [h2, List.length_drop, List.length_drop]; omega
theorem rBlanks_ev (s : List UInt8) (at' : Nat) (hs : s.length ≤ 1000000) (ha : at' ≤ s.length) (nm : Nat) : Ev cx 67 nm [.str s, .int .i64 at'] Mem.nil (.int .i64 (blankN (s.drop at'))) [] := by
  refine ev_go rfl (fun cargs w => Tryz.call67 cargs w) Tryz.func67 rfl mixed (by kernel_rfl) rfl ?_; intro b0 hb0
  repeat' first | simp only [fins,mems,Tryz.results67,Tryz.ntmps67,Kt,wks,vcs,Ka,Kb,Kc,Kd,Ke,Kf,Kg,Kh,Ki,Kj,Kk,Kl,Km,reduceCtorEq,reduceIte,Kn,Ko,Kp,Kq,Kr,Ks,tys] | exact rfl | refine call_off (v := .any) ?_ | ((first | apply cond_bool | apply cond_bit) <;> intro hb) | refine And.intro (by omega) ?_ | refine And.intro (fun hb => ?_) (fun hb => ?_)
  (refine loop_can2 cxG (fun x : Nat => s.length - at' - x) (fun x => spanTo blankB s at' (at' + x)) (b0 + 16) (fun x => [(0, .str s), (1, .int .i64 at'), (5, .int .i64 x)]) (fun x => []) (0) [] ?_ ?_ ?_ ?_; rotate_left 1; (focus (show b0 ≤ _; omega)); (focus (refine ⟨?_, ?_⟩ <;> (try simp only [cans,vcs,Ka,Kb,Kc,Kd,Ke,Kf,Kg,Kh,Ki,Kj,Kk,Kl,Km,reduceCtorEq,reduceIte,Kn,Ko,Kp,Kq,Kr,Ks,tys,injs]) <;> (try omega))); rotate_left 1)
  · exact span_zero _ ha
  · rintro x h
    have h1 := h.2.1
    have hw : IntKind.i64.wrap ((at' : Int) + (x : Int)) = ((at' + x : Nat) : Int) := by rw [wrap_in (by omega) (by omega)]; omega
    have hwx : IntKind.i64.wrap ((x : Int) + 1) = ((x + 1 : Nat) : Int) := wrap_in (by omega) (by omega)
    have hz : (0 : Int) ≤ ((at' + x : Nat) : Int) := by omega
    by_cases hx : at' + x < s.length
    · obtain ⟨c, hc⟩ : ∃ c, s[at' + x]? = some c := ⟨_, List.getElem?_eq_getElem hx⟩
      have hx' : decide (at' + x < s.length) = true := decide_eq_true hx
      have hb := rBlank_ev c
      cases hp : blankB c with
      | true =>
        rw [hp] at hb
        have hn := span_succ h hc hp
        repeat' first | simp only [fins,mems,Tryz.results67,Tryz.ntmps67,Kt,wks,hc,hx',hx,hw,hwx,hz,Int.toNat_natCast,vcs,Ka,Kb,Kc,Kd,Ke,Kf,Kg,Kh,Ki,Kj,Kk,Kl,Km,reduceCtorEq,reduceIte,Kn,Ko,Kp,Kq,Kr,Ks,tys] | exact rfl | refine call_off (v := .any) ?_ | (first | (refine call_fn ?_ (hb _) ?_) | (refine call_fn_g ?_ (fun _ => hb _) ?_)) | ((first | apply cond_bool | apply cond_bit) <;> intro hb) | refine And.intro (by omega) ?_ | refine And.intro (fun hb => ?_) (fun hb => ?_)
        all_goals ((refine again_can2 cxG (x + 1) [] ?_ ?_ ?_ ?_; rotate_left 2; (focus (show b0 ≤ _; omega)); (focus (refine ⟨?_, ?_⟩ <;> (try simp only [cans,vcs,Ka,Kb,Kc,Kd,Ke,Kf,Kg,Kh,Ki,Kj,Kk,Kl,Km,reduceCtorEq,reduceIte,Kn,Ko,Kp,Kq,Kr,Ks,tys,injs]) <;> (try omega)))))
        all_goals (first | (show s.length - at' - (x + 1) < s.length - at' - x; omega) | exact hn | skip)
      | false =>
        rw [hp] at hb
        obtain ⟨e1, _⟩ := blank_end h (fun d hd => by rw [hc] at hd; cases hd; exact hp)
        have e2 : at' + x - at' = x := by omega
        rw [e1, e2]
        (repeat' first | simp only [fins,mems,Tryz.results67,Tryz.ntmps67,Kt,wks,hc,hx',hx,hw,hwx,hz,Int.toNat_natCast,vcs,Ka,Kb,Kc,Kd,Ke,Kf,Kg,Kh,Ki,Kj,Kk,Kl,Km,reduceCtorEq,reduceIte,Kn,Ko,Kp,Kq,Kr,Ks,tys] | exact rfl | refine call_off (v := .any) ?_ | (first | (refine call_fn ?_ (hb _) ?_) | (refine call_fn_g ?_ (fun _ => hb _) ?_)) | ((first | apply cond_bool | apply cond_bit) <;> intro hb) | refine And.intro (by omega) ?_ | refine And.intro (fun hb => ?_) (fun hb => ?_) | refine Fin.pure ?_ ?_ ?_ | simp only [injs])
    · have hx' : decide (at' + x < s.length) = false := decide_eq_false hx
      have hrb := rBlank_ev 0
      obtain ⟨e1, _⟩ := blank_end h (fun d hd => by rw [List.getElem?_eq_none (by omega)] at hd; cases hd)
      have e2 : at' + x - at' = x := by omega
      rw [e1, e2]
      (repeat' first | simp only [fins,mems,Tryz.results67,Tryz.ntmps67,Kt,wks,hx',hw,hz,hx,Bool.false_eq_true,false_implies,vcs,Ka,Kb,Kc,Kd,Ke,Kf,Kg,Kh,Ki,Kj,Kk,Kl,Km,reduceCtorEq,reduceIte,Kn,Ko,Kp,Kq,Kr,Ks,tys] | exact rfl | refine call_off (v := .any) ?_ | ((first | apply cond_bool | apply cond_bit) <;> intro hb) | refine And.intro (by omega) ?_ | refine And.intro (fun hb => ?_) (fun hb => ?_) | refine Fin.pure ?_ ?_ ?_ | simp only [injs])
def wordW (r : List UInt8) : List UInt8 := if fullL (wordT r) = true then wordT r else []
theorem wordB_eq {c : UInt8} {p1 p6 p7 p8 p9 p10 : Bool} (h1 : letB c = p1) (h6 : decide ((48 : Int) ≤ c.toNat) = p6) (h7 : decide ((c.toNat : Int) ≤ 57) = p7) (h8 : decide (c = 46) = p8) (h9 : decide (c = 45) = p9) (h10 : decide (c = 58) = p10) : wordB c = (p1 || (p6 && p7) || p8 || p9 || p10) := by
  have e1 : ((48 : Int) ≤ c.toNat) = (48 ≤ c.toNat) := propext (by omega)
  have e2 : ((c.toNat : Int) ≤ 57) = (c.toNat ≤ 57) := propext (by omega)
  have e3 : (c == 58) = decide (c = 58) := by by_cases h : c = 58 <;> simp [h]
  unfold wordB partB
  rw [h1, ← h6, ← h7, ← h8, ← h9, ← h10, e3]
  simp only [e1,e2,Bool.not_false,Bool.true_and,Bool.or_assoc]
theorem word_leaves : ∀ p1 p6 p7 p8 p9 p10 : Bool, (p1 = true) ∨ (p1 = false ∧ p6 = true ∧ p7 = true) ∨ (p1 = false ∧ p6 = true ∧ p7 = false ∧ p8 = true) ∨ (p1 = false ∧ p6 = true ∧ p7 = false ∧ p8 = false ∧ p9 = true) ∨ (p1 = false ∧ p6 = true ∧ p7 = false ∧ p8 = false ∧ p9 = false ∧ p10 = true) ∨ (p1 = false ∧ p6 = true ∧ p7 = false ∧ p8 = false ∧ p9 = false ∧ p10 = false) ∨
    (p1 = false ∧ p6 = false ∧ p8 = true) ∨ (p1 = false ∧ p6 = false ∧ p8 = false ∧ p9 = true) ∨ (p1 = false ∧ p6 = false ∧ p8 = false ∧ p9 = false ∧ p10 = true) ∨ (p1 = false ∧ p6 = false ∧ p8 = false ∧ p9 = false ∧ p10 = false) := by
  intro p1 p6 p7 p8 p9 p10; cases p1 <;> cases p6 <;> cases p7 <;> cases p8 <;> cases p9 <;> cases p10 <;> simp
theorem rWord_ev (s : List UInt8) (at' : Nat) (hs : s.length ≤ 1000000) (ha : at' ≤ s.length) (nm : Nat) : Ev cx 66 nm [.str s, .int .i64 at'] Mem.nil (.str (wordW (s.drop at'))) [] := by
  refine ev_go rfl (fun cargs w => Tryz.call66 cargs w) Tryz.func66 rfl mixed (by kernel_rfl) rfl ?_; intro b0 hb0
  repeat' first | simp only [fins,mems,Tryz.results66,Tryz.ntmps66,Kt,wks,vcs,Ka,Kb,Kc,Kd,Ke,Kf,Kg,Kh,Ki,Kj,Kk,Kl,Km,reduceCtorEq,reduceIte,Kn,Ko,Kp,Kq,Kr,Ks,tys] | exact rfl | refine call_off (v := .any) ?_ | ((first | apply cond_bool | apply cond_bit) <;> intro hb) | refine And.intro (by omega) ?_ | refine And.intro (fun hb => ?_) (fun hb => ?_)
  (refine loop_can2 cxG (fun e : Nat => s.length - e) (fun e => spanTo wordB s at' e) (b0 + 16) (fun e => [(0, .str s), (1, .int .i64 at'), (5, .int .i64 e)]) (fun x => []) (at') [] ?_ ?_ ?_ ?_; rotate_left 1; (focus (show b0 ≤ _; omega)); (focus (refine ⟨?_, ?_⟩ <;> (try simp only [cans,vcs,Ka,Kb,Kc,Kd,Ke,Kf,Kg,Kh,Ki,Kj,Kk,Kl,Km,reduceCtorEq,reduceIte,Kn,Ko,Kp,Kq,Kr,Ks,tys,injs]) <;> (try omega))); rotate_left 1)
  · exact span_zero _ ha
  · rintro e h
    have h0 := h.1
    have h1 := h.2.1
    have hwe : IntKind.i64.wrap ((e : Int) + 1) = ((e + 1 : Nat) : Int) := wrap_in (by omega) (by omega)
    have hz : (0 : Int) ≤ (e : Int) := by omega
    have hz1 : (0 : Int) ≤ (at' : Int) := by omega
    have hz2 : (at' : Int) ≤ (e : Int) := by omega
    have hz3 : (e : Int) ≤ (s.length : Int) := by omega
    have hend : ∀ (hx : ∀ c, s[e]? = some c → wordB c = false), (s.drop at').take (e - at') = wordT (s.drop at') ∧ (s.take e).drop at' = wordT (s.drop at') := fun hx => by
      have := (span_end h hx).1
      refine ⟨this.symm, ?_⟩
      rw [List.drop_take]; exact this.symm
    have hwl : (wordT (s.drop at')).length ≤ lim := by
      have := congrArg List.length (word_split (s.drop at'))
      rw [List.length_append, List.length_drop] at this
      unfold lim; omega
    have hfe := rFull_ev (wordT (s.drop at')) hwl
    by_cases hx : e < s.length
    · obtain ⟨c, hc⟩ : ∃ c, s[e]? = some c := ⟨_, List.getElem?_eq_getElem hx⟩
      have hx' : decide (e < s.length) = true := decide_eq_true hx
      have hl := rLetter_ev c
      have q8 : ((c.toNat : Int) == 46) = decide (c = 46) := beq_byte c 46
      have q9 : ((c.toNat : Int) == 45) = decide (c = 45) := beq_byte c 45
      have q10 : ((c.toNat : Int) == 58) = decide (c = 58) := beq_byte c 58
      generalize g1 : letB c = p1 at hl
      generalize g6 : decide ((48 : Int) ≤ c.toNat) = p6
      generalize g7 : decide ((c.toNat : Int) ≤ 57) = p7
      generalize g8 : decide (c = 46) = p8 at q8
      generalize g9 : decide (c = 45) = p9 at q9
      generalize g10 : decide (c = 58) = p10 at q10
      have hwc := wordB_eq g1 g6 g7 g8 g9 g10
      rcases word_leaves p1 p6 p7 p8 p9 p10 with rfl | ⟨rfl, rfl, rfl⟩ | ⟨rfl, rfl, rfl, rfl⟩ | ⟨rfl, rfl, rfl, rfl, rfl⟩ | ⟨rfl, rfl, rfl, rfl, rfl, rfl⟩ | ⟨rfl, rfl, rfl, rfl, rfl, rfl⟩ | ⟨rfl, rfl, rfl⟩ | ⟨rfl, rfl, rfl, rfl⟩ | ⟨rfl, rfl, rfl, rfl, rfl⟩ | ⟨rfl, rfl, rfl, rfl, rfl⟩
      all_goals simp only [Bool.true_and,Bool.false_and,Bool.and_false,Bool.true_or,Bool.or_true,Bool.false_or,Bool.or_false,Bool.and_true] at hwc
      all_goals (first
        | (have hn := span_succ h hc hwc
           (repeat' first | simp only [fins,mems,Tryz.results66,Tryz.ntmps66,Kt,wks,hc,hx',hx,hwe,hz,hz1,hz2,hz3,q8,q9,q10,g6,g7,Int.toNat_natCast,vcs,Ka,Kb,Kc,Kd,Ke,Kf,Kg,Kh,Ki,Kj,Kk,Kl,Km,reduceCtorEq,reduceIte,Kn,Ko,Kp,Kq,Kr,Ks,tys] | exact rfl | refine call_off (v := .any) ?_ | (first | (refine call_fn ?_ (hl _) ?_) | (refine call_fn_g ?_ (fun _ => hl _) ?_)) | refine And.intro (by omega) ?_)
           all_goals ((refine again_can2 cxG (e + 1) [] ?_ ?_ ?_ ?_; rotate_left 2; (focus (show b0 ≤ _; omega)); (focus (refine ⟨?_, ?_⟩ <;> (try simp only [cans,vcs,Ka,Kb,Kc,Kd,Ke,Kf,Kg,Kh,Ki,Kj,Kk,Kl,Km,reduceCtorEq,reduceIte,Kn,Ko,Kp,Kq,Kr,Ks,tys,injs]) <;> (try omega)))))
           all_goals (first | (show s.length - (e + 1) < s.length - e; omega) | exact hn | skip))
        | (obtain ⟨he1, he2⟩ := hend (fun d hd => by rw [hc] at hd; cases hd; exact hwc)
           unfold wordW
           cases hf : fullL (wordT (s.drop at')) <;> rw [hf] at hfe
           · ((repeat' first | simp only [fins,mems,Tryz.results66,Tryz.ntmps66,Kt,wks,hc,hx',hx,hwe,hz,hz1,hz2,hz3,q8,q9,q10,g6,g7,he1,he2,hf,Int.toNat_natCast,Bool.false_eq_true,if_false,Bool.not_false,vcs,Ka,Kb,Kc,Kd,Ke,Kf,Kg,Kh,Ki,Kj,Kk,Kl,Km,reduceCtorEq,reduceIte,Kn,Ko,Kp,Kq,Kr,Ks,tys] | exact rfl | refine call_off (v := .any) ?_ | (first | (refine call_fn ?_ (hl _) ?_) | (refine call_fn_g ?_ (fun _ => hl _) ?_) | (refine call_fn ?_ (hfe _) ?_) | (refine call_fn_g ?_ (fun _ => hfe _) ?_)) | ((first | apply cond_bool | apply cond_bit) <;> intro hb) | refine And.intro (by omega) ?_ | refine And.intro (fun hb => ?_) (fun hb => ?_) | refine Fin.pure ?_ ?_ ?_ | simp only [injs]))
           · ((repeat' first | simp only [fins,mems,Tryz.results66,Tryz.ntmps66,Kt,wks,hc,hx',hx,hwe,hz,hz1,hz2,hz3,q8,q9,q10,g6,g7,he1,he2,hf,Int.toNat_natCast,if_true,Bool.not_true,vcs,Ka,Kb,Kc,Kd,Ke,Kf,Kg,Kh,Ki,Kj,Kk,Kl,Km,reduceCtorEq,reduceIte,Kn,Ko,Kp,Kq,Kr,Ks,tys] | exact rfl | refine call_off (v := .any) ?_ | (first | (refine call_fn ?_ (hl _) ?_) | (refine call_fn_g ?_ (fun _ => hl _) ?_) | (refine call_fn ?_ (hfe _) ?_) | (refine call_fn_g ?_ (fun _ => hfe _) ?_)) | ((first | apply cond_bool | apply cond_bit) <;> intro hb) | refine And.intro (by omega) ?_ | refine And.intro (fun hb => ?_) (fun hb => ?_) | refine Fin.pure ?_ ?_ ?_ | simp only [injs]))))
    · have hx' : decide (e < s.length) = false := decide_eq_false (by omega)
      obtain ⟨he1, he2⟩ := hend (fun d hd => by rw [List.getElem?_eq_none (by omega)] at hd; cases hd)
      unfold wordW
      cases hf : fullL (wordT (s.drop at')) <;> rw [hf] at hfe
      · ((repeat' first | simp only [fins,mems,Tryz.results66,Tryz.ntmps66,Kt,wks,hx',hx,hz,hz1,hz2,hz3,he1,he2,hf,Int.toNat_natCast,Bool.false_eq_true,if_false,Bool.not_false,vcs,Ka,Kb,Kc,Kd,Ke,Kf,Kg,Kh,Ki,Kj,Kk,Kl,Km,reduceCtorEq,reduceIte,Kn,Ko,Kp,Kq,Kr,Ks,tys] | exact rfl | refine call_off (v := .bool false) ?_ | (first | (refine call_fn ?_ (hfe _) ?_) | (refine call_fn_g ?_ (fun _ => hfe _) ?_)) | ((first | apply cond_bool | apply cond_bit) <;> intro hb) | refine And.intro (by omega) ?_ | refine And.intro (fun hb => ?_) (fun hb => ?_) | refine Fin.pure ?_ ?_ ?_ | simp only [injs]))
      · ((repeat' first | simp only [fins,mems,Tryz.results66,Tryz.ntmps66,Kt,wks,hx',hx,hz,hz1,hz2,hz3,he1,he2,hf,Int.toNat_natCast,if_true,Bool.not_true,vcs,Ka,Kb,Kc,Kd,Ke,Kf,Kg,Kh,Ki,Kj,Kk,Kl,Km,reduceCtorEq,reduceIte,Kn,Ko,Kp,Kq,Kr,Ks,tys] | exact rfl | refine call_off (v := .bool false) ?_ | (first | (refine call_fn ?_ (hfe _) ?_) | (refine call_fn_g ?_ (fun _ => hfe _) ?_)) | ((first | apply cond_bool | apply cond_bit) <;> intro hb) | refine And.intro (by omega) ?_ | refine And.intro (fun hb => ?_) (fun hb => ?_) | refine Fin.pure ?_ ?_ ?_ | simp only [injs]))
theorem digits_len : ∀ (k n : Nat), n < 10 ^ (k + 1) → (digitsL n).length ≤ k + 1
  | 0, n, h => by rw [digits_low (by omega)]; simp
  | k + 1, n, h => by
    by_cases h9 : n ≤ 9
    · rw [digits_low h9]; simp
    · rw [digits_high (by omega), List.length_append, List.length_singleton]
      have := digits_len k (n / 10) (by rw [Nat.pow_succ] at h; omega)
      omega
theorem digB {d : Nat} (h : d ≤ 9) : ((UInt8.ofNat (48 + d)).toNat : Int) = 48 + (d : Int) := by simp; omega
theorem rDigits_ev (n : Nat) (hn : n < 10 ^ 17) (nm : Nat) : Ev cx 126 nm [.int .i64 n] Mem.nil (.str (digitsL n)) [] := by
  have hl := digits_len 16 n hn
  have hn' : n < 100000000000000000 := hn
  refine ev_go rfl (fun cargs w => Tryz.call126 cargs w) Tryz.func126 rfl mixed (by kernel_rfl) rfl ?_; intro b0 hb0
  repeat' first | simp only [fins,mems,Tryz.results126,Tryz.ntmps126,Kt,wks,vcs,Ka,Kb,Kc,Kd,Ke,Kf,Kg,Kh,Ki,Kj,Kk,Kl,Km,reduceCtorEq,reduceIte,Kn,Ko,Kp,Kq,Kr,Ks,tys] | exact rfl | refine call_off (v := .any) ?_ | ((first | apply cond_bool | apply cond_bit) <;> intro hb) | refine And.intro (by omega) ?_ | refine And.intro (fun hb => ?_) (fun hb => ?_)
  (refine loop_can2 cxG (fun x : Nat × List UInt8 => x.1) (fun x => x.1 ≤ n ∧ digitsL n = digitsL x.1 ++ x.2) (b0 + 16) (fun x => [(0, .int .i64 x.1), (3, .str x.2)]) (fun x => []) ((n, [])) [] ?_ ?_ ?_ ?_; rotate_left 1; (focus (show b0 ≤ _; omega)); (focus (refine ⟨?_, ?_⟩ <;> (try simp only [cans,vcs,Ka,Kb,Kc,Kd,Ke,Kf,Kg,Kh,Ki,Kj,Kk,Kl,Km,reduceCtorEq,reduceIte,Kn,Ko,Kp,Kq,Kr,Ks,tys,injs]) <;> (try omega))); rotate_left 1)
  · exact ⟨Nat.le_refl _, (List.append_nil _).symm⟩
  · rintro ⟨m, acc⟩ ⟨h1, h2⟩
    simp only at h1 h2
    have hal : acc.length ≤ 17 := by
      have := congrArg List.length h2
      rw [List.length_append] at this; omega
    by_cases h9 : 9 < m
    · have hd : decide ((9 : Int) < (m : Int)) = true := decide_eq_true (by omega)
      have q1 : (m : Int).tmod 10 = ((m % 10 : Nat) : Int) := by rw [Int.tmod_eq_emod_of_nonneg (by omega)]; rfl
      have q2 : (m : Int).tdiv 10 = ((m / 10 : Nat) : Int) := by rw [Int.tdiv_eq_ediv_of_nonneg (by omega)]; rfl
      have w1 : IntKind.i64.wrap ((m % 10 : Nat) : Int) = ((m % 10 : Nat) : Int) := wrap_in (by omega) (by omega)
      have w2 : IntKind.i64.wrap (48 + ((m % 10 : Nat) : Int)) = 48 + ((m % 10 : Nat) : Int) := wrap_in (by omega) (by omega)
      have w3 : IntKind.u8.wrap (48 + ((m % 10 : Nat) : Int)) = ((UInt8.ofNat (48 + m % 10)).toNat : Int) := by rw [IntWalk.u8_in _ (by omega), digB (by omega)]
      have w4 : IntKind.i64.wrap ((m / 10 : Nat) : Int) = ((m / 10 : Nat) : Int) := wrap_in (by omega) (by omega)
      generalize hg : UInt8.ofNat (48 + m % 10) = g at w3
      have hcl : ([g] ++ acc).length = acc.length + 1 := by simp
      repeat' first | simp only [fins,mems,Tryz.results126,Tryz.ntmps126,Kt,wks,hd,q1,q2,w1,w2,w3,w4,hcl,byteRow,vcs,Ka,Kb,Kc,Kd,Ke,Kf,Kg,Kh,Ki,Kj,Kk,Kl,Km,reduceCtorEq,reduceIte,Kn,Ko,Kp,Kq,Kr,Ks,tys] | exact rfl | refine call_off (v := .any) ?_ | (refine ext_toStr (v := ?_) (bs := [g]) ?_ ?_ ?_ ?_ ?_ ?_ ?_; rotate_left 1; (iterate 2 (focus (simp only [Tryz.results126,Tryz.ntmps126,Kt,wks,hd,q1,q2,w1,w2,w3,w4,hcl,byteRow,vcs,Ka,Kb,Kc,Kd,Ke,Kf,Kg,Kh,Ki,Kj,Kk,Kl,Km,reduceCtorEq,reduceIte,Kn,Ko,Kp,Kq,Kr,Ks,tys]; done))); (focus (simp only [Tryz.results126,Tryz.ntmps126,Kt,wks,hd,q1,q2,w1,w2,w3,w4,hcl,byteRow,vcs,Ka,Kb,Kc,Kd,Ke,Kf,Kg,Kh,Ki,Kj,Kk,Kl,Km,reduceCtorEq,reduceIte,Kn,Ko,Kp,Kq,Kr,Ks,tys] <;> exact rfl)); (focus (exact rfl)); (focus (simp only [mems,Tryz.results126,Tryz.ntmps126,Kt,wks,hd,q1,q2,w1,w2,w3,w4,hcl,byteRow,vcs,Ka,Kb,Kc,Kd,Ke,Kf,Kg,Kh,Ki,Kj,Kk,Kl,Km,reduceCtorEq,reduceIte,Kn,Ko,Kp,Kq,Kr,Ks,tys]; done)); (focus (simp only [Tryz.results126,Tryz.ntmps126,Kt,wks,hd,q1,q2,w1,w2,w3,w4,hcl,byteRow,vcs,Ka,Kb,Kc,Kd,Ke,Kf,Kg,Kh,Ki,Kj,Kk,Kl,Km,reduceCtorEq,reduceIte,Kn,Ko,Kp,Kq,Kr,Ks,tys] <;> exact rfl))) | (refine extG_true ?_) | (refine extG_false ?_) | ((first | apply cond_bool | apply cond_bit) <;> intro hb) | refine And.intro (by omega) ?_ | refine And.intro (fun hb => ?_) (fun hb => ?_)
      all_goals ((refine again_can2 cxG ((m / 10, [g] ++ acc)) [] ?_ ?_ ?_ ?_; rotate_left 2; (focus (show b0 ≤ _; omega)); (focus (refine ⟨?_, ?_⟩ <;> (try simp only [cans,vcs,Ka,Kb,Kc,Kd,Ke,Kf,Kg,Kh,Ki,Kj,Kk,Kl,Km,reduceCtorEq,reduceIte,Kn,Ko,Kp,Kq,Kr,Ks,tys,injs]) <;> (try omega)))))
      all_goals (first | (show m / 10 < m; omega) | (refine ⟨by show m / 10 ≤ n; omega, ?_⟩; rw [h2, digits_high h9, hg, List.append_assoc]) | skip)
    · have hd : decide ((9 : Int) < (m : Int)) = false := decide_eq_false (by omega)
      have w2 : IntKind.i64.wrap (48 + (m : Int)) = 48 + (m : Int) := wrap_in (by omega) (by omega)
      have w3 : IntKind.u8.wrap (48 + (m : Int)) = ((UInt8.ofNat (48 + m)).toNat : Int) := by rw [IntWalk.u8_in _ (by omega), digB (by omega)]
      have hr : digitsL n = [UInt8.ofNat (48 + m)] ++ acc := by rw [h2, digits_low (by omega)]
      generalize hg : UInt8.ofNat (48 + m) = g at w3 hr
      have hcl : ([g] ++ acc).length = acc.length + 1 := by simp
      (repeat' first | simp only [fins,mems,Tryz.results126,Tryz.ntmps126,Kt,wks,hd,w2,w3,hr,hcl,byteRow,vcs,Ka,Kb,Kc,Kd,Ke,Kf,Kg,Kh,Ki,Kj,Kk,Kl,Km,reduceCtorEq,reduceIte,Kn,Ko,Kp,Kq,Kr,Ks,tys] | exact rfl | refine call_off (v := .any) ?_ | (refine ext_toStr (v := ?_) (bs := [g]) ?_ ?_ ?_ ?_ ?_ ?_ ?_; rotate_left 1; (iterate 2 (focus (simp only [Tryz.results126,Tryz.ntmps126,Kt,wks,hd,w2,w3,hr,hcl,byteRow,vcs,Ka,Kb,Kc,Kd,Ke,Kf,Kg,Kh,Ki,Kj,Kk,Kl,Km,reduceCtorEq,reduceIte,Kn,Ko,Kp,Kq,Kr,Ks,tys]; done))); (focus (simp only [Tryz.results126,Tryz.ntmps126,Kt,wks,hd,w2,w3,hr,hcl,byteRow,vcs,Ka,Kb,Kc,Kd,Ke,Kf,Kg,Kh,Ki,Kj,Kk,Kl,Km,reduceCtorEq,reduceIte,Kn,Ko,Kp,Kq,Kr,Ks,tys] <;> exact rfl)); (focus (exact rfl)); (focus (simp only [mems,Tryz.results126,Tryz.ntmps126,Kt,wks,hd,w2,w3,hr,hcl,byteRow,vcs,Ka,Kb,Kc,Kd,Ke,Kf,Kg,Kh,Ki,Kj,Kk,Kl,Km,reduceCtorEq,reduceIte,Kn,Ko,Kp,Kq,Kr,Ks,tys]; done)); (focus (simp only [Tryz.results126,Tryz.ntmps126,Kt,wks,hd,w2,w3,hr,hcl,byteRow,vcs,Ka,Kb,Kc,Kd,Ke,Kf,Kg,Kh,Ki,Kj,Kk,Kl,Km,reduceCtorEq,reduceIte,Kn,Ko,Kp,Kq,Kr,Ks,tys] <;> exact rfl))) | (refine extG_true ?_) | (refine extG_false ?_) | ((first | apply cond_bool | apply cond_bit) <;> intro hb) | refine And.intro (by omega) ?_ | refine And.intro (fun hb => ?_) (fun hb => ?_) | refine Fin.pure ?_ ?_ ?_ | simp only [injs])
def valI (s : List UInt8) : Int := match decV 0 s with | some n => n | none => -1
theorem valI_some {s : List UInt8} {n : Nat} (h : decV 0 s = some n) : valI s = n := by unfold valI; rw [h]
theorem valI_none {s : List UInt8} (h : decV 0 s = none) : valI s = -1 := by unfold valI; rw [h]
theorem r6Value_ev (s : List UInt8) (hs : s.length ≤ 16) (nm : Nat) : Ev cx 125 nm [.str s] Mem.nil (.int .i64 (valI s)) [] := by
  refine ev_go rfl (fun cargs w => Tryz.call125 cargs w) Tryz.func125 rfl mixed (by kernel_rfl) rfl ?_; intro b0 hb0
  repeat' first | simp only [fins,mems,Tryz.results125,Tryz.ntmps125,Kt,wks,vcs,Ka,Kb,Kc,Kd,Ke,Kf,Kg,Kh,Ki,Kj,Kk,Kl,Km,reduceCtorEq,reduceIte,Kn,Ko,Kp,Kq,Kr,Ks,tys] | exact rfl | refine call_off (v := .any) ?_ | ((first | apply cond_bool | apply cond_bit) <;> intro hb) | refine And.intro (by omega) ?_ | refine And.intro (fun hb => ?_) (fun hb => ?_)
  (refine loop_can2 cxG (fun x : Nat × Nat => s.length - x.1) (fun x => x.1 ≤ s.length ∧ decV 0 (s.take x.1) = some x.2) (b0 + 16) (fun x => [(0, .str s), (3, .int .i64 x.2), (4, .int .i64 x.1)]) (fun x => []) ((0, 0)) [] ?_ ?_ ?_ ?_; rotate_left 1; (focus (show b0 ≤ _; omega)); (focus (refine ⟨?_, ?_⟩ <;> (try simp only [cans,vcs,Ka,Kb,Kc,Kd,Ke,Kf,Kg,Kh,Ki,Kj,Kk,Kl,Km,reduceCtorEq,reduceIte,Kn,Ko,Kp,Kq,Kr,Ks,tys,injs]) <;> (try omega))); rotate_left 1)
  · exact ⟨Nat.zero_le _, rfl⟩
  · rintro ⟨k, m⟩ ⟨hk, hv⟩
    simp only at hk hv
    have hmb := (decV_le _ _ _ hv).2
    have hkl : (s.take k).length = k := by rw [List.length_take]; omega
    rw [hkl] at hmb
    have hp16 : (10 : Nat) ^ k ≤ 10 ^ 16 := Nat.pow_le_pow_right (by omega) (by omega)
    have hm16 : m < 10000000000000000 := by simp only [Nat.zero_add,Nat.one_mul] at hmb; exact Nat.lt_of_lt_of_le hmb hp16
    by_cases hlt : k < s.length
    · obtain ⟨c, hc⟩ : ∃ c, s[k]? = some c := ⟨_, List.getElem?_eq_getElem hlt⟩
      have hd : decide (k < s.length) = true := decide_eq_true hlt
      have hwk : IntKind.i64.wrap ((k : Int) + 1) = ((k + 1 : Nat) : Int) := wrap_in (by omega) (by omega)
      have hcn : c.toNat < 256 := c.toNat_lt
      have hw1 : IntKind.i64.wrap (c.toNat : Int) = (c.toNat : Int) := wrap_in (by omega) (by omega)
      have hnx := decV_take hc
      rw [hv] at hnx
      simp only [Option.bind_some] at hnx
      cases hdc : decD c with
      | none =>
        have hno : decV 0 s = none := by
          rw [hdc] at hnx
          rw [← List.take_append_drop (k + 1) s]
          exact decV_none hnx
        have hr := valI_none hno
        have hcs : decide ((c.toNat : Int) < 48) = true ∨ (decide ((c.toNat : Int) < 48) = false ∧ decide ((57 : Int) < (c.toNat : Int)) = true) := by
          by_cases h1 : (c.toNat : Int) < 48
          · exact .inl (decide_eq_true h1)
          · refine .inr ⟨decide_eq_false h1, decide_eq_true ?_⟩
            unfold decD at hdc
            split at hdc
            · cases hdc
            · omega
        rcases hcs with h1 | ⟨h1, h2⟩
        · (repeat' first | simp only [fins,mems,Tryz.results125,Tryz.ntmps125,Kt,wks,hc,hd,hlt,hw1,h1,hr,vcs,Ka,Kb,Kc,Kd,Ke,Kf,Kg,Kh,Ki,Kj,Kk,Kl,Km,reduceCtorEq,reduceIte,Kn,Ko,Kp,Kq,Kr,Ks,tys] | exact rfl | refine call_off (v := .any) ?_ | ((first | apply cond_bool | apply cond_bit) <;> intro hb) | refine And.intro (by omega) ?_ | refine And.intro (fun hb => ?_) (fun hb => ?_) | refine Fin.pure ?_ ?_ ?_ | simp only [injs])
        · (repeat' first | simp only [fins,mems,Tryz.results125,Tryz.ntmps125,Kt,wks,hc,hd,hlt,hw1,h1,h2,hr,vcs,Ka,Kb,Kc,Kd,Ke,Kf,Kg,Kh,Ki,Kj,Kk,Kl,Km,reduceCtorEq,reduceIte,Kn,Ko,Kp,Kq,Kr,Ks,tys] | exact rfl | refine call_off (v := .any) ?_ | ((first | apply cond_bool | apply cond_bit) <;> intro hb) | refine And.intro (by omega) ?_ | refine And.intro (fun hb => ?_) (fun hb => ?_) | refine Fin.pure ?_ ?_ ?_ | simp only [injs])
      | some d =>
        obtain ⟨d9, _, hcd⟩ := decD_range hdc
        rw [hdc] at hnx
        have h1 : decide ((c.toNat : Int) < 48) = false := decide_eq_false (by omega)
        have h2 : decide ((57 : Int) < (c.toNat : Int)) = false := decide_eq_false (by omega)
        have hw3 : IntKind.i64.wrap (10 * (m : Int)) = 10 * (m : Int) := wrap_in (by omega) (by omega)
        have hw5 : IntKind.i64.wrap (10 * (m : Int) + (c.toNat : Int)) = 10 * (m : Int) + (c.toNat : Int) := wrap_in (by omega) (by omega)
        have hw4 : IntKind.i64.wrap (10 * (m : Int) + (c.toNat : Int) - 48) = ((10 * m + d : Nat) : Int) := by rw [wrap_in (by omega) (by omega)]; omega
        repeat' first | simp only [fins,mems,Tryz.results125,Tryz.ntmps125,Kt,wks,hc,hd,hlt,hw1,hw3,hw4,hw5,h1,h2,vcs,Ka,Kb,Kc,Kd,Ke,Kf,Kg,Kh,Ki,Kj,Kk,Kl,Km,reduceCtorEq,reduceIte,Kn,Ko,Kp,Kq,Kr,Ks,tys] | exact rfl | refine call_off (v := .any) ?_ | ((first | apply cond_bool | apply cond_bit) <;> intro hb) | refine And.intro (by omega) ?_ | refine And.intro (fun hb => ?_) (fun hb => ?_)
        all_goals ((refine again_can2 cxG ((k + 1, 10 * m + d)) [] ?_ ?_ ?_ ?_; rotate_left 2; (focus (show b0 ≤ _; omega)); (focus (refine ⟨?_, ?_⟩ <;> (try simp only [cans,hwk,hw4,vcs,Ka,Kb,Kc,Kd,Ke,Kf,Kg,Kh,Ki,Kj,Kk,Kl,Km,reduceCtorEq,reduceIte,Kn,Ko,Kp,Kq,Kr,Ks,tys,injs]) <;> (try omega)))))
        all_goals (first | (show s.length - (k + 1) < s.length - k; omega) | exact ⟨hlt, hnx⟩ | skip)
    · have hke : k = s.length := by omega
      subst hke
      rw [List.take_length] at hv
      have hr := valI_some hv
      have hd : decide (s.length < s.length) = false := decide_eq_false (by omega)
      (repeat' first | simp only [fins,mems,Tryz.results125,Tryz.ntmps125,Kt,wks,hd,hr,vcs,Ka,Kb,Kc,Kd,Ke,Kf,Kg,Kh,Ki,Kj,Kk,Kl,Km,reduceCtorEq,reduceIte,Kn,Ko,Kp,Kq,Kr,Ks,tys] | exact rfl | refine call_off (v := .any) ?_ | ((first | apply cond_bool | apply cond_bit) <;> intro hb) | refine And.intro (by omega) ?_ | refine And.intro (fun hb => ?_) (fun hb => ?_) | refine Fin.pure ?_ ?_ ?_ | simp only [injs])
theorem rNumRead_ev (s : List UInt8) (hs : s.length ≤ lim) (nm : Nat) : Ev cx 113 nm [.str s] Mem.nil (readE s) [] := by
  by_cases h0 : s = []
  · have hr := readE_none (s := s) (by unfold decL; rw [if_pos (.inl h0)])
    subst h0
    have hd : decide ((0 : Int) < 1) = true := rfl
    refine ev_go rfl (fun cargs w => Tryz.call113 cargs w) Tryz.func113 rfl mixed (by kernel_rfl) rfl ?_; intro b0 hb0
    (repeat' first | simp only [fins,mems,Tryz.results113,Tryz.ntmps113,Kt,wks,hr,hd,vcs,Ka,Kb,Kc,Kd,Ke,Kf,Kg,Kh,Ki,Kj,Kk,Kl,Km,reduceCtorEq,reduceIte,Kn,Ko,Kp,Kq,Kr,Ks,tys] | exact rfl | refine call_off (v := .any) ?_ | ((first | apply cond_bool | apply cond_bit) <;> intro hb) | refine And.intro (by omega) ?_ | refine And.intro (fun hb => ?_) (fun hb => ?_) | refine Fin.pure ?_ ?_ ?_ | simp only [injs])
  have hlp : 0 < s.length := List.length_pos_iff.2 h0
  have hd : decide ((s.length : Int) < 1) = false := decide_eq_false (by omega)
  by_cases h16 : 16 < s.length
  · have hr := readE_none (s := s) (by unfold decL; rw [if_pos (.inr (.inl h16))])
    have hd2 : decide ((16 : Int) < (s.length : Int)) = true := decide_eq_true (by omega)
    refine ev_go rfl (fun cargs w => Tryz.call113 cargs w) Tryz.func113 rfl mixed (by kernel_rfl) rfl ?_; intro b0 hb0
    (repeat' first | simp only [fins,mems,Tryz.results113,Tryz.ntmps113,Kt,wks,hr,hd,hd2,vcs,Ka,Kb,Kc,Kd,Ke,Kf,Kg,Kh,Ki,Kj,Kk,Kl,Km,reduceCtorEq,reduceIte,Kn,Ko,Kp,Kq,Kr,Ks,tys] | exact rfl | refine call_off (v := .any) ?_ | ((first | apply cond_bool | apply cond_bit) <;> intro hb) | refine And.intro (by omega) ?_ | refine And.intro (fun hb => ?_) (fun hb => ?_) | refine Fin.pure ?_ ?_ ?_ | simp only [injs])
  have hd2 : decide ((16 : Int) < (s.length : Int)) = false := decide_eq_false (by omega)
  have hv := r6Value_ev s (by omega)
  cases hdv : decV 0 s with
  | none =>
    have hr := readE_none (s := s) (by unfold decL; split <;> simp [hdv])
    rw [valI_none hdv] at hv
    refine ev_go rfl (fun cargs w => Tryz.call113 cargs w) Tryz.func113 rfl mixed (by kernel_rfl) rfl ?_; intro b0 hb0
    (repeat' first | simp only [fins,mems,Tryz.results113,Tryz.ntmps113,Kt,wks,hr,hd,hd2,vcs,Ka,Kb,Kc,Kd,Ke,Kf,Kg,Kh,Ki,Kj,Kk,Kl,Km,reduceCtorEq,reduceIte,Kn,Ko,Kp,Kq,Kr,Ks,tys] | exact rfl | refine call_off (v := .any) ?_ | (first | (refine call_fn ?_ (hv _) ?_) | (refine call_fn_g ?_ (fun _ => hv _) ?_)) | (refine call_off (v := .any) ?_) | ((first | apply cond_bool | apply cond_bit) <;> intro hb) | refine And.intro (by omega) ?_ | refine And.intro (fun hb => ?_) (fun hb => ?_) | refine Fin.pure ?_ ?_ ?_ | simp only [injs])
  | some n =>
    rw [valI_some hdv] at hv
    have hnb := (decV_le _ _ _ hdv).2
    have hp16 : (10 : Nat) ^ s.length ≤ 10 ^ 16 := Nat.pow_le_pow_right (by omega) (by omega)
    have hn16 : n < 10000000000000000 := by simp only [Nat.zero_add,Nat.one_mul] at hnb; exact Nat.lt_of_lt_of_le hnb hp16
    have hd3 : decide ((n : Int) < 0) = false := decide_eq_false (by omega)
    have hdg := rDigits_ev n (by have : (10 : Nat) ^ 17 = 100000000000000000 := rfl; omega)
    by_cases hmx : n ≤ 9007199254740991
    · have hd4 : decide ((9007199254740991 : Int) < (n : Int)) = false := decide_eq_false (by omega)
      by_cases he : digitsL n = s
      · have hs2 := (digits_dec _ s n (Nat.le_refl _) h0 hdv).1 he
        have hr := readE_some (s := s) (n := n) (by
          unfold decL
          rw [if_neg, hdv]
          · simp [hmx]
          · rintro (h | h | ⟨h, h'⟩)
            · exact h0 h
            · exact h16 h
            · rcases hs2 with h3 | h3
              · exact h3 h
              · exact h' h3)
        rw [he] at hdg
        have hq : (s != s) = false := by simp
        have hq' : (!(s == s)) = false := by simp
        refine ev_go rfl (fun cargs w => Tryz.call113 cargs w) Tryz.func113 rfl mixed (by kernel_rfl) rfl ?_; intro b0 hb0
        (repeat' first | simp only [fins,mems,Tryz.results113,Tryz.ntmps113,Kt,wks,hr,hd,hd2,hd3,hd4,hq,hq',vcs,Ka,Kb,Kc,Kd,Ke,Kf,Kg,Kh,Ki,Kj,Kk,Kl,Km,reduceCtorEq,reduceIte,Kn,Ko,Kp,Kq,Kr,Ks,tys] | exact rfl | refine call_off (v := .any) ?_ | (first | (refine call_fn ?_ (hv _) ?_) | (refine call_fn_g ?_ (fun _ => hv _) ?_) | (refine call_fn ?_ (hdg _) ?_) | (refine call_fn_g ?_ (fun _ => hdg _) ?_)) | ((first | apply cond_bool | apply cond_bit) <;> intro hb) | refine And.intro (by omega) ?_ | refine And.intro (fun hb => ?_) (fun hb => ?_) | refine Fin.pure ?_ ?_ ?_ | simp only [injs])
      · have hr := readE_none (s := s) (by
          unfold decL
          rw [if_pos]
          refine .inr (.inr ?_)
          have := mt (digits_dec _ s n (Nat.le_refl _) h0 hdv).2 he
          simp only [not_or,ne_eq,Decidable.not_not] at this
          exact this)
        have hq' : (!(digitsL n == s)) = true := by rw [beq_false_of_ne he]; rfl
        refine ev_go rfl (fun cargs w => Tryz.call113 cargs w) Tryz.func113 rfl mixed (by kernel_rfl) rfl ?_; intro b0 hb0
        (repeat' first | simp only [fins,mems,Tryz.results113,Tryz.ntmps113,Kt,wks,hr,hd,hd2,hd3,hd4,hq',vcs,Ka,Kb,Kc,Kd,Ke,Kf,Kg,Kh,Ki,Kj,Kk,Kl,Km,reduceCtorEq,reduceIte,Kn,Ko,Kp,Kq,Kr,Ks,tys] | exact rfl | refine call_off (v := .any) ?_ | (first | (refine call_fn ?_ (hv _) ?_) | (refine call_fn_g ?_ (fun _ => hv _) ?_) | (refine call_fn ?_ (hdg _) ?_) | (refine call_fn_g ?_ (fun _ => hdg _) ?_)) | ((first | apply cond_bool | apply cond_bit) <;> intro hb) | refine And.intro (by omega) ?_ | refine And.intro (fun hb => ?_) (fun hb => ?_) | refine Fin.pure ?_ ?_ ?_ | simp only [injs])
    · have hd4 : decide ((9007199254740991 : Int) < (n : Int)) = true := decide_eq_true (by omega)
      have hr := readE_none (s := s) (by unfold decL; split <;> simp [hdv,hmx])
      refine ev_go rfl (fun cargs w => Tryz.call113 cargs w) Tryz.func113 rfl mixed (by kernel_rfl) rfl ?_; intro b0 hb0
      (repeat' first | simp only [fins,mems,Tryz.results113,Tryz.ntmps113,Kt,wks,hr,hd,hd2,hd3,hd4,vcs,Ka,Kb,Kc,Kd,Ke,Kf,Kg,Kh,Ki,Kj,Kk,Kl,Km,reduceCtorEq,reduceIte,Kn,Ko,Kp,Kq,Kr,Ks,tys] | exact rfl | refine call_off (v := .any) ?_ | (first | (refine call_fn ?_ (hv _) ?_) | (refine call_fn_g ?_ (fun _ => hv _) ?_)) | (refine call_off (v := .any) ?_) | ((first | apply cond_bool | apply cond_bit) <;> intro hb) | refine And.intro (by omega) ?_ | refine And.intro (fun hb => ?_) (fun hb => ?_) | refine Fin.pure ?_ ?_ ?_ | simp only [injs])
def numI (o : Option Nat) : Int := match o with | some n => n | none => -1
theorem numI_none : numI none = -1 := rfl
theorem numI_some (n : Nat) : numI (some n) = n := rfl
theorem hexD_cases {c : UInt8} {d : Nat} (h : hexD c = some d) : (48 ≤ c.toNat ∧ c.toNat ≤ 57 ∧ d = c.toNat - 48) ∨ (97 ≤ c.toNat ∧ c.toNat ≤ 102 ∧ d = c.toNat - 87) ∨ (65 ≤ c.toNat ∧ c.toNat ≤ 70 ∧ d = c.toNat - 55) := by
  unfold hexD at h
  split at h
  · rename_i h1; cases h; exact .inl ⟨h1.1, h1.2, rfl⟩
  · split at h
    · rename_i h1; cases h; exact .inr (.inl ⟨h1.1, h1.2, rfl⟩)
    · split at h
      · rename_i h1; cases h; exact .inr (.inr ⟨h1.1, h1.2, rfl⟩)
      · cases h
theorem hexD_no {c : UInt8} (h : hexD c = none) : ¬ (48 ≤ c.toNat ∧ c.toNat ≤ 57) ∧ ¬ (97 ≤ c.toNat ∧ c.toNat ≤ 102) ∧ ¬ (65 ≤ c.toNat ∧ c.toNat ≤ 70) := by
  unfold hexD at h
  split at h
  · cases h
  · split at h
    · cases h
    · split at h
      · cases h
      · exact ⟨by assumption, by assumption, by assumption⟩
theorem rHex_ev (s : List UInt8) (hs : s.length ≤ lim) (nm : Nat) : Ev cx 112 nm [.str s] Mem.nil (.int .i64 (numI (hexL s))) [] := by
  by_cases h0 : s = []
  · have hn : hexL s = none := by unfold hexL; rw [if_pos (.inl h0)]
    rw [hn, numI_none]
    subst h0
    have hd : decide ((0 : Int) < 1) = true := rfl
    refine ev_go rfl (fun cargs w => Tryz.call112 cargs w) Tryz.func112 rfl mixed (by kernel_rfl) rfl ?_; intro b0 hb0
    (repeat' first | simp only [fins,mems,Tryz.results112,Tryz.ntmps112,Kt,wks,hd,vcs,Ka,Kb,Kc,Kd,Ke,Kf,Kg,Kh,Ki,Kj,Kk,Kl,Km,reduceCtorEq,reduceIte,Kn,Ko,Kp,Kq,Kr,Ks,tys] | exact rfl | refine call_off (v := .any) ?_ | ((first | apply cond_bool | apply cond_bit) <;> intro hb) | refine And.intro (by omega) ?_ | refine And.intro (fun hb => ?_) (fun hb => ?_) | refine Fin.pure ?_ ?_ ?_ | simp only [injs])
  have hlp : 0 < s.length := List.length_pos_iff.2 h0
  have hd : decide ((s.length : Int) < 1) = false := decide_eq_false (by omega)
  by_cases h6 : 6 < s.length
  · have hn : hexL s = none := by unfold hexL; rw [if_pos (.inr (.inl h6))]
    have e1 : decide ((6 : Int) < (s.length : Int)) = true := decide_eq_true (by omega)
    rw [hn, numI_none]
    refine ev_go rfl (fun cargs w => Tryz.call112 cargs w) Tryz.func112 rfl mixed (by kernel_rfl) rfl ?_; intro b0 hb0
    (repeat' first | simp only [fins,mems,Tryz.results112,Tryz.ntmps112,Kt,wks,hd,e1,vcs,Ka,Kb,Kc,Kd,Ke,Kf,Kg,Kh,Ki,Kj,Kk,Kl,Km,reduceCtorEq,reduceIte,Kn,Ko,Kp,Kq,Kr,Ks,tys] | exact rfl | refine call_off (v := .any) ?_ | ((first | apply cond_bool | apply cond_bit) <;> intro hb) | refine And.intro (by omega) ?_ | refine And.intro (fun hb => ?_) (fun hb => ?_) | refine Fin.pure ?_ ?_ ?_ | simp only [injs])
  have e1 : decide ((6 : Int) < (s.length : Int)) = false := decide_eq_false (by omega)
  obtain ⟨c0, hc0⟩ : ∃ c, s[0]? = some c := ⟨_, List.getElem?_eq_getElem hlp⟩
  have e2 : ((c0.toNat : Int) == 48) = decide (c0 = 48) := beq_byte c0 48
  by_cases h48 : c0 = 48
  · have hn : hexL s = none := by unfold hexL; rw [if_pos (.inr (.inr (by rw [List.head?_eq_getElem?, hc0, h48])))]
    rw [decide_eq_true h48] at e2
    rw [hn, numI_none]
    refine ev_go rfl (fun cargs w => Tryz.call112 cargs w) Tryz.func112 rfl mixed (by kernel_rfl) rfl ?_; intro b0 hb0
    (repeat' first | simp only [fins,mems,Tryz.results112,Tryz.ntmps112,Kt,wks,hd,e1,e2,hc0,hlp,vcs,Ka,Kb,Kc,Kd,Ke,Kf,Kg,Kh,Ki,Kj,Kk,Kl,Km,reduceCtorEq,reduceIte,Kn,Ko,Kp,Kq,Kr,Ks,tys] | exact rfl | refine call_off (v := .any) ?_ | ((first | apply cond_bool | apply cond_bit) <;> intro hb) | refine And.intro (by omega) ?_ | refine And.intro (fun hb => ?_) (fun hb => ?_) | refine Fin.pure ?_ ?_ ?_ | simp only [injs])
  rw [decide_eq_false h48] at e2
  have hL : hexL s = hexV 0 s := by
    unfold hexL; rw [if_neg]
    rintro (h | h | h)
    · exact h0 h
    · exact h6 h
    · rw [List.head?_eq_getElem?, hc0] at h; cases h; exact h48 rfl
  rw [hL]
  refine ev_go rfl (fun cargs w => Tryz.call112 cargs w) Tryz.func112 rfl mixed (by kernel_rfl) rfl ?_; intro b0 hb0
  repeat' first | simp only [fins,mems,Tryz.results112,Tryz.ntmps112,Kt,wks,hd,e1,e2,hc0,hlp,vcs,Ka,Kb,Kc,Kd,Ke,Kf,Kg,Kh,Ki,Kj,Kk,Kl,Km,reduceCtorEq,reduceIte,Kn,Ko,Kp,Kq,Kr,Ks,tys] | exact rfl | refine call_off (v := .any) ?_ | ((first | apply cond_bool | apply cond_bit) <;> intro hb) | refine And.intro (by omega) ?_ | refine And.intro (fun hb => ?_) (fun hb => ?_)
  (refine loop_can2 cxG (fun x : Nat × Nat => s.length - x.1) (fun x => x.1 ≤ s.length ∧ hexV 0 (s.take x.1) = some x.2) (b0 + 16) (fun x => [(0, .str s), (3, .int .i64 x.2), (4, .int .i64 x.1)]) (fun x => []) ((0, 0)) [] ?_ ?_ ?_ ?_; rotate_left 1; (focus (show b0 ≤ _; omega)); (focus (refine ⟨?_, ?_⟩ <;> (try simp only [cans,show hexV 0 [] = some 0 from rfl,vcs,Ka,Kb,Kc,Kd,Ke,Kf,Kg,Kh,Ki,Kj,Kk,Kl,Km,reduceCtorEq,reduceIte,Kn,Ko,Kp,Kq,Kr,Ks,tys,injs]) <;> (try omega))); rotate_left 1)
  · exact ⟨Nat.zero_le _, rfl⟩
  · rintro ⟨k, m⟩ ⟨hk, hm⟩
    simp only at hk hm
    have hmb := hexV_lt _ _ _ hm
    have hkl : (s.take k).length = k := by rw [List.length_take]; omega
    rw [hkl] at hmb
    have hp6 : (16 : Nat) ^ k ≤ 16 ^ 6 := Nat.pow_le_pow_right (by omega) (by omega)
    have hm6 : m < 16777216 := by simp only [Nat.zero_add,Nat.one_mul] at hmb; exact Nat.lt_of_lt_of_le hmb hp6
    by_cases hlt : k < s.length
    · obtain ⟨c, hc⟩ : ∃ c, s[k]? = some c := ⟨_, List.getElem?_eq_getElem hlt⟩
      have hdk : decide (k < s.length) = true := decide_eq_true hlt
      have hwk : IntKind.i64.wrap ((k : Int) + 1) = ((k + 1 : Nat) : Int) := wrap_in (by omega) (by omega)
      have hcn : c.toNat < 256 := c.toNat_lt
      have hw1 : IntKind.i64.wrap (c.toNat : Int) = (c.toNat : Int) := wrap_in (by omega) (by omega)
      have hw2 : IntKind.i64.wrap (16 * (m : Int)) = 16 * (m : Int) := wrap_in (by omega) (by omega)
      have hw3 : IntKind.i64.wrap (16 * (m : Int) + (c.toNat : Int)) = 16 * (m : Int) + (c.toNat : Int) := wrap_in (by omega) (by omega)
      have hnx := hexV_take hc
      rw [hm] at hnx
      simp only [Option.bind_some] at hnx
      cases hdc : hexD c with
      | none =>
        have hno : hexV 0 s = none := by
          rw [hdc] at hnx
          rw [← List.take_append_drop (k + 1) s]; exact hexV_none hnx
        rw [hno, numI_none]
        obtain ⟨n1, n2, n3⟩ := hexD_no hdc
        have a1 : decide ((48 : Int) ≤ (c.toNat : Int)) = false ∨ (decide ((48 : Int) ≤ (c.toNat : Int)) = true ∧ decide ((c.toNat : Int) ≤ 57) = false) := by
          by_cases h : 48 ≤ c.toNat
          · exact .inr ⟨decide_eq_true (by omega), decide_eq_false (by omega)⟩
          · exact .inl (decide_eq_false (by omega))
        have a2 : decide ((97 : Int) ≤ (c.toNat : Int)) = false ∨ (decide ((97 : Int) ≤ (c.toNat : Int)) = true ∧ decide ((c.toNat : Int) ≤ 102) = false) := by
          by_cases h : 97 ≤ c.toNat
          · exact .inr ⟨decide_eq_true (by omega), decide_eq_false (by omega)⟩
          · exact .inl (decide_eq_false (by omega))
        have a3 : decide ((65 : Int) ≤ (c.toNat : Int)) = false ∨ (decide ((65 : Int) ≤ (c.toNat : Int)) = true ∧ decide ((c.toNat : Int) ≤ 70) = false) := by
          by_cases h : 65 ≤ c.toNat
          · exact .inr ⟨decide_eq_true (by omega), decide_eq_false (by omega)⟩
          · exact .inl (decide_eq_false (by omega))
        rcases a1 with x1 | ⟨x1, x2⟩ <;> rcases a2 with y1 | ⟨y1, y2⟩ <;> rcases a3 with z1 | ⟨z1, z2⟩
        · (repeat' first | simp only [fins,mems,Tryz.results112,Tryz.ntmps112,Kt,wks,hc,hdk,hlt,hw1,x1,y1,z1,vcs,Ka,Kb,Kc,Kd,Ke,Kf,Kg,Kh,Ki,Kj,Kk,Kl,Km,reduceCtorEq,reduceIte,Kn,Ko,Kp,Kq,Kr,Ks,tys] | exact rfl | refine call_off (v := .any) ?_ | ((first | apply cond_bool | apply cond_bit) <;> intro hb) | refine And.intro (by omega) ?_ | refine And.intro (fun hb => ?_) (fun hb => ?_) | refine Fin.pure ?_ ?_ ?_ | simp only [injs])
        · (repeat' first | simp only [fins,mems,Tryz.results112,Tryz.ntmps112,Kt,wks,hc,hdk,hlt,hw1,x1,y1,z1,z2,vcs,Ka,Kb,Kc,Kd,Ke,Kf,Kg,Kh,Ki,Kj,Kk,Kl,Km,reduceCtorEq,reduceIte,Kn,Ko,Kp,Kq,Kr,Ks,tys] | exact rfl | refine call_off (v := .any) ?_ | ((first | apply cond_bool | apply cond_bit) <;> intro hb) | refine And.intro (by omega) ?_ | refine And.intro (fun hb => ?_) (fun hb => ?_) | refine Fin.pure ?_ ?_ ?_ | simp only [injs])
        · (repeat' first | simp only [fins,mems,Tryz.results112,Tryz.ntmps112,Kt,wks,hc,hdk,hlt,hw1,x1,y1,y2,z1,vcs,Ka,Kb,Kc,Kd,Ke,Kf,Kg,Kh,Ki,Kj,Kk,Kl,Km,reduceCtorEq,reduceIte,Kn,Ko,Kp,Kq,Kr,Ks,tys] | exact rfl | refine call_off (v := .any) ?_ | ((first | apply cond_bool | apply cond_bit) <;> intro hb) | refine And.intro (by omega) ?_ | refine And.intro (fun hb => ?_) (fun hb => ?_) | refine Fin.pure ?_ ?_ ?_ | simp only [injs])
        · (repeat' first | simp only [fins,mems,Tryz.results112,Tryz.ntmps112,Kt,wks,hc,hdk,hlt,hw1,x1,y1,y2,z1,z2,vcs,Ka,Kb,Kc,Kd,Ke,Kf,Kg,Kh,Ki,Kj,Kk,Kl,Km,reduceCtorEq,reduceIte,Kn,Ko,Kp,Kq,Kr,Ks,tys] | exact rfl | refine call_off (v := .any) ?_ | ((first | apply cond_bool | apply cond_bit) <;> intro hb) | refine And.intro (by omega) ?_ | refine And.intro (fun hb => ?_) (fun hb => ?_) | refine Fin.pure ?_ ?_ ?_ | simp only [injs])
        · (repeat' first | simp only [fins,mems,Tryz.results112,Tryz.ntmps112,Kt,wks,hc,hdk,hlt,hw1,x1,x2,y1,z1,vcs,Ka,Kb,Kc,Kd,Ke,Kf,Kg,Kh,Ki,Kj,Kk,Kl,Km,reduceCtorEq,reduceIte,Kn,Ko,Kp,Kq,Kr,Ks,tys] | exact rfl | refine call_off (v := .any) ?_ | ((first | apply cond_bool | apply cond_bit) <;> intro hb) | refine And.intro (by omega) ?_ | refine And.intro (fun hb => ?_) (fun hb => ?_) | refine Fin.pure ?_ ?_ ?_ | simp only [injs])
        · (repeat' first | simp only [fins,mems,Tryz.results112,Tryz.ntmps112,Kt,wks,hc,hdk,hlt,hw1,x1,x2,y1,z1,z2,vcs,Ka,Kb,Kc,Kd,Ke,Kf,Kg,Kh,Ki,Kj,Kk,Kl,Km,reduceCtorEq,reduceIte,Kn,Ko,Kp,Kq,Kr,Ks,tys] | exact rfl | refine call_off (v := .any) ?_ | ((first | apply cond_bool | apply cond_bit) <;> intro hb) | refine And.intro (by omega) ?_ | refine And.intro (fun hb => ?_) (fun hb => ?_) | refine Fin.pure ?_ ?_ ?_ | simp only [injs])
        · (repeat' first | simp only [fins,mems,Tryz.results112,Tryz.ntmps112,Kt,wks,hc,hdk,hlt,hw1,x1,x2,y1,y2,z1,vcs,Ka,Kb,Kc,Kd,Ke,Kf,Kg,Kh,Ki,Kj,Kk,Kl,Km,reduceCtorEq,reduceIte,Kn,Ko,Kp,Kq,Kr,Ks,tys] | exact rfl | refine call_off (v := .any) ?_ | ((first | apply cond_bool | apply cond_bit) <;> intro hb) | refine And.intro (by omega) ?_ | refine And.intro (fun hb => ?_) (fun hb => ?_) | refine Fin.pure ?_ ?_ ?_ | simp only [injs])
        · (repeat' first | simp only [fins,mems,Tryz.results112,Tryz.ntmps112,Kt,wks,hc,hdk,hlt,hw1,x1,x2,y1,y2,z1,z2,vcs,Ka,Kb,Kc,Kd,Ke,Kf,Kg,Kh,Ki,Kj,Kk,Kl,Km,reduceCtorEq,reduceIte,Kn,Ko,Kp,Kq,Kr,Ks,tys] | exact rfl | refine call_off (v := .any) ?_ | ((first | apply cond_bool | apply cond_bit) <;> intro hb) | refine And.intro (by omega) ?_ | refine And.intro (fun hb => ?_) (fun hb => ?_) | refine Fin.pure ?_ ?_ ?_ | simp only [injs])
      | some d =>
        rw [hdc] at hnx
        have hdl := hexD_lt hdc
        rcases hexD_cases hdc with ⟨h1, h2, h3⟩ | ⟨h1, h2, h3⟩ | ⟨h1, h2, h3⟩
        · have x1 : decide ((48 : Int) ≤ (c.toNat : Int)) = true := decide_eq_true (by omega)
          have x2 : decide ((c.toNat : Int) ≤ 57) = true := decide_eq_true (by omega)
          have hw4 : IntKind.i64.wrap (16 * (m : Int) + (c.toNat : Int) - 48) = ((16 * m + d : Nat) : Int) := by rw [wrap_in (by omega) (by omega)]; omega
          repeat' first | simp only [fins,mems,Tryz.results112,Tryz.ntmps112,Kt,wks,hc,hdk,hlt,hw1,hw2,hw3,hw4,x1,x2,vcs,Ka,Kb,Kc,Kd,Ke,Kf,Kg,Kh,Ki,Kj,Kk,Kl,Km,reduceCtorEq,reduceIte,Kn,Ko,Kp,Kq,Kr,Ks,tys] | exact rfl | refine call_off (v := .any) ?_ | ((first | apply cond_bool | apply cond_bit) <;> intro hb) | refine And.intro (by omega) ?_ | refine And.intro (fun hb => ?_) (fun hb => ?_)
          all_goals ((refine again_can2 cxG ((k + 1, 16 * m + d)) [] ?_ ?_ ?_ ?_; rotate_left 2; (focus (show b0 ≤ _; omega)); (focus (refine ⟨?_, ?_⟩ <;> (try simp only [cans,hwk,vcs,Ka,Kb,Kc,Kd,Ke,Kf,Kg,Kh,Ki,Kj,Kk,Kl,Km,reduceCtorEq,reduceIte,Kn,Ko,Kp,Kq,Kr,Ks,tys,injs]) <;> (try omega)))))
          all_goals (first | (show s.length - (k + 1) < s.length - k; omega) | exact ⟨hlt, hnx⟩ | skip)
        · have x1 : decide ((48 : Int) ≤ (c.toNat : Int)) = true := decide_eq_true (by omega)
          have x2 : decide ((c.toNat : Int) ≤ 57) = false := decide_eq_false (by omega)
          have y1 : decide ((97 : Int) ≤ (c.toNat : Int)) = true := decide_eq_true (by omega)
          have y2 : decide ((c.toNat : Int) ≤ 102) = true := decide_eq_true (by omega)
          have hw4 : IntKind.i64.wrap (16 * (m : Int) + (c.toNat : Int) - 87) = ((16 * m + d : Nat) : Int) := by rw [wrap_in (by omega) (by omega)]; omega
          repeat' first | simp only [fins,mems,Tryz.results112,Tryz.ntmps112,Kt,wks,hc,hdk,hlt,hw1,hw2,hw3,hw4,x1,x2,y1,y2,vcs,Ka,Kb,Kc,Kd,Ke,Kf,Kg,Kh,Ki,Kj,Kk,Kl,Km,reduceCtorEq,reduceIte,Kn,Ko,Kp,Kq,Kr,Ks,tys] | exact rfl | refine call_off (v := .any) ?_ | ((first | apply cond_bool | apply cond_bit) <;> intro hb) | refine And.intro (by omega) ?_ | refine And.intro (fun hb => ?_) (fun hb => ?_)
          all_goals ((refine again_can2 cxG ((k + 1, 16 * m + d)) [] ?_ ?_ ?_ ?_; rotate_left 2; (focus (show b0 ≤ _; omega)); (focus (refine ⟨?_, ?_⟩ <;> (try simp only [cans,hwk,vcs,Ka,Kb,Kc,Kd,Ke,Kf,Kg,Kh,Ki,Kj,Kk,Kl,Km,reduceCtorEq,reduceIte,Kn,Ko,Kp,Kq,Kr,Ks,tys,injs]) <;> (try omega)))))
          all_goals (first | (show s.length - (k + 1) < s.length - k; omega) | exact ⟨hlt, hnx⟩ | skip)
        · have x1 : decide ((48 : Int) ≤ (c.toNat : Int)) = true := decide_eq_true (by omega)
          have x2 : decide ((c.toNat : Int) ≤ 57) = false := decide_eq_false (by omega)
          have y1 : decide ((97 : Int) ≤ (c.toNat : Int)) = false := decide_eq_false (by omega)
          have z1 : decide ((65 : Int) ≤ (c.toNat : Int)) = true := decide_eq_true (by omega)
          have z2 : decide ((c.toNat : Int) ≤ 70) = true := decide_eq_true (by omega)
          have hw4 : IntKind.i64.wrap (16 * (m : Int) + (c.toNat : Int) - 55) = ((16 * m + d : Nat) : Int) := by rw [wrap_in (by omega) (by omega)]; omega
          repeat' first | simp only [fins,mems,Tryz.results112,Tryz.ntmps112,Kt,wks,hc,hdk,hlt,hw1,hw2,hw3,hw4,x1,x2,y1,z1,z2,vcs,Ka,Kb,Kc,Kd,Ke,Kf,Kg,Kh,Ki,Kj,Kk,Kl,Km,reduceCtorEq,reduceIte,Kn,Ko,Kp,Kq,Kr,Ks,tys] | exact rfl | refine call_off (v := .any) ?_ | ((first | apply cond_bool | apply cond_bit) <;> intro hb) | refine And.intro (by omega) ?_ | refine And.intro (fun hb => ?_) (fun hb => ?_)
          all_goals ((refine again_can2 cxG ((k + 1, 16 * m + d)) [] ?_ ?_ ?_ ?_; rotate_left 2; (focus (show b0 ≤ _; omega)); (focus (refine ⟨?_, ?_⟩ <;> (try simp only [cans,hwk,vcs,Ka,Kb,Kc,Kd,Ke,Kf,Kg,Kh,Ki,Kj,Kk,Kl,Km,reduceCtorEq,reduceIte,Kn,Ko,Kp,Kq,Kr,Ks,tys,injs]) <;> (try omega)))))
          all_goals (first | (show s.length - (k + 1) < s.length - k; omega) | exact ⟨hlt, hnx⟩ | skip)
    · have hke : k = s.length := by omega
      subst hke
      rw [List.take_length] at hm
      rw [hm, numI_some]
      have hdk : decide (s.length < s.length) = false := decide_eq_false (by omega)
      (repeat' first | simp only [fins,mems,Tryz.results112,Tryz.ntmps112,Kt,wks,hdk,vcs,Ka,Kb,Kc,Kd,Ke,Kf,Kg,Kh,Ki,Kj,Kk,Kl,Km,reduceCtorEq,reduceIte,Kn,Ko,Kp,Kq,Kr,Ks,tys] | exact rfl | refine call_off (v := .any) ?_ | ((first | apply cond_bool | apply cond_bit) <;> intro hb) | refine And.intro (by omega) ?_ | refine And.intro (fun hb => ?_) (fun hb => ?_) | refine Fin.pure ?_ ?_ ?_ | simp only [injs])
def tellV (o : Option (List UInt8)) : V := match o with | some x => .tup [.str x, .bool true] | none => .tup [.str [], .bool false]
theorem tellV_none : tellV none = .tup [.str [], .bool false] := rfl
theorem tellV_some (x : List UInt8) : tellV (some x) = .tup [.str x, .bool true] := rfl
def numO (s : List UInt8) : Option Nat := if s.head? = some 120 then hexL s.tail else decL s
theorem decL_le {s : List UInt8} {n : Nat} (h : decL s = some n) : n ≤ 9007199254740991 := by
  unfold decL at h
  split at h
  · cases h
  · obtain ⟨m, _, h2⟩ := Option.bind_eq_some_iff.1 h
    split at h2
    · cases h2; assumption
    · cases h2
theorem hexL_le {s : List UInt8} {n : Nat} (h : hexL s = some n) : n ≤ 9007199254740991 := by
  unfold hexL at h
  split at h
  · cases h
  · rename_i hh
    have h1 := hexV_lt s 0 n h
    have hp6 : (16 : Nat) ^ s.length ≤ 16 ^ 6 := Nat.pow_le_pow_right (by omega) (by simp only [not_or] at hh; omega)
    simp only [Nat.zero_add,Nat.one_mul] at h1
    have := Nat.lt_of_lt_of_le h1 hp6
    omega
theorem rNumber_ev (s : List UInt8) (hs : s.length ≤ lim) (nm : Nat) : Ev cx 89 nm [.str s] Mem.nil (tellV (pointW (numO s))) [] := by
  have rest : ∀ (o : Option Nat), (∀ n, o = some n → n ≤ 9007199254740991) → numO s = o → (o = none ∨ ∃ n : Nat, o = some n ∧ n ≤ 9007199254740991 ∧ (may (n : Int) = true ∨ may (n : Int) = false)) := fun o h _ => by
    cases o with
    | none => exact .inl rfl
    | some n => exact .inr ⟨n, rfl, h n rfl, by cases may (n : Int) <;> simp⟩
  by_cases h120 : s.head? = some 120
  · obtain ⟨t, rfl⟩ : ∃ t, s = 120 :: t := by
      cases s with
      | nil => cases h120
      | cons c t => cases h120; exact ⟨t, rfl⟩
    have hno : numO (120 :: t) = hexL t := by unfold numO; rw [if_pos h120]; rfl
    have hhx := rHex_ev t (by simp at hs; unfold lim at *; omega)
    have e0 : (!((120 :: t) == ([] : List UInt8))) = true := rfl
    have e0' : ((120 :: t) != ([] : List UInt8)) = true := rfl
    have hl0 : 0 < (120 :: t).length := by simp
    have hl1 : (1 : Int) ≤ ((120 :: t).length : Int) := by simp only [List.length_cons]; omega
    have hl2 : 1 ≤ (120 :: t).length := by simp
    simp only [List.length_cons] at hl0 hl1 hl2
    have e1 : (((120 : UInt8).toNat : Int) == 120) = true := rfl
    rw [hno]
    rcases rest _ (fun n hn => hexL_le hn) hno with hL | ⟨n, hL, hn, hm | hm⟩
    · rw [hL, numI_none] at hhx
      rw [hL, point_none, tellV_none]
      have d1 : decide ((-1 : Int) < 0) = true := rfl
      refine ev_go rfl (fun cargs w => Tryz.call89 cargs w) Tryz.func89 rfl mixed (by kernel_rfl) rfl ?_; intro b0 hb0
      (repeat' first | simp only [fins,mems,Tryz.results89,Tryz.ntmps89,Kt,wks,e0,e0',e1,hl0,hl1,hl2,d1,List.getElem?_cons_zero,List.drop_succ_cons,List.drop_zero,vcs,Ka,Kb,Kc,Kd,Ke,Kf,Kg,Kh,Ki,Kj,Kk,Kl,Km,reduceCtorEq,reduceIte,Kn,Ko,Kp,Kq,Kr,Ks,tys] | exact rfl | refine call_off (v := .any) ?_ | (first | (refine call_fn ?_ (hhx _) ?_) | (refine call_fn_g ?_ (fun _ => hhx _) ?_)) | (refine call_off (v := .any) ?_) | ((first | apply cond_bool | apply cond_bit) <;> intro hb) | refine And.intro (by omega) ?_ | refine And.intro (fun hb => ?_) (fun hb => ?_) | refine Fin.pure ?_ ?_ ?_ | simp only [injs])
    · rw [hL, numI_some] at hhx
      rw [hL, point_yes hm, tellV_some]
      have d1 : decide ((n : Int) < 0) = false := decide_eq_false (by omega)
      have hmy := rMay_ev (n : Int)
      rw [hm] at hmy
      refine ev_go rfl (fun cargs w => Tryz.call89 cargs w) Tryz.func89 rfl mixed (by kernel_rfl) rfl ?_; intro b0 hb0
      (repeat' first | simp only [fins,mems,Tryz.results89,Tryz.ntmps89,Kt,wks,e0,e0',e1,hl0,hl1,hl2,d1,List.getElem?_cons_zero,List.drop_succ_cons,List.drop_zero,Bool.not_true,vcs,Ka,Kb,Kc,Kd,Ke,Kf,Kg,Kh,Ki,Kj,Kk,Kl,Km,reduceCtorEq,reduceIte,Kn,Ko,Kp,Kq,Kr,Ks,tys] | exact rfl | refine call_off (v := .any) ?_ | (first | (refine call_fn ?_ (hhx _) ?_) | (refine call_fn_g ?_ (fun _ => hhx _) ?_) | (refine call_fn ?_ (hmy _) ?_) | (refine call_fn_g ?_ (fun _ => hmy _) ?_) | (refine call_fn ?_ (rBytes_ev (n : Int) hm _) ?_) | (refine call_fn_g ?_ (fun _ => rBytes_ev (n : Int) hm _) ?_)) | (refine ext_toStr (v := ?_) (bs := ?_) ?_ ?_ ?_ ?_ ?_ ?_ ?_; rotate_left 2; (iterate 2 (focus (simp only [Tryz.results89,Tryz.ntmps89,Kt,wks,e0,e0',e1,hl0,hl1,hl2,d1,List.getElem?_cons_zero,List.drop_succ_cons,List.drop_zero,Bool.not_true,vcs,Ka,Kb,Kc,Kd,Ke,Kf,Kg,Kh,Ki,Kj,Kk,Kl,Km,reduceCtorEq,reduceIte,Kn,Ko,Kp,Kq,Kr,Ks,tys]; done))); (focus (simp only [Tryz.results89,Tryz.ntmps89,Kt,wks,e0,e0',e1,hl0,hl1,hl2,d1,List.getElem?_cons_zero,List.drop_succ_cons,List.drop_zero,Bool.not_true,vcs,Ka,Kb,Kc,Kd,Ke,Kf,Kg,Kh,Ki,Kj,Kk,Kl,Km,reduceCtorEq,reduceIte,Kn,Ko,Kp,Kq,Kr,Ks,tys] <;> exact rfl)); (focus (exact rfl)); (focus (simp only [mems,Tryz.results89,Tryz.ntmps89,Kt,wks,e0,e0',e1,hl0,hl1,hl2,d1,List.getElem?_cons_zero,List.drop_succ_cons,List.drop_zero,Bool.not_true,vcs,Ka,Kb,Kc,Kd,Ke,Kf,Kg,Kh,Ki,Kj,Kk,Kl,Km,reduceCtorEq,reduceIte,Kn,Ko,Kp,Kq,Kr,Ks,tys]; done)); (focus (simp only [Tryz.results89,Tryz.ntmps89,Kt,wks,e0,e0',e1,hl0,hl1,hl2,d1,List.getElem?_cons_zero,List.drop_succ_cons,List.drop_zero,Bool.not_true,vcs,Ka,Kb,Kc,Kd,Ke,Kf,Kg,Kh,Ki,Kj,Kk,Kl,Km,reduceCtorEq,reduceIte,Kn,Ko,Kp,Kq,Kr,Ks,tys] <;> exact rfl))) | (refine extG_true ?_) | (refine extG_false ?_) | ((first | apply cond_bool | apply cond_bit) <;> intro hb) | refine And.intro (by omega) ?_ | refine And.intro (fun hb => ?_) (fun hb => ?_) | refine Fin.pure ?_ ?_ ?_ | simp only [injs])
    · rw [hL, numI_some] at hhx
      rw [hL, point_no hm, tellV_none]
      have d1 : decide ((n : Int) < 0) = false := decide_eq_false (by omega)
      have hmy := rMay_ev (n : Int)
      rw [hm] at hmy
      refine ev_go rfl (fun cargs w => Tryz.call89 cargs w) Tryz.func89 rfl mixed (by kernel_rfl) rfl ?_; intro b0 hb0
      (repeat' first | simp only [fins,mems,Tryz.results89,Tryz.ntmps89,Kt,wks,e0,e0',e1,hl0,hl1,hl2,d1,List.getElem?_cons_zero,List.drop_succ_cons,List.drop_zero,Bool.not_false,vcs,Ka,Kb,Kc,Kd,Ke,Kf,Kg,Kh,Ki,Kj,Kk,Kl,Km,reduceCtorEq,reduceIte,Kn,Ko,Kp,Kq,Kr,Ks,tys] | exact rfl | refine call_off (v := .any) ?_ | (first | (refine call_fn ?_ (hhx _) ?_) | (refine call_fn_g ?_ (fun _ => hhx _) ?_) | (refine call_fn ?_ (hmy _) ?_) | (refine call_fn_g ?_ (fun _ => hmy _) ?_)) | ((first | apply cond_bool | apply cond_bit) <;> intro hb) | refine And.intro (by omega) ?_ | refine And.intro (fun hb => ?_) (fun hb => ?_) | refine Fin.pure ?_ ?_ ?_ | simp only [injs])
  · have hno : numO s = decL s := by unfold numO; rw [if_neg h120]
    have hrd := rNumRead_ev s hs
    have hc : (s = []) ∨ ∃ c, s ≠ [] ∧ s[0]? = some c ∧ ((c.toNat : Int) == 120) = false := by
      cases s with
      | nil => exact .inl rfl
      | cons c t =>
        refine .inr ⟨c, by simp, rfl, ?_⟩
        refine ne_byte (d := 120) (fun e => h120 (by rw [e]; rfl))
    rw [hno]
    rcases hc with rfl | ⟨c, h0, hc0, e1⟩
    · have hL : decL [] = none := rfl
      rw [readE_none hL] at hrd
      rw [hL, point_none, tellV_none]
      have d1 : decide ((-1 : Int) < 0) = true := rfl
      have e0 : (!(([] : List UInt8) == ([] : List UInt8))) = false := rfl
      refine ev_go rfl (fun cargs w => Tryz.call89 cargs w) Tryz.func89 rfl mixed (by kernel_rfl) rfl ?_; intro b0 hb0
      (repeat' first | simp only [fins,mems,Tryz.results89,Tryz.ntmps89,Kt,wks,e0,d1,vcs,Ka,Kb,Kc,Kd,Ke,Kf,Kg,Kh,Ki,Kj,Kk,Kl,Km,reduceCtorEq,reduceIte,Kn,Ko,Kp,Kq,Kr,Ks,tys] | exact rfl | refine call_off (v := .any) ?_ | (first | (refine call_fn ?_ (hrd _) ?_) | (refine call_fn_g ?_ (fun _ => hrd _) ?_)) | (refine call_off (v := .any) ?_) | ((first | apply cond_bool | apply cond_bit) <;> intro hb) | refine And.intro (by omega) ?_ | refine And.intro (fun hb => ?_) (fun hb => ?_) | refine Fin.pure ?_ ?_ ?_ | simp only [injs])
    · have e0 : (!(s == ([] : List UInt8))) = true := by rw [beq_false_of_ne h0]; rfl
      have hl0 : 0 < s.length := List.length_pos_iff.2 h0
      rcases rest _ (fun n hn => decL_le hn) hno with hL | ⟨n, hL, hn, hm | hm⟩
      · rw [readE_none hL] at hrd
        rw [hL, point_none, tellV_none]
        have d1 : decide ((-1 : Int) < 0) = true := rfl
        refine ev_go rfl (fun cargs w => Tryz.call89 cargs w) Tryz.func89 rfl mixed (by kernel_rfl) rfl ?_; intro b0 hb0
        (repeat' first | simp only [fins,mems,Tryz.results89,Tryz.ntmps89,Kt,wks,e0,e1,hc0,hl0,d1,vcs,Ka,Kb,Kc,Kd,Ke,Kf,Kg,Kh,Ki,Kj,Kk,Kl,Km,reduceCtorEq,reduceIte,Kn,Ko,Kp,Kq,Kr,Ks,tys] | exact rfl | refine call_off (v := .any) ?_ | (first | (refine call_fn ?_ (hrd _) ?_) | (refine call_fn_g ?_ (fun _ => hrd _) ?_)) | (refine call_off (v := .any) ?_) | ((first | apply cond_bool | apply cond_bit) <;> intro hb) | refine And.intro (by omega) ?_ | refine And.intro (fun hb => ?_) (fun hb => ?_) | refine Fin.pure ?_ ?_ ?_ | simp only [injs])
      · rw [readE_some hL] at hrd
        rw [hL, point_yes hm, tellV_some]
        have d1 : decide ((n : Int) < 0) = false := decide_eq_false (by omega)
        have hmy := rMay_ev (n : Int)
        rw [hm] at hmy
        refine ev_go rfl (fun cargs w => Tryz.call89 cargs w) Tryz.func89 rfl mixed (by kernel_rfl) rfl ?_; intro b0 hb0
        (repeat' first | simp only [fins,mems,Tryz.results89,Tryz.ntmps89,Kt,wks,e0,e1,hc0,hl0,d1,Bool.not_true,vcs,Ka,Kb,Kc,Kd,Ke,Kf,Kg,Kh,Ki,Kj,Kk,Kl,Km,reduceCtorEq,reduceIte,Kn,Ko,Kp,Kq,Kr,Ks,tys] | exact rfl | refine call_off (v := .any) ?_ | (first | (refine call_fn ?_ (hrd _) ?_) | (refine call_fn_g ?_ (fun _ => hrd _) ?_) | (refine call_fn ?_ (hmy _) ?_) | (refine call_fn_g ?_ (fun _ => hmy _) ?_) | (refine call_fn ?_ (rBytes_ev (n : Int) hm _) ?_) | (refine call_fn_g ?_ (fun _ => rBytes_ev (n : Int) hm _) ?_)) | (refine ext_toStr (v := ?_) (bs := ?_) ?_ ?_ ?_ ?_ ?_ ?_ ?_; rotate_left 2; (iterate 2 (focus (simp only [Tryz.results89,Tryz.ntmps89,Kt,wks,e0,e1,hc0,hl0,d1,Bool.not_true,vcs,Ka,Kb,Kc,Kd,Ke,Kf,Kg,Kh,Ki,Kj,Kk,Kl,Km,reduceCtorEq,reduceIte,Kn,Ko,Kp,Kq,Kr,Ks,tys]; done))); (focus (simp only [Tryz.results89,Tryz.ntmps89,Kt,wks,e0,e1,hc0,hl0,d1,Bool.not_true,vcs,Ka,Kb,Kc,Kd,Ke,Kf,Kg,Kh,Ki,Kj,Kk,Kl,Km,reduceCtorEq,reduceIte,Kn,Ko,Kp,Kq,Kr,Ks,tys] <;> exact rfl)); (focus (exact rfl)); (focus (simp only [mems,Tryz.results89,Tryz.ntmps89,Kt,wks,e0,e1,hc0,hl0,d1,Bool.not_true,vcs,Ka,Kb,Kc,Kd,Ke,Kf,Kg,Kh,Ki,Kj,Kk,Kl,Km,reduceCtorEq,reduceIte,Kn,Ko,Kp,Kq,Kr,Ks,tys]; done)); (focus (simp only [Tryz.results89,Tryz.ntmps89,Kt,wks,e0,e1,hc0,hl0,d1,Bool.not_true,vcs,Ka,Kb,Kc,Kd,Ke,Kf,Kg,Kh,Ki,Kj,Kk,Kl,Km,reduceCtorEq,reduceIte,Kn,Ko,Kp,Kq,Kr,Ks,tys] <;> exact rfl))) | (refine extG_true ?_) | (refine extG_false ?_) | ((first | apply cond_bool | apply cond_bit) <;> intro hb) | refine And.intro (by omega) ?_ | refine And.intro (fun hb => ?_) (fun hb => ?_) | refine Fin.pure ?_ ?_ ?_ | simp only [injs])
      · rw [readE_some hL] at hrd
        rw [hL, point_no hm, tellV_none]
        have d1 : decide ((n : Int) < 0) = false := decide_eq_false (by omega)
        have hmy := rMay_ev (n : Int)
        rw [hm] at hmy
        refine ev_go rfl (fun cargs w => Tryz.call89 cargs w) Tryz.func89 rfl mixed (by kernel_rfl) rfl ?_; intro b0 hb0
        (repeat' first | simp only [fins,mems,Tryz.results89,Tryz.ntmps89,Kt,wks,e0,e1,hc0,hl0,d1,Bool.not_false,vcs,Ka,Kb,Kc,Kd,Ke,Kf,Kg,Kh,Ki,Kj,Kk,Kl,Km,reduceCtorEq,reduceIte,Kn,Ko,Kp,Kq,Kr,Ks,tys] | exact rfl | refine call_off (v := .any) ?_ | (first | (refine call_fn ?_ (hrd _) ?_) | (refine call_fn_g ?_ (fun _ => hrd _) ?_) | (refine call_fn ?_ (hmy _) ?_) | (refine call_fn_g ?_ (fun _ => hmy _) ?_)) | ((first | apply cond_bool | apply cond_bit) <;> intro hb) | refine And.intro (by omega) ?_ | refine And.intro (fun hb => ?_) (fun hb => ?_) | refine Fin.pure ?_ ?_ ?_ | simp only [injs])
theorem meant_plain {s : List UInt8} (h1 : s ≠ [97, 109, 112]) (h2 : s ≠ [108, 116]) (h3 : s ≠ [103, 116]) (h4 : s ≠ [113, 117, 111, 116]) (h5 : s ≠ [97, 112, 111, 115]) : meantL s = if s.head? = some 35 then pointW (numO s.tail) else none := by
  unfold meantL numO
  rw [if_neg h1, if_neg h2, if_neg h3, if_neg h4, if_neg h5]
  split
  · split <;> rfl
  · rfl
theorem rMeant_ev (s : List UInt8) (hs : s.length ≤ lim) (nm : Nat) : Ev cx 70 nm [.str s] Mem.nil (tellV (meantL s)) [] := by
  by_cases h1 : s = [97, 109, 112]
  · subst h1
    have e1 : (([97, 109, 112] : List UInt8) == [97, 109, 112]) = true := rfl
    rw [meant_amp, tellV_some]
    refine ev_go rfl (fun cargs w => Tryz.call70 cargs w) Tryz.func70 rfl mixed (by kernel_rfl) rfl ?_; intro b0 hb0
    (repeat' first | simp only [fins,mems,Tryz.results70,Tryz.ntmps70,Kt,wks,e1,vcs,Ka,Kb,Kc,Kd,Ke,Kf,Kg,Kh,Ki,Kj,Kk,Kl,Km,reduceCtorEq,reduceIte,Kn,Ko,Kp,Kq,Kr,Ks,tys] | exact rfl | refine call_off (v := .any) ?_ | ((first | apply cond_bool | apply cond_bit) <;> intro hb) | refine And.intro (by omega) ?_ | refine And.intro (fun hb => ?_) (fun hb => ?_) | refine Fin.pure ?_ ?_ ?_ | simp only [injs])
  have e1 : (s == [97, 109, 112]) = false := beq_false_of_ne h1
  by_cases h2 : s = [108, 116]
  · subst h2
    have e2 : (([108, 116] : List UInt8) == [108, 116]) = true := rfl
    rw [meant_lt, tellV_some]
    refine ev_go rfl (fun cargs w => Tryz.call70 cargs w) Tryz.func70 rfl mixed (by kernel_rfl) rfl ?_; intro b0 hb0
    (repeat' first | simp only [fins,mems,Tryz.results70,Tryz.ntmps70,Kt,wks,e1,e2,vcs,Ka,Kb,Kc,Kd,Ke,Kf,Kg,Kh,Ki,Kj,Kk,Kl,Km,reduceCtorEq,reduceIte,Kn,Ko,Kp,Kq,Kr,Ks,tys] | exact rfl | refine call_off (v := .any) ?_ | ((first | apply cond_bool | apply cond_bit) <;> intro hb) | refine And.intro (by omega) ?_ | refine And.intro (fun hb => ?_) (fun hb => ?_) | refine Fin.pure ?_ ?_ ?_ | simp only [injs])
  have e2 : (s == [108, 116]) = false := beq_false_of_ne h2
  by_cases h3 : s = [103, 116]
  · subst h3
    have e3 : (([103, 116] : List UInt8) == [103, 116]) = true := rfl
    rw [meant_gt, tellV_some]
    refine ev_go rfl (fun cargs w => Tryz.call70 cargs w) Tryz.func70 rfl mixed (by kernel_rfl) rfl ?_; intro b0 hb0
    (repeat' first | simp only [fins,mems,Tryz.results70,Tryz.ntmps70,Kt,wks,e1,e2,e3,vcs,Ka,Kb,Kc,Kd,Ke,Kf,Kg,Kh,Ki,Kj,Kk,Kl,Km,reduceCtorEq,reduceIte,Kn,Ko,Kp,Kq,Kr,Ks,tys] | exact rfl | refine call_off (v := .any) ?_ | ((first | apply cond_bool | apply cond_bit) <;> intro hb) | refine And.intro (by omega) ?_ | refine And.intro (fun hb => ?_) (fun hb => ?_) | refine Fin.pure ?_ ?_ ?_ | simp only [injs])
  have e3 : (s == [103, 116]) = false := beq_false_of_ne h3
  by_cases h4 : s = [113, 117, 111, 116]
  · subst h4
    have e4 : (([113, 117, 111, 116] : List UInt8) == [113, 117, 111, 116]) = true := rfl
    rw [meant_quot, tellV_some]
    refine ev_go rfl (fun cargs w => Tryz.call70 cargs w) Tryz.func70 rfl mixed (by kernel_rfl) rfl ?_; intro b0 hb0
    (repeat' first | simp only [fins,mems,Tryz.results70,Tryz.ntmps70,Kt,wks,e1,e2,e3,e4,vcs,Ka,Kb,Kc,Kd,Ke,Kf,Kg,Kh,Ki,Kj,Kk,Kl,Km,reduceCtorEq,reduceIte,Kn,Ko,Kp,Kq,Kr,Ks,tys] | exact rfl | refine call_off (v := .any) ?_ | ((first | apply cond_bool | apply cond_bit) <;> intro hb) | refine And.intro (by omega) ?_ | refine And.intro (fun hb => ?_) (fun hb => ?_) | refine Fin.pure ?_ ?_ ?_ | simp only [injs])
  have e4 : (s == [113, 117, 111, 116]) = false := beq_false_of_ne h4
  by_cases h5 : s = [97, 112, 111, 115]
  · subst h5
    have e5 : (([97, 112, 111, 115] : List UInt8) == [97, 112, 111, 115]) = true := rfl
    rw [show meantL [97, 112, 111, 115] = some [39] by decide, tellV_some]
    refine ev_go rfl (fun cargs w => Tryz.call70 cargs w) Tryz.func70 rfl mixed (by kernel_rfl) rfl ?_; intro b0 hb0
    (repeat' first | simp only [fins,mems,Tryz.results70,Tryz.ntmps70,Kt,wks,e1,e2,e3,e4,e5,vcs,Ka,Kb,Kc,Kd,Ke,Kf,Kg,Kh,Ki,Kj,Kk,Kl,Km,reduceCtorEq,reduceIte,Kn,Ko,Kp,Kq,Kr,Ks,tys] | exact rfl | refine call_off (v := .any) ?_ | ((first | apply cond_bool | apply cond_bit) <;> intro hb) | refine And.intro (by omega) ?_ | refine And.intro (fun hb => ?_) (fun hb => ?_) | refine Fin.pure ?_ ?_ ?_ | simp only [injs])
  have e5 : (s == [97, 112, 111, 115]) = false := beq_false_of_ne h5
  rw [meant_plain h1 h2 h3 h4 h5]
  cases s with
  | nil =>
    have e0 : (([] : List UInt8) == []) = true := rfl
    rw [if_neg (by simp), tellV_none]
    refine ev_go rfl (fun cargs w => Tryz.call70 cargs w) Tryz.func70 rfl mixed (by kernel_rfl) rfl ?_; intro b0 hb0
    (repeat' first | simp only [fins,mems,Tryz.results70,Tryz.ntmps70,Kt,wks,e0,e1,e2,e3,e4,e5,vcs,Ka,Kb,Kc,Kd,Ke,Kf,Kg,Kh,Ki,Kj,Kk,Kl,Km,reduceCtorEq,reduceIte,Kn,Ko,Kp,Kq,Kr,Ks,tys] | exact rfl | refine call_off (v := .any) ?_ | ((first | apply cond_bool | apply cond_bit) <;> intro hb) | refine And.intro (by omega) ?_ | refine And.intro (fun hb => ?_) (fun hb => ?_) | refine Fin.pure ?_ ?_ ?_ | simp only [injs])
  | cons c t =>
    have e0 : ((c :: t) == ([] : List UInt8)) = false := rfl
    have hl0 : 0 < (c :: t).length := by simp
    have hl1 : (1 : Int) ≤ ((c :: t).length : Int) := by simp only [List.length_cons]; omega
    have hl2 : 1 ≤ (c :: t).length := by simp
    simp only [List.length_cons] at hl0 hl1 hl2
    by_cases h35 : c = 35
    · subst h35
      have q35 : (!(((35 : UInt8).toNat : Int) == 35)) = false := rfl
      have q35' : (((35 : UInt8).toNat : Int) != 35) = false := rfl
      have hnum := rNumber_ev t (by simp at hs; unfold lim at *; omega)
      rw [if_pos (by rfl), List.tail_cons]
      cases hp : pointW (numO t) with
      | none =>
        rw [hp] at hnum
        rw [tellV_none] at hnum ⊢
        refine ev_go rfl (fun cargs w => Tryz.call70 cargs w) Tryz.func70 rfl mixed (by kernel_rfl) rfl ?_; intro b0 hb0
        (repeat' first | simp only [fins,mems,Tryz.results70,Tryz.ntmps70,Kt,wks,e0,e1,e2,e3,e4,e5,q35,q35',hl0,hl1,hl2,List.getElem?_cons_zero,List.drop_succ_cons,List.drop_zero,vcs,Ka,Kb,Kc,Kd,Ke,Kf,Kg,Kh,Ki,Kj,Kk,Kl,Km,reduceCtorEq,reduceIte,Kn,Ko,Kp,Kq,Kr,Ks,tys] | exact rfl | refine call_off (v := .any) ?_ | (first | (refine call_fn ?_ (hnum _) ?_) | (refine call_fn_g ?_ (fun _ => hnum _) ?_)) | ((first | apply cond_bool | apply cond_bit) <;> intro hb) | refine And.intro (by omega) ?_ | refine And.intro (fun hb => ?_) (fun hb => ?_) | refine Fin.pure ?_ ?_ ?_ | simp only [injs])
      | some x =>
        rw [hp] at hnum
        rw [tellV_some] at hnum ⊢
        refine ev_go rfl (fun cargs w => Tryz.call70 cargs w) Tryz.func70 rfl mixed (by kernel_rfl) rfl ?_; intro b0 hb0
        (repeat' first | simp only [fins,mems,Tryz.results70,Tryz.ntmps70,Kt,wks,e0,e1,e2,e3,e4,e5,q35,q35',hl0,hl1,hl2,List.getElem?_cons_zero,List.drop_succ_cons,List.drop_zero,vcs,Ka,Kb,Kc,Kd,Ke,Kf,Kg,Kh,Ki,Kj,Kk,Kl,Km,reduceCtorEq,reduceIte,Kn,Ko,Kp,Kq,Kr,Ks,tys] | exact rfl | refine call_off (v := .any) ?_ | (first | (refine call_fn ?_ (hnum _) ?_) | (refine call_fn_g ?_ (fun _ => hnum _) ?_)) | ((first | apply cond_bool | apply cond_bit) <;> intro hb) | refine And.intro (by omega) ?_ | refine And.intro (fun hb => ?_) (fun hb => ?_) | refine Fin.pure ?_ ?_ ?_ | simp only [injs])
    · have q35 : ((c.toNat : Int) == 35) = false := ne_byte (d := 35) h35
      have q35' : ((c.toNat : Int) != 35) = true := by unfold bne; rw [q35]; rfl
      rw [if_neg (by simpa using h35), tellV_none]
      refine ev_go rfl (fun cargs w => Tryz.call70 cargs w) Tryz.func70 rfl mixed (by kernel_rfl) rfl ?_; intro b0 hb0
      (repeat' first | simp only [fins,mems,Tryz.results70,Tryz.ntmps70,Kt,wks,e0,e1,e2,e3,e4,e5,q35,q35',hl0,hl1,hl2,List.getElem?_cons_zero,List.drop_succ_cons,List.drop_zero,vcs,Ka,Kb,Kc,Kd,Ke,Kf,Kg,Kh,Ki,Kj,Kk,Kl,Km,reduceCtorEq,reduceIte,Kn,Ko,Kp,Kq,Kr,Ks,tys] | exact rfl | refine call_off (v := .any) ?_ | ((first | apply cond_bool | apply cond_bit) <;> intro hb) | refine And.intro (by omega) ?_ | refine And.intro (fun hb => ?_) (fun hb => ?_) | refine Fin.pure ?_ ?_ ?_ | simp only [injs])
theorem notin_succQ {d : UInt8} {s : List UInt8} {k : Nat} {c : UInt8} (h : d ∉ s.take k) (hc : s[k]? = some c) (hne : c ≠ d) : d ∉ s.take (k + 1) := by
  obtain ⟨hk, rfl⟩ := List.getElem?_eq_some_iff.1 hc
  rw [List.take_succ_eq_append_getElem hk]
  simp only [List.mem_append,List.mem_singleton,not_or]
  exact ⟨h, fun e => hne e.symm⟩
structure QSt where
  i : Nat
  out : List UInt8
def QSt.inv (s : List UInt8) (x : QSt) : Prop := x.i ≤ s.length ∧ readL s = (readL (s.drop x.i)).map (x.out ++ ·) ∧ x.out.length ≤ 4 * x.i
theorem rRead_ev (s : List UInt8) (hs : s.length ≤ 1000000) (nm : Nat) : Ev cx 48 nm [.str s] Mem.nil (tellV (readL s)) [] := by
  refine ev_go rfl (fun cargs w => Tryz.call48 cargs w) Tryz.func48 rfl mixed (by kernel_rfl) rfl ?_; intro b0 hb0
  repeat' first | simp only [fins,mems,Tryz.results48,Tryz.ntmps48,Kt,wks,vcs,Ka,Kb,Kc,Kd,Ke,Kf,Kg,Kh,Ki,Kj,Kk,Kl,Km,reduceCtorEq,reduceIte,Kn,Ko,Kp,Kq,Kr,Ks,tys] | exact rfl | refine call_off (v := .any) ?_ | ((first | apply cond_bool | apply cond_bit) <;> intro hb) | refine And.intro (by omega) ?_ | refine And.intro (fun hb => ?_) (fun hb => ?_)
  (refine loop_can2 cxG (fun x : QSt => s.length - x.i) (fun x => x.inv s) (b0 + 16) (fun x => [(0, .str s), (4, .own b0 0 x.out.length), (5, .int .i64 x.i)]) (fun x => [(b0, @Blk.mk 1 (x.out.map byteRow) (.typed 5))]) (QSt.mk 0 []) [none] ?_ ?_ ?_ ?_; rotate_left 1; (focus (show b0 ≤ _; omega)); (focus (refine ⟨?_, ?_⟩ <;> (try simp only [cans,isRow_typed,ren_bytesI,renOk_bytesI,List.map_nil,List.length_nil,vcs,Ka,Kb,Kc,Kd,Ke,Kf,Kg,Kh,Ki,Kj,Kk,Kl,Km,reduceCtorEq,reduceIte,Kn,Ko,Kp,Kq,Kr,Ks,tys,injs]) <;> (try omega))); rotate_left 1)
  · refine ⟨Nat.zero_le _, ?_, Nat.zero_le _⟩
    show readL s = (readL (s.drop 0)).map ([] ++ ·)
    rw [List.drop_zero]; cases readL s <;> rfl
  · rintro ⟨i, out⟩ ⟨h1, h2, h3⟩
    simp only at h1 h2 h3
    by_cases hlt : i < s.length
    · obtain ⟨c, hc⟩ : ∃ c, s[i]? = some c := ⟨_, List.getElem?_eq_getElem hlt⟩
      have hdc : s.drop i = c :: s.drop (i + 1) := by
        obtain ⟨hk, rfl⟩ := List.getElem?_eq_some_iff.1 hc
        exact List.drop_eq_getElem_cons hk
      have hd : decide (i < s.length) = true := decide_eq_true hlt
      have hwk : IntKind.i64.wrap ((i : Int) + 1) = ((i + 1 : Nat) : Int) := wrap_in (by omega) (by omega)
      have q60 : ((c.toNat : Int) == 60) = decide (c = 60) := beq_byte c 60
      have q38 : ((c.toNat : Int) == 38) = decide (c = 38) := beq_byte c 38
      rw [hdc] at h2
      by_cases c60 : c = 60
      · rw [decide_eq_true c60] at q60
        have hr : readL s = none := by rw [h2, c60, readL_lt]; rfl
        rw [hr, tellV_none]
        (repeat' first | simp only [fins,mems,Tryz.results48,Tryz.ntmps48,Kt,wks,hc,hd,hlt,q60,vcs,Ka,Kb,Kc,Kd,Ke,Kf,Kg,Kh,Ki,Kj,Kk,Kl,Km,reduceCtorEq,reduceIte,Kn,Ko,Kp,Kq,Kr,Ks,tys] | exact rfl | refine call_off (v := .any) ?_ | ((first | apply cond_bool | apply cond_bit) <;> intro hb) | refine And.intro (by omega) ?_ | refine And.intro (fun hb => ?_) (fun hb => ?_) | refine Fin.pure ?_ ?_ ?_ | simp only [injs])
      rw [decide_eq_false c60] at q60
      by_cases c38 : c = 38
      · rw [decide_eq_true c38] at q38
        have q38' : ((c.toNat : Int) != 38) = false := by unfold bne; rw [q38]; rfl
        rw [c38] at h2
        repeat' first | simp only [fins,mems,Tryz.results48,Tryz.ntmps48,Kt,wks,hc,hd,hlt,q60,q38,q38',vcs,Ka,Kb,Kc,Kd,Ke,Kf,Kg,Kh,Ki,Kj,Kk,Kl,Km,reduceCtorEq,reduceIte,Kn,Ko,Kp,Kq,Kr,Ks,tys] | exact rfl | refine call_off (v := .any) ?_ | refine And.intro (by omega) ?_
        (refine loop_can2 cxG (fun x : Nat => s.length - x) (fun x => i ≤ x ∧ x ≤ s.length ∧ (59 : UInt8) ∉ (s.drop i).take (x - i)) (b0 + 16) (fun x => [(0, .str s), (4, .own b0 0 out.length), (5, .int .i64 i), (6, .int .i64 x)]) (fun x => [(b0, @Blk.mk 1 (out.map byteRow) (.typed 5))]) (i) [some b0] ?_ ?_ ?_ ?_; rotate_left 1; (focus (show b0 ≤ _; omega)); (focus (refine ⟨?_, ?_⟩ <;> (try simp only [cans,isRow_typed,ren_bytesI,renOk_bytesI,vcs,Ka,Kb,Kc,Kd,Ke,Kf,Kg,Kh,Ki,Kj,Kk,Kl,Km,reduceCtorEq,reduceIte,Kn,Ko,Kp,Kq,Kr,Ks,tys,injs]) <;> (try omega))); rotate_left 1)
        · exact ⟨Nat.le_refl _, h1, by simp⟩
        · rintro e ⟨e1, e2, e3⟩
          by_cases hlte : e < s.length
          · obtain ⟨d, hdd⟩ : ∃ d, s[e]? = some d := ⟨_, List.getElem?_eq_getElem hlte⟩
            have hde : decide (e < s.length) = true := decide_eq_true hlte
            have hwe : IntKind.i64.wrap ((e : Int) + 1) = ((e + 1 : Nat) : Int) := wrap_in (by omega) (by omega)
            have q59 : ((d.toNat : Int) == 59) = decide (d = 59) := beq_byte d 59
            have hdg : (s.drop i)[e - i]? = some d := by rw [List.getElem?_drop, show i + (e - i) = e by omega]; exact hdd
            by_cases c59 : d = 59
            · rw [decide_eq_true c59] at q59
              have q59' : ((d.toNat : Int) != 59) = false := by unfold bne; rw [q59]; rfl
              have hei : i < e := by
                rcases Nat.lt_or_ge i e with h | h
                · exact h
                · have : i = e := by omega
                  subst this
                  rw [hc] at hdd; cases hdd
                  rw [c38] at c59; cases c59
              have hcut : cut1 59 (s.drop (i + 1)) = some ((s.drop (i + 1)).take (e - (i + 1)), s.drop (e + 1)) := by
                have g1 : (59 : UInt8) ∉ (s.drop (i + 1)).take (e - (i + 1)) := by
                  rw [hdc, show e - i = e - (i + 1) + 1 by omega, List.take_succ_cons] at e3
                  exact fun h => e3 (List.mem_cons_of_mem _ h)
                have g2 : (s.drop (i + 1))[e - (i + 1)]? = some 59 := by rw [List.getElem?_drop, show i + 1 + (e - (i + 1)) = e by omega, hdd, c59]
                have := cut1_at g1 g2
                rw [List.drop_drop, show i + 1 + (e - (i + 1) + 1) = e + 1 by omega] at this
                exact this
              have hen : ((e : Int) == (s.length : Int)) = false := beq_false_of_ne (by omega)
              have hi1 : ((i + 1 : Nat) : Int) ≤ (e : Int) := by omega
              have hi2 : (e : Int) ≤ (s.length : Int) := by omega
              have hi3 : i + 1 ≤ e := by omega
              have hi4 : e ≤ s.length := by omega
              generalize ha : (s.drop (i + 1)).take (e - (i + 1)) = a at hcut
              have ha2 : (s.take e).drop (i + 1) = a := by rw [← ha, List.drop_take]
              have hal : a.length ≤ 1000000 := by
                have := congrArg List.length ha
                simp at this; omega
              have hmt := rMeant_ev a (by unfold lim; omega)
              have hwk2 : IntKind.i64.wrap ((e : Int) + 1) = ((e + 1 : Nat) : Int) := wrap_in (by omega) (by omega)
              have hde : decide (e < s.length) = true := decide_eq_true hlte
              cases hm : meantL a with
              | none =>
                rw [hm, tellV_none] at hmt
                have hr : readL s = none := by rw [h2, readL_bad hcut hm]; rfl
                rw [hr, tellV_none]
                (repeat' first | simp only [fins,mems,Tryz.results48,Tryz.ntmps48,Kt,wks,hdd,hde,hlte,hwk,q59,q59',hen,hi1,hi2,hi3,hi4,ha,ha2,Bool.not_false,vcs,Ka,Kb,Kc,Kd,Ke,Kf,Kg,Kh,Ki,Kj,Kk,Kl,Km,reduceCtorEq,reduceIte,Kn,Ko,Kp,Kq,Kr,Ks,tys] | exact rfl | refine call_off (v := .any) ?_ | (first | (refine call_fn ?_ (hmt _) ?_) | (refine call_fn_g ?_ (fun _ => hmt _) ?_)) | ((first | apply cond_bool | apply cond_bit) <;> intro hb) | refine And.intro (by omega) ?_ | refine And.intro (fun hb => ?_) (fun hb => ?_) | refine Fin.pure ?_ ?_ ?_ | simp only [injs])
              | some x =>
                rw [hm, tellV_some] at hmt
                have hxl := meant_length hm
                have hr : readL s = (readL (s.drop (e + 1))).map ((out ++ x) ++ ·) := by rw [h2, readL_ref hcut hm, map_app]
                have hmp : out.map byteRow ++ x.map byteRow = (out ++ x).map byteRow := by rw [List.map_append]
                repeat' first | simp only [fins,mems,Tryz.results48,Tryz.ntmps48,Kt,wks,hdd,hde,hlte,hwk,hwk2,q59,q59',hen,hi1,hi2,hi3,hi4,ha,ha2,hmp,tyT,if_true,blkT_some,one_bsI,List.length_map,List.take_of_length_le,Nat.le_refl,Option.bind_some,Bool.not_true,vcs,Ka,Kb,Kc,Kd,Ke,Kf,Kg,Kh,Ki,Kj,Kk,Kl,Km,reduceCtorEq,reduceIte,Kn,Ko,Kp,Kq,Kr,Ks,tys] | exact rfl | refine call_off (v := .any) ?_ | (first | (refine call_fn ?_ (hmt _) ?_) | (refine call_fn_g ?_ (fun _ => hmt _) ?_)) | ((first | apply cond_bool | apply cond_bit) <;> intro hb) | refine And.intro (by omega) ?_ | refine And.intro (fun hb => ?_) (fun hb => ?_)
                all_goals ((refine again_can2 cxG (QSt.mk (e + 1) (out ++ x)) [some (b0 + 480)] ?_ ?_ ?_ ?_; rotate_left 2; (focus (show b0 ≤ _; omega)); (focus (refine ⟨?_, ?_⟩ <;> (try simp only [cans,isRow_typed,ren_bytesI,renOk_bytesI,hwk2,tyT,if_true,blkT_some,Option.bind_some,List.length_append,vcs,Ka,Kb,Kc,Kd,Ke,Kf,Kg,Kh,Ki,Kj,Kk,Kl,Km,reduceCtorEq,reduceIte,Kn,Ko,Kp,Kq,Kr,Ks,tys,injs]) <;> (try omega)))))
                all_goals (first | (show s.length - (e + 1) < s.length - i; omega) | (refine ⟨hlte, hr, ?_⟩; simp only [List.length_append]; omega) | skip)
            · rw [decide_eq_false c59] at q59
              have q59' : ((d.toNat : Int) != 59) = true := by unfold bne; rw [q59]; rfl
              have hni := notin_succQ e3 hdg c59
              repeat' first | simp only [fins,mems,Tryz.results48,Tryz.ntmps48,Kt,wks,hdd,hde,hlte,hwe,q59,q59',vcs,Ka,Kb,Kc,Kd,Ke,Kf,Kg,Kh,Ki,Kj,Kk,Kl,Km,reduceCtorEq,reduceIte,Kn,Ko,Kp,Kq,Kr,Ks,tys] | exact rfl | refine call_off (v := .any) ?_ | refine And.intro (by omega) ?_
              all_goals ((refine again_can2 cxG (e + 1) [some b0] ?_ ?_ ?_ ?_; rotate_left 2; (focus (show b0 ≤ _; omega)); (focus (refine ⟨?_, ?_⟩ <;> (try simp only [cans,isRow_typed,ren_bytesI,renOk_bytesI,hwe,vcs,Ka,Kb,Kc,Kd,Ke,Kf,Kg,Kh,Ki,Kj,Kk,Kl,Km,reduceCtorEq,reduceIte,Kn,Ko,Kp,Kq,Kr,Ks,tys,injs]) <;> (try omega)))))
              all_goals (first | (show s.length - (e + 1) < s.length - e; omega) | exact ⟨by omega, hlte, by rw [show e + 1 - i = e - i + 1 by omega]; exact hni⟩ | skip)
          · have hee : e = s.length := by omega
            subst hee
            have hde : decide (s.length < s.length) = false := decide_eq_false (by omega)
            have hen : ((s.length : Int) == (s.length : Int)) = true := by simp
            have hcut : cut1 59 (s.drop (i + 1)) = none := by
              rw [cut1_none]
              intro hin
              refine e3 ?_
              rw [List.take_of_length_le (by simp), hdc]
              exact List.mem_cons_of_mem _ hin
            have hr : readL s = none := by rw [h2, readL_none hcut]; rfl
            rw [hr, tellV_none]
            (repeat' first | simp only [fins,mems,Tryz.results48,Tryz.ntmps48,Kt,wks,hde,hen,vcs,Ka,Kb,Kc,Kd,Ke,Kf,Kg,Kh,Ki,Kj,Kk,Kl,Km,reduceCtorEq,reduceIte,Kn,Ko,Kp,Kq,Kr,Ks,tys] | exact rfl | refine call_off (v := .any) ?_ | refine And.intro (by omega) ?_ | refine Fin.pure ?_ ?_ ?_ | simp only [injs])
      · rw [decide_eq_false c38] at q38
        have q38' : ((c.toNat : Int) != 38) = true := by unfold bne; rw [q38]; rfl
        have hr : readL s = (readL (s.drop (i + 1))).map ((out ++ [c]) ++ ·) := by rw [h2, readL_other c60 c38]; cases readL (s.drop (i + 1)) <;> simp
        have hsn : out.map byteRow ++ [[V.int .u8 c.toNat]] = (out ++ [c]).map byteRow := by rw [List.map_append]; rfl
        repeat' first | simp only [fins,mems,Tryz.results48,Tryz.ntmps48,Kt,wks,hc,hd,hlt,hwk,q60,q38,q38',hsn,tyT,if_true,blkT_some,one_bsI,List.length_map,List.take_of_length_le,Nat.le_refl,Option.bind_some,vcs,Ka,Kb,Kc,Kd,Ke,Kf,Kg,Kh,Ki,Kj,Kk,Kl,Km,reduceCtorEq,reduceIte,Kn,Ko,Kp,Kq,Kr,Ks,tys] | exact rfl | refine call_off (v := .any) ?_ | ((first | apply cond_bool | apply cond_bit) <;> intro hb) | refine And.intro (by omega) ?_ | refine And.intro (fun hb => ?_) (fun hb => ?_)
        all_goals ((refine again_can2 cxG (QSt.mk (i + 1) (out ++ [c])) [some (b0 + 288)] ?_ ?_ ?_ ?_; rotate_left 2; (focus (show b0 ≤ _; omega)); (focus (refine ⟨?_, ?_⟩ <;> (try simp only [cans,isRow_typed,ren_bytesI,renOk_bytesI,hwk,tyT,if_true,blkT_some,Option.bind_some,List.length_append,List.length_cons,List.length_nil,vcs,Ka,Kb,Kc,Kd,Ke,Kf,Kg,Kh,Ki,Kj,Kk,Kl,Km,reduceCtorEq,reduceIte,Kn,Ko,Kp,Kq,Kr,Ks,tys,injs]) <;> (try omega)))))
        all_goals (first | (show s.length - (i + 1) < s.length - i; omega) | (refine ⟨hlt, hr, ?_⟩; simp only [List.length_append,List.length_cons,List.length_nil]; omega) | skip)
    · have hie : i = s.length := by omega
      subst hie
      have hd : decide (s.length < s.length) = false := decide_eq_false (by omega)
      rw [List.drop_length, readL_nil] at h2
      have hr : readL s = some out := by rw [h2]; simp
      have htk : (out.map byteRow).take out.length = out.map byteRow := List.take_of_length_le (by simp)
      rw [hr, tellV_some]
      (repeat' first | simp only [fins,mems,Tryz.results48,Tryz.ntmps48,Kt,wks,hd,htk,List.length_map,Nat.le_refl,vcs,Ka,Kb,Kc,Kd,Ke,Kf,Kg,Kh,Ki,Kj,Kk,Kl,Km,reduceCtorEq,reduceIte,Kn,Ko,Kp,Kq,Kr,Ks,tys] | exact rfl | refine call_off (v := .any) ?_ | (refine ext_toStr (v := ?_) (bs := out) ?_ ?_ ?_ ?_ ?_ ?_ ?_; rotate_left 1; (iterate 2 (focus (simp only [Tryz.results48,Tryz.ntmps48,Kt,wks,hd,htk,List.length_map,Nat.le_refl,vcs,Ka,Kb,Kc,Kd,Ke,Kf,Kg,Kh,Ki,Kj,Kk,Kl,Km,reduceCtorEq,reduceIte,Kn,Ko,Kp,Kq,Kr,Ks,tys]; done))); (focus (simp only [Tryz.results48,Tryz.ntmps48,Kt,wks,hd,htk,List.length_map,Nat.le_refl,vcs,Ka,Kb,Kc,Kd,Ke,Kf,Kg,Kh,Ki,Kj,Kk,Kl,Km,reduceCtorEq,reduceIte,Kn,Ko,Kp,Kq,Kr,Ks,tys] <;> exact rfl)); (focus (exact rfl)); (focus (simp only [mems,Tryz.results48,Tryz.ntmps48,Kt,wks,hd,htk,List.length_map,Nat.le_refl,vcs,Ka,Kb,Kc,Kd,Ke,Kf,Kg,Kh,Ki,Kj,Kk,Kl,Km,reduceCtorEq,reduceIte,Kn,Ko,Kp,Kq,Kr,Ks,tys]; done)); (focus (simp only [Tryz.results48,Tryz.ntmps48,Kt,wks,hd,htk,List.length_map,Nat.le_refl,vcs,Ka,Kb,Kc,Kd,Ke,Kf,Kg,Kh,Ki,Kj,Kk,Kl,Km,reduceCtorEq,reduceIte,Kn,Ko,Kp,Kq,Kr,Ks,tys] <;> exact rfl))) | (refine extG_true ?_) | (refine extG_false ?_) | ((first | apply cond_bool | apply cond_bit) <;> intro hb) | refine And.intro (by omega) ?_ | refine And.intro (fun hb => ?_) (fun hb => ?_) | refine Fin.pure ?_ ?_ ?_ | simp only [injs])
end Go.Proofs.YtoaclokiggoeiaaGreatDoor
