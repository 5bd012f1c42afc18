/-
  Texts joined: XEl, XEm, XLt.
-/
import Derived.Test.YtoaclokiggoeiaaGreatDoorJo
import Derived.Test.YtoaclokiggoeiaaGreatDoorJk
import Derived.Test.YtoaclokiggoeiaaGreatDoorJf
namespace Go.Proofs.YtoaclokiggoeiaaGreatDoor
set_option maxRecDepth 100000
set_option maxHeartbeats 32000000
set_option linter.unusedSimpArgs false
set_option linter.unusedVariables false
open Nat renaming reduceAdd → Ka, reduceMul → Kb, reduceEqDiff → Kc, reduceLeDiff → Kd, reduceSub → Ke, reduceLT → Kf, reduceBEq → Kr, reduceBNe → Ks, reducePow → Kt
open Int renaming reduceToNat → Kg, reduceLE → Kh, reduceLT → Ki, reduceAdd → Kj, reduceSub → Kk, reduceMul → Kl, reduceNeg → Km, reduceBEq → Kn, reduceBNe → Ko, reduceEq → Kp, reduceNe → Kq
open Go Go.RowKit Go.Proofs.YtoaclokiggoeiaaGreatDoor.Vm Go.Lib
theorem namedTo_succ {s : List UInt8} {k : Nat} {c : UInt8} (h : namedTo s k) (hc : s[k]? = some c) (hp : partB (k == 0) c = true) : namedTo s (k + 1) := by
  intro i x hi hx
  by_cases e : i = k
  · subst e; rw [hc] at hx; cases hx; exact hp
  · exact h i x (by omega) hx
theorem zero_int (k : Nat) : ((k : Int) == 0) = (k == 0) := by
  rw [Bool.eq_iff_iff, beq_iff_eq, beq_iff_eq]; omega
theorem empty_f {s : List UInt8} (h : s ≠ []) : s.isEmpty = false := by cases s with | nil => exact absurd rfl h | cons => rfl
theorem name_ev (s : List UInt8) (hs : s.length ≤ lim) (nm : Nat) : Ev cx 11 nm [.str s] Mem.nil (.bool (nameL s)) [] := by
  unfold lim at hs
  have hb : (s == []) = s.isEmpty := by cases s <;> rfl
  refine ev_go rfl (fun cargs w => Tryz.call11 cargs w) Tryz.func11 rfl mixed (by kernel_rfl) rfl ?_; intro b0 hb0
  repeat' first | simp only [fins,mems,Tryz.results11,Tryz.ntmps11,Kt,wks,hb,vcs,Ka,Kb,Kc,Kd,Ke,Kf,Kg,Kh,Ki,Kj,Kk,Kl,Km,reduceCtorEq,reduceIte,Kn,Ko,Kp,Kq,Kr,Ks,tys] | exact rfl | refine call_off (v := .any) ?_ | ((first | apply cond_bool | apply cond_bit) <;> intro hb) | refine And.intro (by omega) ?_ | refine And.intro (fun hb => ?_) (fun hb => ?_)
  (refine loop_can2 cxG (fun x : Nat => s.length - x) (fun x => x ≤ s.length ∧ namedTo s x) (b0 + 16) (fun x => [(0, .str s), (3, .bool (!s.isEmpty)), (8, .int .i64 s.length), (9, .int .i64 x)]) (fun x => []) (0) [] ?_ ?_ ?_ ?_; rotate_left 1; (focus (show b0 ≤ _; omega)); (focus (refine ⟨?_, ?_⟩ <;> (try simp only [cans,vcs,Ka,Kb,Kc,Kd,Ke,Kf,Kg,Kh,Ki,Kj,Kk,Kl,Km,reduceCtorEq,reduceIte,Kn,Ko,Kp,Kq,Kr,Ks,tys,injs]) <;> (try omega))); rotate_left 1)
  · exact ⟨Nat.zero_le _, fun i c hi => by omega⟩
  · rintro k ⟨hk, hn⟩
    by_cases hlt : k < s.length
    · obtain ⟨c, hc⟩ : ∃ c, s[k]? = some c := ⟨_, List.getElem?_eq_getElem hlt⟩
      have hne : s ≠ [] := by rintro rfl; simp at hlt
      have hie := empty_f hne
      have hd : decide (k < s.length) = true := decide_eq_true hlt
      have hwk : IntKind.i64.wrap ((k : Int) + 1) = ((k + 1 : Nat) : Int) := wrap_in (by omega) (by omega)
      have hle := part_ev c (k == 0)
      have qz := zero_int k
      cases hp : partB (k == 0) c with
      | false =>
        have hnf := nameL_false hc hp
        rw [hp] at hle
        (repeat' first | simp only [fins,mems,Tryz.results11,Tryz.ntmps11,Kt,wks,hc,hd,hlt,hie,hnf,qz,vcs,Ka,Kb,Kc,Kd,Ke,Kf,Kg,Kh,Ki,Kj,Kk,Kl,Km,reduceCtorEq,reduceIte,Kn,Ko,Kp,Kq,Kr,Ks,tys] | exact rfl | refine call_off (v := .any) ?_ | (first | (refine call_fn ?_ (hle _) ?_) | (refine call_fn_g ?_ (fun _ => hle _) ?_)) | ((first | apply cond_bool | apply cond_bit) <;> intro hb) | refine And.intro (by omega) ?_ | refine And.intro (fun hb => ?_) (fun hb => ?_) | refine Fin.pure ?_ ?_ ?_ | simp only [injs])
      | true =>
        have hn' := namedTo_succ hn hc hp
        rw [hp] at hle
        repeat' first | simp only [fins,mems,Tryz.results11,Tryz.ntmps11,Kt,wks,hc,hd,hlt,hwk,hie,qz,vcs,Ka,Kb,Kc,Kd,Ke,Kf,Kg,Kh,Ki,Kj,Kk,Kl,Km,reduceCtorEq,reduceIte,Kn,Ko,Kp,Kq,Kr,Ks,tys] | exact rfl | refine call_off (v := .any) ?_ | (first | (refine call_fn ?_ (hle _) ?_) | (refine call_fn_g ?_ (fun _ => hle _) ?_)) | ((first | apply cond_bool | apply cond_bit) <;> intro hb) | refine And.intro (by omega) ?_ | refine And.intro (fun hb => ?_) (fun hb => ?_)
        all_goals ((refine again_can2 cxG (k + 1) [] ?_ ?_ ?_ ?_; rotate_left 2; (focus (show b0 ≤ _; omega)); (focus (refine ⟨?_, ?_⟩ <;> (try simp only [cans,hwk,hie,vcs,Ka,Kb,Kc,Kd,Ke,Kf,Kg,Kh,Ki,Kj,Kk,Kl,Km,reduceCtorEq,reduceIte,Kn,Ko,Kp,Kq,Kr,Ks,tys,injs]) <;> (try omega)))))
        all_goals (first | (show s.length - (k + 1) < s.length - k; omega) | exact ⟨hlt, hn'⟩ | skip)
    · have hke : k = s.length := by omega
      subst hke
      have hd : decide (s.length < s.length) = false := decide_eq_false (by omega)
      by_cases hne : s = []
      · subst hne
        have e : nameL [] = false := rfl
        (repeat' first | simp only [fins,mems,Tryz.results11,Tryz.ntmps11,Kt,wks,hd,List.isEmpty_nil,e,vcs,Ka,Kb,Kc,Kd,Ke,Kf,Kg,Kh,Ki,Kj,Kk,Kl,Km,reduceCtorEq,reduceIte,Kn,Ko,Kp,Kq,Kr,Ks,tys] | exact rfl | refine call_off (v := .any) ?_ | ((first | apply cond_bool | apply cond_bit) <;> intro hb) | refine And.intro (by omega) ?_ | refine And.intro (fun hb => ?_) (fun hb => ?_) | refine Fin.pure ?_ ?_ ?_ | simp only [injs])
      · have hie := empty_f hne
        have e := nameL_true hne hn
        (repeat' first | simp only [fins,mems,Tryz.results11,Tryz.ntmps11,Kt,wks,hd,hie,e,vcs,Ka,Kb,Kc,Kd,Ke,Kf,Kg,Kh,Ki,Kj,Kk,Kl,Km,reduceCtorEq,reduceIte,Kn,Ko,Kp,Kq,Kr,Ks,tys] | exact rfl | refine call_off (v := .any) ?_ | ((first | apply cond_bool | apply cond_bit) <;> intro hb) | refine And.intro (by omega) ?_ | refine And.intro (fun hb => ?_) (fun hb => ?_) | refine Fin.pure ?_ ?_ ?_ | simp only [injs])
theorem full_ev (s : List UInt8) (hs : s.length ≤ lim) (nm : Nat) : Ev cx 13 nm [.str s] Mem.nil (.bool (fullL s)) [] := by
  have hev := cut_ev s 58 hs
  cases hc : cut1 58 s with
  | none =>
    have ev : cutV 58 s = .tup [.str s, .str [], .bool false] := by unfold cutV; rw [hc]
    have hf : fullL s = nameL s := by unfold fullL; rw [hc]
    have hn := name_ev s hs
    rw [ev] at hev
    rw [hf]
    cases h : nameL s <;> rw [h] at hn <;> (
      refine ev_go rfl (fun cargs w => Tryz.call13 cargs w) Tryz.func13 rfl mixed (by kernel_rfl) rfl ?_; intro b0 hb0
      (repeat' first | simp only [fins,mems,Tryz.results13,Tryz.ntmps13,Kt,wks,vcs,Ka,Kb,Kc,Kd,Ke,Kf,Kg,Kh,Ki,Kj,Kk,Kl,Km,reduceCtorEq,reduceIte,Kn,Ko,Kp,Kq,Kr,Ks,tys] | exact rfl | refine call_off (v := .any) ?_ | (first | (refine call_fn ?_ (hev _) ?_) | (refine call_fn_g ?_ (fun _ => hev _) ?_) | (refine call_fn ?_ (hn _) ?_) | (refine call_fn_g ?_ (fun _ => hn _) ?_)) | (refine call_off (v := .any) ?_) | ((first | apply cond_bool | apply cond_bit) <;> intro hb) | refine And.intro (by omega) ?_ | refine And.intro (fun hb => ?_) (fun hb => ?_) | refine Fin.pure ?_ ?_ ?_ | simp only [injs]))
  | some p =>
    obtain ⟨a, b⟩ := p
    obtain ⟨_, _, _, e3⟩ := index1_some hc
    have ev : cutV 58 s = .tup [.str a, .str b, .bool true] := by unfold cutV; rw [hc]
    have hf : fullL s = (nameL a && nameL b) := by unfold fullL; rw [hc]
    have hn1 := name_ev a (by omega)
    have hn2 := name_ev b (by omega)
    rw [ev] at hev
    rw [hf]
    cases h1 : nameL a <;> rw [h1] at hn1 <;> (
      refine ev_go rfl (fun cargs w => Tryz.call13 cargs w) Tryz.func13 rfl mixed (by kernel_rfl) rfl ?_; intro b0 hb0
      (repeat' first | simp only [fins,mems,Tryz.results13,Tryz.ntmps13,Kt,wks,vcs,Ka,Kb,Kc,Kd,Ke,Kf,Kg,Kh,Ki,Kj,Kk,Kl,Km,reduceCtorEq,reduceIte,Kn,Ko,Kp,Kq,Kr,Ks,tys] | exact rfl | refine call_off (v := .any) ?_ | ((first | (refine call_fn ?_ (hn1 _) ?_) | (refine call_fn_g ?_ (fun _ => hn1 _) ?_)); (focus (simp only [Tryz.results13,Tryz.ntmps13,Kt,wks,vcs,Ka,Kb,Kc,Kd,Ke,Kf,Kg,Kh,Ki,Kj,Kk,Kl,Km,reduceCtorEq,reduceIte,Kn,Ko,Kp,Kq,Kr,Ks,tys] <;> exact rfl))) | ((first | (refine call_fn ?_ (hn2 _) ?_) | (refine call_fn_g ?_ (fun _ => hn2 _) ?_)); (focus (simp only [Tryz.results13,Tryz.ntmps13,Kt,wks,vcs,Ka,Kb,Kc,Kd,Ke,Kf,Kg,Kh,Ki,Kj,Kk,Kl,Km,reduceCtorEq,reduceIte,Kn,Ko,Kp,Kq,Kr,Ks,tys] <;> exact rfl))) | (first | (refine call_fn ?_ (hev _) ?_) | (refine call_fn_g ?_ (fun _ => hev _) ?_)) | (refine call_off (v := .any) ?_) | ((first | apply cond_bool | apply cond_bit) <;> intro hb) | refine And.intro (by omega) ?_ | refine And.intro (fun hb => ?_) (fun hb => ?_) | refine Fin.pure ?_ ?_ ?_ | simp only [injs]))
def partsV (d : UInt8) (s : List UInt8) : V := match cut1 d s with
  | none => .tup [.str [], .str s, .bool false]
  | some (a, b) => .tup [.str a, .str b, .bool true]
def prC (a : Pr) : List V := [.str a.name, .str a.value]
def tkC (t : Tk) : List V := [.int .u8 t.kind, .str t.name, .sl false 2 (t.attrs.map prC), .str t.text]
theorem pr_at {l : List Pr} {k : Nat} {a : Pr} (h : l[k]? = some a) : (l.map prC)[k]? = some (prC a) := by rw [List.getElem?_map, h]; rfl
theorem tk_at {l : List Tk} {k : Nat} {a : Tk} (h : l[k]? = some a) : (l.map tkC)[k]? = some (tkC a) := by rw [List.getElem?_map, h]; rfl
theorem plain_pr (l : List Pr) : plainLL (l.map prC) = true := plainLL_map _ (fun _ => rfl) l
theorem plain_tk (l : List Tk) : plainLL (l.map tkC) = true := plainLL_map _ (fun t => by simp [tkC,plainL,V.plain,plain_pr]) l
theorem notany_succ {α : Type} {p : α → Bool} {l : List α} {k : Nat} {x : α} (h : (l.take k).any p = false) (hc : l[k]? = some x) (hx : p x = false) : (l.take (k + 1)).any p = false := by
  obtain ⟨hk, rfl⟩ := List.getElem?_eq_some_iff.1 hc
  rw [List.take_succ_eq_append_getElem hk, List.any_append, h]
  simp [hx]
theorem attrsTo_succ {l : List Pr} {k : Nat} {a : Pr} (h : attrsTo l k) (ha : l[k]? = some a) (ho : okP (l.take k) a = true) : attrsTo l (k + 1) := by
  intro i b hi hb
  by_cases e : i = k
  · subst e; rw [ha] at hb; cases hb; exact ho
  · exact h i b (by omega) hb
theorem attrs_false {l : List Pr} {k : Nat} {a : Pr} (ha : l[k]? = some a) (ho : okP (l.take k) a = false) : attrsL l = false := by
  cases h : attrsL l with
  | false => rfl
  | true =>
    have := (attrs_iff.1 h).2 k a (List.getElem?_eq_some_iff.1 ha).1 ha
    rw [ho] at this; cases this
end Go.Proofs.YtoaclokiggoeiaaGreatDoor
