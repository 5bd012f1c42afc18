/-
  Texts joined: XGc, XGd.
-/
import Derived.Test.YtoaclokiggoeiaaGreatDoorJf
namespace Go.Proofs.YtoaclokiggoeiaaGreatDoor
set_option maxRecDepth 100000
set_option maxHeartbeats 32000000
set_option linter.unusedSimpArgs false
set_option linter.unusedVariables false
open Nat renaming reduceAdd → Ka, reduceMul → Kb, reduceEqDiff → Kc, reduceLeDiff → Kd, reduceSub → Ke, reduceLT → Kf, reduceBEq → Kr, reduceBNe → Ks, reducePow → Kt
open Int renaming reduceToNat → Kg, reduceLE → Kh, reduceLT → Ki, reduceAdd → Kj, reduceSub → Kk, reduceMul → Kl, reduceNeg → Km, reduceBEq → Kn, reduceBNe → Ko, reduceEq → Kp, reduceNe → Kq
open Go Go.RowKit Go.Proofs.YtoaclokiggoeiaaGreatDoor.Vm Go.Lib
theorem plain_bsG (bs : List UInt8) : plainLL (bs.map byteRow) = true := plainLL_map _ (fun _ => rfl) bs
theorem decV_take {s : List UInt8} {k : Nat} {c : UInt8} (h : s[k]? = some c) : decV 0 (s.take (k + 1)) = (decV 0 (s.take k)).bind fun m => (decD c).map fun d => 10 * m + d := by
  obtain ⟨hk, rfl⟩ := List.getElem?_eq_some_iff.1 h
  rw [List.take_succ_eq_append_getElem hk, decV_snoc]
theorem decV_none : ∀ {s t : List UInt8} {n : Nat}, decV n s = none → decV n (s ++ t) = none
  | [], t, n, h => by simp [decV] at h
  | c :: s, t, n, h => by
    simp only [List.cons_append,decV] at h ⊢
    cases hc : decD c with
    | none => rfl
    | some d => rw [hc] at h; exact decV_none h
def readE (s : List UInt8) : V := match decL s with
  | some n => .tup [.int .i64 n, .int .i64 0]
  | none => .tup [.int .i64 0, .int .i64 60]
theorem readE_none {s : List UInt8} (h : decL s = none) : readE s = .tup [.int .i64 0, .int .i64 60] := by unfold readE; rw [h]
theorem readE_some {s : List UInt8} {n : Nat} (h : decL s = some n) : readE s = .tup [.int .i64 n, .int .i64 0] := by unfold readE; rw [h]
theorem numRead_ev (s : List UInt8) (hs : s.length ≤ lim) (nm : Nat) : Ev cx 106 nm [.str s] Mem.nil (readE s) [] := by
  unfold lim at hs
  by_cases hbad : s = [] ∨ 16 < s.length ∨ (s.head? = some 48 ∧ s ≠ [48])
  · have hn : decL s = none := by unfold decL; rw [if_pos hbad]
    have hr := readE_none hn
    by_cases h0 : s = []
    · subst h0
      have e0 : (([] : List UInt8) == []) = true := rfl
      refine ev_go rfl (fun cargs w => Tryz.call106 cargs w) Tryz.func106 rfl mixed (by kernel_rfl) rfl ?_; intro b0 hb0
      (repeat' first | simp only [fins,mems,Tryz.results106,Tryz.ntmps106,Kt,wks,e0,hr,vcs,Ka,Kb,Kc,Kd,Ke,Kf,Kg,Kh,Ki,Kj,Kk,Kl,Km,reduceCtorEq,reduceIte,Kn,Ko,Kp,Kq,Kr,Ks,tys] | exact rfl | refine call_off (v := .any) ?_ | ((first | apply cond_bool | apply cond_bit) <;> intro hb) | refine And.intro (by omega) ?_ | refine And.intro (fun hb => ?_) (fun hb => ?_) | refine Fin.pure ?_ ?_ ?_ | simp only [injs])
    · have e0 : (s == []) = false := beq_false_of_ne h0
      by_cases h16 : 16 < s.length
      · have e1 : decide ((16 : Int) < (s.length : Int)) = true := decide_eq_true (by omega)
        refine ev_go rfl (fun cargs w => Tryz.call106 cargs w) Tryz.func106 rfl mixed (by kernel_rfl) rfl ?_; intro b0 hb0
        (repeat' first | simp only [fins,mems,Tryz.results106,Tryz.ntmps106,Kt,wks,e0,e1,hr,vcs,Ka,Kb,Kc,Kd,Ke,Kf,Kg,Kh,Ki,Kj,Kk,Kl,Km,reduceCtorEq,reduceIte,Kn,Ko,Kp,Kq,Kr,Ks,tys] | exact rfl | refine call_off (v := .any) ?_ | ((first | apply cond_bool | apply cond_bit) <;> intro hb) | refine And.intro (by omega) ?_ | refine And.intro (fun hb => ?_) (fun hb => ?_) | refine Fin.pure ?_ ?_ ?_ | simp only [injs])
      · obtain ⟨h1, h2⟩ : s.head? = some 48 ∧ s ≠ [48] := by rcases hbad with h | h | h; exact absurd h h0; exact absurd h h16; exact h
        have e1 : decide ((16 : Int) < (s.length : Int)) = false := decide_eq_false (by omega)
        have e2 : s[0]? = some 48 := by rw [← List.head?_eq_getElem?]; exact h1
        have e3 : (s == [48]) = false := beq_false_of_ne h2
        have e4 : 0 < s.length := List.length_pos_iff.2 h0
        have e6 : (((48 : UInt8).toNat : Int) == 48) = true := rfl
        refine ev_go rfl (fun cargs w => Tryz.call106 cargs w) Tryz.func106 rfl mixed (by kernel_rfl) rfl ?_; intro b0 hb0
        (repeat' first | simp only [fins,mems,Tryz.results106,Tryz.ntmps106,Kt,wks,e0,e1,e2,e3,e4,e6,hr,Bool.not_false,vcs,Ka,Kb,Kc,Kd,Ke,Kf,Kg,Kh,Ki,Kj,Kk,Kl,Km,reduceCtorEq,reduceIte,Kn,Ko,Kp,Kq,Kr,Ks,tys] | exact rfl | refine call_off (v := .any) ?_ | ((first | apply cond_bool | apply cond_bit) <;> intro hb) | refine And.intro (by omega) ?_ | refine And.intro (fun hb => ?_) (fun hb => ?_) | refine Fin.pure ?_ ?_ ?_ | simp only [injs])
  · have h0 : s ≠ [] := fun h => hbad (.inl h)
    have h16 : ¬ 16 < s.length := fun h => hbad (.inr (.inl h))
    have h48 : ¬ (s.head? = some 48 ∧ s ≠ [48]) := fun h => hbad (.inr (.inr h))
    have hdl : decL s = (decV 0 s).bind fun n => if n ≤ 9007199254740991 then some n else none := by unfold decL; rw [if_neg hbad]
    have e0 : (s == []) = false := beq_false_of_ne h0
    have e1 : decide ((16 : Int) < (s.length : Int)) = false := decide_eq_false (by omega)
    have e4 : 0 < s.length := List.length_pos_iff.2 h0
    obtain ⟨c0, hc0⟩ : ∃ c, s[0]? = some c := ⟨_, List.getElem?_eq_getElem e4⟩
    have e2 : ((c0.toNat : Int) == 48) = decide (c0 = 48) := beq_byte c0 48
    have e3 : c0 = 48 → (s == [48]) = true := fun h => by
      by_cases h5 : s = [48]
      · rw [h5]; rfl
      · exact absurd ⟨by rw [List.head?_eq_getElem?, hc0, h], h5⟩ h48
    have hround : ∀ b : Bool, decide (c0 = 48) = b → (b = true → (s == [48]) = true) := fun b h h2 => e3 (of_decide_eq_true (h.trans h2))
    generalize hb : decide (c0 = 48) = b at e2
    have e5 := hround b hb
    clear hround
    refine ev_go rfl (fun cargs w => Tryz.call106 cargs w) Tryz.func106 rfl mixed (by kernel_rfl) rfl ?_; intro b0 hb0
    cases b
    all_goals (
      first | have e6 := e5 rfl | have e6 : True := trivial
      repeat' first | simp only [fins,mems,Tryz.results106,Tryz.ntmps106,Kt,wks,e0,e1,hc0,e2,e4,e6,Bool.not_true,Bool.not_false,vcs,Ka,Kb,Kc,Kd,Ke,Kf,Kg,Kh,Ki,Kj,Kk,Kl,Km,reduceCtorEq,reduceIte,Kn,Ko,Kp,Kq,Kr,Ks,tys] | exact rfl | refine call_off (v := .any) ?_ | (refine ext_toBytes (bs := ?_) ?_ ?_ ?_ ?_; rotate_left 1; (iterate 2 (focus (simp only [Tryz.results106,Tryz.ntmps106,Kt,wks,e0,e1,hc0,e2,e4,e6,Bool.not_true,Bool.not_false,vcs,Ka,Kb,Kc,Kd,Ke,Kf,Kg,Kh,Ki,Kj,Kk,Kl,Km,reduceCtorEq,reduceIte,Kn,Ko,Kp,Kq,Kr,Ks,tys]; done))); (focus (simp only [Tryz.results106,Tryz.ntmps106,Kt,wks,e0,e1,hc0,e2,e4,e6,Bool.not_true,Bool.not_false,vcs,Ka,Kb,Kc,Kd,Ke,Kf,Kg,Kh,Ki,Kj,Kk,Kl,Km,reduceCtorEq,reduceIte,Kn,Ko,Kp,Kq,Kr,Ks,tys] <;> exact rfl))) | (refine extG_true ?_) | (refine extG_false ?_) | ((first | apply cond_bool | apply cond_bit) <;> intro hb) | refine And.intro (by omega) ?_ | refine And.intro (fun hb => ?_) (fun hb => ?_)
      (refine loop_can2 cxG (fun x : Nat × Nat => s.length - x.1) (fun x => x.1 ≤ s.length ∧ decV 0 (s.take x.1) = some x.2) (b0 + 16) (fun x => [(2, .int .i64 x.2), (4, .bool false), (25, .sl false 1 (s.map byteRow)), (26, .int .i64 s.length), (27, .int .i64 x.1)]) (fun x => []) ((0, 0)) [] ?_ ?_ ?_ ?_; rotate_left 1; (focus (show b0 ≤ _; omega)); (focus (refine ⟨?_, ?_⟩ <;> (try simp only [cans,plain_bsG,List.length_map,show decV 0 [] = some 0 from rfl,vcs,Ka,Kb,Kc,Kd,Ke,Kf,Kg,Kh,Ki,Kj,Kk,Kl,Km,reduceCtorEq,reduceIte,Kn,Ko,Kp,Kq,Kr,Ks,tys,injs]) <;> (try omega))); rotate_left 1)
      · exact ⟨Nat.zero_le _, rfl⟩
      · rintro ⟨k, m⟩ ⟨hk, hv⟩
        simp only at hk hv
        have hmb := (decV_le _ _ _ hv).2
        have hkl : (s.take k).length = k := by rw [List.length_take]; omega
        rw [hkl] at hmb
        have hp16 : (10 : Nat) ^ k ≤ 10 ^ 16 := Nat.pow_le_pow_right (by omega) (by omega)
        have hm16 : m < 10000000000000000 := by simp only [Nat.zero_add,Nat.one_mul] at hmb; exact Nat.lt_of_lt_of_le hmb hp16
        by_cases hlt : k < s.length
        · obtain ⟨c, hc⟩ : ∃ c, s[k]? = some c := ⟨_, List.getElem?_eq_getElem hlt⟩
          have hh : (s.map byteRow)[k]? = some (byteRow c) := by rw [List.getElem?_map, hc]; rfl
          have hd : decide (k < s.length) = true := decide_eq_true hlt
          have hwk : IntKind.i64.wrap ((k : Int) + 1) = ((k + 1 : Nat) : Int) := wrap_in (by omega) (by omega)
          have hcn : c.toNat < 256 := c.toNat_lt
          have hw1 : IntKind.i64.wrap (c.toNat : Int) = (c.toNat : Int) := wrap_in (by omega) (by omega)
          have hw2 : IntKind.i64.wrap ((c.toNat : Int) - 48) = (c.toNat : Int) - 48 := wrap_in (by omega) (by omega)
          have hnx := decV_take hc
          rw [hv] at hnx
          simp only [Option.bind_some] at hnx
          cases hdc : decD c with
          | none =>
            have hno : decV 0 s = none := by
              rw [hdc] at hnx
              rw [← List.take_append_drop (k + 1) s]
              exact decV_none hnx
            have hr := readE_none (s := s) (by rw [hdl, hno]; rfl)
            have hcs : decide ((c.toNat : Int) - 48 < 0) = true ∨ (decide ((c.toNat : Int) - 48 < 0) = false ∧ decide ((9 : Int) < (c.toNat : Int) - 48) = true) := by
              by_cases h1 : (c.toNat : Int) - 48 < 0
              · exact .inl (decide_eq_true h1)
              · refine .inr ⟨decide_eq_false h1, decide_eq_true ?_⟩
                unfold decD at hdc
                split at hdc
                · cases hdc
                · omega
            rcases hcs with h1 | ⟨h1, h2⟩
            · (repeat' first | simp only [fins,mems,Tryz.results106,Tryz.ntmps106,Kt,wks,hh,hd,hlt,hw1,hw2,h1,hr,byteRow,List.length_map,vcs,Ka,Kb,Kc,Kd,Ke,Kf,Kg,Kh,Ki,Kj,Kk,Kl,Km,reduceCtorEq,reduceIte,Kn,Ko,Kp,Kq,Kr,Ks,tys] | exact rfl | refine call_off (v := .any) ?_ | ((first | apply cond_bool | apply cond_bit) <;> intro hb) | refine And.intro (by omega) ?_ | refine And.intro (fun hb => ?_) (fun hb => ?_) | refine Fin.pure ?_ ?_ ?_ | simp only [injs])
            · (repeat' first | simp only [fins,mems,Tryz.results106,Tryz.ntmps106,Kt,wks,hh,hd,hlt,hw1,hw2,h1,h2,hr,byteRow,List.length_map,vcs,Ka,Kb,Kc,Kd,Ke,Kf,Kg,Kh,Ki,Kj,Kk,Kl,Km,reduceCtorEq,reduceIte,Kn,Ko,Kp,Kq,Kr,Ks,tys] | exact rfl | refine call_off (v := .any) ?_ | ((first | apply cond_bool | apply cond_bit) <;> intro hb) | refine And.intro (by omega) ?_ | refine And.intro (fun hb => ?_) (fun hb => ?_) | refine Fin.pure ?_ ?_ ?_ | simp only [injs])
          | some d =>
            obtain ⟨d9, _, hcd⟩ := decD_range hdc
            rw [hdc] at hnx
            have h1 : decide ((c.toNat : Int) - 48 < 0) = false := decide_eq_false (by omega)
            have h2 : decide ((9 : Int) < (c.toNat : Int) - 48) = false := decide_eq_false (by omega)
            have hw3 : IntKind.i64.wrap (10 * (m : Int)) = 10 * (m : Int) := wrap_in (by omega) (by omega)
            have hw4 : IntKind.i64.wrap (10 * (m : Int) + ((c.toNat : Int) - 48)) = ((10 * m + d : Nat) : Int) := by rw [wrap_in (by omega) (by omega)]; omega
            repeat' first | simp only [fins,mems,Tryz.results106,Tryz.ntmps106,Kt,wks,hh,hd,hlt,hw1,hw2,hw3,hw4,h1,h2,byteRow,List.length_map,vcs,Ka,Kb,Kc,Kd,Ke,Kf,Kg,Kh,Ki,Kj,Kk,Kl,Km,reduceCtorEq,reduceIte,Kn,Ko,Kp,Kq,Kr,Ks,tys] | exact rfl | refine call_off (v := .any) ?_ | ((first | apply cond_bool | apply cond_bit) <;> intro hb) | refine And.intro (by omega) ?_ | refine And.intro (fun hb => ?_) (fun hb => ?_)
            all_goals ((refine again_can2 cxG ((k + 1, 10 * m + d)) [] ?_ ?_ ?_ ?_; rotate_left 2; (focus (show b0 ≤ _; omega)); (focus (refine ⟨?_, ?_⟩ <;> (try simp only [cans,plain_bsG,hwk,hw4,List.length_map,vcs,Ka,Kb,Kc,Kd,Ke,Kf,Kg,Kh,Ki,Kj,Kk,Kl,Km,reduceCtorEq,reduceIte,Kn,Ko,Kp,Kq,Kr,Ks,tys,injs]) <;> (try omega)))))
            all_goals (first | (show s.length - (k + 1) < s.length - k; omega) | exact ⟨hlt, hnx⟩ | skip)
        · have hke : k = s.length := by omega
          subst hke
          rw [List.take_length] at hv
          have hd : decide (s.length < s.length) = false := decide_eq_false (by omega)
          by_cases hmx : m ≤ 9007199254740991
          · have hr := readE_some (s := s) (n := m) (by rw [hdl, hv]; simp only [Option.bind_some]; rw [if_pos hmx])
            have h1 : decide ((9007199254740991 : Int) < (m : Int)) = false := decide_eq_false (by omega)
            (repeat' first | simp only [fins,mems,Tryz.results106,Tryz.ntmps106,Kt,wks,hd,h1,hr,List.length_map,vcs,Ka,Kb,Kc,Kd,Ke,Kf,Kg,Kh,Ki,Kj,Kk,Kl,Km,reduceCtorEq,reduceIte,Kn,Ko,Kp,Kq,Kr,Ks,tys] | exact rfl | refine call_off (v := .any) ?_ | ((first | apply cond_bool | apply cond_bit) <;> intro hb) | refine And.intro (by omega) ?_ | refine And.intro (fun hb => ?_) (fun hb => ?_) | refine Fin.pure ?_ ?_ ?_ | simp only [injs])
          · have hr := readE_none (s := s) (by rw [hdl, hv]; simp only [Option.bind_some]; rw [if_neg hmx])
            have h1 : decide ((9007199254740991 : Int) < (m : Int)) = true := decide_eq_true (by omega)
            (repeat' first | simp only [fins,mems,Tryz.results106,Tryz.ntmps106,Kt,wks,hd,h1,hr,List.length_map,vcs,Ka,Kb,Kc,Kd,Ke,Kf,Kg,Kh,Ki,Kj,Kk,Kl,Km,reduceCtorEq,reduceIte,Kn,Ko,Kp,Kq,Kr,Ks,tys] | exact rfl | refine call_off (v := .any) ?_ | ((first | apply cond_bool | apply cond_bit) <;> intro hb) | refine And.intro (by omega) ?_ | refine And.intro (fun hb => ?_) (fun hb => ?_) | refine Fin.pure ?_ ?_ ?_ | simp only [injs]))
def lowI (c : UInt8) : Int := IntKind.u8.wrap ((BitVec.ofInt IntKind.u8.bits (c.toNat : Int) ||| BitVec.ofInt IntKind.u8.bits 32).toNat : Int)
theorem lower_ev (c : UInt8) (nm : Nat) : Ev cx 129 nm [.int .u8 c.toNat] Mem.nil (.int .u8 (lowI c)) [] := by
  have h : IntKind.u8.wrap ((BitVec.ofInt IntKind.u8.bits (c.toNat : Int) ||| BitVec.ofInt IntKind.u8.bits 32).toNat : Int) = lowI c := rfl
  refine ev_go rfl (fun cargs w => Tryz.call129 cargs w) Tryz.func129 rfl mixed (by kernel_rfl) rfl ?_; intro b0 hb0
  (repeat' first | simp only [fins,mems,Tryz.results129,Tryz.ntmps129,Kt,wks,h,vcs,Ka,Kb,Kc,Kd,Ke,Kf,Kg,Kh,Ki,Kj,Kk,Kl,Km,reduceCtorEq,reduceIte,Kn,Ko,Kp,Kq,Kr,Ks,tys] | exact rfl | refine call_off (v := .any) ?_ | ((first | apply cond_bool | apply cond_bit) <;> intro hb) | refine And.intro (by omega) ?_ | refine And.intro (fun hb => ?_) (fun hb => ?_) | refine Fin.pure ?_ ?_ ?_ | simp only [injs])
theorem low_hex {c : UInt8} {d : Nat} (h : hexD c = some d) : (48 ≤ c.toNat ∧ c.toNat ≤ 57 ∧ d = c.toNat - 48) ∨ (57 < c.toNat ∧ c.toNat ≠ 95 ∧ 97 ≤ lowI c ∧ lowI c ≤ 102 ∧ (d : Int) = lowI c - 87) := by
  have key : ∀ n : Fin 256, (97 ≤ n.val ∧ n.val ≤ 102 → lowI (UInt8.ofNat n.val) = n.val) ∧ (65 ≤ n.val ∧ n.val ≤ 70 → lowI (UInt8.ofNat n.val) = n.val + 32) := by decide +kernel
  have hk := key ⟨c.toNat, c.toNat_lt⟩
  simp only [UInt8.ofNat_toNat] at hk
  unfold hexD at h
  split at h
  · rename_i h1; cases h; left; omega
  · split at h
    · rename_i h1; cases h; right
      have := hk.1 h1
      omega
    · split at h
      · rename_i h1; cases h; right
        have := hk.2 h1
        omega
      · cases h
theorem hexV_snoc : ∀ (s : List UInt8) (n : Nat) (c : UInt8), hexV n (s ++ [c]) = (hexV n s).bind fun m => (hexD c).map fun d => 16 * m + d
  | [], n, c => by
    simp only [List.nil_append,hexV,Option.bind_some]
    cases hexD c <;> rfl
  | x :: s, n, c => by
    simp only [List.cons_append,hexV]
    cases hexD x with
    | none => rfl
    | some d => exact hexV_snoc s _ c
theorem hexV_take {s : List UInt8} {k : Nat} {c : UInt8} (h : s[k]? = some c) : hexV 0 (s.take (k + 1)) = (hexV 0 (s.take k)).bind fun m => (hexD c).map fun d => 16 * m + d := by
  obtain ⟨hk, rfl⟩ := List.getElem?_eq_some_iff.1 h
  rw [List.take_succ_eq_append_getElem hk, hexV_snoc]
theorem hexD_lt {c : UInt8} {d : Nat} (h : hexD c = some d) : d < 16 := by
  unfold hexD at h
  split at h
  · cases h; omega
  · split at h
    · cases h; omega
    · split at h
      · cases h; omega
      · cases h
theorem hexV_lt : ∀ (s : List UInt8) (n m : Nat), hexV n s = some m → m < (n + 1) * 16 ^ s.length
  | [], n, m, h => by simp only [hexV] at h; cases h; simp
  | x :: s, n, m, h => by
    simp only [hexV] at h
    cases hx : hexD x with
    | none => rw [hx] at h; cases h
    | some d =>
      rw [hx] at h
      have hd := hexD_lt hx
      refine Nat.lt_of_lt_of_le (hexV_lt s _ m h) ?_
      rw [List.length_cons, Nat.pow_succ', ← Nat.mul_assoc]
      exact Nat.mul_le_mul_right _ (by omega)
theorem hexV_none : ∀ {s t : List UInt8} {n : Nat}, hexV n s = none → hexV n (s ++ t) = none
  | [], t, n, h => by simp [hexV] at h
  | c :: s, t, n, h => by
    simp only [List.cons_append,hexV] at h ⊢
    cases hc : hexD c with
    | none => rfl
    | some d => rw [hc] at h; exact hexV_none h
def allHex (s : List UInt8) : Bool := s.all fun c => (hexD c).isSome
theorem hexV_all : ∀ (s : List UInt8) (n : Nat), allHex s = (hexV n s).isSome
  | [], n => rfl
  | c :: s, n => by
    simp only [allHex,List.all_cons,hexV]
    cases hc : hexD c with
    | none => simp
    | some d => simpa [allHex] using hexV_all s (16 * n + d)
theorem uint_ev (s : List UInt8) (n : Nat) (hl : s.length ≤ 6) (h0 : s ≠ []) (hv : hexV 0 s = some n) (nm : Nat) : Ev cx 121 nm [.str s, .int .i64 16, .int .i64 32] Mem.nil (.tup [.int .u64 n, .val .nilIface]) [] := by
  have e0 : (s == []) = false := beq_false_of_ne h0
  have hsh : IntKind.u64.wrap (1 * 2 ^ min 32 IntKind.u64.bits) = 4294967296 := by decide
  have hsh2 : IntKind.u64.wrap (4294967296 - 1) = 4294967295 := by decide
  have hsh3 : IntKind.u64.wrap 4294967295 = 4294967295 := by decide
  have hL : s.length ≤ 6 := hl
  have hw32 : IntKind.u64.wrap 32 = 32 := by decide
  have q16 : IntKind.u8.wrap 16 = 16 := by decide
  have q16' : IntKind.u64.wrap 16 = 16 := by decide
  refine ev_go rfl (fun cargs w => Tryz.call121 cargs w) Tryz.func121 rfl mixed (by kernel_rfl) rfl ?_; intro b0 hb0
  repeat' first | simp only [fins,mems,Tryz.results121,Tryz.ntmps121,Kt,wks,e0,hw32,hsh,hsh2,hsh3,vcs,Ka,Kb,Kc,Kd,Ke,Kf,Kg,Kh,Ki,Kj,Kk,Kl,Km,reduceCtorEq,reduceIte,Kn,Ko,Kp,Kq,Kr,Ks,tys] | exact rfl | refine call_off (v := .any) ?_ | (refine ext_toBytes (bs := ?_) ?_ ?_ ?_ ?_; rotate_left 1; (iterate 2 (focus (simp only [Tryz.results121,Tryz.ntmps121,Kt,wks,e0,hw32,hsh,hsh2,hsh3,vcs,Ka,Kb,Kc,Kd,Ke,Kf,Kg,Kh,Ki,Kj,Kk,Kl,Km,reduceCtorEq,reduceIte,Kn,Ko,Kp,Kq,Kr,Ks,tys]; done))); (focus (simp only [Tryz.results121,Tryz.ntmps121,Kt,wks,e0,hw32,hsh,hsh2,hsh3,vcs,Ka,Kb,Kc,Kd,Ke,Kf,Kg,Kh,Ki,Kj,Kk,Kl,Km,reduceCtorEq,reduceIte,Kn,Ko,Kp,Kq,Kr,Ks,tys] <;> exact rfl))) | (refine extG_true ?_) | (refine extG_false ?_) | ((first | apply cond_bool | apply cond_bit) <;> intro hb) | refine And.intro (by omega) ?_ | refine And.intro (fun hb => ?_) (fun hb => ?_)
  (refine loop_can2 cxG (fun x : Nat × Nat => s.length - x.1) (fun x => x.1 ≤ s.length ∧ hexV 0 (s.take x.1) = some x.2) (b0 + 16) (fun x => [(1, .int .i64 16), (8, .bool false), (9, .str s), (10, .int .u64 1152921504606846976), (11, .int .u64 4294967295), (12, .bool false), (13, .int .u64 x.2), (99, .sl false 1 (s.map byteRow)), (100, .int .i64 s.length), (101, .int .i64 x.1)]) (fun x => []) ((0, 0)) [] ?_ ?_ ?_ ?_; rotate_left 1; (focus (show b0 ≤ _; omega)); (focus (refine ⟨?_, ?_⟩ <;> (try simp only [cans,plain_bsG,List.length_map,show hexV 0 [] = some 0 from rfl,vcs,Ka,Kb,Kc,Kd,Ke,Kf,Kg,Kh,Ki,Kj,Kk,Kl,Km,reduceCtorEq,reduceIte,Kn,Ko,Kp,Kq,Kr,Ks,tys,injs]) <;> (try omega))); rotate_left 1)
  · exact ⟨Nat.zero_le _, rfl⟩
  · rintro ⟨k, m⟩ ⟨hk, hm⟩
    simp only at hk hm
    have hmb := hexV_lt _ _ _ hm
    have hkl : (s.take k).length = k := by rw [List.length_take]; omega
    rw [hkl] at hmb
    have hp6 : (16 : Nat) ^ k ≤ 16 ^ 6 := Nat.pow_le_pow_right (by omega) (by omega)
    have hm6 : m < 16777216 := by simp only [Nat.zero_add,Nat.one_mul] at hmb; exact Nat.lt_of_lt_of_le hmb hp6
    by_cases hlt : k < s.length
    · obtain ⟨c, hc⟩ : ∃ c, s[k]? = some c := ⟨_, List.getElem?_eq_getElem hlt⟩
      have hh : (s.map byteRow)[k]? = some (byteRow c) := by rw [List.getElem?_map, hc]; rfl
      have hd : decide (k < s.length) = true := decide_eq_true hlt
      have hwk : IntKind.i64.wrap ((k : Int) + 1) = ((k + 1 : Nat) : Int) := wrap_in (by omega) (by omega)
      have hcn : c.toNat < 256 := c.toNat_lt
      have hnx := hexV_take hc
      rw [hm] at hnx
      simp only [Option.bind_some] at hnx
      cases hdc : hexD c with
      | none =>
        exfalso
        rw [hdc] at hnx
        have : hexV 0 s = none := by rw [← List.take_append_drop (k + 1) s]; exact hexV_none hnx
        rw [this] at hv; cases hv
      | some d =>
        rw [hdc] at hnx
        have hdl := hexD_lt hdc
        have hd16 : decide ((16 : Int) ≤ (d : Int)) = false := decide_eq_false (by omega)
        have hcu : decide ((1152921504606846976 : Int) ≤ (m : Int)) = false := decide_eq_false (by omega)
        have hw3 : IntKind.u64.wrap ((m : Int) * 16) = (m : Int) * 16 := IntWalk.u64_in _ (by omega)
        have hw4 : IntKind.u64.wrap (d : Int) = (d : Int) := IntWalk.u64_in _ (by omega)
        have hw5 : IntKind.u64.wrap ((m : Int) * 16 + (d : Int)) = ((16 * m + d : Nat) : Int) := by rw [IntWalk.u64_in _ (by omega)]; omega
        have hc1 : decide (((16 * m + d : Nat) : Int) < (m : Int) * 16) = false := decide_eq_false (by omega)
        have hc2 : decide ((4294967295 : Int) < ((16 * m + d : Nat) : Int)) = false := decide_eq_false (by omega)
        rcases low_hex hdc with ⟨h1, h2, h3⟩ | ⟨h1, h2, h3, h4, h5⟩
        · have q95 : ((c.toNat : Int) == 95) = false := beq_false_of_ne (by omega)
          have q48 : decide ((48 : Int) ≤ (c.toNat : Int)) = true := decide_eq_true (by omega)
          have q57 : decide ((c.toNat : Int) ≤ 57) = true := decide_eq_true (by omega)
          have hw1 : IntKind.u8.wrap ((c.toNat : Int) - 48) = (d : Int) := by rw [IntWalk.u8_in _ (by omega)]; omega
          repeat' first | simp only [fins,mems,Tryz.results121,Tryz.ntmps121,Kt,wks,hh,hd,hlt,hw1,hw3,hw4,hw5,hd16,hcu,hc1,hc2,q95,q48,q57,q16,q16',byteRow,List.length_map,vcs,Ka,Kb,Kc,Kd,Ke,Kf,Kg,Kh,Ki,Kj,Kk,Kl,Km,reduceCtorEq,reduceIte,Kn,Ko,Kp,Kq,Kr,Ks,tys] | exact rfl | refine call_off (v := .any) ?_ | ((first | apply cond_bool | apply cond_bit) <;> intro hb) | refine And.intro (by omega) ?_ | refine And.intro (fun hb => ?_) (fun hb => ?_)
          all_goals ((refine again_can2 cxG ((k + 1, 16 * m + d)) [] ?_ ?_ ?_ ?_; rotate_left 2; (focus (show b0 ≤ _; omega)); (focus (refine ⟨?_, ?_⟩ <;> (try simp only [cans,plain_bsG,hwk,List.length_map,vcs,Ka,Kb,Kc,Kd,Ke,Kf,Kg,Kh,Ki,Kj,Kk,Kl,Km,reduceCtorEq,reduceIte,Kn,Ko,Kp,Kq,Kr,Ks,tys,injs]) <;> (try omega)))))
          all_goals (first | (show s.length - (k + 1) < s.length - k; omega) | exact ⟨hlt, hnx⟩ | skip)
        · have q95 : ((c.toNat : Int) == 95) = false := beq_false_of_ne (by omega)
          have q48 : decide ((48 : Int) ≤ (c.toNat : Int)) = true := decide_eq_true (by omega)
          have q57 : decide ((c.toNat : Int) ≤ 57) = false := decide_eq_false (by omega)
          have q97 : decide ((97 : Int) ≤ lowI c) = true := decide_eq_true (by omega)
          have q122 : decide (lowI c ≤ (122 : Int)) = true := decide_eq_true (by omega)
          have hw1 : IntKind.u8.wrap (lowI c - 97) = lowI c - 97 := IntWalk.u8_in _ (by omega)
          have hw2 : IntKind.u8.wrap (lowI c - 97 + 10) = (d : Int) := by rw [IntWalk.u8_in _ (by omega)]; omega
          repeat' first | simp only [fins,mems,Tryz.results121,Tryz.ntmps121,Kt,wks,hh,hd,hlt,hw1,hw2,hw3,hw4,hw5,hd16,hcu,hc1,hc2,q95,q48,q57,q97,q122,q16,q16',byteRow,List.length_map,vcs,Ka,Kb,Kc,Kd,Ke,Kf,Kg,Kh,Ki,Kj,Kk,Kl,Km,reduceCtorEq,reduceIte,Kn,Ko,Kp,Kq,Kr,Ks,tys] | exact rfl | refine call_off (v := .any) ?_ | (first | (refine call_fn ?_ (lower_ev c _) ?_) | (refine call_fn_g ?_ (fun _ => lower_ev c _) ?_)) | ((first | apply cond_bool | apply cond_bit) <;> intro hb) | refine And.intro (by omega) ?_ | refine And.intro (fun hb => ?_) (fun hb => ?_)
          all_goals ((refine again_can2 cxG ((k + 1, 16 * m + d)) [] ?_ ?_ ?_ ?_; rotate_left 2; (focus (show b0 ≤ _; omega)); (focus (refine ⟨?_, ?_⟩ <;> (try simp only [cans,plain_bsG,hwk,List.length_map,vcs,Ka,Kb,Kc,Kd,Ke,Kf,Kg,Kh,Ki,Kj,Kk,Kl,Km,reduceCtorEq,reduceIte,Kn,Ko,Kp,Kq,Kr,Ks,tys,injs]) <;> (try omega)))))
          all_goals (first | (show s.length - (k + 1) < s.length - k; omega) | exact ⟨hlt, hnx⟩ | skip)
    · have hke : k = s.length := by omega
      subst hke
      rw [List.take_length, hv] at hm
      cases hm
      have hd : decide (s.length < s.length) = false := decide_eq_false (by omega)
      (repeat' first | simp only [fins,mems,Tryz.results121,Tryz.ntmps121,Kt,wks,hd,List.length_map,vcs,Ka,Kb,Kc,Kd,Ke,Kf,Kg,Kh,Ki,Kj,Kk,Kl,Km,reduceCtorEq,reduceIte,Kn,Ko,Kp,Kq,Kr,Ks,tys] | exact rfl | refine call_off (v := .any) ?_ | ((first | apply cond_bool | apply cond_bit) <;> intro hb) | refine And.intro (by omega) ?_ | refine And.intro (fun hb => ?_) (fun hb => ?_) | refine Fin.pure ?_ ?_ ?_ | simp only [injs])
end Go.Proofs.YtoaclokiggoeiaaGreatDoor
