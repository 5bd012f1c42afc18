/-
  Texts joined: XLp, XLl, XLq.
-/
import Derived.Test.YtoaclokiggoeiaaGreatDoorJw
import Derived.Test.YtoaclokiggoeiaaGreatDoorJ1
import Derived.Test.YtoaclokiggoeiaaGreatDoorJy
namespace Go.Proofs.YtoaclokiggoeiaaGreatDoor
set_option maxRecDepth 100000
set_option maxHeartbeats 32000000
set_option linter.unusedSimpArgs false
set_option linter.unusedVariables false
open Go Go.RowKit Go.Proofs.YtoaclokiggoeiaaGreatDoor.Vm Go.Lib
theorem tokWL_ne {t : Tk} (h : tokL t = true) : tokW t ≠ [] := by
  unfold tokW
  split
  · rename_i hk
    unfold tokL at h
    rw [if_neg (by omega), if_neg (by omega), if_pos hk] at h
    simp only [Bool.and_eq_true,Bool.not_eq_true',List.isEmpty_eq_false_iff] at h
    intro e
    have h1 := (escW_length false t.text).1
    rw [e] at h1
    have := List.length_pos_iff.2 h.1.2
    simp at h1
    exact h.1.2 h1
  · split <;> simp
theorem any_at {α : Type} {p : α → Bool} {l : List α} {k : Nat} {x : α} (h : l[k]? = some x) (hp : p x = true) : l.any p = true := List.any_eq_true.2 ⟨x, List.mem_of_getElem? h, hp⟩
theorem joinE_bad {l : List Tk} (h : (l.any fun t => !tokL t) = true) : joinE l = 8 := by unfold joinE; rw [if_pos (.inl h)]
theorem joinE_adj {l : List Tk} (h : adjL l = true) : joinE l = 8 := by unfold joinE; rw [if_pos (.inr h)]
theorem joinE_many {l : List Tk} (h1 : (l.any fun t => !tokL t) = false) (h2 : adjL l = false) (h : 512 < l.length ∨ 16384 < (toksW l).length) : joinE l = 4 := by
  unfold joinE; rw [if_neg (by simp [h1,h2]), if_pos h]
theorem joinE_ok {l : List Tk} (h1 : (l.any fun t => !tokL t) = false) (h2 : adjL l = false) (h : ¬ (512 < l.length ∨ 16384 < (toksW l).length)) : joinE l = 0 := by
  unfold joinE; rw [if_neg (by simp [h1,h2]), if_neg h]
theorem joinT_ok {l : List Tk} (h : joinE l = 0) : joinT l = toksW l := by unfold joinT; rw [if_pos h]
theorem joinT_no {l : List Tk} {e : Int} (h : joinE l = e) (he : e ≠ 0) : joinT l = [] := by unfold joinT; rw [if_neg (by omega)]
theorem toksW_nil : toksW [] = [] := rfl
theorem toksW_length {l : List Tk} (hs : ∀ t ∈ l, t.okTo 1000000 ∧ t.attrs.length ≤ 30) (hl : l.length ≤ 512) (k : Nat) : (toksW (l.take k)).length ≤ 111104063488 := by
  have h1 : (toksW (l.take k)).length ≤ (l.take k).length * 217000124 := flatMap_le (fun t ht => by
    obtain ⟨⟨_, h2, h3, h4⟩, h30⟩ := hs t (List.mem_of_mem_take ht)
    have := (tokW_length h30 h2 h3 h4).2
    omega)
  have h2 : (l.take k).length ≤ 512 := by simp; omega
  exact Nat.le_trans h1 (Nat.le_trans (Nat.mul_le_mul_right 217000124 h2) (by decide))
theorem adjTo_succ {l : List Tk} {k : Nat} (h : adjTo l k) (hn : ∀ a b, l[k - 1]? = some a → l[k]? = some b → 0 < k → ¬ (a.kind = 4 ∧ b.kind = 4)) : adjTo l (k + 1) := by
  intro i a b hi ha hb
  by_cases e : i + 1 = k
  · subst e
    exact hn a b (by simpa using ha) hb (by omega)
  · exact h i a b (by omega) ha hb
end Go.Proofs.YtoaclokiggoeiaaGreatDoor
namespace Go.Proofs.YtoaclokiggoeiaaGreatDoor
set_option maxRecDepth 100000
set_option maxHeartbeats 32000000
set_option linter.unusedSimpArgs false
set_option linter.unusedVariables false
open Nat renaming reduceAdd → Ka, reduceMul → Kb, reduceEqDiff → Kc, reduceLeDiff → Kd, reduceSub → Ke, reduceLT → Kf, reduceBEq → Kr, reduceBNe → Ks, reducePow → Kt
open Int renaming reduceToNat → Kg, reduceLE → Kh, reduceLT → Ki, reduceAdd → Kj, reduceSub → Kk, reduceMul → Kl, reduceNeg → Km, reduceBEq → Kn, reduceBNe → Ko, reduceEq → Kp, reduceNe → Kq
open Go Go.RowKit Go.Proofs.YtoaclokiggoeiaaGreatDoor.Vm Go.Lib
theorem join1_ev (t : Tk) (h : t.okTo lim) (nm : Nat) : Ev cx 34 nm [.agg (tkC t)] Mem.nil (.bool (!tokL t)) [] := by
  have hc := check_ev t h
  unfold tokE at hc
  generalize tokL t = b at hc ⊢
  cases b <;> (
    refine ev_go rfl (fun cargs w => Tryz.call34 cargs w) Tryz.func34 rfl mixed (by kernel_rfl) rfl ?_; intro b0 hb0
    (repeat' first | simp only [fins,mems,Tryz.results34,Tryz.ntmps34,Kt,wks,plain_pr,tkC,Bool.not_true,Bool.not_false,vcs,Ka,Kb,Kc,Kd,Ke,Kf,Kg,Kh,Ki,Kj,Kk,Kl,Km,reduceCtorEq,reduceIte,Kn,Ko,Kp,Kq,Kr,Ks,tys] | exact rfl | refine call_off (v := .any) ?_ | (first | (refine call_fn ?_ (hc _) ?_) | (refine call_fn_g ?_ (fun _ => hc _) ?_)) | ((first | apply cond_bool | apply cond_bit) <;> intro hb) | refine And.intro (by omega) ?_ | refine And.intro (fun hb => ?_) (fun hb => ?_) | refine Fin.pure ?_ ?_ ?_ | simp only [injs]))
theorem join_ev (l : List Tk) (hl : l.length ≤ 600) (hs : ∀ t ∈ l, t.okTo 1000000 ∧ t.attrs.length ≤ 30) (nm : Nat) : Ev cx 20 nm [.sl false 4 (l.map tkC)] Mem.nil (.tup [.str (joinT l), .int .i64 (joinE l)]) [] := by
  have hlim : ∀ t ∈ l, t.okTo lim := fun t ht => by
    obtain ⟨⟨h1, h2, h3, h4⟩, _⟩ := hs t ht
    unfold lim
    exact ⟨by omega, by omega, by omega, fun a ha => by have := h4 a ha; omega⟩
  have hcf := containstk_ev l 34 [] (fun t => !tokL t) (fun t ht nm => join1_ev t (hlim t ht) nm) (by unfold lim; omega) rfl
  cases hany : (l.any fun t => !tokL t) with
  | true =>
    rw [hany] at hcf
    have he := joinE_bad hany
    have hj := joinT_no he (by omega)
    refine ev_go rfl (fun cargs w => Tryz.call20 cargs w) Tryz.func20 rfl mixed (by kernel_rfl) rfl ?_; intro b0 hb0
    (repeat' first | simp only [fins,mems,Tryz.results20,Tryz.ntmps20,Kt,wks,he,hj,vcs,Ka,Kb,Kc,Kd,Ke,Kf,Kg,Kh,Ki,Kj,Kk,Kl,Km,reduceCtorEq,reduceIte,Kn,Ko,Kp,Kq,Kr,Ks,tys] | exact rfl | refine call_off (v := .any) ?_ | (first | (refine call_fn ?_ (hcf _) ?_) | (refine call_fn_g ?_ (fun _ => hcf _) ?_)) | refine draw_end (by decide +kernel) ?_ | ((first | apply cond_bool | apply cond_bit) <;> intro hb) | refine And.intro (by omega) ?_ | refine And.intro (fun hb => ?_) (fun hb => ?_) | refine Fin.pure ?_ ?_ ?_ | simp only [injs])
  | false =>
    rw [hany] at hcf
    refine ev_go rfl (fun cargs w => Tryz.call20 cargs w) Tryz.func20 rfl mixed (by kernel_rfl) rfl ?_; intro b0 hb0
    repeat' first | simp only [fins,mems,Tryz.results20,Tryz.ntmps20,Kt,wks,List.length_map,vcs,Ka,Kb,Kc,Kd,Ke,Kf,Kg,Kh,Ki,Kj,Kk,Kl,Km,reduceCtorEq,reduceIte,Kn,Ko,Kp,Kq,Kr,Ks,tys] | exact rfl | refine call_off (v := .any) ?_ | (first | (refine call_fn ?_ (hcf _) ?_) | (refine call_fn_g ?_ (fun _ => hcf _) ?_)) | refine draw_end (by decide +kernel) ?_ | ((first | apply cond_bool | apply cond_bit) <;> intro hb) | refine And.intro (by omega) ?_ | refine And.intro (fun hb => ?_) (fun hb => ?_)
    (refine loop_can2 cxG (fun x : Nat => l.length - x) (fun x => x ≤ l.length ∧ adjTo l x) (b0 + 16) (fun x => [(0, .sl false 4 (l.map tkC)), (11, .sl false 4 (l.map tkC)), (12, .int .i64 l.length), (13, .int .i64 x)]) (fun x => []) (0) [] ?_ ?_ ?_ ?_; rotate_left 1; (focus (show b0 ≤ _; omega)); (focus (refine ⟨?_, ?_⟩ <;> (try simp only [cans,plain_tk,List.length_map,vcs,Ka,Kb,Kc,Kd,Ke,Kf,Kg,Kh,Ki,Kj,Kk,Kl,Km,reduceCtorEq,reduceIte,Kn,Ko,Kp,Kq,Kr,Ks,tys,injs]) <;> (try omega))); rotate_left 1)
    · exact ⟨Nat.zero_le _, fun i a b hi => by omega⟩
    · rintro k ⟨hk, hadj⟩
      by_cases hlt : k < l.length
      · obtain ⟨t, ht⟩ : ∃ t, l[k]? = some t := ⟨_, List.getElem?_eq_getElem hlt⟩
        have hat := tk_at ht
        have hd1 : decide (k < l.length) = true := decide_eq_true hlt
        have hwk : IntKind.i64.wrap ((k : Int) + 1) = ((k + 1 : Nat) : Int) := wrap_in (by omega) (by omega)
        by_cases h0 : k = 0
        · subst h0
          have hg : adjTo l (0 + 1) := fun i a b hi => by omega
          have hd9 : decide ((0 : Int) < (l.length : Int)) = true := decide_eq_true (by omega)
          repeat' first | simp only [fins,mems,Tryz.results20,Tryz.ntmps20,Kt,wks,plain_pr,hat,tkC,hd1,hd9,hlt,Int.lt_irrefl,Nat.lt_irrefl,List.length_map,vcs,Ka,Kb,Kc,Kd,Ke,Kf,Kg,Kh,Ki,Kj,Kk,Kl,Km,reduceCtorEq,reduceIte,Kn,Ko,Kp,Kq,Kr,Ks,tys] | exact rfl | refine call_off (v := .any) ?_ | refine draw_end (by decide +kernel) ?_ | ((first | apply cond_bool | apply cond_bit) <;> intro hb) | refine And.intro (by omega) ?_ | refine And.intro (fun hb => ?_) (fun hb => ?_)
          all_goals ((refine again_can2 cxG (0 + 1) [] ?_ ?_ ?_ ?_; rotate_left 2; (focus (show b0 ≤ _; omega)); (focus (refine ⟨?_, ?_⟩ <;> (try simp only [cans,plain_tk,hwk,show IntKind.i64.wrap 1 = 1 from by decide,List.length_map,vcs,Ka,Kb,Kc,Kd,Ke,Kf,Kg,Kh,Ki,Kj,Kk,Kl,Km,reduceCtorEq,reduceIte,Kn,Ko,Kp,Kq,Kr,Ks,tys,injs]) <;> (try omega)))))
          all_goals (first | (show l.length - (0 + 1) < l.length - 0; omega) | exact ⟨by omega, hg⟩ | skip)
        · obtain ⟨m, rfl⟩ : ∃ m, k = m + 1 := ⟨k - 1, by omega⟩
          have hlt0 : m < l.length := by omega
          obtain ⟨p, hp⟩ : ∃ p, l[m]? = some p := ⟨_, List.getElem?_eq_getElem hlt0⟩
          have hpt := tk_at hp
          have hd0 : decide ((0 : Int) < ((m + 1 : Nat) : Int)) = true := decide_eq_true (by omega)
          have hwm : IntKind.i64.wrap (((m + 1 : Nat) : Int) - 1) = ((m : Nat) : Int) := by rw [wrap_in (by omega) (by omega)]; omega
          have hcs : (((t.kind : Int) == 4) = false ∧ adjTo l (m + 1 + 1)) ∨ (((t.kind : Int) == 4) = true ∧ ((p.kind : Int) == (t.kind : Int)) = false ∧ adjTo l (m + 1 + 1)) ∨ (((t.kind : Int) == 4) = true ∧ ((p.kind : Int) == (t.kind : Int)) = true ∧ joinE l = 8) := by
            by_cases c2 : t.kind = 4
            · by_cases c1 : p.kind = 4
              · right; right
                exact ⟨by rw [c2]; rfl, by rw [c1, c2]; rfl, joinE_adj (adj_true hp ht c1 c2)⟩
              · right; left
                refine ⟨by rw [c2]; rfl, beq_false_of_ne (by omega), adjTo_succ hadj (fun a b ha hb _ h => ?_)⟩
                rw [Nat.add_sub_cancel, hp] at ha; cases ha; exact c1 h.1
            · left
              refine ⟨beq_false_of_ne (by omega), adjTo_succ hadj (fun a b ha hb _ h => ?_)⟩
              rw [ht] at hb; cases hb; exact c2 h.2
          rcases hcs with ⟨c1, hg⟩ | ⟨c1, c2, hg⟩ | ⟨c1, c2, he⟩
          · repeat' first | simp only [fins,mems,Tryz.results20,Tryz.ntmps20,Kt,wks,plain_pr,hat,hpt,tkC,hd0,hd1,hlt,hlt0,hwm,c1,List.length_map,vcs,Ka,Kb,Kc,Kd,Ke,Kf,Kg,Kh,Ki,Kj,Kk,Kl,Km,reduceCtorEq,reduceIte,Kn,Ko,Kp,Kq,Kr,Ks,tys] | exact rfl | refine call_off (v := .any) ?_ | refine draw_end (by decide +kernel) ?_ | ((first | apply cond_bool | apply cond_bit) <;> intro hb) | refine And.intro (by omega) ?_ | refine And.intro (fun hb => ?_) (fun hb => ?_)
            all_goals ((refine again_can2 cxG (m + 1 + 1) [] ?_ ?_ ?_ ?_; rotate_left 2; (focus (show b0 ≤ _; omega)); (focus (refine ⟨?_, ?_⟩ <;> (try simp only [cans,plain_tk,hwk,List.length_map,vcs,Ka,Kb,Kc,Kd,Ke,Kf,Kg,Kh,Ki,Kj,Kk,Kl,Km,reduceCtorEq,reduceIte,Kn,Ko,Kp,Kq,Kr,Ks,tys,injs]) <;> (try omega)))))
            all_goals (first | (show l.length - (m + 1 + 1) < l.length - (m + 1); omega) | exact ⟨by omega, hg⟩ | skip)
          · repeat' first | simp only [fins,mems,Tryz.results20,Tryz.ntmps20,Kt,wks,plain_pr,hat,hpt,tkC,hd0,hd1,hlt,hlt0,hwm,c1,c2,List.length_map,vcs,Ka,Kb,Kc,Kd,Ke,Kf,Kg,Kh,Ki,Kj,Kk,Kl,Km,reduceCtorEq,reduceIte,Kn,Ko,Kp,Kq,Kr,Ks,tys] | exact rfl | refine call_off (v := .any) ?_ | refine draw_end (by decide +kernel) ?_ | ((first | apply cond_bool | apply cond_bit) <;> intro hb) | refine And.intro (by omega) ?_ | refine And.intro (fun hb => ?_) (fun hb => ?_)
            all_goals ((refine again_can2 cxG (m + 1 + 1) [] ?_ ?_ ?_ ?_; rotate_left 2; (focus (show b0 ≤ _; omega)); (focus (refine ⟨?_, ?_⟩ <;> (try simp only [cans,plain_tk,hwk,List.length_map,vcs,Ka,Kb,Kc,Kd,Ke,Kf,Kg,Kh,Ki,Kj,Kk,Kl,Km,reduceCtorEq,reduceIte,Kn,Ko,Kp,Kq,Kr,Ks,tys,injs]) <;> (try omega)))))
            all_goals (first | (show l.length - (m + 1 + 1) < l.length - (m + 1); omega) | exact ⟨by omega, hg⟩ | skip)
          · have hj := joinT_no he (by omega)
            (repeat' first | simp only [fins,mems,Tryz.results20,Tryz.ntmps20,Kt,wks,plain_pr,hat,hpt,tkC,hd0,hd1,hlt,hlt0,hwm,c1,c2,he,hj,List.length_map,vcs,Ka,Kb,Kc,Kd,Ke,Kf,Kg,Kh,Ki,Kj,Kk,Kl,Km,reduceCtorEq,reduceIte,Kn,Ko,Kp,Kq,Kr,Ks,tys] | exact rfl | refine call_off (v := .any) ?_ | refine draw_end (by decide +kernel) ?_ | ((first | apply cond_bool | apply cond_bit) <;> intro hb) | refine And.intro (by omega) ?_ | refine And.intro (fun hb => ?_) (fun hb => ?_) | refine Fin.pure ?_ ?_ ?_ | simp only [injs])
      · have hke : k = l.length := by omega
        subst hke
        have hd1 : decide (l.length < l.length) = false := decide_eq_false (by omega)
        have hadj' : adjL l = false := adj_false.2 hadj
        by_cases h512 : 512 < l.length
        · have he := joinE_many hany hadj' (.inl h512)
          have hj := joinT_no he (by omega)
          have hd2 : decide ((512 : Int) < (l.length : Int)) = true := decide_eq_true (by omega)
          (repeat' first | simp only [fins,mems,Tryz.results20,Tryz.ntmps20,Kt,wks,hd1,hd2,he,hj,List.length_map,vcs,Ka,Kb,Kc,Kd,Ke,Kf,Kg,Kh,Ki,Kj,Kk,Kl,Km,reduceCtorEq,reduceIte,Kn,Ko,Kp,Kq,Kr,Ks,tys] | exact rfl | refine call_off (v := .any) ?_ | refine draw_end (by decide +kernel) ?_ | ((first | apply cond_bool | apply cond_bit) <;> intro hb) | refine And.intro (by omega) ?_ | refine And.intro (fun hb => ?_) (fun hb => ?_) | refine Fin.pure ?_ ?_ ?_ | simp only [injs])
        · have hd2 : decide ((512 : Int) < (l.length : Int)) = false := decide_eq_false (by omega)
          have htl := toksW_length hs (by omega)
          repeat' first | simp only [fins,mems,Tryz.results20,Tryz.ntmps20,Kt,wks,hd1,hd2,List.length_map,vcs,Ka,Kb,Kc,Kd,Ke,Kf,Kg,Kh,Ki,Kj,Kk,Kl,Km,reduceCtorEq,reduceIte,Kn,Ko,Kp,Kq,Kr,Ks,tys] | exact rfl | refine call_off (v := .any) ?_ | refine draw_end (by decide +kernel) ?_ | ((first | apply cond_bool | apply cond_bit) <;> intro hb) | refine And.intro (by omega) ?_ | refine And.intro (fun hb => ?_) (fun hb => ?_)
          (refine loop_can2 cxG (fun x : Nat => l.length - x) (fun x => x ≤ l.length ∧ (toksW (l.take x)).length ≤ 16384) (b0 + 16) (fun x => [(0, .sl false 4 (l.map tkC)), (6, .ptr b0 0 0), (40, .sl false 4 (l.map tkC)), (41, .int .i64 l.length), (42, .int .i64 x)]) (fun x => [(b0, bS false b0 (b0 + 1) (toksW (l.take x))), (b0 + 1, rK (toksW (l.take x)))]) (0) [some (b0 + 80), none] ?_ ?_ ?_ ?_; rotate_left 1; (focus (show b0 ≤ _; omega)); (focus (refine ⟨?_, ?_⟩ <;> (try simp only [cans,bS_new,rK_nil,rK_row,ren_mkT,renOk_mkT,ren_rK,renOk_rK,plain_tk,List.length_map,List.take_zero,toksW_nil,vcs,Ka,Kb,Kc,Kd,Ke,Kf,Kg,Kh,Ki,Kj,Kk,Kl,Km,reduceCtorEq,reduceIte,Kn,Ko,Kp,Kq,Kr,Ks,tys,injs]) <;> (try omega))); rotate_left 1)
          · exact ⟨Nat.zero_le _, by simp [toksW]⟩
          · rintro j ⟨hj, hsz⟩
            by_cases hlt3 : j < l.length
            · obtain ⟨t, ht⟩ : ∃ t, l[j]? = some t := ⟨_, List.getElem?_eq_getElem hlt3⟩
              have hat := tk_at ht
              have hd3 : decide (j < l.length) = true := decide_eq_true hlt3
              have hwj : IntKind.i64.wrap ((j : Int) + 1) = ((j + 1 : Nat) : Int) := wrap_in (by omega) (by omega)
              have htok : tokL t = true := by
                cases hh : tokL t with
                | true => rfl
                | false => rw [any_at (p := fun t => !tokL t) ht (by simp [hh])] at hany; cases hany
              have hwr := written_ev t (hs t (List.mem_of_getElem? ht)).1 htok
              have hne := tokWL_ne htok
              have hnx := toksW_take ht
              have b2 := htl (j + 1)
              have hll : (toksW (l.take j)).length + (tokW t).length ≤ lim := by
                rw [hnx, List.length_append] at b2; unfold lim; omega
              have hll2 : (toksW (l.take (j + 1))).length ≤ lim := by unfold lim; omega
              by_cases hbig : 16384 < (toksW (l.take (j + 1))).length
              · have hbl : 16384 < (toksW l).length := by
                  refine Nat.lt_of_lt_of_le hbig ?_
                  conv => rhs; rw [← List.take_append_drop (j + 1) l]
                  unfold toksW
                  rw [List.flatMap_append, List.length_append]; omega
                have he := joinE_many hany hadj' (.inr hbl)
                have hjt := joinT_no he (by omega)
                have hd4 : decide ((16384 : Int) < ((toksW (l.take (j + 1))).length : Int)) = true := decide_eq_true (by omega)
                (repeat' first | simp only [fins,mems,Tryz.results20,Tryz.ntmps20,Kt,wks,plain_pr,hat,tkC,hd3,hlt3,hd4,he,hjt,hnx.symm,fresh_self,List.length_map,vcs,Ka,Kb,Kc,Kd,Ke,Kf,Kg,Kh,Ki,Kj,Kk,Kl,Km,reduceCtorEq,reduceIte,Kn,Ko,Kp,Kq,Kr,Ks,tys] | exact rfl | refine call_off (v := .any) ?_ | (first | (refine call_fn ?_ (hwr _) ?_) | (refine call_fn_g ?_ (fun _ => hwr _) ?_)) | (refine call_fn_full ?_ [b0, b0 + 1] (wStr_ev false b0 (b0 + 1) (toksW (l.take j)) _ _ (tokW t) hne hll (by omega) ?_ ?_ only_mem (by omega) (by omega)) ?_ ?_) | (refine call_fn_full ?_ [b0, b0 + 128] (bLen_ev false b0 (b0 + 128) (toksW (l.take (j + 1))) _ _ (by omega) ?_ ?_ only_mem (by omega) (by omega)) ?_ ?_) | refine draw_end (by decide +kernel) ?_ | ((first | apply cond_bool | apply cond_bit) <;> intro hb) | refine And.intro (by omega) ?_ | refine And.intro (fun hb => ?_) (fun hb => ?_) | refine Fin.pure ?_ ?_ ?_ | simp only [injs])
              · have hd4 : decide ((16384 : Int) < ((toksW (l.take (j + 1))).length : Int)) = false := decide_eq_false (by omega)
                repeat' first | simp only [fins,mems,Tryz.results20,Tryz.ntmps20,Kt,wks,plain_pr,hat,tkC,hd3,hlt3,hd4,hnx.symm,fresh_self,List.length_map,vcs,Ka,Kb,Kc,Kd,Ke,Kf,Kg,Kh,Ki,Kj,Kk,Kl,Km,reduceCtorEq,reduceIte,Kn,Ko,Kp,Kq,Kr,Ks,tys] | exact rfl | refine call_off (v := .any) ?_ | (first | (refine call_fn ?_ (hwr _) ?_) | (refine call_fn_g ?_ (fun _ => hwr _) ?_)) | (refine call_fn_full ?_ [b0, b0 + 1] (wStr_ev false b0 (b0 + 1) (toksW (l.take j)) _ _ (tokW t) hne hll (by omega) ?_ ?_ only_mem (by omega) (by omega)) ?_ ?_) | (refine call_fn_full ?_ [b0, b0 + 128] (bLen_ev false b0 (b0 + 128) (toksW (l.take (j + 1))) _ _ (by omega) ?_ ?_ only_mem (by omega) (by omega)) ?_ ?_) | refine draw_end (by decide +kernel) ?_ | ((first | apply cond_bool | apply cond_bit) <;> intro hb) | refine And.intro (by omega) ?_ | refine And.intro (fun hb => ?_) (fun hb => ?_)
                all_goals ((refine again_can2 cxG (j + 1) [some b0, some (b0 + 128)] ?_ ?_ ?_ ?_; rotate_left 2; (focus (show b0 ≤ _; omega)); (focus (refine ⟨?_, ?_⟩ <;> (try simp only [cans,plain_tk,hwj,hnx.symm,ren_bS,renOk_bS,ren_rK,renOk_rK,Option.getD_some,Option.isSome_some,List.length_map,vcs,Ka,Kb,Kc,Kd,Ke,Kf,Kg,Kh,Ki,Kj,Kk,Kl,Km,reduceCtorEq,reduceIte,Kn,Ko,Kp,Kq,Kr,Ks,tys,injs]) <;> (try omega)))))
                all_goals (first | (show l.length - (j + 1) < l.length - j; omega) | exact ⟨by omega, by omega⟩ | skip)
            · have hje : j = l.length := by omega
              subst hje
              rw [List.take_length] at hsz
              have hd3 : decide (l.length < l.length) = false := decide_eq_false (by omega)
              have he := joinE_ok hany hadj' (by omega)
              have hjt := joinT_ok he
              have hll : (toksW l).length ≤ lim := by unfold lim; omega
              (repeat' first | simp only [fins,mems,Tryz.results20,Tryz.ntmps20,Kt,wks,hd3,he,hjt,List.take_length,List.length_map,vcs,Ka,Kb,Kc,Kd,Ke,Kf,Kg,Kh,Ki,Kj,Kk,Kl,Km,reduceCtorEq,reduceIte,Kn,Ko,Kp,Kq,Kr,Ks,tys] | exact rfl | refine call_off (v := .any) ?_ | (refine call_fn_full ?_ [b0, b0 + 1] (bStr_ev false b0 (b0 + 1) (toksW l) _ _ hll (by omega) ?_ ?_ only_mem (by omega) (by omega)) ?_ ?_) | refine draw_end (by decide +kernel) ?_ | ((first | apply cond_bool | apply cond_bit) <;> intro hb) | refine And.intro (by omega) ?_ | refine And.intro (fun hb => ?_) (fun hb => ?_) | refine Fin.pure ?_ ?_ ?_ | simp only [injs])
end Go.Proofs.YtoaclokiggoeiaaGreatDoor
namespace Go.Proofs.YtoaclokiggoeiaaGreatDoor
set_option maxRecDepth 100000
set_option maxHeartbeats 32000000
set_option linter.unusedSimpArgs false
set_option linter.unusedVariables false
open Go Go.RowKit Go.Proofs.YtoaclokiggoeiaaGreatDoor.Vm
end Go.Proofs.YtoaclokiggoeiaaGreatDoor
