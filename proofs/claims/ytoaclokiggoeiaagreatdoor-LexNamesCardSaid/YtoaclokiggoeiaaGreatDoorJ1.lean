/-
  Texts joined: XLs, XLg, XLh.
-/
import Derived.Test.YtoaclokiggoeiaaGreatDoorJw
import Derived.Test.YtoaclokiggoeiaaGreatDoorJy
import Derived.Test.YtoaclokiggoeiaaGreatDoorJj
import Derived.Test.YtoaclokiggoeiaaGreatDoorJh
namespace Go.Proofs.YtoaclokiggoeiaaGreatDoor
set_option maxRecDepth 100000
set_option maxHeartbeats 32000000
set_option linter.unusedSimpArgs false
set_option linter.unusedVariables false
open Nat renaming reduceAdd → Ka, reduceMul → Kb, reduceEqDiff → Kc, reduceLeDiff → Kd, reduceSub → Ke, reduceLT → Kf, reduceBEq → Kr, reduceBNe → Ks, reducePow → Kt
open Int renaming reduceToNat → Kg, reduceLE → Kh, reduceLT → Ki, reduceAdd → Kj, reduceSub → Kk, reduceMul → Kl, reduceNeg → Km, reduceBEq → Kn, reduceBNe → Ko, reduceEq → Kp, reduceNe → Kq
open Go Go.RowKit Go.Proofs.YtoaclokiggoeiaaGreatDoor.Vm Go.Lib
theorem isSome_pts {s : List UInt8} (h : (dec s).isSome = true) (hl : s.length ≤ 16384) : ptsErr s = 0 := ptsErr_iff.2 ⟨hl, h⟩
theorem put_small {s : List UInt8} (q : Bool) (h : (dec s).isSome = true) (hl : s.length ≤ 1027) : putE q s = 0 ∧ putT q s = escW q s := by
  have hw := escW_length q s
  have h0 : putE q s = 0 := by
    unfold putE
    rw [if_neg (fun e => e (isSome_pts h (by omega))), if_neg (by omega)]
  exact ⟨h0, by unfold putT; rw [if_pos h0]⟩
theorem take_snoc_put {q : Bool} {d r : List UInt8} (n : Nat) : escW q (d ++ r.take n) = escW q d ++ escW q (r.take n) := escW_append q d _
theorem cont_and (c : UInt8) : (IntKind.u8.wrap ((BitVec.ofInt IntKind.u8.bits (c.toNat : Int) &&& BitVec.ofInt IntKind.u8.bits 192).toNat : Int) == 128) = contB c := by
  have : ∀ n : Fin 256, (IntKind.u8.wrap ((BitVec.ofInt IntKind.u8.bits (n.val : Int) &&& BitVec.ofInt IntKind.u8.bits 192).toNat : Int) == 128) = (decide (128 ≤ n.val) && decide (n.val < 192)) := by decide +kernel
  exact this ⟨c.toNat, c.toNat_lt⟩
theorem getLt {r : List UInt8} {n : Nat} (h : n < r.length) : ∃ b, r[n]? = some b := ⟨_, List.getElem?_eq_getElem h⟩
theorem lput_ev (s : List UInt8) (q : Bool) (hd : (dec s).isSome = true) (hs : s.length ≤ 1000000) (nm : Nat) : Ev cx 53 nm [.str s, .bool q] Mem.nil (.str (escW q s)) [] := by
  refine ev_go rfl (fun cargs w => Tryz.call53 cargs w) Tryz.func53 rfl mixed (by kernel_rfl) rfl ?_; intro b0 hb0
  repeat' first | simp only [fins,mems,Tryz.results53,Tryz.ntmps53,Kt,wks,vcs,Ka,Kb,Kc,Kd,Ke,Kf,Kg,Kh,Ki,Kj,Kk,Kl,Km,reduceCtorEq,reduceIte,Kn,Ko,Kp,Kq,Kr,Ks,tys] | exact rfl | refine call_off (v := .any) ?_ | ((first | apply cond_bool | apply cond_bit) <;> intro hb) | refine And.intro (by omega) ?_ | refine And.intro (fun hb => ?_) (fun hb => ?_)
  (refine loop_can2 cxG (fun x : List UInt8 × List UInt8 => x.2.length) (fun x => s = x.1 ++ x.2 ∧ (dec x.2).isSome = true) (b0 + 16) (fun x => [(0, .str x.2), (1, .bool q), (5, .ptr b0 0 0)]) (fun x => [(b0, bS false b0 (b0 + 1) (escW q x.1)), (b0 + 1, rK (escW q x.1))]) (([], s)) [some (b0 + 16), none] ?_ ?_ ?_ ?_; rotate_left 1; (focus (show b0 ≤ _; omega)); (focus (refine ⟨?_, ?_⟩ <;> (try simp only [cans,bS_new,escW_nil,rK_nil,rK_row,ren_mkT,renOk_mkT,ren_rK,renOk_rK,plain_bs,vcs,Ka,Kb,Kc,Kd,Ke,Kf,Kg,Kh,Ki,Kj,Kk,Kl,Km,reduceCtorEq,reduceIte,Kn,Ko,Kp,Kq,Kr,Ks,tys,injs]) <;> (try omega))); rotate_left 1)
  · exact ⟨rfl, hd⟩
  · rintro ⟨d, r⟩ ⟨hsr, hr⟩
    simp only at hsr hr
    have hlen : d.length + r.length ≤ 1000000 := by rw [hsr] at hs; simpa using hs
    have hwd := escW_length q d
    by_cases hne : r = []
    · subst hne
      have e0 : (([] : List UInt8) == []) = true := rfl
      have e1 : d = s := by rw [hsr]; simp
      subst e1
      have hll : (escW q d).length ≤ lim := by unfold lim; omega
      (repeat' first | simp only [fins,mems,Tryz.results53,Tryz.ntmps53,Kt,wks,e0,vcs,Ka,Kb,Kc,Kd,Ke,Kf,Kg,Kh,Ki,Kj,Kk,Kl,Km,reduceCtorEq,reduceIte,Kn,Ko,Kp,Kq,Kr,Ks,tys] | exact rfl | refine call_off (v := .any) ?_ | (refine call_fn_full ?_ [b0, b0 + 1] (bStr_ev false b0 (b0 + 1) (escW q d) _ _ hll (by omega) ?_ ?_ only_mem (by omega) (by omega)) ?_ ?_) | ((first | apply cond_bool | apply cond_bit) <;> intro hb) | refine And.intro (by omega) ?_ | refine And.intro (fun hb => ?_) (fun hb => ?_) | refine Fin.pure ?_ ?_ ?_ | simp only [injs])
    · have e0 : (r == []) = false := beq_false_of_ne hne
      have hrl : 0 < r.length := List.length_pos_iff.2 hne
      obtain ⟨j, j1, j2, j3, j4⟩ := text_near hr (k := min r.length 1024) (by omega)
      have hmin : min (r.length : Int) 1024 = ((min r.length 1024 : Nat) : Int) := by omega
      generalize hk0 : min r.length 1024 = k0 at *
      repeat' first | simp only [fins,mems,Tryz.results53,Tryz.ntmps53,Kt,wks,e0,hmin,Bool.not_false,vcs,Ka,Kb,Kc,Kd,Ke,Kf,Kg,Kh,Ki,Kj,Kk,Kl,Km,reduceCtorEq,reduceIte,Kn,Ko,Kp,Kq,Kr,Ks,tys] | exact rfl | refine call_off (v := .any) ?_ | ((first | apply cond_bool | apply cond_bit) <;> intro hb) | refine And.intro (by omega) ?_ | refine And.intro (fun hb => ?_) (fun hb => ?_)
      (refine loop_can2 cxG (fun x : Nat => j - x) (fun x => k0 ≤ x ∧ x ≤ j) (b0 + 16) (fun x => [(0, .str r), (1, .bool q), (5, .ptr b0 0 0), (6, .int .i64 x)]) (fun x => [(b0, bS false b0 (b0 + 1) (escW q d)), (b0 + 1, rK (escW q d))]) (k0) [some b0, some (b0 + 1)] ?_ ?_ ?_ ?_; rotate_left 1; (focus (show b0 ≤ _; omega)); (focus (refine ⟨?_, ?_⟩ <;> (try simp only [cans,ren_bS,renOk_bS,ren_rK,renOk_rK,Option.getD_some,Option.isSome_some,vcs,Ka,Kb,Kc,Kd,Ke,Kf,Kg,Kh,Ki,Kj,Kk,Kl,Km,reduceCtorEq,reduceIte,Kn,Ko,Kp,Kq,Kr,Ks,tys,injs]) <;> (try omega))); rotate_left 1)
      · exact ⟨Nat.le_refl _, j1⟩
      · rintro n ⟨hn1, hn2⟩
        have hnr : n ≤ r.length := by omega
        by_cases hgo : n < r.length ∧ ∀ b, r[n]? = some b → contB b = true
        · obtain ⟨hlt, hcb⟩ := hgo
          obtain ⟨b, hb⟩ := getLt hlt
          have hc := hcb b hb
          have hca := cont_and b
          rw [hc] at hca
          have hnj : n ≠ j := fun e => by
            subst e
            have := j4 b hb
            rw [hc] at this; cases this
          have hd1 : decide (n < r.length) = true := decide_eq_true hlt
          have hwk : IntKind.i64.wrap ((n : Int) + 1) = ((n + 1 : Nat) : Int) := wrap_in (by omega) (by omega)
          repeat' first | simp only [fins,mems,Tryz.results53,Tryz.ntmps53,Kt,wks,hb,hd1,hlt,hca,hwk,vcs,Ka,Kb,Kc,Kd,Ke,Kf,Kg,Kh,Ki,Kj,Kk,Kl,Km,reduceCtorEq,reduceIte,Kn,Ko,Kp,Kq,Kr,Ks,tys] | exact rfl | refine call_off (v := .any) ?_ | ((first | apply cond_bool | apply cond_bit) <;> intro hb) | refine And.intro (by omega) ?_ | refine And.intro (fun hb => ?_) (fun hb => ?_)
          all_goals ((refine again_can2 cxG (n + 1) [some b0, some (b0 + 1)] ?_ ?_ ?_ ?_; rotate_left 2; (focus (show b0 ≤ _; omega)); (focus (refine ⟨?_, ?_⟩ <;> (try simp only [cans,ren_bS,renOk_bS,ren_rK,renOk_rK,hwk,Option.getD_some,Option.isSome_some,vcs,Ka,Kb,Kc,Kd,Ke,Kf,Kg,Kh,Ki,Kj,Kk,Kl,Km,reduceCtorEq,reduceIte,Kn,Ko,Kp,Kq,Kr,Ks,tys,injs]) <;> (try omega)))))
          all_goals (first | (show j - (n + 1) < j - n; omega) | (show k0 ≤ n + 1 ∧ n + 1 ≤ j; omega) | skip)
        · have hstop : ∀ b, r[n]? = some b → contB b = false := by
            intro b hb
            cases hc : contB b with
            | false => rfl
            | true => exact absurd ⟨(List.getElem?_eq_some_iff.1 hb).1, fun b' hb' => by rw [hb] at hb'; cases hb'; exact hc⟩ hgo
          obtain ⟨hc1, hc2⟩ := text_cut hr hnr hstop
          have hn27 : n ≤ 1027 := by omega
          have htl : (r.take n).length = n := by rw [List.length_take]; omega
          obtain ⟨hp1, hp2⟩ := put_small q hc1 (by omega)
          have hput := ePut_ev (r.take n) q (by unfold lim; omega)
          rw [hp1, hp2] at hput
          have hw2 := escW_length q (r.take n)
          have hne2 : escW q (r.take n) ≠ [] := by
            intro e
            have := congrArg List.length e
            simp only [List.length_nil] at this
            omega
          have hll : (escW q d).length + (escW q (r.take n)).length ≤ lim := by unfold lim; omega
          have hint : (n : Int) ≤ (r.length : Int) := by omega
          have hx : escW q d ++ escW q (r.take n) = escW q (d ++ r.take n) := (take_snoc_put n).symm
          have hdl : (r.drop n).length = r.length - n := by simp
          by_cases hlt : n < r.length
          · obtain ⟨b, hb⟩ := getLt hlt
            have hca := cont_and b
            rw [hstop b hb] at hca
            have hd1 : decide (n < r.length) = true := decide_eq_true hlt
            repeat' first | simp only [fins,mems,Tryz.results53,Tryz.ntmps53,Kt,wks,hb,hd1,hlt,hca,hnr,hint,fresh_self,List.take_zero,vcs,Ka,Kb,Kc,Kd,Ke,Kf,Kg,Kh,Ki,Kj,Kk,Kl,Km,reduceCtorEq,reduceIte,Kn,Ko,Kp,Kq,Kr,Ks,tys] | exact rfl | refine call_off (v := .any) ?_ | (first | (refine call_fn ?_ (hput _) ?_) | (refine call_fn_g ?_ (fun _ => hput _) ?_)) | (refine call_fn_full ?_ [b0, b0 + 1] (wStr_ev false b0 (b0 + 1) (escW q d) _ _ (escW q (r.take n)) hne2 hll (by omega) ?_ ?_ only_mem (by omega) (by omega)) ?_ ?_) | ((first | apply cond_bool | apply cond_bit) <;> intro hb) | refine And.intro (by omega) ?_ | refine And.intro (fun hb => ?_) (fun hb => ?_)
            all_goals ((refine again_can2 cxG ((d ++ r.take n, r.drop n)) [some b0, some (b0 + 368)] ?_ ?_ ?_ ?_; rotate_left 2; (focus (show b0 ≤ _; omega)); (focus (refine ⟨?_, ?_⟩ <;> (try simp only [cans,ren_bS,renOk_bS,ren_rK,renOk_rK,hx,Option.getD_some,Option.isSome_some,vcs,Ka,Kb,Kc,Kd,Ke,Kf,Kg,Kh,Ki,Kj,Kk,Kl,Km,reduceCtorEq,reduceIte,Kn,Ko,Kp,Kq,Kr,Ks,tys,injs]) <;> (try omega)))))
            all_goals (first | (show (r.drop n).length < r.length; omega) | (refine ⟨?_, hc2⟩; rw [hsr, List.append_assoc, List.take_append_drop]) | skip)
          · have hd1 : decide (n < r.length) = false := decide_eq_false hlt
            repeat' first | simp only [fins,mems,Tryz.results53,Tryz.ntmps53,Kt,wks,hd1,hlt,hnr,hint,fresh_self,List.take_zero,vcs,Ka,Kb,Kc,Kd,Ke,Kf,Kg,Kh,Ki,Kj,Kk,Kl,Km,reduceCtorEq,reduceIte,Kn,Ko,Kp,Kq,Kr,Ks,tys] | exact rfl | refine call_off (v := .any) ?_ | (first | (refine call_fn ?_ (hput _) ?_) | (refine call_fn_g ?_ (fun _ => hput _) ?_)) | (refine call_fn_full ?_ [b0, b0 + 1] (wStr_ev false b0 (b0 + 1) (escW q d) _ _ (escW q (r.take n)) hne2 hll (by omega) ?_ ?_ only_mem (by omega) (by omega)) ?_ ?_) | ((first | apply cond_bool | apply cond_bit) <;> intro hb) | refine And.intro (by omega) ?_ | refine And.intro (fun hb => ?_) (fun hb => ?_)
            all_goals ((refine again_can2 cxG ((d ++ r.take n, r.drop n)) [some b0, some (b0 + 368)] ?_ ?_ ?_ ?_; rotate_left 2; (focus (show b0 ≤ _; omega)); (focus (refine ⟨?_, ?_⟩ <;> (try simp only [cans,ren_bS,renOk_bS,ren_rK,renOk_rK,hx,Option.getD_some,Option.isSome_some,vcs,Ka,Kb,Kc,Kd,Ke,Kf,Kg,Kh,Ki,Kj,Kk,Kl,Km,reduceCtorEq,reduceIte,Kn,Ko,Kp,Kq,Kr,Ks,tys,injs]) <;> (try omega)))))
            all_goals (first | (show (r.drop n).length < r.length; omega) | (refine ⟨?_, hc2⟩; rw [hsr, List.append_assoc, List.take_append_drop]) | skip)
def wr0 (t : Tk) (k : Nat) : List UInt8 := [60] ++ t.name ++ attrsW (t.attrs.take k)
theorem wr0_zero (t : Tk) : 60 :: t.name = wr0 t 0 := by simp [wr0,attrsW]
theorem wr0_succ {t : Tk} {k : Nat} {a : Pr} (h : t.attrs[k]? = some a) : wr0 t k ++ (32 :: (a.name ++ [61, 34] ++ escW true a.value ++ [34])) = wr0 t (k + 1) := by
  unfold wr0
  rw [attrsW_take h]; simp [attrW]
theorem bS_tag (t : Tk) (q y : Nat) : bK true q (.own y 0 (t.name.length + 1)) = bS false q y (wr0 t 0) := by
  rw [← wr0_zero, bS_ne false q y (by simp)]; rfl
theorem wr0_length (t : Tk) (k : Nat) (h : t.okTo 1000000) (hl : t.attrs.length ≤ 30) : (wr0 t k).length ≤ 220000000 := by
  obtain ⟨h1, h2, h3, h4⟩ := h
  have hw := (tokW_length (t := ⟨1, t.name, t.attrs.take k, t.text⟩) (n := 1000000) (by simp; omega) h2 h3 (fun a ha => h4 a (List.mem_of_mem_take ha))).1
  simp only at hw
  simp only [wr0,List.length_append,List.length_cons,List.length_nil]
  omega
theorem wr0_end (t : Tk) : wr0 t t.attrs.length = [60] ++ t.name ++ attrsW t.attrs := by unfold wr0; rw [List.take_length]
theorem tag_ev (t : Tk) (h : t.okTo 1000000) (hat : attrsL t.attrs = true) (k3 : Bool) (q2 : ((t.kind : Int) == 2) = false) (q4 : ((t.kind : Int) == 4) = false) (q3 : ((t.kind : Int) == 3) = k3) (nm : Nat) : Ev cx 36 nm [.agg (tkC t)] Mem.nil (.str (if k3 then (wr0 t t.attrs.length ++ [47]) ++ [62] else wr0 t t.attrs.length ++ [62])) [] := by
  have hwl := fun k => wr0_length t k h (by have := (attrs_iff.1 hat).1; omega)
  obtain ⟨hat1, hat2⟩ := attrs_iff.1 hat
  obtain ⟨hl, hnl, htl, hal⟩ := h
  have hll1 : (60 :: t.name).length ≤ lim := by unfold lim; simp; omega
  have hbk := bS_tag t
  have hw0 := wr0_zero t
  refine ev_go rfl (fun cargs w => Tryz.call36 cargs w) Tryz.func36 rfl mixed (by kernel_rfl) rfl ?_; intro b0 hb0
  repeat' first | simp only [fins,mems,Tryz.results36,Tryz.ntmps36,Kt,wks,tkC,q2,q4,bK_f,fresh_self,vcs,Ka,Kb,Kc,Kd,Ke,Kf,Kg,Kh,Ki,Kj,Kk,Kl,Km,reduceCtorEq,reduceIte,Kn,Ko,Kp,Kq,Kr,Ks,tys] | exact rfl | refine call_off (v := .any) ?_ | (refine call_fn_full ?_ [b0 + 128] (wStrN_ev false (b0 + 128) (60 :: t.name) (by simp) hll1 _ _ ?_ only_mem (by omega)) ?_ ?_) | refine draw_end' (ps := [(1, 6)]) (by decide +kernel) (by simp only [List.forall_mem_cons,List.getD_cons_zero,List.getD_cons_succ,Tryz.results36,Tryz.ntmps36,Kt,wks,tkC,q2,q4,bK_f,fresh_self,vcs,Ka,Kb,Kc,Kd,Ke,Kf,Kg,Kh,Ki,Kj,Kk,Kl,Km,reduceCtorEq,reduceIte,Kn,Ko,Kp,Kq,Kr,Ks,tys] <;> (try simp) <;> (try omega)) ?_ | refine draw_end (by decide +kernel) ?_ | ((first | apply cond_bool | apply cond_bit) <;> intro hb) | refine And.intro (by omega) ?_ | refine And.intro (fun hb => ?_) (fun hb => ?_)
  (refine loop_can2 cxG (fun x : Nat => t.attrs.length - x) (fun x => x ≤ t.attrs.length) (b0 + 16) (fun x => [(1, .ptr b0 0 0), (3, .ptr (b0 + 1) 0 0), (24, .sl false 2 (t.attrs.map prC)), (25, .int .i64 t.attrs.length), (26, .int .i64 x)]) (fun x => [(b0, ⟨4, [tkC t]⟩), (b0 + 1, bS false (b0 + 1) (b0 + 2) (wr0 t x)), (b0 + 2, rK (wr0 t x))]) (0) [some b0, some (b0 + 128), some (b0 + 192)] ?_ ?_ ?_ ?_; rotate_left 1; (focus (show b0 ≤ _; omega)); (focus (refine ⟨?_, ?_⟩ <;> (try simp only [cans,plain_pr,plain_tkR,tkC,hbk,hw0,List.length_cons,ren_bS,renOk_bS,ren_rK,renOk_rK,Option.getD_some,Option.isSome_some,List.length_map,vcs,Ka,Kb,Kc,Kd,Ke,Kf,Kg,Kh,Ki,Kj,Kk,Kl,Km,reduceCtorEq,reduceIte,Kn,Ko,Kp,Kq,Kr,Ks,tys,injs]) <;> (try omega))); rotate_left 1)
  · exact Nat.zero_le _
  · intro k hk
    by_cases hlt : k < t.attrs.length
    · obtain ⟨a, ha⟩ : ∃ a, t.attrs[k]? = some a := ⟨_, List.getElem?_eq_getElem hlt⟩
      obtain ⟨hs1, hs2⟩ := hal a (List.mem_of_getElem? ha)
      have hat0 := pr_at ha
      have hd : decide (k < t.attrs.length) = true := decide_eq_true hlt
      have hwk : IntKind.i64.wrap ((k : Int) + 1) = ((k + 1 : Nat) : Int) := wrap_in (by omega) (by omega)
      have hov := hat2 k a hlt ha
      simp only [okP,Bool.and_eq_true,decide_eq_true_eq] at hov
      have hpv := lput_ev a.value true (ptsErr_iff.1 hov.2).2 hs2
      have hnx := wr0_succ ha
      have hew := escW_length true a.value
      have l1 : (a.name ++ [61, 34]).length = a.name.length + 2 := by simp
      have l2 : (a.name ++ [61, 34] ++ escW true a.value).length = a.name.length + 2 + (escW true a.value).length := by simp; omega
      have hz := hwl (k + 1)
      have hz2 : (wr0 t k).length + (32 :: (a.name ++ [61, 34] ++ escW true a.value ++ [34])).length ≤ lim := by
        rw [← List.length_append, hnx]; unfold lim; omega
      repeat' first | simp only [fins,mems,Tryz.results36,Tryz.ntmps36,Kt,wks,plain_pr,tkC,hat0,prC,hd,hlt,l1,l2,fresh_self,List.length_map,vcs,Ka,Kb,Kc,Kd,Ke,Kf,Kg,Kh,Ki,Kj,Kk,Kl,Km,reduceCtorEq,reduceIte,Kn,Ko,Kp,Kq,Kr,Ks,tys] | exact rfl | refine call_off (v := .any) ?_ | (first | (refine call_fn ?_ (hpv _) ?_) | (refine call_fn_g ?_ (fun _ => hpv _) ?_)) | (refine call_fn_full ?_ [b0 + 1, b0 + 2] (wStr_ev false (b0 + 1) (b0 + 2) (wr0 t k) _ _ (32 :: (a.name ++ [61, 34] ++ escW true a.value ++ [34])) (by simp) hz2 (by omega) ?_ ?_ only_mem (by omega) (by omega)) ?_ ?_) | refine draw_end' (ps := [(1, 6)]) (by decide +kernel) (by simp only [List.forall_mem_cons,List.getD_cons_zero,List.getD_cons_succ,Tryz.results36,Tryz.ntmps36,Kt,wks,plain_pr,tkC,hat0,prC,hd,hlt,l1,l2,fresh_self,List.length_map,vcs,Ka,Kb,Kc,Kd,Ke,Kf,Kg,Kh,Ki,Kj,Kk,Kl,Km,reduceCtorEq,reduceIte,Kn,Ko,Kp,Kq,Kr,Ks,tys] <;> (try simp) <;> (try omega)) ?_ | refine draw_end (by decide +kernel) ?_ | ((first | apply cond_bool | apply cond_bit) <;> intro hb) | refine And.intro (by omega) ?_ | refine And.intro (fun hb => ?_) (fun hb => ?_)
      all_goals ((refine again_can2 cxG (k + 1) [some b0, some (b0 + 1), some (b0 + 240)] ?_ ?_ ?_ ?_; rotate_left 2; (focus (show b0 ≤ _; omega)); (focus (refine ⟨?_, ?_⟩ <;> (try simp only [cans,plain_pr,plain_tkR,tkC,hwk,hnx,ren_bS,renOk_bS,ren_rK,renOk_rK,Option.getD_some,Option.isSome_some,List.length_map,vcs,Ka,Kb,Kc,Kd,Ke,Kf,Kg,Kh,Ki,Kj,Kk,Kl,Km,reduceCtorEq,reduceIte,Kn,Ko,Kp,Kq,Kr,Ks,tys,injs]) <;> (try omega)))))
      all_goals (first | (show t.attrs.length - (k + 1) < t.attrs.length - k; omega) | (show k + 1 ≤ t.attrs.length; omega) | skip)
    · have hke : k = t.attrs.length := by omega
      subst hke
      have hd : decide (t.attrs.length < t.attrs.length) = false := decide_eq_false (by omega)
      have hz := hwl t.attrs.length
      have z1 : (wr0 t t.attrs.length).length + 1 ≤ lim := by unfold lim; omega
      have z2 : (wr0 t t.attrs.length ++ [47]).length + 1 ≤ lim := by simp only [List.length_append,List.length_cons,List.length_nil]; unfold lim; omega
      have z3 : (wr0 t t.attrs.length ++ [62]).length ≤ lim := by simp only [List.length_append,List.length_cons,List.length_nil]; unfold lim; omega
      have z4 : ((wr0 t t.attrs.length ++ [47]) ++ [62]).length ≤ lim := by simp only [List.length_append,List.length_cons,List.length_nil]; unfold lim; omega
      cases k3 with
      | true =>
        (repeat' first | simp only [Tryz.results36,Tryz.ntmps36,Kt,wks,plain_pr,tkC,hd,q3,fresh_self,List.length_map,vcs,Ka,Kb,Kc,Kd,Ke,Kf,Kg,Kh,Ki,Kj,Kk,Kl,Km,reduceCtorEq,reduceIte,Kn,Ko,Kp,Kq,Kr,Ks,tys] | exact rfl | ((first | (refine call_fn_full ?_ [b0 + 1, b0 + 2] (wByte_ev false (b0 + 1) (b0 + 2) (wr0 t t.attrs.length) _ _ 47 z1 (by omega) ?_ ?_ only_mem (by omega) (by omega)) ?_ ?_) | (refine call_fn_full ?_ [b0 + 1, b0 + 96] (bStr_ev false (b0 + 1) (b0 + 96) ((wr0 t t.attrs.length ++ [47]) ++ [62]) _ _ z4 (by omega) ?_ ?_ only_mem (by omega) (by omega)) ?_ ?_)); iterate 4 (focus (simp only [mems,Tryz.results36,Tryz.ntmps36,Kt,wks,plain_pr,tkC,hd,q3,fresh_self,List.length_map,vcs,Ka,Kb,Kc,Kd,Ke,Kf,Kg,Kh,Ki,Kj,Kk,Kl,Km,reduceCtorEq,reduceIte,Kn,Ko,Kp,Kq,Kr,Ks,tys] <;> exact rfl))) | ((refine call_fn_full ?_ [b0 + 1, b0 + 80] (wByte_ev false (b0 + 1) (b0 + 80) (wr0 t t.attrs.length ++ [47]) _ _ 62 z2 (by omega) ?_ ?_ only_mem (by omega) (by omega)) ?_ ?_); iterate 4 (focus (simp only [mems,Tryz.results36,Tryz.ntmps36,Kt,wks,plain_pr,tkC,hd,q3,fresh_self,List.length_map,vcs,Ka,Kb,Kc,Kd,Ke,Kf,Kg,Kh,Ki,Kj,Kk,Kl,Km,reduceCtorEq,reduceIte,Kn,Ko,Kp,Kq,Kr,Ks,tys] <;> exact rfl))) | refine draw_end' (ps := [(1, 6)]) (by decide +kernel) (by simp only [List.forall_mem_cons,List.getD_cons_zero,List.getD_cons_succ,Tryz.results36,Tryz.ntmps36,Kt,wks,plain_pr,tkC,hd,q3,fresh_self,List.length_map,vcs,Ka,Kb,Kc,Kd,Ke,Kf,Kg,Kh,Ki,Kj,Kk,Kl,Km,reduceCtorEq,reduceIte,Kn,Ko,Kp,Kq,Kr,Ks,tys] <;> (try simp) <;> (try omega)) ?_ | refine draw_end (by decide +kernel) ?_ | ((first | apply cond_bool | apply cond_bit) <;> intro hb) | refine And.intro (by omega) ?_ | refine And.intro (fun hb => ?_) (fun hb => ?_) | refine Fin.pure ?_ ?_ ?_ | simp only [injs])
      | false =>
        (repeat' first | simp only [fins,mems,Tryz.results36,Tryz.ntmps36,Kt,wks,plain_pr,tkC,hd,q3,fresh_self,List.length_map,vcs,Ka,Kb,Kc,Kd,Ke,Kf,Kg,Kh,Ki,Kj,Kk,Kl,Km,reduceCtorEq,reduceIte,Kn,Ko,Kp,Kq,Kr,Ks,tys] | exact rfl | refine call_off (v := .any) ?_ | (refine call_fn_full ?_ [b0 + 1, b0 + 2] (wByte_ev false (b0 + 1) (b0 + 2) (wr0 t t.attrs.length) _ _ 62 z1 (by omega) ?_ ?_ only_mem (by omega) (by omega)) ?_ ?_) | (refine call_fn_full ?_ [b0 + 1, b0 + 80] (bStr_ev false (b0 + 1) (b0 + 80) (wr0 t t.attrs.length ++ [62]) _ _ z3 (by omega) ?_ ?_ only_mem (by omega) (by omega)) ?_ ?_) | refine draw_end' (ps := [(1, 6)]) (by decide +kernel) (by simp only [List.forall_mem_cons,List.getD_cons_zero,List.getD_cons_succ,Tryz.results36,Tryz.ntmps36,Kt,wks,plain_pr,tkC,hd,q3,fresh_self,List.length_map,vcs,Ka,Kb,Kc,Kd,Ke,Kf,Kg,Kh,Ki,Kj,Kk,Kl,Km,reduceCtorEq,reduceIte,Kn,Ko,Kp,Kq,Kr,Ks,tys] <;> (try simp) <;> (try omega)) ?_ | refine draw_end (by decide +kernel) ?_ | ((first | apply cond_bool | apply cond_bit) <;> intro hb) | refine And.intro (by omega) ?_ | refine And.intro (fun hb => ?_) (fun hb => ?_) | refine Fin.pure ?_ ?_ ?_ | simp only [injs])
theorem written_ev (t : Tk) (h : t.okTo 1000000) (hok : tokL t = true) (nm : Nat) : Ev cx 36 nm [.agg (tkC t)] Mem.nil (.str (tokW t)) [] := by
  obtain ⟨hl, hnl, htl, hal⟩ := h
  have hk0 := hok
  unfold tokL at hk0
  rcases kind_bools t.kind with ⟨q1, q3, q2, q4, hkd⟩ | ⟨q1, q3, q2, q4, hkd⟩ | ⟨q1, q3, q2, q4, hkd⟩ | ⟨q1, q3, q2, q4, hkd⟩ | ⟨q1, q3, q2, q4, hk1, hk3, hk2, hk4⟩
  · rw [if_pos (.inl hkd)] at hk0
    simp only [Bool.and_eq_true] at hk0
    have hw : tokW t = wr0 t t.attrs.length ++ [62] := by unfold tokW; rw [if_neg (by omega), if_neg (by omega), if_neg (by omega), wr0_end]
    rw [hw]
    exact tag_ev t ⟨hl, hnl, htl, hal⟩ hk0.1.2 false q2 q4 q3 nm
  · rw [if_pos (.inr hkd)] at hk0
    simp only [Bool.and_eq_true] at hk0
    have hw : tokW t = (wr0 t t.attrs.length ++ [47]) ++ [62] := by unfold tokW; rw [if_neg (by omega), if_neg (by omega), if_pos hkd, wr0_end]; simp
    rw [hw]
    exact tag_ev t ⟨hl, hnl, htl, hal⟩ hk0.1.2 true q2 q4 q3 nm
  · have hw : tokW t = 60 :: 47 :: (t.name ++ [62]) := by unfold tokW; rw [if_neg (by omega), if_pos hkd]; simp
    rw [hw]
    refine ev_go rfl (fun cargs w => Tryz.call36 cargs w) Tryz.func36 rfl mixed (by kernel_rfl) rfl ?_; intro b0 hb0
    (repeat' first | simp only [fins,mems,Tryz.results36,Tryz.ntmps36,Kt,wks,tkC,q1,q2,q3,q4,vcs,Ka,Kb,Kc,Kd,Ke,Kf,Kg,Kh,Ki,Kj,Kk,Kl,Km,reduceCtorEq,reduceIte,Kn,Ko,Kp,Kq,Kr,Ks,tys] | exact rfl | refine call_off (v := .any) ?_ | refine draw_end' (ps := [(1, 6)]) (by decide +kernel) (by simp only [List.forall_mem_cons,List.getD_cons_zero,List.getD_cons_succ,Tryz.results36,Tryz.ntmps36,Kt,wks,tkC,q1,q2,q3,q4,vcs,Ka,Kb,Kc,Kd,Ke,Kf,Kg,Kh,Ki,Kj,Kk,Kl,Km,reduceCtorEq,reduceIte,Kn,Ko,Kp,Kq,Kr,Ks,tys] <;> (try simp) <;> (try omega)) ?_ | refine draw_end (by decide +kernel) ?_ | ((first | apply cond_bool | apply cond_bit) <;> intro hb) | refine And.intro (by omega) ?_ | refine And.intro (fun hb => ?_) (fun hb => ?_) | refine Fin.pure ?_ ?_ ?_ | simp only [injs])
  · rw [if_neg (by omega), if_neg (by omega), if_pos hkd] at hk0
    simp only [Bool.and_eq_true,decide_eq_true_eq] at hk0
    have hw : tokW t = escW false t.text := by unfold tokW; rw [if_pos hkd]
    rw [hw]
    refine ev_go rfl (fun cargs w => Tryz.call36 cargs w) Tryz.func36 rfl mixed (by kernel_rfl) rfl ?_; intro b0 hb0
    (repeat' first | simp only [fins,mems,Tryz.results36,Tryz.ntmps36,Kt,wks,tkC,q1,q2,q3,q4,vcs,Ka,Kb,Kc,Kd,Ke,Kf,Kg,Kh,Ki,Kj,Kk,Kl,Km,reduceCtorEq,reduceIte,Kn,Ko,Kp,Kq,Kr,Ks,tys] | exact rfl | refine call_off (v := .any) ?_ | (first | (refine call_fn ?_ (lput_ev t.text false (ptsErr_iff.1 hk0.2).2 htl _) ?_) | (refine call_fn_g ?_ (fun _ => lput_ev t.text false (ptsErr_iff.1 hk0.2).2 htl _) ?_)) | refine draw_end' (ps := [(1, 6)]) (by decide +kernel) (by simp only [List.forall_mem_cons,List.getD_cons_zero,List.getD_cons_succ,Tryz.results36,Tryz.ntmps36,Kt,wks,tkC,q1,q2,q3,q4,vcs,Ka,Kb,Kc,Kd,Ke,Kf,Kg,Kh,Ki,Kj,Kk,Kl,Km,reduceCtorEq,reduceIte,Kn,Ko,Kp,Kq,Kr,Ks,tys] <;> (try simp) <;> (try omega)) ?_ | refine draw_end (by decide +kernel) ?_ | ((first | apply cond_bool | apply cond_bit) <;> intro hb) | refine And.intro (by omega) ?_ | refine And.intro (fun hb => ?_) (fun hb => ?_) | refine Fin.pure ?_ ?_ ?_ | simp only [injs])
  · rw [if_neg (by omega), if_neg hk2, if_neg hk4] at hk0
    cases hk0
end Go.Proofs.YtoaclokiggoeiaaGreatDoor
