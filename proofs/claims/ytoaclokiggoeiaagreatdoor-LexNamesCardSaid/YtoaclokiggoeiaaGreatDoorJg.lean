/-
  Texts joined: XEc.
-/
import Derived.Test.YtoaclokiggoeiaaGreatDoorJf
namespace Go.Proofs.YtoaclokiggoeiaaGreatDoor
set_option maxRecDepth 100000
set_option maxHeartbeats 32000000
set_option linter.unusedSimpArgs false
set_option linter.unusedVariables false
open Nat renaming reduceAdd → Ka, reduceMul → Kb, reduceEqDiff → Kc, reduceLeDiff → Kd, reduceSub → Ke, reduceLT → Kf, reduceBEq → Kr, reduceBNe → Ks, reducePow → Kt
open Int renaming reduceToNat → Kg, reduceLE → Kh, reduceLT → Ki, reduceAdd → Kj, reduceSub → Kk, reduceMul → Kl, reduceNeg → Km, reduceBEq → Kn, reduceBNe → Ko, reduceEq → Kp, reduceNe → Kq
open Go Go.RowKit Go.Proofs.YtoaclokiggoeiaaGreatDoor.Vm
def pts (l : List UInt8) : List Int := if 16384 < l.length then [] else (dec l).getD []
def intRow (z : Int) : List V := [.int .i64 z]
theorem preB_eq (s p : List UInt8) : preB s p = Lib.hasPrefix s p := by
  unfold preB Lib.hasPrefix
  rw [Bool.eq_iff_iff]
  simp only [Bool.and_eq_true,decide_eq_true_eq,beq_iff_eq,List.isPrefixOf_iff_prefix,List.prefix_iff_eq_take]
  constructor
  · rintro ⟨_, h⟩; exact h.symm
  · intro h
    refine ⟨?_, h.symm⟩
    have := congrArg List.length h
    simp at this; omega
theorem one_at {s : List UInt8} {p : Nat} (hp : p < s.length) : one (s.drop p) = if ((runeAt s p).1 = 65533 ∧ preB (s.drop p) [239, 191, 189] = false) ∨ may ((runeAt s p).1 : Int) = false then none else some (((runeAt s p).1 : Int), (runeAt s p).2) := by
  have hne : s.drop p ≠ [] := by
    intro h
    have := congrArg List.length h
    simp at this; omega
  have hd : runeAt s p = Lib.decodeL (s.drop p) := decode_drop ⟨s.toArray⟩ p
  rw [hd, preB_eq]
  exact one_of_decode hne
theorem rune_le (s : List UInt8) (p : Nat) : (runeAt s p).1 ≤ 2147483647 := decode_le _ _
theorem take_i (l : List Int) : (l.map intRow).take l.length = l.map intRow := List.take_of_length_le (by simp)
theorem isRow_inst : Ob.isRow instCells = true := rfl
theorem plain_i (l : List Int) : plainLL (l.map intRow) = true := plainLL_map _ (fun _ => rfl) l
theorem points_ev (s : List UInt8) (hs : s.length ≤ lim) (nm : Nat) : Ev cx 39 nm [.str s] Mem.nil (.tup [.sl false 1 ((pts s).map intRow), .int .i64 (ptsErr s)]) [] := by
  unfold lim at hs
  by_cases hbig : 16384 < s.length
  · have he : ptsErr s = 4 := by unfold ptsErr; rw [if_pos hbig]
    have hq : pts s = [] := by unfold pts; rw [if_pos hbig]
    have hd : decide ((16384 : Int) < s.length) = true := decide_eq_true (by omega)
    refine ev_go rfl (fun cargs w => Tryz.call39 cargs w) Tryz.func39 rfl mixed (by kernel_rfl) rfl ?_; intro b0 hb0
    (repeat' first | simp only [fins,mems,Tryz.results39,Tryz.ntmps39,Kt,wks,he,hq,hd,List.map_nil,vcs,Ka,Kb,Kc,Kd,Ke,Kf,Kg,Kh,Ki,Kj,Kk,Kl,Km,reduceCtorEq,reduceIte,Kn,Ko,Kp,Kq,Kr,Ks,tys] | exact rfl | refine call_off (v := .any) ?_ | ((first | apply cond_bool | apply cond_bit) <;> intro hb) | refine And.intro (by omega) ?_ | refine And.intro (fun hb => ?_) (fun hb => ?_) | refine Fin.pure ?_ ?_ ?_ | simp only [injs])
  · have hd : decide ((16384 : Int) < s.length) = false := decide_eq_false (by omega)
    refine ev_go rfl (fun cargs w => Tryz.call39 cargs w) Tryz.func39 rfl mixed (by kernel_rfl) rfl ?_; intro b0 hb0
    repeat' first | simp only [fins,mems,Tryz.results39,Tryz.ntmps39,Kt,wks,hd,vcs,Ka,Kb,Kc,Kd,Ke,Kf,Kg,Kh,Ki,Kj,Kk,Kl,Km,reduceCtorEq,reduceIte,Kn,Ko,Kp,Kq,Kr,Ks,tys] | exact rfl | refine call_off (v := .any) ?_ | (refine ext_range (s := ?_) ?_ ?_ ?_; rotate_left 1; (iterate 2 (focus (simp only [Tryz.results39,Tryz.ntmps39,Kt,wks,hd,vcs,Ka,Kb,Kc,Kd,Ke,Kf,Kg,Kh,Ki,Kj,Kk,Kl,Km,reduceCtorEq,reduceIte,Kn,Ko,Kp,Kq,Kr,Ks,tys] <;> exact rfl)))) | (refine extG_true ?_) | (refine extG_false ?_) | ((first | apply cond_bool | apply cond_bit) <;> intro hb) | refine And.intro (by omega) ?_ | refine And.intro (fun hb => ?_) (fun hb => ?_)
    (refine loop_can2 cxG (fun x : Nat × List Int => s.length - x.1) (fun x => x.1 ≤ s.length ∧ x.2.length ≤ x.1 ∧ dec s = (dec (s.drop x.1)).map (x.2 ++ ·)) (b0 + 16) (fun x => [(0, .str s), (2, .own (b0 + 1) 0 x.2.length), (10, .ptr b0 0 0)]) (fun x => [(b0, iterK s x.1), (b0 + 1, ⟨1, x.2.map intRow⟩)]) ((0, [])) [some (b0 + 96), none] ?_ ?_ ?_ ?_; rotate_left 1; (focus (show b0 ≤ _; omega)); (focus (refine ⟨?_, ?_⟩ <;> (try simp only [cans,isRow_inst,ren_iter,renOk_iter,plain_i,vcs,Ka,Kb,Kc,Kd,Ke,Kf,Kg,Kh,Ki,Kj,Kk,Kl,Km,reduceCtorEq,reduceIte,Kn,Ko,Kp,Kq,Kr,Ks,tys,injs]) <;> (try omega))); rotate_left 1)
    · refine ⟨Nat.zero_le _, Nat.le_refl _, ?_⟩
      rw [List.drop_zero]; cases dec s <;> rfl
    · rintro ⟨p, zs⟩ ⟨h1, h2, h3⟩
      by_cases hp : p < s.length
      · have ho := one_at hp
        have hne : s.drop p ≠ [] := by
          intro h
          have := congrArg List.length h
          simp at this; omega
        have hrl := rune_le s p
        have hw : IntKind.i64.wrap ((runeAt s p).1 : Int) = ((runeAt s p).1 : Int) := wrap_in (by omega) (by omega)
        have hle : (s.drop p).length ≤ lim := by unfold lim; simp; omega
        by_cases hbad : ((runeAt s p).1 = 65533 ∧ preB (s.drop p) [239, 191, 189] = false) ∨ may ((runeAt s p).1 : Int) = false
        · rw [if_pos hbad] at ho
          have hd0 : dec s = none := by
            have := h3
            simp only at this
            rw [this, dec_bad hne ho]; rfl
          have he : ptsErr s = 50 := by unfold ptsErr; rw [if_neg hbig, hd0]
          have hq : pts s = [] := by unfold pts; rw [if_neg hbig, hd0]; rfl
          cases hc : (((runeAt s p).1 : Int) == 65533) <;> cases hpr : preB (s.drop p) [239, 191, 189] <;> cases hm : may ((runeAt s p).1 : Int)
          all_goals (try (exfalso; simp_all; done))
          all_goals ((repeat' first | simp only [fins,mems,Tryz.results39,Tryz.ntmps39,Kt,wks,he,hq,hp,hw,hc,hpr,hm,plain_i,List.map_nil,List.length_drop,vcs,Ka,Kb,Kc,Kd,Ke,Kf,Kg,Kh,Ki,Kj,Kk,Kl,Km,reduceCtorEq,reduceIte,Kn,Ko,Kp,Kq,Kr,Ks,tys] | exact rfl | refine call_off (v := .any) ?_ | (first | (refine call_fn ?_ (pre_ev (s.drop p) [239, 191, 189] hle (by decide) _) ?_) | (refine call_fn_g ?_ (fun _ => pre_ev (s.drop p) [239, 191, 189] hle (by decide) _) ?_) | (refine call_fn ?_ (tMay_ev ((runeAt s p).1 : Int) _) ?_) | (refine call_fn_g ?_ (fun _ => tMay_ev ((runeAt s p).1 : Int) _) ?_)) | (refine ext_next (s := ?_) (y := ?_) (p := ?_) ?_ ?_ ?_ ?_; rotate_left 3; (iterate 2 (focus (simp only [Tryz.results39,Tryz.ntmps39,Kt,wks,he,hq,hp,hw,hc,hpr,hm,plain_i,List.map_nil,List.length_drop,vcs,Ka,Kb,Kc,Kd,Ke,Kf,Kg,Kh,Ki,Kj,Kk,Kl,Km,reduceCtorEq,reduceIte,Kn,Ko,Kp,Kq,Kr,Ks,tys] <;> exact rfl))); (focus (simp only [Tryz.results39,Tryz.ntmps39,Kt,wks,he,hq,hp,hw,hc,hpr,hm,plain_i,List.map_nil,List.length_drop,vcs,Ka,Kb,Kc,Kd,Ke,Kf,Kg,Kh,Ki,Kj,Kk,Kl,Km,reduceCtorEq,reduceIte,Kn,Ko,Kp,Kq,Kr,Ks,tys] <;> omega))) | (refine extG_true ?_) | (refine extG_false ?_) | ((first | apply cond_bool | apply cond_bit) <;> intro hb) | refine And.intro (by omega) ?_ | refine And.intro (fun hb => ?_) (fun hb => ?_) | refine Fin.pure ?_ ?_ ?_ | simp only [injs]))
        · rw [if_neg hbad] at ho
          obtain ⟨_, hm, _, hk1, hk2⟩ := one_some ho
          have hds : dec s = (dec (s.drop (p + (runeAt s p).2))).map ((zs ++ [((runeAt s p).1 : Int)]) ++ ·) := by
            have := h3
            simp only at this
            rw [this, dec_step ho, List.drop_drop]
            cases dec (s.drop (p + (runeAt s p).2)) <;> simp
          have hlen : (s.drop p).length = s.length - p := by simp
          have h2' : zs.length ≤ p := h2
          have hsn : zs.map intRow ++ [[V.int .i64 ((runeAt s p).1 : Int)]] = (zs ++ [((runeAt s p).1 : Int)]).map intRow := by simp [intRow]
          have hnx : p + (runeAt s p).2 ≤ s.length := by omega
          cases hc : (((runeAt s p).1 : Int) == 65533) <;> cases hpr : preB (s.drop p) [239, 191, 189]
          all_goals (try (exfalso; exact hbad (.inl ⟨by have := beq_iff_eq.1 hc; omega, hpr⟩)))
          all_goals (repeat' first | simp only [fins,mems,Tryz.results39,Tryz.ntmps39,Kt,wks,hp,hw,hc,hpr,hm,plain_i,hsn,List.map_nil,List.length_drop,List.length_map,Nat.le_refl,Option.bind_some,Option.bind_none,vcs,Ka,Kb,Kc,Kd,Ke,Kf,Kg,Kh,Ki,Kj,Kk,Kl,Km,reduceCtorEq,reduceIte,Kn,Ko,Kp,Kq,Kr,Ks,tys] | exact rfl | refine call_off (v := .any) ?_ | (first | (refine call_fn ?_ (pre_ev (s.drop p) [239, 191, 189] hle (by decide) _) ?_) | (refine call_fn_g ?_ (fun _ => pre_ev (s.drop p) [239, 191, 189] hle (by decide) _) ?_) | (refine call_fn ?_ (tMay_ev ((runeAt s p).1 : Int) _) ?_) | (refine call_fn_g ?_ (fun _ => tMay_ev ((runeAt s p).1 : Int) _) ?_)) | (refine ext_next (s := ?_) (y := ?_) (p := ?_) ?_ ?_ ?_ ?_; rotate_left 3; (iterate 2 (focus (simp only [Tryz.results39,Tryz.ntmps39,Kt,wks,hp,hw,hc,hpr,hm,plain_i,hsn,List.map_nil,List.length_drop,List.length_map,Nat.le_refl,Option.bind_some,Option.bind_none,vcs,Ka,Kb,Kc,Kd,Ke,Kf,Kg,Kh,Ki,Kj,Kk,Kl,Km,reduceCtorEq,reduceIte,Kn,Ko,Kp,Kq,Kr,Ks,tys] <;> exact rfl))); (focus (simp only [Tryz.results39,Tryz.ntmps39,Kt,wks,hp,hw,hc,hpr,hm,plain_i,hsn,List.map_nil,List.length_drop,List.length_map,Nat.le_refl,Option.bind_some,Option.bind_none,vcs,Ka,Kb,Kc,Kd,Ke,Kf,Kg,Kh,Ki,Kj,Kk,Kl,Km,reduceCtorEq,reduceIte,Kn,Ko,Kp,Kq,Kr,Ks,tys] <;> omega))) | (refine extG_true ?_) | (refine extG_false ?_) | ((first | apply cond_bool | apply cond_bit) <;> intro hb) | refine And.intro (by omega) ?_ | refine And.intro (fun hb => ?_) (fun hb => ?_))
          all_goals ((refine again_can2 cxG ((p + (runeAt s p).2, zs ++ [((runeAt s p).1 : Int)])) [some b0, some (b0 + 416)] ?_ ?_ ?_ ?_; rotate_left 2; (focus (show b0 ≤ _; omega)); (focus (refine ⟨?_, ?_⟩ <;> (try simp only [cans,isRow_inst,ren_iter,renOk_iter,plain_i,hsn,List.length_map,List.length_append,List.length_cons,List.length_nil,Option.bind_some,Option.bind_none,vcs,Ka,Kb,Kc,Kd,Ke,Kf,Kg,Kh,Ki,Kj,Kk,Kl,Km,reduceCtorEq,reduceIte,Kn,Ko,Kp,Kq,Kr,Ks,tys,injs]) <;> (try omega)))))
          all_goals (first | (show s.length - (p + (runeAt s p).2) < s.length - p; omega) | exact ⟨hnx, by simp; omega, hds⟩ | skip)
      · have hpe : p = s.length := by omega
        subst hpe
        have he : ptsErr s = 0 := by
          rw [List.drop_length, dec_nil] at h3
          unfold ptsErr; rw [if_neg hbig, h3]; rfl
        have hq : pts s = zs := by
          rw [List.drop_length, dec_nil] at h3
          unfold pts; rw [if_neg hbig, h3]; simp
        (repeat' first | simp only [fins,mems,Tryz.results39,Tryz.ntmps39,Kt,wks,he,hq,plain_i,take_i,memL_cons,memL_nil,List.length_map,Nat.le_refl,vcs,Ka,Kb,Kc,Kd,Ke,Kf,Kg,Kh,Ki,Kj,Kk,Kl,Km,reduceCtorEq,reduceIte,Kn,Ko,Kp,Kq,Kr,Ks,tys] | exact rfl | refine call_off (v := .any) ?_ | (refine ext_over (s := ?_) (y := ?_) (p := ?_) ?_ ?_ ?_ ?_; rotate_left 3; (iterate 2 (focus (simp only [Tryz.results39,Tryz.ntmps39,Kt,wks,he,hq,plain_i,take_i,memL_cons,memL_nil,List.length_map,Nat.le_refl,vcs,Ka,Kb,Kc,Kd,Ke,Kf,Kg,Kh,Ki,Kj,Kk,Kl,Km,reduceCtorEq,reduceIte,Kn,Ko,Kp,Kq,Kr,Ks,tys] <;> exact rfl))); (focus (simp only [Tryz.results39,Tryz.ntmps39,Kt,wks,he,hq,plain_i,take_i,memL_cons,memL_nil,List.length_map,Nat.le_refl,vcs,Ka,Kb,Kc,Kd,Ke,Kf,Kg,Kh,Ki,Kj,Kk,Kl,Km,reduceCtorEq,reduceIte,Kn,Ko,Kp,Kq,Kr,Ks,tys] <;> omega))) | (refine extG_true ?_) | (refine extG_false ?_) | ((first | apply cond_bool | apply cond_bit) <;> intro hb) | refine And.intro (by omega) ?_ | refine And.intro (fun hb => ?_) (fun hb => ?_) | refine Fin.pure ?_ ?_ ?_ | simp only [injs])
theorem tCheck_ev (s : List UInt8) (hs : s.length ≤ lim) (nm : Nat) : Ev cx 22 nm [.str s] Mem.nil (.int .i64 (ptsErr s)) [] := by
  refine ev_go rfl (fun cargs w => Tryz.call22 cargs w) Tryz.func22 rfl mixed (by kernel_rfl) rfl ?_; intro b0 hb0
  (repeat' first | simp only [fins,mems,Tryz.results22,Tryz.ntmps22,Kt,wks,vcs,Ka,Kb,Kc,Kd,Ke,Kf,Kg,Kh,Ki,Kj,Kk,Kl,Km,reduceCtorEq,reduceIte,Kn,Ko,Kp,Kq,Kr,Ks,tys] | exact rfl | refine call_off (v := .any) ?_ | (first | (refine call_fn ?_ (points_ev s hs _) ?_) | (refine call_fn_g ?_ (fun _ => points_ev s hs _) ?_)) | ((first | apply cond_bool | apply cond_bit) <;> intro hb) | refine And.intro (by omega) ?_ | refine And.intro (fun hb => ?_) (fun hb => ?_) | refine Fin.pure ?_ ?_ ?_ | simp only [injs])
end Go.Proofs.YtoaclokiggoeiaaGreatDoor
