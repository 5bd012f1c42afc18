/-
  Texts joined: XNp.
-/
import Derived.Test.YtoaclokiggoeiaaGreatDoorJs
namespace Go.Proofs.YtoaclokiggoeiaaGreatDoor
set_option maxRecDepth 100000
set_option maxHeartbeats 32000000
set_option linter.unusedSimpArgs false
set_option linter.unusedVariables false
open Nat renaming reduceAdd → Ka, reduceMul → Kb, reduceEqDiff → Kc, reduceLeDiff → Kd, reduceSub → Ke, reduceLT → Kf, reduceBEq → Kr, reduceBNe → Ks, reducePow → Kt
open Int renaming reduceToNat → Kg, reduceLE → Kh, reduceLT → Ki, reduceAdd → Kj, reduceSub → Kk, reduceMul → Kl, reduceNeg → Km, reduceBEq → Kn, reduceBNe → Ko, reduceEq → Kp, reduceNe → Kq
open Go Go.RowKit Go.Proofs.YtoaclokiggoeiaaGreatDoor.Vm Go.Lib
theorem rTag_evp (s n r0 : List UInt8) (hs : s.length ≤ 16384) (hd : (dec s).isSome = true) (h1 : afterO 47 s = none) (h2 : nameO s = some (n, r0)) (h3 : tagL n [] r0 = none) (q : Nat) (M : Mem) (nm : Nat) (hq : M q = some (srcK s)) (ho : ∀ z, (M z).isSome = true → z ∈ [q]) (hqn : q < nm) :
    EvP cx 42 nm [.ptr q 0 0] M noV := by
  have p1 := eatI_ev s [47] false (by omega) (by decide) (by rw [after_pre, h1]; rfl)
  simp only [Bool.false_eq_true,if_false] at p1
  have hn := sName_ev s n r0 (by omega) h2
  obtain ⟨_, _, _, l2⟩ := name_lt h2
  have hd0 := name_dec hd h2
  unfold srcK at hq hn
  refine evp_go rfl cxG rfl (fun cargs w => Tryz.call42 cargs w) Tryz.func42 rfl mixed (by kernel_rfl) rfl ?_; intro b0 hb0
  have lq : q < b0 := below_of hb0 (by rw [hq]; rfl)
  have z0 := lt_ne lq; have z1 := lt_ne_add lq; have z2 := lt_ne' lq; have z3 := lt_ne_add' lq
  repeat' first | simp only [Tryz.results42,Tryz.ntmps42,Kt,wks,hq,z0,z1,z2,z3,vcs,Ka,Kb,Kc,Kd,Ke,Kf,Kg,Kh,Ki,Kj,Kk,Kl,Km,reduceCtorEq,reduceIte,Kn,Ko,Kp,Kq,Kr,Ks,tys] | exact rfl | ((first | (refine call_fn_full ?_ [q] (p1 q _ _ ?_ only_mem (by omega)) ?_ ?_) | (refine call_fn_full ?_ [q] (hn q _ _ ?_ only_mem (by omega)) ?_ ?_)); iterate 3 (focus (simp only [mems,Tryz.results42,Tryz.ntmps42,Kt,wks,hq,z0,z1,z2,z3,vcs,Ka,Kb,Kc,Kd,Ke,Kf,Kg,Kh,Ki,Kj,Kk,Kl,Km,reduceCtorEq,reduceIte,Kn,Ko,Kp,Kq,Kr,Ks,tys] <;> exact rfl))) | ((first | apply cond_bool | apply cond_bit) <;> intro hb) | refine And.intro (by omega) ?_ | refine And.intro (fun hb => ?_) (fun hb => ?_)
  (refine loop_can2 cxG (fun x : TSt => x.rest.length) (fun x => tagL n x.l x.rest = none ∧ (dec x.rest).isSome = true ∧ x.rest.length + x.l.length ≤ 16384) (b0 + 16) (fun x => [(0, .ptr q 0 0), (2, .ptr b0 0 0)]) (fun x => [(q, ⟨1, [[.str x.rest]]⟩), (b0, ⟨4, [[.int .u8 0, .str n, .own (b0 + 1) 0 x.l.length, .str []]]⟩), (b0 + 1, ⟨2, x.l.map prC⟩)]) (⟨[], r0⟩) [some q, some b0, none] ?_ ?_ ?_ ?_; rotate_left 1; (focus (show b0 ≤ _; omega)); (focus (refine ⟨?_, ?_⟩ <;> (try simp only [cans,panP_b0,hq,z0,z1,z2,z3,isRow_inst,List.map_nil,List.length_nil,vcs,Ka,Kb,Kc,Kd,Ke,Kf,Kg,Kh,Ki,Kj,Kk,Kl,Km,reduceCtorEq,reduceIte,Kn,Ko,Kp,Kq,Kr,Ks,tys,injs]) <;> (try omega))); rotate_left 1)
  · exact ⟨h3, hd0, by show r0.length + 0 ≤ 16384; omega⟩
  · rintro ⟨xl, xr⟩ ⟨g1, g2, g3⟩
    dsimp only at g1 g2 g3 ⊢
    have gl := skip_le xr
    have hsk := skip_ev xr (by unfold lim; omega)
    unfold srcK at hsk
    have hnl : (xl.map prC).length = xl.length := List.length_map _
    by_cases e62 : preB (skipL xr) [62] = true
    · obtain ⟨t, ht, hen⟩ := end_one e62
      rw [tag_end hen] at g1
      cases g1
    · have e62' : preB (skipL xr) [62] = false := by simpa using e62
      have p62 := eatI_ev (skipL xr) [62] false (by omega) (by decide) e62'
      simp only [Bool.false_eq_true,if_false] at p62
      by_cases e47 : preB (skipL xr) [47, 62] = true
      · obtain ⟨t, ht, hen⟩ := end_three e47
        rw [tag_end hen] at g1
        cases g1
      · have e47' : preB (skipL xr) [47, 62] = false := by simpa using e47
        have hen := end_none e62' e47'
        have p63 := eatI_ev (skipL xr) [47, 62] false (by omega) (by decide) e47'
        simp only [Bool.false_eq_true,if_false] at p63
        by_cases hgap : (skipL xr).length < xr.length
        · have hgd : decide ((skipL xr).length < xr.length) = true := decide_eq_true hgap
          rw [hgd] at hsk
          cases k1 : nameO (skipL xr) with
          | none =>
            have hn1 := sName_evp (skipL xr) (by omega) k1
            unfold srcK at hn1
            repeat' first | simp only [Tryz.results42,Tryz.ntmps42,Kt,wks,plain_pr,hq,z0,z1,z2,z3,goOps_panic,goPan_iface,goEx_code_pan,goEx_blk_pan,goEx_again_pan,panP_at,Bool.not_true,Bool.not_false,List.length_map,vcs,Ka,Kb,Kc,Kd,Ke,Kf,Kg,Kh,Ki,Kj,Kk,Kl,Km,reduceCtorEq,reduceIte,Kn,Ko,Kp,Kq,Kr,Ks,tys] | exact rfl | ((first | (refine call_fn_full ?_ [q] (hsk q _ _ ?_ only_mem (by omega)) ?_ ?_) | (refine call_fn_full ?_ [q] (p62 q _ _ ?_ only_mem (by omega)) ?_ ?_)); iterate 3 (focus (simp only [mems,Tryz.results42,Tryz.ntmps42,Kt,wks,plain_pr,hq,z0,z1,z2,z3,goOps_panic,goPan_iface,goEx_code_pan,goEx_blk_pan,goEx_again_pan,panP_at,Bool.not_true,Bool.not_false,List.length_map,vcs,Ka,Kb,Kc,Kd,Ke,Kf,Kg,Kh,Ki,Kj,Kk,Kl,Km,reduceCtorEq,reduceIte,Kn,Ko,Kp,Kq,Kr,Ks,tys] <;> exact rfl))) | ((refine call_fn_full ?_ [q] (p63 q _ _ ?_ only_mem (by omega)) ?_ ?_); iterate 3 (focus (simp only [mems,Tryz.results42,Tryz.ntmps42,Kt,wks,plain_pr,hq,z0,z1,z2,z3,goOps_panic,goPan_iface,goEx_code_pan,goEx_blk_pan,goEx_again_pan,panP_at,Bool.not_true,Bool.not_false,List.length_map,vcs,Ka,Kb,Kc,Kd,Ke,Kf,Kg,Kh,Ki,Kj,Kk,Kl,Km,reduceCtorEq,reduceIte,Kn,Ko,Kp,Kq,Kr,Ks,tys] <;> exact rfl))) | ((first | apply cond_bool | apply cond_bit) <;> intro hb) | refine And.intro (by omega) ?_ | refine And.intro (fun hb => ?_) (fun hb => ?_)
            refine call_pan rfl [q] (hn1 q _ _ ?_ only_mem (by omega)) ?_
            · simp only [mems,wks,hq,z0,z1,z2,z3,vcs,Ka,Kb,Kc,Kd,Ke,Kf,Kg,Kh,Ki,Kj,Kk,Kl,Km,reduceCtorEq,reduceIte,Kn,Ko,Kp,Kq,Kr,Ks,tys] <;> exact rfl
            · simp only [goOps_panic,goPan_iface,goEx_code_pan,goEx_blk_pan,goEx_again_pan,panP_at,noV]
          | some p =>
            obtain ⟨m, r1⟩ := p
            have d0 := name_dec (skip_dec g2) k1
            obtain ⟨_, _, _, m1⟩ := name_lt k1
            have m2 := skip_le r1
            have hn1 := sName_ev (skipL xr) m r1 (by omega) k1
            have hsk1 := skip_ev r1 (by unfold lim; omega)
            unfold srcK at hn1 hsk1
            cases k2 : afterO 61 (skipL r1) with
            | none =>
              have p61 := eatI_ev (skipL r1) [61] false (by omega) (by decide) (by rw [after_pre, k2]; rfl)
              simp only [Bool.false_eq_true,if_false] at p61
              repeat' first | simp only [Tryz.results42,Tryz.ntmps42,Kt,wks,plain_pr,hq,z0,z1,z2,z3,goOps_panic,goPan_iface,goEx_code_pan,goEx_blk_pan,goEx_again_pan,panP_at,prC,Bool.not_true,Bool.not_false,List.length_map,vcs,Ka,Kb,Kc,Kd,Ke,Kf,Kg,Kh,Ki,Kj,Kk,Kl,Km,reduceCtorEq,reduceIte,Kn,Ko,Kp,Kq,Kr,Ks,tys] | exact rfl | ((first | (refine call_fn_full ?_ [q] (hsk q _ _ ?_ only_mem (by omega)) ?_ ?_) | (refine call_fn_full ?_ [q] (p62 q _ _ ?_ only_mem (by omega)) ?_ ?_) | (refine call_fn_full ?_ [q] (hn1 q _ _ ?_ only_mem (by omega)) ?_ ?_)); iterate 3 (focus (simp only [mems,Tryz.results42,Tryz.ntmps42,Kt,wks,plain_pr,hq,z0,z1,z2,z3,goOps_panic,goPan_iface,goEx_code_pan,goEx_blk_pan,goEx_again_pan,panP_at,prC,Bool.not_true,Bool.not_false,List.length_map,vcs,Ka,Kb,Kc,Kd,Ke,Kf,Kg,Kh,Ki,Kj,Kk,Kl,Km,reduceCtorEq,reduceIte,Kn,Ko,Kp,Kq,Kr,Ks,tys] <;> exact rfl))) | ((first | (refine call_fn_full ?_ [q] (p63 q _ _ ?_ only_mem (by omega)) ?_ ?_) | (refine call_fn_full ?_ [q] (hsk1 q _ _ ?_ only_mem (by omega)) ?_ ?_)); iterate 3 (focus (simp only [mems,Tryz.results42,Tryz.ntmps42,Kt,wks,plain_pr,hq,z0,z1,z2,z3,goOps_panic,goPan_iface,goEx_code_pan,goEx_blk_pan,goEx_again_pan,panP_at,prC,Bool.not_true,Bool.not_false,List.length_map,vcs,Ka,Kb,Kc,Kd,Ke,Kf,Kg,Kh,Ki,Kj,Kk,Kl,Km,reduceCtorEq,reduceIte,Kn,Ko,Kp,Kq,Kr,Ks,tys] <;> exact rfl))) | ((refine call_fn_full ?_ [q] (p61 q _ _ ?_ only_mem (by omega)) ?_ ?_); iterate 3 (focus (simp only [mems,Tryz.results42,Tryz.ntmps42,Kt,wks,plain_pr,hq,z0,z1,z2,z3,goOps_panic,goPan_iface,goEx_code_pan,goEx_blk_pan,goEx_again_pan,panP_at,prC,Bool.not_true,Bool.not_false,List.length_map,vcs,Ka,Kb,Kc,Kd,Ke,Kf,Kg,Kh,Ki,Kj,Kk,Kl,Km,reduceCtorEq,reduceIte,Kn,Ko,Kp,Kq,Kr,Ks,tys] <;> exact rfl))) | (refine call_pan rfl [q] (no_evp q _ _) ?_) | (refine call_off (v := .any) ?_) | ((first | apply cond_bool | apply cond_bit) <;> intro hb) | refine And.intro (by omega) ?_ | refine And.intro (fun hb => ?_) (fun hb => ?_)
            | some t =>
              have k2' := after_some k2
              have d1 := skip_dec d0
              rw [k2'] at d1
              have d2 := skip_dec (cut_text (d := 61) (by decide) (a := []) d1 rfl).2
              have m3 := skip_le t
              rw [k2'] at m2
              simp only [List.length_cons] at m2
              have hsk2 := skip_ev t (by unfold lim; omega)
              rw [k2'] at hsk1
              have p61 := eatI_ev (61 :: t) [61] true (by simp; omega) (by decide) (by rw [pre_one]; rfl)
              simp only [if_true,List.drop_succ_cons,List.drop_zero,List.length_cons,List.length_nil] at p61
              have htw := twice_ev xl ⟨m, []⟩ (by unfold lim; omega)
              unfold srcK at hsk2
              cases hany : (xl.any fun b => m == b.name) with
              | true =>
                simp only [hany,prC] at htw
                repeat' first | simp only [Tryz.results42,Tryz.ntmps42,Kt,wks,plain_pr,hq,z0,z1,z2,z3,goOps_panic,goPan_iface,goEx_code_pan,goEx_blk_pan,goEx_again_pan,panP_at,prC,Bool.not_true,Bool.not_false,List.length_map,vcs,Ka,Kb,Kc,Kd,Ke,Kf,Kg,Kh,Ki,Kj,Kk,Kl,Km,reduceCtorEq,reduceIte,Kn,Ko,Kp,Kq,Kr,Ks,tys] | exact rfl | ((refine call_fn_gvx (xs := ?_) [b0 + 1, b0 + 384] ?_ (fun _ => ?_) (fun _ => ?_) rfl ((fun _ => htw _)) ?_); rotate_left 1; iterate 3 (focus (simp only [fins,mems,Tryz.results42,Tryz.ntmps42,Kt,wks,plain_pr,hq,z0,z1,z2,z3,goOps_panic,goPan_iface,goEx_code_pan,goEx_blk_pan,goEx_again_pan,panP_at,prC,Bool.not_true,Bool.not_false,List.length_map,vcs,Ka,Kb,Kc,Kd,Ke,Kf,Kg,Kh,Ki,Kj,Kk,Kl,Km,reduceCtorEq,reduceIte,Kn,Ko,Kp,Kq,Kr,Ks,tys] <;> (first | exact rfl | omega)))) | ((first | (refine call_fn_full ?_ [q] (hsk q _ _ ?_ only_mem (by omega)) ?_ ?_) | (refine call_fn_full ?_ [q] (p62 q _ _ ?_ only_mem (by omega)) ?_ ?_) | (refine call_fn_full ?_ [q] (hn1 q _ _ ?_ only_mem (by omega)) ?_ ?_)); iterate 3 (focus (simp only [mems,Tryz.results42,Tryz.ntmps42,Kt,wks,plain_pr,hq,z0,z1,z2,z3,goOps_panic,goPan_iface,goEx_code_pan,goEx_blk_pan,goEx_again_pan,panP_at,prC,Bool.not_true,Bool.not_false,List.length_map,vcs,Ka,Kb,Kc,Kd,Ke,Kf,Kg,Kh,Ki,Kj,Kk,Kl,Km,reduceCtorEq,reduceIte,Kn,Ko,Kp,Kq,Kr,Ks,tys] <;> exact rfl))) | ((first | (refine call_fn_full ?_ [q] (p63 q _ _ ?_ only_mem (by omega)) ?_ ?_) | (refine call_fn_full ?_ [q] (hsk1 q _ _ ?_ only_mem (by omega)) ?_ ?_)); iterate 3 (focus (simp only [mems,Tryz.results42,Tryz.ntmps42,Kt,wks,plain_pr,hq,z0,z1,z2,z3,goOps_panic,goPan_iface,goEx_code_pan,goEx_blk_pan,goEx_again_pan,panP_at,prC,Bool.not_true,Bool.not_false,List.length_map,vcs,Ka,Kb,Kc,Kd,Ke,Kf,Kg,Kh,Ki,Kj,Kk,Kl,Km,reduceCtorEq,reduceIte,Kn,Ko,Kp,Kq,Kr,Ks,tys] <;> exact rfl))) | ((refine call_fn_full ?_ [q] (p61 q _ _ ?_ only_mem (by omega)) ?_ ?_); iterate 3 (focus (simp only [mems,Tryz.results42,Tryz.ntmps42,Kt,wks,plain_pr,hq,z0,z1,z2,z3,goOps_panic,goPan_iface,goEx_code_pan,goEx_blk_pan,goEx_again_pan,panP_at,prC,Bool.not_true,Bool.not_false,List.length_map,vcs,Ka,Kb,Kc,Kd,Ke,Kf,Kg,Kh,Ki,Kj,Kk,Kl,Km,reduceCtorEq,reduceIte,Kn,Ko,Kp,Kq,Kr,Ks,tys] <;> exact rfl))) | (refine call_pan rfl [q] (no_evp q _ _) ?_) | ((first | apply cond_bool | apply cond_bit) <;> intro hb) | refine And.intro (by omega) ?_ | refine And.intro (fun hb => ?_) (fun hb => ?_)
              | false =>
                simp only [hany,prC] at htw
                cases k3 : valueO (skipL t) with
                | none =>
                  have hva := rValue_evp (skipL t) (by omega) d2 k3
                  unfold srcK at hva
                  repeat' first | simp only [Tryz.results42,Tryz.ntmps42,Kt,wks,plain_pr,hq,z0,z1,z2,z3,goOps_panic,goPan_iface,goEx_code_pan,goEx_blk_pan,goEx_again_pan,panP_at,prC,Bool.not_true,Bool.not_false,List.length_map,vcs,Ka,Kb,Kc,Kd,Ke,Kf,Kg,Kh,Ki,Kj,Kk,Kl,Km,reduceCtorEq,reduceIte,Kn,Ko,Kp,Kq,Kr,Ks,tys] | exact rfl | ((refine call_fn_gvx (xs := ?_) [b0 + 1, b0 + 384] ?_ (fun _ => ?_) (fun _ => ?_) rfl ((fun _ => htw _)) ?_); rotate_left 1; iterate 3 (focus (simp only [fins,mems,Tryz.results42,Tryz.ntmps42,Kt,wks,plain_pr,hq,z0,z1,z2,z3,goOps_panic,goPan_iface,goEx_code_pan,goEx_blk_pan,goEx_again_pan,panP_at,prC,Bool.not_true,Bool.not_false,List.length_map,vcs,Ka,Kb,Kc,Kd,Ke,Kf,Kg,Kh,Ki,Kj,Kk,Kl,Km,reduceCtorEq,reduceIte,Kn,Ko,Kp,Kq,Kr,Ks,tys] <;> (first | exact rfl | omega)))) | ((first | (refine call_fn_full ?_ [q] (hsk q _ _ ?_ only_mem (by omega)) ?_ ?_) | (refine call_fn_full ?_ [q] (p62 q _ _ ?_ only_mem (by omega)) ?_ ?_) | (refine call_fn_full ?_ [q] (hn1 q _ _ ?_ only_mem (by omega)) ?_ ?_)); iterate 3 (focus (simp only [mems,Tryz.results42,Tryz.ntmps42,Kt,wks,plain_pr,hq,z0,z1,z2,z3,goOps_panic,goPan_iface,goEx_code_pan,goEx_blk_pan,goEx_again_pan,panP_at,prC,Bool.not_true,Bool.not_false,List.length_map,vcs,Ka,Kb,Kc,Kd,Ke,Kf,Kg,Kh,Ki,Kj,Kk,Kl,Km,reduceCtorEq,reduceIte,Kn,Ko,Kp,Kq,Kr,Ks,tys] <;> exact rfl))) | ((first | (refine call_fn_full ?_ [q] (p63 q _ _ ?_ only_mem (by omega)) ?_ ?_) | (refine call_fn_full ?_ [q] (hsk1 q _ _ ?_ only_mem (by omega)) ?_ ?_)); iterate 3 (focus (simp only [mems,Tryz.results42,Tryz.ntmps42,Kt,wks,plain_pr,hq,z0,z1,z2,z3,goOps_panic,goPan_iface,goEx_code_pan,goEx_blk_pan,goEx_again_pan,panP_at,prC,Bool.not_true,Bool.not_false,List.length_map,vcs,Ka,Kb,Kc,Kd,Ke,Kf,Kg,Kh,Ki,Kj,Kk,Kl,Km,reduceCtorEq,reduceIte,Kn,Ko,Kp,Kq,Kr,Ks,tys] <;> exact rfl))) | ((first | (refine call_fn_full ?_ [q] (p61 q _ _ ?_ only_mem (by omega)) ?_ ?_) | (refine call_fn_full ?_ [q] (hsk2 q _ _ ?_ only_mem (by omega)) ?_ ?_)); iterate 3 (focus (simp only [mems,Tryz.results42,Tryz.ntmps42,Kt,wks,plain_pr,hq,z0,z1,z2,z3,goOps_panic,goPan_iface,goEx_code_pan,goEx_blk_pan,goEx_again_pan,panP_at,prC,Bool.not_true,Bool.not_false,List.length_map,vcs,Ka,Kb,Kc,Kd,Ke,Kf,Kg,Kh,Ki,Kj,Kk,Kl,Km,reduceCtorEq,reduceIte,Kn,Ko,Kp,Kq,Kr,Ks,tys] <;> exact rfl))) | ((first | apply cond_bool | apply cond_bit) <;> intro hb) | refine And.intro (by omega) ?_ | refine And.intro (fun hb => ?_) (fun hb => ?_)
                  refine call_pan rfl [q] (hva q _ _ ?_ only_mem (by omega)) ?_
                  · simp only [mems,wks,hq,z0,z1,z2,z3,vcs,Ka,Kb,Kc,Kd,Ke,Kf,Kg,Kh,Ki,Kj,Kk,Kl,Km,reduceCtorEq,reduceIte,Kn,Ko,Kp,Kq,Kr,Ks,tys] <;> exact rfl
                  · simp only [goOps_panic,goPan_iface,goEx_code_pan,goEx_blk_pan,goEx_again_pan,panP_at,noV]
                | some p3 =>
                  obtain ⟨v, r'⟩ := p3
                  have hat : attrO (skipL xr) = some (⟨m, v⟩, r') := by
                    unfold attrO
                    rw [k1]
                    simp only [Option.bind_some,k2,k3,Option.map_some]
                  rw [tag_attr hen hgap hat hany] at g1
                  have hlt := attr_lt hat
                  have g2' := attr_dec (skip_dec g2) hat
                  have hva := rValue_ev (skipL t) v r' (by omega) d2 k3
                  unfold srcK at hva
                  repeat' first | simp only [Tryz.results42,Tryz.ntmps42,Kt,wks,plain_pr,hq,z0,z1,z2,z3,prC,Bool.not_true,Bool.not_false,List.length_map,vcs,Ka,Kb,Kc,Kd,Ke,Kf,Kg,Kh,Ki,Kj,Kk,Kl,Km,reduceCtorEq,reduceIte,Kn,Ko,Kp,Kq,Kr,Ks,tys] | exact rfl | ((refine call_fn_gvx (xs := ?_) [b0 + 1, b0 + 384] ?_ (fun _ => ?_) (fun _ => ?_) rfl ((fun _ => htw _)) ?_); rotate_left 1; iterate 3 (focus (simp only [fins,mems,Tryz.results42,Tryz.ntmps42,Kt,wks,plain_pr,hq,z0,z1,z2,z3,prC,Bool.not_true,Bool.not_false,List.length_map,vcs,Ka,Kb,Kc,Kd,Ke,Kf,Kg,Kh,Ki,Kj,Kk,Kl,Km,reduceCtorEq,reduceIte,Kn,Ko,Kp,Kq,Kr,Ks,tys] <;> (first | exact rfl | omega)))) | ((first | (refine call_fn_full ?_ [q] (hsk q _ _ ?_ only_mem (by omega)) ?_ ?_) | (refine call_fn_full ?_ [q] (p62 q _ _ ?_ only_mem (by omega)) ?_ ?_) | (refine call_fn_full ?_ [q] (hn1 q _ _ ?_ only_mem (by omega)) ?_ ?_) | (refine call_fn_full ?_ [q] (hva q _ _ ?_ only_mem (by omega)) ?_ ?_)); iterate 3 (focus (simp only [mems,Tryz.results42,Tryz.ntmps42,Kt,wks,plain_pr,hq,z0,z1,z2,z3,prC,Bool.not_true,Bool.not_false,List.length_map,vcs,Ka,Kb,Kc,Kd,Ke,Kf,Kg,Kh,Ki,Kj,Kk,Kl,Km,reduceCtorEq,reduceIte,Kn,Ko,Kp,Kq,Kr,Ks,tys] <;> exact rfl))) | ((first | (refine call_fn_full ?_ [q] (p63 q _ _ ?_ only_mem (by omega)) ?_ ?_) | (refine call_fn_full ?_ [q] (hsk1 q _ _ ?_ only_mem (by omega)) ?_ ?_)); iterate 3 (focus (simp only [mems,Tryz.results42,Tryz.ntmps42,Kt,wks,plain_pr,hq,z0,z1,z2,z3,prC,Bool.not_true,Bool.not_false,List.length_map,vcs,Ka,Kb,Kc,Kd,Ke,Kf,Kg,Kh,Ki,Kj,Kk,Kl,Km,reduceCtorEq,reduceIte,Kn,Ko,Kp,Kq,Kr,Ks,tys] <;> exact rfl))) | ((first | (refine call_fn_full ?_ [q] (p61 q _ _ ?_ only_mem (by omega)) ?_ ?_) | (refine call_fn_full ?_ [q] (hsk2 q _ _ ?_ only_mem (by omega)) ?_ ?_)); iterate 3 (focus (simp only [mems,Tryz.results42,Tryz.ntmps42,Kt,wks,plain_pr,hq,z0,z1,z2,z3,prC,Bool.not_true,Bool.not_false,List.length_map,vcs,Ka,Kb,Kc,Kd,Ke,Kf,Kg,Kh,Ki,Kj,Kk,Kl,Km,reduceCtorEq,reduceIte,Kn,Ko,Kp,Kq,Kr,Ks,tys] <;> exact rfl))) | ((first | apply cond_bool | apply cond_bit) <;> intro hb) | refine And.intro (by omega) ?_ | refine And.intro (fun hb => ?_) (fun hb => ?_)
                  have hnx : xl.map prC ++ [[.str m, .str v]] = (xl ++ [(⟨m, v⟩ : Pr)]).map prC := by simp [prC]
                  have hnn : (xl ++ [(⟨m, v⟩ : Pr)]).length = xl.length + 1 := by simp
                  rw [hnx]
                  all_goals ((refine again_can2 cxG (⟨xl ++ [(⟨m, v⟩ : Pr)], r'⟩) [some q, some b0, some (b0 + 848)] ?_ ?_ ?_ ?_; rotate_left 2; (focus (show b0 ≤ _; omega)); (focus (refine ⟨?_, ?_⟩ <;> (try simp only [cans,panP_b0,plain_pr,hq,z0,z1,z2,z3,hnn,List.length_map,vcs,Ka,Kb,Kc,Kd,Ke,Kf,Kg,Kh,Ki,Kj,Kk,Kl,Km,reduceCtorEq,reduceIte,Kn,Ko,Kp,Kq,Kr,Ks,tys,injs]) <;> (try omega)))))
                  all_goals (first | exact ⟨g1, g2', by show r'.length + (xl ++ [(⟨m, v⟩ : Pr)]).length ≤ 16384; omega⟩ | (show r'.length < xr.length; omega) | skip)
        · have hgd : decide ((skipL xr).length < xr.length) = false := decide_eq_false hgap
          rw [hgd] at hsk
          repeat' first | simp only [Tryz.results42,Tryz.ntmps42,Kt,wks,plain_pr,hq,z0,z1,z2,z3,goOps_panic,goPan_iface,goEx_code_pan,goEx_blk_pan,goEx_again_pan,panP_at,Bool.not_true,Bool.not_false,List.length_map,vcs,Ka,Kb,Kc,Kd,Ke,Kf,Kg,Kh,Ki,Kj,Kk,Kl,Km,reduceCtorEq,reduceIte,Kn,Ko,Kp,Kq,Kr,Ks,tys] | exact rfl | ((first | (refine call_fn_full ?_ [q] (hsk q _ _ ?_ only_mem (by omega)) ?_ ?_) | (refine call_fn_full ?_ [q] (p62 q _ _ ?_ only_mem (by omega)) ?_ ?_)); iterate 3 (focus (simp only [mems,Tryz.results42,Tryz.ntmps42,Kt,wks,plain_pr,hq,z0,z1,z2,z3,goOps_panic,goPan_iface,goEx_code_pan,goEx_blk_pan,goEx_again_pan,panP_at,Bool.not_true,Bool.not_false,List.length_map,vcs,Ka,Kb,Kc,Kd,Ke,Kf,Kg,Kh,Ki,Kj,Kk,Kl,Km,reduceCtorEq,reduceIte,Kn,Ko,Kp,Kq,Kr,Ks,tys] <;> exact rfl))) | ((refine call_fn_full ?_ [q] (p63 q _ _ ?_ only_mem (by omega)) ?_ ?_); iterate 3 (focus (simp only [mems,Tryz.results42,Tryz.ntmps42,Kt,wks,plain_pr,hq,z0,z1,z2,z3,goOps_panic,goPan_iface,goEx_code_pan,goEx_blk_pan,goEx_again_pan,panP_at,Bool.not_true,Bool.not_false,List.length_map,vcs,Ka,Kb,Kc,Kd,Ke,Kf,Kg,Kh,Ki,Kj,Kk,Kl,Km,reduceCtorEq,reduceIte,Kn,Ko,Kp,Kq,Kr,Ks,tys] <;> exact rfl))) | (refine call_pan rfl [q] (no_evp q _ _) ?_) | ((first | apply cond_bool | apply cond_bit) <;> intro hb) | refine And.intro (by omega) ?_ | refine And.intro (fun hb => ?_) (fun hb => ?_)
end Go.Proofs.YtoaclokiggoeiaaGreatDoor
