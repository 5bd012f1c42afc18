/-
  Texts joined: XNq, XNr.
-/
import Derived.Test.YtoaclokiggoeiaaGreatDoorJu
import Derived.Test.YtoaclokiggoeiaaGreatDoorJe
import Derived.Test.YtoaclokiggoeiaaGreatDoorJt
namespace Go.Proofs.YtoaclokiggoeiaaGreatDoor
set_option maxRecDepth 100000
set_option maxHeartbeats 32000000
set_option linter.unusedSimpArgs false
set_option linter.unusedVariables false
open Nat renaming reduceAdd → Ka, reduceMul → Kb, reduceEqDiff → Kc, reduceLeDiff → Kd, reduceSub → Ke, reduceLT → Kf, reduceBEq → Kr, reduceBNe → Ks, reducePow → Kt
open Int renaming reduceToNat → Kg, reduceLE → Kh, reduceLT → Ki, reduceAdd → Kj, reduceSub → Kk, reduceMul → Kl, reduceNeg → Km, reduceBEq → Kn, reduceBNe → Ko, reduceEq → Kp, reduceNe → Kq
open Go Go.RowKit Go.Proofs.YtoaclokiggoeiaaGreatDoor.Vm Go.Lib
section
variable {cx : Cx} {Q : Post} {st : List Frm} {nm : Nat} {e : Env} {M : Mem} {d : Bool} {fs : List (List Nat)} {ops r : List Oper} {dst : Option Tmp} {t : TypeId} {pos : String} {af : Array Edge} {gd : Option (Nat × Bool)} {i : Nat}
theorem run_assert {P : Program} {w : World} {xt t : TypeId} (v : Value) (h : boxT P t = true) : (Instr.typeAssert (.iface t v) xt t false).run P w = .ok v w := by
  unfold boxT at h
  cases hu : P.underlying t with
  | none => rw [hu] at h; cases h
  | some u =>
    rw [hu] at h
    simp only [Instr.typeAssert,Sem.run_bind,run_underlying hu w,Result.andThen_ok]
    cases u <;> first | (simp; done) | cases h
theorem ext_assert {xt ty : TypeId} {x : Operand} {u : V} (hx : evalV cx.G true e x = .iface ty u) (ht : boxT cx.P ty = true)
    (h : goOps cx Q st nm (e.putD dst u) M d (fs ++ [[]]) ops r (i + 1)) : goExt cx Q st nm e M d fs ops ⟨dst, .typeAssert x xt ty false, t, pos, af, gd⟩ r i := by
  refine ⟨_, [], _, ⟨fun x hx => by simp [effNames] at hx, fun x hx => by simp [effNames] at hx, fun h => absurd rfl h, fun h => absurd rfl h, ?_⟩, h⟩
  intro N X w0 I ρ e' M' a w hr he hin hev hMM hf
  have hxi := he.eval hr (c := true) rfl (hin x (by simp [Op.operands]))
  rw [hev x (by simp [Op.operands]), hx] at hxi
  cases hc : a.eval x with
  | iface t' v' =>
    rw [hc] at hxi
    cases hxi with
    | iface hv => exact ⟨v', w, (Steps1.still (nm := nm + 16 * i) hr hv).n, wp_val (s := Instr.typeAssert (a.eval x) xt ty false) rfl (by rw [hc]; exact run_assert v' ht)⟩
  | _ => rw [hc] at hxi; cases hxi
end
theorem Ev.dd {D : List Deferred} {f : FuncId} {nm : Nat} {args : List V} {M : Mem} {v : V} {eff : List (Nat × Option Blk)} (h : Ev cx f nm args M v eff) : Ev ⟨cx.P, cx.G, D⟩ f nm args M v eff := h
theorem EvP.dd {D : List Deferred} {f : FuncId} {nm : Nat} {args : List V} {M : Mem} {v : V} (h : EvP cx f nm args M v) : EvP ⟨cx.P, cx.G, D⟩ f nm args M v := h
theorem rOneEnd_ev (s t n r : List UInt8) (hs : s.length ≤ 16384) (h1 : afterO 60 s = some t) (tag : ∀ (M : Mem) (nm q : Nat), M q = some (srcK t) → (∀ z, (M z).isSome = true → z ∈ [q]) → q < nm → Ev cx 42 nm [.ptr q 0 0] M (.agg [.int .u8 2, .str n, .nils, .str []]) [(q, some (srcK r))]) (q : Nat) (M : Mem) (nm : Nat) (hq : M q = some (srcK s)) (ho : ∀ z, (M z).isSome = true → z ∈ [q]) (hqn : q < nm) :
    Ev cx 23 nm [.ptr q 0 0] M (.tup [.agg [.int .u8 2, .str n, .nils, .str []], .int .i64 0]) [(q, some (srcK r))] := by
  have p1 := fun D (q : Nat) M nm a b c => Ev.dd (D := D) (eatI_ev s [60] true (by omega) (by decide) (by rw [after_pre, h1]; rfl) q M nm a b c)
  have hst := after_some h1
  subst hst
  simp only [if_true,List.drop_succ_cons,List.drop_zero,List.length_cons,List.length_nil] at p1
  have tg := fun D M nm (q : Nat) a b c => Ev.dd (D := D) (tag M nm q a b c)
  unfold srcK at hq tg ⊢
  refine ev_defer rfl mixed (fun cargs w => Tryz.call23 cargs w) (fun cargs w => Tryz.call40 cargs w) Tryz.func23 rfl ⟨_, _, _, rfl⟩ ⟨_, _, _, _, rfl⟩ (t2 := 2) (t3 := 3) (N := 9) ⟨⟨_, _, _, _, Tryz.func40, rfl, rfl, rfl, by decide, by decide, ⟨_, _, _, _, rfl⟩, _, _, _, rfl⟩⟩ (by kernel_rfl) (by kernel_rfl) (by kernel_rfl) rfl ?_
  intro b0 hb0
  have lq : q < b0 := below_of hb0 (by rw [hq]; rfl)
  have z0 := lt_ne lq; have z1 := lt_ne_add lq; have z2 := lt_ne' lq; have z3 := lt_ne_add' lq
  repeat' first | simp only [fins,mems,Tryz.results23,Tryz.ntmps23,Kt,wks,hq,z0,z1,z2,z3,vcs,Ka,Kb,Kc,Kd,Ke,Kf,Kg,Kh,Ki,Kj,Kk,Kl,Km,reduceCtorEq,reduceIte,Kn,Ko,Kp,Kq,Kr,Ks,tys] | exact rfl | refine call_off (v := .any) ?_ | ((first | apply cond_bool | apply cond_bit) <;> intro hb) | refine And.intro (by omega) ?_ | refine And.intro (fun hb => ?_) (fun hb => ?_) | fail
  refine ⟨rfl, b0, b0 + 16, ?_, ?_, fun D => ?_⟩
  · simp only [vcs,Ka,Kb,Kc,Kd,Ke,Kf,Kg,Kh,Ki,Kj,Kk,Kl,Km,reduceCtorEq,reduceIte,Kn,Ko,Kp,Kq,Kr,Ks,tys]
  · simp only [vcs,Ka,Kb,Kc,Kd,Ke,Kf,Kg,Kh,Ki,Kj,Kk,Kl,Km,reduceCtorEq,reduceIte,Kn,Ko,Kp,Kq,Kr,Ks,tys]
  have p1 := p1 D; have tg := tg D
  repeat' first | simp only [Tryz.results23,Tryz.ntmps23,Kt,wks,hq,z0,z1,z2,z3,vcs,Ka,Kb,Kc,Kd,Ke,Kf,Kg,Kh,Ki,Kj,Kk,Kl,Km,reduceCtorEq,reduceIte,Kn,Ko,Kp,Kq,Kr,Ks,tys] | exact rfl | ((first | (refine call_fn_full ?_ [q] (p1 q _ _ ?_ only_mem (by omega)) ?_ ?_) | (refine call_fn_full ?_ [q] (tg _ _ q ?_ only_mem (by omega)) ?_ ?_)); iterate 3 (focus (simp only [mems,Tryz.results23,Tryz.ntmps23,Kt,wks,hq,z0,z1,z2,z3,vcs,Ka,Kb,Kc,Kd,Ke,Kf,Kg,Kh,Ki,Kj,Kk,Kl,Km,reduceCtorEq,reduceIte,Kn,Ko,Kp,Kq,Kr,Ks,tys] <;> exact rfl))) | ((first | apply cond_bool | apply cond_bit) <;> intro hb) | refine And.intro (by omega) ?_ | refine And.intro (fun hb => ?_) (fun hb => ?_) | fail
  refine dend_ret ?_ ?_ ?_
  · simp only [vcs,Ka,Kb,Kc,Kd,Ke,Kf,Kg,Kh,Ki,Kj,Kk,Kl,Km,reduceCtorEq,reduceIte,Kn,Ko,Kp,Kq,Kr,Ks,tys]
  · simp only [vcs,Ka,Kb,Kc,Kd,Ke,Kf,Kg,Kh,Ki,Kj,Kk,Kl,Km,reduceCtorEq,reduceIte,Kn,Ko,Kp,Kq,Kr,Ks,tys]
  repeat' first | simp only [fins,mems,Tryz.results40,Tryz.ntmps40,Kt,wks,hq,z0,z1,z2,z3,vcs,Ka,Kb,Kc,Kd,Ke,Kf,Kg,Kh,Ki,Kj,Kk,Kl,Km,reduceCtorEq,reduceIte,Kn,Ko,Kp,Kq,Kr,Ks,tys] | exact rfl | refine call_off (v := .any) ?_ | refine draw_end (by decide +kernel) ?_ | ((first | apply cond_bool | apply cond_bit) <;> intro hb) | refine And.intro (by omega) ?_ | refine And.intro (fun hb => ?_) (fun hb => ?_) | fail
  refine ⟨rfl, ?_⟩
  (refine Fin.give [(q, none)] [] ?_ ?_ ?_ ?_ ?_ (fun q hq => by have hqq := ho q hq; first | (simp only [gives,tgt,List.map_cons,List.map_nil,List.mem_cons,List.not_mem_nil,or_false] at hqq ⊢; omega) | (simp only [gives,tgt,List.map_cons,List.map_nil,List.mem_cons,List.not_mem_nil,or_false] at hqq)) <;> (try simp only [Tryz.results23,Tryz.ntmps23,wks,keep_at,hq,z0,z1,z2,z3,giv,vcs,Ka,Kb,Kc,Kd,Ke,Kf,Kg,Kh,Ki,Kj,Kk,Kl,Km,reduceCtorEq,reduceIte,Kn,Ko,Kp,Kq,Kr,Ks,tys]) <;> (try simp only [injs]) <;> (try omega))
theorem rOneTag_ev (s t n r : List UInt8) (k : Nat) (l : List Pr) (hs : s.length ≤ 16384) (h1 : afterO 60 s = some t) (tag : ∀ (M : Mem) (nm q : Nat), M q = some (srcK t) → (∀ z, (M z).isSome = true → z ∈ [q]) → q < nm → Ev cx 42 nm [.ptr q 0 0] M (.agg [.int .u8 k, .str n, .own nm 0 l.length, .str []]) [(q, some (srcK r)), (nm, some ⟨2, l.map prC⟩)]) (q : Nat) (M : Mem) (nm : Nat) (hq : M q = some (srcK s)) (ho : ∀ z, (M z).isSome = true → z ∈ [q]) (hqn : q < nm) :
    Ev cx 23 nm [.ptr q 0 0] M (.tup [.agg [.int .u8 k, .str n, .own nm 0 l.length, .str []], .int .i64 0]) [(q, some (srcK r)), (nm, some ⟨2, l.map prC⟩)] := by
  have p1 := fun D (q : Nat) M nm a b c => Ev.dd (D := D) (eatI_ev s [60] true (by omega) (by decide) (by rw [after_pre, h1]; rfl) q M nm a b c)
  have hst := after_some h1
  subst hst
  simp only [if_true,List.drop_succ_cons,List.drop_zero,List.length_cons,List.length_nil] at p1
  have tg := fun D M nm (q : Nat) a b c => Ev.dd (D := D) (tag M nm q a b c)
  unfold srcK at hq tg ⊢
  refine ev_defer rfl mixed (fun cargs w => Tryz.call23 cargs w) (fun cargs w => Tryz.call40 cargs w) Tryz.func23 rfl ⟨_, _, _, rfl⟩ ⟨_, _, _, _, rfl⟩ (t2 := 2) (t3 := 3) (N := 9) ⟨⟨_, _, _, _, Tryz.func40, rfl, rfl, rfl, by decide, by decide, ⟨_, _, _, _, rfl⟩, _, _, _, rfl⟩⟩ (by kernel_rfl) (by kernel_rfl) (by kernel_rfl) rfl ?_
  intro b0 hb0
  have lq : q < b0 := below_of hb0 (by rw [hq]; rfl)
  have z0 := lt_ne lq; have z1 := lt_ne_add lq; have z2 := lt_ne' lq; have z3 := lt_ne_add' lq
  repeat' first | simp only [fins,mems,Tryz.results23,Tryz.ntmps23,Kt,wks,hq,z0,z1,z2,z3,vcs,Ka,Kb,Kc,Kd,Ke,Kf,Kg,Kh,Ki,Kj,Kk,Kl,Km,reduceCtorEq,reduceIte,Kn,Ko,Kp,Kq,Kr,Ks,tys] | exact rfl | refine call_off (v := .any) ?_ | ((first | apply cond_bool | apply cond_bit) <;> intro hb) | refine And.intro (by omega) ?_ | refine And.intro (fun hb => ?_) (fun hb => ?_) | fail
  refine ⟨rfl, b0, b0 + 16, ?_, ?_, fun D => ?_⟩
  · simp only [vcs,Ka,Kb,Kc,Kd,Ke,Kf,Kg,Kh,Ki,Kj,Kk,Kl,Km,reduceCtorEq,reduceIte,Kn,Ko,Kp,Kq,Kr,Ks,tys]
  · simp only [vcs,Ka,Kb,Kc,Kd,Ke,Kf,Kg,Kh,Ki,Kj,Kk,Kl,Km,reduceCtorEq,reduceIte,Kn,Ko,Kp,Kq,Kr,Ks,tys]
  have p1 := p1 D; have tg := tg D
  repeat' first | simp only [Tryz.results23,Tryz.ntmps23,Kt,wks,fresh_self,hq,z0,z1,z2,z3,vcs,Ka,Kb,Kc,Kd,Ke,Kf,Kg,Kh,Ki,Kj,Kk,Kl,Km,reduceCtorEq,reduceIte,Kn,Ko,Kp,Kq,Kr,Ks,tys] | exact rfl | ((first | (refine call_fn_full ?_ [q] (p1 q _ _ ?_ only_mem (by omega)) ?_ ?_) | (refine call_fn_full ?_ [q] (tg _ _ q ?_ only_mem (by omega)) ?_ ?_)); iterate 3 (focus (simp only [mems,Tryz.results23,Tryz.ntmps23,Kt,wks,fresh_self,hq,z0,z1,z2,z3,vcs,Ka,Kb,Kc,Kd,Ke,Kf,Kg,Kh,Ki,Kj,Kk,Kl,Km,reduceCtorEq,reduceIte,Kn,Ko,Kp,Kq,Kr,Ks,tys] <;> exact rfl))) | ((first | apply cond_bool | apply cond_bit) <;> intro hb) | refine And.intro (by omega) ?_ | refine And.intro (fun hb => ?_) (fun hb => ?_) | fail
  refine dend_ret ?_ ?_ ?_
  · simp only [vcs,Ka,Kb,Kc,Kd,Ke,Kf,Kg,Kh,Ki,Kj,Kk,Kl,Km,reduceCtorEq,reduceIte,Kn,Ko,Kp,Kq,Kr,Ks,tys]
  · simp only [vcs,Ka,Kb,Kc,Kd,Ke,Kf,Kg,Kh,Ki,Kj,Kk,Kl,Km,reduceCtorEq,reduceIte,Kn,Ko,Kp,Kq,Kr,Ks,tys]
  repeat' first | simp only [fins,mems,Tryz.results40,Tryz.ntmps40,Kt,wks,hq,z0,z1,z2,z3,vcs,Ka,Kb,Kc,Kd,Ke,Kf,Kg,Kh,Ki,Kj,Kk,Kl,Km,reduceCtorEq,reduceIte,Kn,Ko,Kp,Kq,Kr,Ks,tys] | exact rfl | refine call_off (v := .any) ?_ | refine draw_end (by decide +kernel) ?_ | ((first | apply cond_bool | apply cond_bit) <;> intro hb) | refine And.intro (by omega) ?_ | refine And.intro (fun hb => ?_) (fun hb => ?_) | fail
  refine ⟨rfl, ?_⟩
  (refine Fin.give [(q, none), (b0 + 112, some 0)] [] ?_ ?_ ?_ ?_ ?_ (fun q hq => by have hqq := ho q hq; first | (simp only [gives,tgt,List.map_cons,List.map_nil,List.mem_cons,List.not_mem_nil,or_false] at hqq ⊢; omega) | (simp only [gives,tgt,List.map_cons,List.map_nil,List.mem_cons,List.not_mem_nil,or_false] at hqq)) <;> (try simp only [Tryz.results23,Tryz.ntmps23,wks,keep_at,plain_pr,hq,z0,z1,z2,z3,giv,vcs,Ka,Kb,Kc,Kd,Ke,Kf,Kg,Kh,Ki,Kj,Kk,Kl,Km,reduceCtorEq,reduceIte,Kn,Ko,Kp,Kq,Kr,Ks,tys]) <;> (try simp only [injs]) <;> (try omega))
theorem rOneTag_none (s t : List UInt8) (hs : s.length ≤ 16384) (h1 : afterO 60 s = some t) (tag : ∀ (M : Mem) (nm q : Nat), M q = some (srcK t) → (∀ z, (M z).isSome = true → z ∈ [q]) → q < nm → EvP cx 42 nm [.ptr q 0 0] M noV) (q : Nat) (M : Mem) (nm : Nat) (hq : M q = some (srcK s)) (ho : ∀ z, (M z).isSome = true → z ∈ [q]) (hqn : q < nm) :
    Ev cx 23 nm [.ptr q 0 0] M (.tup [.agg [.int .u8 0, .str [], .nils, .str []], .int .i64 80]) [(q, none)] := by
  have p1 := fun D (q : Nat) M nm a b c => Ev.dd (D := D) (eatI_ev s [60] true (by omega) (by decide) (by rw [after_pre, h1]; rfl) q M nm a b c)
  have hst := after_some h1
  subst hst
  simp only [if_true,List.drop_succ_cons,List.drop_zero,List.length_cons,List.length_nil] at p1
  have tg := fun D M nm (q : Nat) a b c => EvP.dd (D := D) (tag M nm q a b c)
  unfold srcK at hq tg
  refine ev_defer rfl mixed (fun cargs w => Tryz.call23 cargs w) (fun cargs w => Tryz.call40 cargs w) Tryz.func23 rfl ⟨_, _, _, rfl⟩ ⟨_, _, _, _, rfl⟩ (t2 := 2) (t3 := 3) (N := 9) ⟨⟨_, _, _, _, Tryz.func40, rfl, rfl, rfl, by decide, by decide, ⟨_, _, _, _, rfl⟩, _, _, _, rfl⟩⟩ (by kernel_rfl) (by kernel_rfl) (by kernel_rfl) rfl ?_
  intro b0 hb0
  have lq : q < b0 := below_of hb0 (by rw [hq]; rfl)
  have z0 := lt_ne lq; have z1 := lt_ne_add lq; have z2 := lt_ne' lq; have z3 := lt_ne_add' lq
  repeat' first | simp only [fins,mems,Tryz.results23,Tryz.ntmps23,Kt,wks,hq,z0,z1,z2,z3,vcs,Ka,Kb,Kc,Kd,Ke,Kf,Kg,Kh,Ki,Kj,Kk,Kl,Km,reduceCtorEq,reduceIte,Kn,Ko,Kp,Kq,Kr,Ks,tys] | exact rfl | refine call_off (v := .any) ?_ | ((first | apply cond_bool | apply cond_bit) <;> intro hb) | refine And.intro (by omega) ?_ | refine And.intro (fun hb => ?_) (fun hb => ?_) | fail
  refine ⟨rfl, b0, b0 + 16, ?_, ?_, fun D => ?_⟩
  · simp only [vcs,Ka,Kb,Kc,Kd,Ke,Kf,Kg,Kh,Ki,Kj,Kk,Kl,Km,reduceCtorEq,reduceIte,Kn,Ko,Kp,Kq,Kr,Ks,tys]
  · simp only [vcs,Ka,Kb,Kc,Kd,Ke,Kf,Kg,Kh,Ki,Kj,Kk,Kl,Km,reduceCtorEq,reduceIte,Kn,Ko,Kp,Kq,Kr,Ks,tys]
  have p1 := p1 D; have tg := tg D
  repeat' first | simp only [Tryz.results23,Tryz.ntmps23,Kt,wks,hq,z0,z1,z2,z3,vcs,Ka,Kb,Kc,Kd,Ke,Kf,Kg,Kh,Ki,Kj,Kk,Kl,Km,reduceCtorEq,reduceIte,Kn,Ko,Kp,Kq,Kr,Ks,tys] | exact rfl | ((refine call_fn_full ?_ [q] (p1 q _ _ ?_ only_mem (by omega)) ?_ ?_); iterate 3 (focus (simp only [mems,Tryz.results23,Tryz.ntmps23,Kt,wks,hq,z0,z1,z2,z3,vcs,Ka,Kb,Kc,Kd,Ke,Kf,Kg,Kh,Ki,Kj,Kk,Kl,Km,reduceCtorEq,reduceIte,Kn,Ko,Kp,Kq,Kr,Ks,tys] <;> exact rfl))) | ((first | apply cond_bool | apply cond_bit) <;> intro hb) | refine And.intro (by omega) ?_ | refine And.intro (fun hb => ?_) (fun hb => ?_) | fail
  refine call_pan rfl [q] (tg _ _ q ?_ only_mem (by omega)) ?_
  · simp only [mems,wks,hq,z0,z1,z2,z3,vcs,Ka,Kb,Kc,Kd,Ke,Kf,Kg,Kh,Ki,Kj,Kk,Kl,Km,reduceCtorEq,reduceIte,Kn,Ko,Kp,Kq,Kr,Ks,tys] <;> exact rfl
  simp only [goOps_panic,goPan_iface,goEx_code_pan,goEx_blk_pan,goEx_again_pan,goEx_nil]
  refine dend_pan ?_ ?_ ?_
  · simp only [vcs,Ka,Kb,Kc,Kd,Ke,Kf,Kg,Kh,Ki,Kj,Kk,Kl,Km,reduceCtorEq,reduceIte,Kn,Ko,Kp,Kq,Kr,Ks,tys]
  · simp only [vcs,Ka,Kb,Kc,Kd,Ke,Kf,Kg,Kh,Ki,Kj,Kk,Kl,Km,reduceCtorEq,reduceIte,Kn,Ko,Kp,Kq,Kr,Ks,tys]
  repeat' first | simp only [fins,mems,Tryz.results40,Tryz.ntmps40,Kt,wks,noV,lostE,List.map_cons,List.map_nil,hq,z0,z1,z2,z3,vcs,Ka,Kb,Kc,Kd,Ke,Kf,Kg,Kh,Ki,Kj,Kk,Kl,Km,reduceCtorEq,reduceIte,Kn,Ko,Kp,Kq,Kr,Ks,tys] | exact rfl | refine call_off (v := .any) ?_ | (refine And.intro (by kernel_rfl) ?_) | (refine ext_assert rfl (by kernel_rfl) ?_) | refine draw_end (by decide +kernel) ?_ | ((first | apply cond_bool | apply cond_bit) <;> intro hb) | refine And.intro (by omega) ?_ | refine And.intro (fun hb => ?_) (fun hb => ?_) | fail
  (refine Fin.give [] [q] ?_ ?_ ?_ ?_ ?_ (fun q hq => by have hqq := ho q hq; first | (simp only [gives,tgt,List.map_cons,List.map_nil,List.mem_cons,List.not_mem_nil,or_false] at hqq ⊢; omega) | (simp only [gives,tgt,List.map_cons,List.map_nil,List.mem_cons,List.not_mem_nil,or_false] at hqq)) <;> (try simp only [Tryz.results23,Tryz.ntmps23,wks,keep_at,hq,z0,z1,z2,z3,giv,vcs,Ka,Kb,Kc,Kd,Ke,Kf,Kg,Kh,Ki,Kj,Kk,Kl,Km,reduceCtorEq,reduceIte,Kn,Ko,Kp,Kq,Kr,Ks,tys]) <;> (try simp only [injs]) <;> (try omega))
theorem text_idx {s : List UInt8} : (textR s = [] → indexByte s 60 = -1 ∧ textT s = s) ∧ (textR s ≠ [] → indexByte s 60 = ((textT s).length : Nat) ∧ s.take (textT s).length = textT s ∧ s.drop (textT s).length = textR s ∧ (textT s).length < s.length) := by
  have e : s = textT s ++ textR s := (List.takeWhile_append_dropWhile).symm
  have hn : (60 : UInt8) ∉ textT s := fun h => by
    have := takeWhile_all h
    cases this
  constructor
  · intro h
    rw [h, List.append_nil] at e
    refine ⟨index1_none.2 (cut1_none.2 ?_), e.symm⟩
    rw [e]; exact hn
  · intro h
    cases hr : textR s with
    | nil => exact absurd hr h
    | cons c r =>
      have h60 := textR_head s c (by rw [hr]; rfl)
      subst h60
      rw [hr] at e
      have hc : cut1 60 s = some (textT s, r) := by
        conv => lhs; rw [e]
        exact cut1_of hn
      obtain ⟨i1, i2, i3, i4⟩ := index1_some hc
      refine ⟨i1, i2, ?_, by omega⟩
      have := List.drop_left (l₁ := textT s) (l₂ := 60 :: r)
      rw [← e] at this
      exact this
theorem rOneText_ev (s x : List UInt8) (hs : s.length ≤ 16384) (hd : (dec s).isSome = true) (h1 : afterO 60 s = none) (h2 : readL (textT s) = some x) (q : Nat) (M : Mem) (nm : Nat) (hq : M q = some (srcK s)) (ho : ∀ z, (M z).isSome = true → z ∈ [q]) (hqn : q < nm) :
    Ev cx 23 nm [.ptr q 0 0] M (.tup [.agg [.int .u8 4, .str [], .nils, .str x], .int .i64 0]) [(q, some (srcK (textR s)))] := by
  have p1 := fun D (q : Nat) M nm a b c => Ev.dd (D := D) (eatI_ev s [60] false (by omega) (by decide) (by rw [after_pre, h1]; rfl) q M nm a b c)
  simp only [Bool.false_eq_true,if_false] at p1
  have hl : (textT s).length ≤ s.length := by
    have := congrArg List.length ((List.takeWhile_append_dropWhile (p := textB) (l := s)).symm)
    unfold textT; rw [List.length_append] at this; omega
  have hp : ptsErr (textT s) = 0 := ptsErr_iff.2 ⟨by omega, (text_dec hd).1⟩
  obtain ⟨x1, x2⟩ := text_idx (s := s)
  have gt := fun D nm => Ev.dd (D := D) (eGet_ev (textT s) (by unfold lim; omega) nm)
  have ix := fun D nm => Ev.dd (D := D) (idxSB_ev s 60 nm)
  simp only [getV_some hp h2] at gt
  unfold srcK at hq ⊢
  refine ev_defer rfl mixed (fun cargs w => Tryz.call23 cargs w) (fun cargs w => Tryz.call40 cargs w) Tryz.func23 rfl ⟨_, _, _, rfl⟩ ⟨_, _, _, _, rfl⟩ (t2 := 2) (t3 := 3) (N := 9) ⟨⟨_, _, _, _, Tryz.func40, rfl, rfl, rfl, by decide, by decide, ⟨_, _, _, _, rfl⟩, _, _, _, rfl⟩⟩ (by kernel_rfl) (by kernel_rfl) (by kernel_rfl) rfl ?_
  intro b0 hb0
  have lq : q < b0 := below_of hb0 (by rw [hq]; rfl)
  have z0 := lt_ne lq; have z1 := lt_ne_add lq; have z2 := lt_ne' lq; have z3 := lt_ne_add' lq
  repeat' first | simp only [fins,mems,Tryz.results23,Tryz.ntmps23,Kt,wks,hq,z0,z1,z2,z3,vcs,Ka,Kb,Kc,Kd,Ke,Kf,Kg,Kh,Ki,Kj,Kk,Kl,Km,reduceCtorEq,reduceIte,Kn,Ko,Kp,Kq,Kr,Ks,tys] | exact rfl | refine call_off (v := .any) ?_ | ((first | apply cond_bool | apply cond_bit) <;> intro hb) | refine And.intro (by omega) ?_ | refine And.intro (fun hb => ?_) (fun hb => ?_) | fail
  refine ⟨rfl, b0, b0 + 16, ?_, ?_, fun D => ?_⟩
  · simp only [vcs,Ka,Kb,Kc,Kd,Ke,Kf,Kg,Kh,Ki,Kj,Kk,Kl,Km,reduceCtorEq,reduceIte,Kn,Ko,Kp,Kq,Kr,Ks,tys]
  · simp only [vcs,Ka,Kb,Kc,Kd,Ke,Kf,Kg,Kh,Ki,Kj,Kk,Kl,Km,reduceCtorEq,reduceIte,Kn,Ko,Kp,Kq,Kr,Ks,tys]
  have p1 := p1 D; have gt := gt D; have ix := ix D
  by_cases hr : textR s = []
  · obtain ⟨i1, i2⟩ := x1 hr
    rw [i1] at ix
    rw [i2] at gt
    rw [hr]
    have hneg : decide ((-1 : Int) < 0) = true := by decide
    have hz : IntKind.i64.wrap (s.length : Int) = s.length := wrap_in (by omega) (by omega)
    repeat' first | simp only [Tryz.results23,Tryz.ntmps23,Kt,wks,hq,z0,z1,z2,z3,hneg,List.take_length,List.drop_length,Int.toNat_natCast,Nat.le_refl,Int.le_refl,vcs,Ka,Kb,Kc,Kd,Ke,Kf,Kg,Kh,Ki,Kj,Kk,Kl,Km,reduceCtorEq,reduceIte,Kn,Ko,Kp,Kq,Kr,Ks,tys] | exact rfl | ((first | (refine call_fn ?_ (ix _) ?_) | (refine call_fn_g ?_ (fun _ => ix _) ?_) | (refine call_fn ?_ (gt _) ?_) | (refine call_fn_g ?_ (fun _ => gt _) ?_)); (focus (simp only [Tryz.results23,Tryz.ntmps23,Kt,wks,hq,z0,z1,z2,z3,hneg,List.take_length,List.drop_length,Int.toNat_natCast,Nat.le_refl,Int.le_refl,vcs,Ka,Kb,Kc,Kd,Ke,Kf,Kg,Kh,Ki,Kj,Kk,Kl,Km,reduceCtorEq,reduceIte,Kn,Ko,Kp,Kq,Kr,Ks,tys] <;> exact rfl))) | ((refine call_fn_full ?_ [q] (p1 q _ _ ?_ only_mem (by omega)) ?_ ?_); iterate 3 (focus (simp only [mems,Tryz.results23,Tryz.ntmps23,Kt,wks,hq,z0,z1,z2,z3,hneg,List.take_length,List.drop_length,Int.toNat_natCast,Nat.le_refl,Int.le_refl,vcs,Ka,Kb,Kc,Kd,Ke,Kf,Kg,Kh,Ki,Kj,Kk,Kl,Km,reduceCtorEq,reduceIte,Kn,Ko,Kp,Kq,Kr,Ks,tys] <;> exact rfl))) | ((first | apply cond_bool | apply cond_bit) <;> intro hb) | refine And.intro (by omega) ?_ | refine And.intro (fun hb => ?_) (fun hb => ?_) | fail
    refine dend_ret ?_ ?_ ?_
    · simp only [vcs,Ka,Kb,Kc,Kd,Ke,Kf,Kg,Kh,Ki,Kj,Kk,Kl,Km,reduceCtorEq,reduceIte,Kn,Ko,Kp,Kq,Kr,Ks,tys]
    · simp only [vcs,Ka,Kb,Kc,Kd,Ke,Kf,Kg,Kh,Ki,Kj,Kk,Kl,Km,reduceCtorEq,reduceIte,Kn,Ko,Kp,Kq,Kr,Ks,tys]
    repeat' first | simp only [fins,mems,Tryz.results40,Tryz.ntmps40,Kt,wks,hq,z0,z1,z2,z3,vcs,Ka,Kb,Kc,Kd,Ke,Kf,Kg,Kh,Ki,Kj,Kk,Kl,Km,reduceCtorEq,reduceIte,Kn,Ko,Kp,Kq,Kr,Ks,tys] | exact rfl | refine call_off (v := .any) ?_ | refine draw_end (by decide +kernel) ?_ | ((first | apply cond_bool | apply cond_bit) <;> intro hb) | refine And.intro (by omega) ?_ | refine And.intro (fun hb => ?_) (fun hb => ?_) | fail
    refine ⟨rfl, ?_⟩
    (refine Fin.give [(q, none)] [] ?_ ?_ ?_ ?_ ?_ (fun q hq => by have hqq := ho q hq; first | (simp only [gives,tgt,List.map_cons,List.map_nil,List.mem_cons,List.not_mem_nil,or_false] at hqq ⊢; omega) | (simp only [gives,tgt,List.map_cons,List.map_nil,List.mem_cons,List.not_mem_nil,or_false] at hqq)) <;> (try simp only [Tryz.results23,Tryz.ntmps23,wks,keep_at,hq,z0,z1,z2,z3,giv,vcs,Ka,Kb,Kc,Kd,Ke,Kf,Kg,Kh,Ki,Kj,Kk,Kl,Km,reduceCtorEq,reduceIte,Kn,Ko,Kp,Kq,Kr,Ks,tys]) <;> (try simp only [injs]) <;> (try omega))
  · obtain ⟨i1, i2, i3, i4⟩ := x2 hr
    rw [i1] at ix
    have hneg : decide (((textT s).length : Int) < 0) = false := decide_eq_false (by omega)
    have k1 : ((textT s).length : Int) ≤ s.length := by omega
    have k2 : (0 : Int) ≤ ((textT s).length : Int) := by omega
    have k3 : (textT s).length ≤ s.length := by omega
    repeat' first | simp only [Tryz.results23,Tryz.ntmps23,Kt,wks,hq,z0,z1,z2,z3,hneg,k1,k2,k3,i2,i3,Int.toNat_natCast,Nat.le_refl,Int.le_refl,vcs,Ka,Kb,Kc,Kd,Ke,Kf,Kg,Kh,Ki,Kj,Kk,Kl,Km,reduceCtorEq,reduceIte,Kn,Ko,Kp,Kq,Kr,Ks,tys] | exact rfl | ((first | (refine call_fn ?_ (ix _) ?_) | (refine call_fn_g ?_ (fun _ => ix _) ?_) | (refine call_fn ?_ (gt _) ?_) | (refine call_fn_g ?_ (fun _ => gt _) ?_)); (focus (simp only [Tryz.results23,Tryz.ntmps23,Kt,wks,hq,z0,z1,z2,z3,hneg,k1,k2,k3,i2,i3,Int.toNat_natCast,Nat.le_refl,Int.le_refl,vcs,Ka,Kb,Kc,Kd,Ke,Kf,Kg,Kh,Ki,Kj,Kk,Kl,Km,reduceCtorEq,reduceIte,Kn,Ko,Kp,Kq,Kr,Ks,tys] <;> exact rfl))) | ((refine call_fn_full ?_ [q] (p1 q _ _ ?_ only_mem (by omega)) ?_ ?_); iterate 3 (focus (simp only [mems,Tryz.results23,Tryz.ntmps23,Kt,wks,hq,z0,z1,z2,z3,hneg,k1,k2,k3,i2,i3,Int.toNat_natCast,Nat.le_refl,Int.le_refl,vcs,Ka,Kb,Kc,Kd,Ke,Kf,Kg,Kh,Ki,Kj,Kk,Kl,Km,reduceCtorEq,reduceIte,Kn,Ko,Kp,Kq,Kr,Ks,tys] <;> exact rfl))) | ((first | apply cond_bool | apply cond_bit) <;> intro hb) | refine And.intro (by omega) ?_ | refine And.intro (fun hb => ?_) (fun hb => ?_) | fail
    refine dend_ret ?_ ?_ ?_
    · simp only [vcs,Ka,Kb,Kc,Kd,Ke,Kf,Kg,Kh,Ki,Kj,Kk,Kl,Km,reduceCtorEq,reduceIte,Kn,Ko,Kp,Kq,Kr,Ks,tys]
    · simp only [vcs,Ka,Kb,Kc,Kd,Ke,Kf,Kg,Kh,Ki,Kj,Kk,Kl,Km,reduceCtorEq,reduceIte,Kn,Ko,Kp,Kq,Kr,Ks,tys]
    repeat' first | simp only [fins,mems,Tryz.results40,Tryz.ntmps40,Kt,wks,hq,z0,z1,z2,z3,vcs,Ka,Kb,Kc,Kd,Ke,Kf,Kg,Kh,Ki,Kj,Kk,Kl,Km,reduceCtorEq,reduceIte,Kn,Ko,Kp,Kq,Kr,Ks,tys] | exact rfl | refine call_off (v := .any) ?_ | refine draw_end (by decide +kernel) ?_ | ((first | apply cond_bool | apply cond_bit) <;> intro hb) | refine And.intro (by omega) ?_ | refine And.intro (fun hb => ?_) (fun hb => ?_) | fail
    refine ⟨rfl, ?_⟩
    (refine Fin.give [(q, none)] [] ?_ ?_ ?_ ?_ ?_ (fun q hq => by have hqq := ho q hq; first | (simp only [gives,tgt,List.map_cons,List.map_nil,List.mem_cons,List.not_mem_nil,or_false] at hqq ⊢; omega) | (simp only [gives,tgt,List.map_cons,List.map_nil,List.mem_cons,List.not_mem_nil,or_false] at hqq)) <;> (try simp only [Tryz.results23,Tryz.ntmps23,wks,keep_at,hq,z0,z1,z2,z3,giv,vcs,Ka,Kb,Kc,Kd,Ke,Kf,Kg,Kh,Ki,Kj,Kk,Kl,Km,reduceCtorEq,reduceIte,Kn,Ko,Kp,Kq,Kr,Ks,tys]) <;> (try simp only [injs]) <;> (try omega))
theorem rOneText_none (s : List UInt8) (hs : s.length ≤ 16384) (hd : (dec s).isSome = true) (h1 : afterO 60 s = none) (h2 : readL (textT s) = none) (q : Nat) (M : Mem) (nm : Nat) (hq : M q = some (srcK s)) (ho : ∀ z, (M z).isSome = true → z ∈ [q]) (hqn : q < nm) :
    Ev cx 23 nm [.ptr q 0 0] M (.tup [.agg [.int .u8 0, .str [], .nils, .str []], .int .i64 80]) [(q, none)] := by
  have p1 := fun D (q : Nat) M nm a b c => Ev.dd (D := D) (eatI_ev s [60] false (by omega) (by decide) (by rw [after_pre, h1]; rfl) q M nm a b c)
  simp only [Bool.false_eq_true,if_false] at p1
  have hl : (textT s).length ≤ s.length := by
    have := congrArg List.length ((List.takeWhile_append_dropWhile (p := textB) (l := s)).symm)
    unfold textT; rw [List.length_append] at this; omega
  have hp : ptsErr (textT s) = 0 := ptsErr_iff.2 ⟨by omega, (text_dec hd).1⟩
  obtain ⟨x1, x2⟩ := text_idx (s := s)
  have gt := fun D nm => Ev.dd (D := D) (eGet_ev (textT s) (by unfold lim; omega) nm)
  have ix := fun D nm => Ev.dd (D := D) (idxSB_ev s 60 nm)
  simp only [getV_none hp h2] at gt
  unfold srcK at hq
  refine ev_defer rfl mixed (fun cargs w => Tryz.call23 cargs w) (fun cargs w => Tryz.call40 cargs w) Tryz.func23 rfl ⟨_, _, _, rfl⟩ ⟨_, _, _, _, rfl⟩ (t2 := 2) (t3 := 3) (N := 9) ⟨⟨_, _, _, _, Tryz.func40, rfl, rfl, rfl, by decide, by decide, ⟨_, _, _, _, rfl⟩, _, _, _, rfl⟩⟩ (by kernel_rfl) (by kernel_rfl) (by kernel_rfl) rfl ?_
  intro b0 hb0
  have lq : q < b0 := below_of hb0 (by rw [hq]; rfl)
  have z0 := lt_ne lq; have z1 := lt_ne_add lq; have z2 := lt_ne' lq; have z3 := lt_ne_add' lq
  repeat' first | simp only [fins,mems,Tryz.results23,Tryz.ntmps23,Kt,wks,hq,z0,z1,z2,z3,vcs,Ka,Kb,Kc,Kd,Ke,Kf,Kg,Kh,Ki,Kj,Kk,Kl,Km,reduceCtorEq,reduceIte,Kn,Ko,Kp,Kq,Kr,Ks,tys] | exact rfl | refine call_off (v := .any) ?_ | ((first | apply cond_bool | apply cond_bit) <;> intro hb) | refine And.intro (by omega) ?_ | refine And.intro (fun hb => ?_) (fun hb => ?_) | fail
  refine ⟨rfl, b0, b0 + 16, ?_, ?_, fun D => ?_⟩
  · simp only [vcs,Ka,Kb,Kc,Kd,Ke,Kf,Kg,Kh,Ki,Kj,Kk,Kl,Km,reduceCtorEq,reduceIte,Kn,Ko,Kp,Kq,Kr,Ks,tys]
  · simp only [vcs,Ka,Kb,Kc,Kd,Ke,Kf,Kg,Kh,Ki,Kj,Kk,Kl,Km,reduceCtorEq,reduceIte,Kn,Ko,Kp,Kq,Kr,Ks,tys]
  have p1 := p1 D; have gt := gt D; have ix := ix D
  by_cases hr : textR s = []
  · obtain ⟨i1, i2⟩ := x1 hr
    rw [i1] at ix
    rw [i2] at gt
    have hneg : decide ((-1 : Int) < 0) = true := by decide
    have hz : IntKind.i64.wrap (s.length : Int) = s.length := wrap_in (by omega) (by omega)
    repeat' first | simp only [Tryz.results23,Tryz.ntmps23,Kt,wks,hq,z0,z1,z2,z3,hneg,List.take_length,List.drop_length,Int.toNat_natCast,Nat.le_refl,Int.le_refl,goOps_panic,goPan_iface,goEx_code_pan,goEx_blk_pan,goEx_again_pan,goEx_nil,vcs,Ka,Kb,Kc,Kd,Ke,Kf,Kg,Kh,Ki,Kj,Kk,Kl,Km,reduceCtorEq,reduceIte,Kn,Ko,Kp,Kq,Kr,Ks,tys] | exact rfl | ((first | (refine call_fn ?_ (ix _) ?_) | (refine call_fn_g ?_ (fun _ => ix _) ?_) | (refine call_fn ?_ (gt _) ?_) | (refine call_fn_g ?_ (fun _ => gt _) ?_)); (focus (simp only [Tryz.results23,Tryz.ntmps23,Kt,wks,hq,z0,z1,z2,z3,hneg,List.take_length,List.drop_length,Int.toNat_natCast,Nat.le_refl,Int.le_refl,goOps_panic,goPan_iface,goEx_code_pan,goEx_blk_pan,goEx_again_pan,goEx_nil,vcs,Ka,Kb,Kc,Kd,Ke,Kf,Kg,Kh,Ki,Kj,Kk,Kl,Km,reduceCtorEq,reduceIte,Kn,Ko,Kp,Kq,Kr,Ks,tys] <;> exact rfl))) | ((refine call_fn_full ?_ [q] (p1 q _ _ ?_ only_mem (by omega)) ?_ ?_); iterate 3 (focus (simp only [mems,Tryz.results23,Tryz.ntmps23,Kt,wks,hq,z0,z1,z2,z3,hneg,List.take_length,List.drop_length,Int.toNat_natCast,Nat.le_refl,Int.le_refl,goOps_panic,goPan_iface,goEx_code_pan,goEx_blk_pan,goEx_again_pan,goEx_nil,vcs,Ka,Kb,Kc,Kd,Ke,Kf,Kg,Kh,Ki,Kj,Kk,Kl,Km,reduceCtorEq,reduceIte,Kn,Ko,Kp,Kq,Kr,Ks,tys] <;> exact rfl))) | (refine call_pan rfl [q] (EvP.dd (no_evp q _ _)) ?_) | ((first | apply cond_bool | apply cond_bit) <;> intro hb) | refine And.intro (by omega) ?_ | refine And.intro (fun hb => ?_) (fun hb => ?_) | fail
    refine dend_pan ?_ ?_ ?_
    · simp only [vcs,Ka,Kb,Kc,Kd,Ke,Kf,Kg,Kh,Ki,Kj,Kk,Kl,Km,reduceCtorEq,reduceIte,Kn,Ko,Kp,Kq,Kr,Ks,tys]
    · simp only [vcs,Ka,Kb,Kc,Kd,Ke,Kf,Kg,Kh,Ki,Kj,Kk,Kl,Km,reduceCtorEq,reduceIte,Kn,Ko,Kp,Kq,Kr,Ks,tys]
    repeat' first | simp only [fins,mems,Tryz.results40,Tryz.ntmps40,Kt,wks,noV,lostE,List.map_cons,List.map_nil,hq,z0,z1,z2,z3,vcs,Ka,Kb,Kc,Kd,Ke,Kf,Kg,Kh,Ki,Kj,Kk,Kl,Km,reduceCtorEq,reduceIte,Kn,Ko,Kp,Kq,Kr,Ks,tys] | exact rfl | refine call_off (v := .any) ?_ | (refine And.intro (by kernel_rfl) ?_) | (refine ext_assert rfl (by kernel_rfl) ?_) | refine draw_end (by decide +kernel) ?_ | ((first | apply cond_bool | apply cond_bit) <;> intro hb) | refine And.intro (by omega) ?_ | refine And.intro (fun hb => ?_) (fun hb => ?_) | fail
    (refine Fin.give [] [q] ?_ ?_ ?_ ?_ ?_ (fun q hq => by have hqq := ho q hq; first | (simp only [gives,tgt,List.map_cons,List.map_nil,List.mem_cons,List.not_mem_nil,or_false] at hqq ⊢; omega) | (simp only [gives,tgt,List.map_cons,List.map_nil,List.mem_cons,List.not_mem_nil,or_false] at hqq)) <;> (try simp only [Tryz.results23,Tryz.ntmps23,wks,keep_at,hq,z0,z1,z2,z3,giv,vcs,Ka,Kb,Kc,Kd,Ke,Kf,Kg,Kh,Ki,Kj,Kk,Kl,Km,reduceCtorEq,reduceIte,Kn,Ko,Kp,Kq,Kr,Ks,tys]) <;> (try simp only [injs]) <;> (try omega))
  · obtain ⟨i1, i2, i3, i4⟩ := x2 hr
    rw [i1] at ix
    have hneg : decide (((textT s).length : Int) < 0) = false := decide_eq_false (by omega)
    have k1 : ((textT s).length : Int) ≤ s.length := by omega
    have k2 : (0 : Int) ≤ ((textT s).length : Int) := by omega
    have k3 : (textT s).length ≤ s.length := by omega
    repeat' first | simp only [Tryz.results23,Tryz.ntmps23,Kt,wks,hq,z0,z1,z2,z3,hneg,k1,k2,k3,i2,i3,Int.toNat_natCast,Nat.le_refl,Int.le_refl,goOps_panic,goPan_iface,goEx_code_pan,goEx_blk_pan,goEx_again_pan,goEx_nil,vcs,Ka,Kb,Kc,Kd,Ke,Kf,Kg,Kh,Ki,Kj,Kk,Kl,Km,reduceCtorEq,reduceIte,Kn,Ko,Kp,Kq,Kr,Ks,tys] | exact rfl | ((first | (refine call_fn ?_ (ix _) ?_) | (refine call_fn_g ?_ (fun _ => ix _) ?_) | (refine call_fn ?_ (gt _) ?_) | (refine call_fn_g ?_ (fun _ => gt _) ?_)); (focus (simp only [Tryz.results23,Tryz.ntmps23,Kt,wks,hq,z0,z1,z2,z3,hneg,k1,k2,k3,i2,i3,Int.toNat_natCast,Nat.le_refl,Int.le_refl,goOps_panic,goPan_iface,goEx_code_pan,goEx_blk_pan,goEx_again_pan,goEx_nil,vcs,Ka,Kb,Kc,Kd,Ke,Kf,Kg,Kh,Ki,Kj,Kk,Kl,Km,reduceCtorEq,reduceIte,Kn,Ko,Kp,Kq,Kr,Ks,tys] <;> exact rfl))) | ((refine call_fn_full ?_ [q] (p1 q _ _ ?_ only_mem (by omega)) ?_ ?_); iterate 3 (focus (simp only [mems,Tryz.results23,Tryz.ntmps23,Kt,wks,hq,z0,z1,z2,z3,hneg,k1,k2,k3,i2,i3,Int.toNat_natCast,Nat.le_refl,Int.le_refl,goOps_panic,goPan_iface,goEx_code_pan,goEx_blk_pan,goEx_again_pan,goEx_nil,vcs,Ka,Kb,Kc,Kd,Ke,Kf,Kg,Kh,Ki,Kj,Kk,Kl,Km,reduceCtorEq,reduceIte,Kn,Ko,Kp,Kq,Kr,Ks,tys] <;> exact rfl))) | (refine call_pan rfl [q] (EvP.dd (no_evp q _ _)) ?_) | ((first | apply cond_bool | apply cond_bit) <;> intro hb) | refine And.intro (by omega) ?_ | refine And.intro (fun hb => ?_) (fun hb => ?_) | fail
    refine dend_pan ?_ ?_ ?_
    · simp only [vcs,Ka,Kb,Kc,Kd,Ke,Kf,Kg,Kh,Ki,Kj,Kk,Kl,Km,reduceCtorEq,reduceIte,Kn,Ko,Kp,Kq,Kr,Ks,tys]
    · simp only [vcs,Ka,Kb,Kc,Kd,Ke,Kf,Kg,Kh,Ki,Kj,Kk,Kl,Km,reduceCtorEq,reduceIte,Kn,Ko,Kp,Kq,Kr,Ks,tys]
    repeat' first | simp only [fins,mems,Tryz.results40,Tryz.ntmps40,Kt,wks,noV,lostE,List.map_cons,List.map_nil,hq,z0,z1,z2,z3,vcs,Ka,Kb,Kc,Kd,Ke,Kf,Kg,Kh,Ki,Kj,Kk,Kl,Km,reduceCtorEq,reduceIte,Kn,Ko,Kp,Kq,Kr,Ks,tys] | exact rfl | refine call_off (v := .any) ?_ | (refine And.intro (by kernel_rfl) ?_) | (refine ext_assert rfl (by kernel_rfl) ?_) | refine draw_end (by decide +kernel) ?_ | ((first | apply cond_bool | apply cond_bit) <;> intro hb) | refine And.intro (by omega) ?_ | refine And.intro (fun hb => ?_) (fun hb => ?_) | fail
    (refine Fin.give [] [q] ?_ ?_ ?_ ?_ ?_ (fun q hq => by have hqq := ho q hq; first | (simp only [gives,tgt,List.map_cons,List.map_nil,List.mem_cons,List.not_mem_nil,or_false] at hqq ⊢; omega) | (simp only [gives,tgt,List.map_cons,List.map_nil,List.mem_cons,List.not_mem_nil,or_false] at hqq)) <;> (try simp only [Tryz.results23,Tryz.ntmps23,wks,keep_at,hq,z0,z1,z2,z3,giv,vcs,Ka,Kb,Kc,Kd,Ke,Kf,Kg,Kh,Ki,Kj,Kk,Kl,Km,reduceCtorEq,reduceIte,Kn,Ko,Kp,Kq,Kr,Ks,tys]) <;> (try simp only [injs]) <;> (try omega))
theorem tagL_kind {n r0 r : List UInt8} {l : List Pr} {t : Tk} (h : tagL n l r0 = some (t, r)) : t = ⟨t.kind, n, t.attrs, []⟩ :=
  tagL_ind (n := n) (P := fun _ _ u _ => u = ⟨u.kind, n, u.attrs, []⟩) (fun _ _ _ _ _ => rfl) (fun _ _ _ _ _ _ _ _ _ _ _ ih => ih) _ l r0 t r (Nat.le_refl _) h
theorem one_some_ev (s r : List UInt8) (t : Tk) (hs : s.length ≤ 16384) (hd : (dec s).isSome = true) (h : oneO s = some (t, r)) :
    (t.attrs = [] ∧ ∀ (q : Nat) (M : Mem) (nm : Nat), M q = some (srcK s) → (∀ z, (M z).isSome = true → z ∈ [q]) → q < nm →
      Ev cx 23 nm [.ptr q 0 0] M (.tup [.agg [.int .u8 t.kind, .str t.name, .nils, .str t.text], .int .i64 0]) [(q, some (srcK r))]) ∨
    (t.text = [] ∧ ∀ (q : Nat) (M : Mem) (nm : Nat), M q = some (srcK s) → (∀ z, (M z).isSome = true → z ∈ [q]) → q < nm →
      Ev cx 23 nm [.ptr q 0 0] M (.tup [.agg [.int .u8 t.kind, .str t.name, .own nm 0 t.attrs.length, .str []], .int .i64 0]) [(q, some (srcK r)), (nm, some ⟨2, t.attrs.map prC⟩)]) := by
  cases h1 : afterO 60 s with
  | none =>
    unfold oneO at h
    rw [h1] at h
    obtain ⟨x, h2, h3⟩ := Option.map_eq_some_iff.1 h
    cases h3
    exact .inl ⟨rfl, fun q M nm a b c => rOneText_ev s x hs hd h1 h2 q M nm a b c⟩
  | some u =>
    obtain rfl := after_some h1
    have hl : u.length ≤ 16384 := by simp at hs; omega
    have hdu := (cut_text (d := 60) (by decide) (a := []) hd rfl).2
    unfold oneO at h
    rw [h1] at h
    simp only at h
    unfold tagO at h
    split at h
    · rename_i w hw
      obtain ⟨⟨n, r1⟩, h2, h3⟩ := Option.bind_eq_some_iff.1 h
      obtain ⟨r2, h4, h5⟩ := Option.map_eq_some_iff.1 h3
      cases h5
      exact .inl ⟨rfl, fun q M nm a b c => rOneEnd_ev (60 :: u) u n r hs h1 (fun M nm q a b c => rEnd_ev u w n r1 r hl hw h2 h4 q M nm a b c) q M nm a b c⟩
    · rename_i hw
      obtain ⟨⟨n, r1⟩, h2, h3⟩ := Option.bind_eq_some_iff.1 h
      have hk := tagL_kind h3
      obtain ⟨k, n', l, x⟩ := t
      simp only [Tk.mk.injEq,true_and] at hk
      obtain ⟨rfl, rfl⟩ := hk
      exact .inr ⟨rfl, fun q M nm a b c => rOneTag_ev (60 :: u) u n' r k l hs h1 (fun M nm q a b c => rTag_ev u n' r1 r k l hl hdu hw h2 h3 q M nm a b c) q M nm a b c⟩
theorem one_none_ev (s : List UInt8) (hs : s.length ≤ 16384) (hd : (dec s).isSome = true) (h : oneO s = none) (q : Nat) (M : Mem) (nm : Nat) (hq : M q = some (srcK s)) (ho : ∀ z, (M z).isSome = true → z ∈ [q]) (hqn : q < nm) :
    Ev cx 23 nm [.ptr q 0 0] M (.tup [.agg [.int .u8 0, .str [], .nils, .str []], .int .i64 80]) [(q, none)] := by
  cases h1 : afterO 60 s with
  | none =>
    unfold oneO at h
    rw [h1] at h
    exact rOneText_none s hs hd h1 (by simpa using h) q M nm hq ho hqn
  | some u =>
    obtain rfl := after_some h1
    have hl : u.length ≤ 16384 := by simp at hs; omega
    have hdu := (cut_text (d := 60) (by decide) (a := []) hd rfl).2
    unfold oneO at h
    rw [h1] at h
    simp only at h
    refine rOneTag_none (60 :: u) u hs h1 (fun M nm q a b c => ?_) q M nm hq ho hqn
    cases hw : afterO 47 u with
    | some w => exact rEnd_evp u w hl hw h q M nm a b c
    | none =>
      unfold tagO at h
      rw [hw] at h
      cases h2 : nameO u with
      | none => exact rHead_evp u hl hw h2 q M nm a b c
      | some p =>
        obtain ⟨n, r0⟩ := p
        rw [h2] at h
        exact rTag_evp u n r0 hl hdu hw h2 h q M nm a b c
structure LSt where
  l : List Tk
  rest : List UInt8
def lexV (A : List Tk × Nat × Int) : V := .tup [.sl false 4 (A.1.map tkC), .int .i64 A.2.1, .int .i64 A.2.2]
theorem lex_ev (s : List UInt8) (hs : s.length ≤ lim) (nm : Nat) : Ev cx 8 nm [.str s] Mem.nil (lexV (lexA s)) [] := by
  have hck := tCheck_ev s hs
  by_cases hp : ptsErr s = 0
  · obtain ⟨hsl, hsd⟩ := ptsErr_iff.1 hp
    have hA : lexA s = lexG s.length [] s := by unfold lexA; rw [if_neg (by simp [hp])]
    rw [hA]
    generalize hB : lexG s.length [] s = A
    obtain ⟨L, at0, e0⟩ := A
    unfold lexV
    rw [hp] at hck
    refine ev_go rfl (fun cargs w => Tryz.call8 cargs w) Tryz.func8 rfl mixed (by kernel_rfl) rfl ?_; intro b0 hb0
    repeat' first | simp only [fins,mems,Tryz.results8,Tryz.ntmps8,Kt,wks,vcs,Ka,Kb,Kc,Kd,Ke,Kf,Kg,Kh,Ki,Kj,Kk,Kl,Km,reduceCtorEq,reduceIte,Kn,Ko,Kp,Kq,Kr,Ks,tys] | exact rfl | refine call_off (v := .any) ?_ | (first | (refine call_fn ?_ (hck _) ?_) | (refine call_fn_g ?_ (fun _ => hck _) ?_)) | ((first | apply cond_bool | apply cond_bit) <;> intro hb) | refine And.intro (by omega) ?_ | refine And.intro (fun hb => ?_) (fun hb => ?_)
    (refine loop_can2 cxG (fun x : LSt => x.rest.length) (fun x => lexG s.length x.l x.rest = (L, at0, e0) ∧ (dec x.rest).isSome = true ∧ x.rest.length ≤ s.length ∧ x.l.length ≤ 512) (b0 + 16) (fun x => [(0, .str s), (2, .own (b0 + 1) 0 x.l.length), (6, .ptr b0 0 0)]) (fun x => [(b0, ⟨1, [[.str x.rest]]⟩), (b0 + 1, ⟨4, x.l.map tkC⟩)]) (⟨[], s⟩) [some (b0 + 176), none] ?_ ?_ ?_ ?_; rotate_left 1; (focus (show b0 ≤ _; omega)); (focus (refine ⟨?_, ?_⟩ <;> (try simp only [cans,isRow_inst,List.map_nil,List.length_nil,vcs,Ka,Kb,Kc,Kd,Ke,Kf,Kg,Kh,Ki,Kj,Kk,Kl,Km,reduceCtorEq,reduceIte,Kn,Ko,Kp,Kq,Kr,Ks,tys,injs]) <;> (try omega))); rotate_left 1)
    · exact ⟨hB, hsd, Nat.le_refl _, Nat.zero_le _⟩
    · rintro ⟨xl, xr⟩ ⟨g1, g2, g3, g4⟩
      dsimp only at g1 g2 g3 g4 ⊢
      have hnl : (xl.map tkC).length = xl.length := List.length_map _
      by_cases hnil : xr = []
      · subst hnil
        rw [lexG_nil] at g1
        cases g1
        have hne : (([] : List UInt8) != []) = false := by decide
        (repeat' first | simp only [fins,mems,Tryz.results8,Tryz.ntmps8,Kt,wks,hne,plain_tk,hnl,List.take_of_length_le,Nat.le_refl,vcs,Ka,Kb,Kc,Kd,Ke,Kf,Kg,Kh,Ki,Kj,Kk,Kl,Km,reduceCtorEq,reduceIte,Kn,Ko,Kp,Kq,Kr,Ks,tys] | exact rfl | refine call_off (v := .any) ?_ | ((first | apply cond_bool | apply cond_bit) <;> intro hb) | refine And.intro (by omega) ?_ | refine And.intro (fun hb => ?_) (fun hb => ?_) | refine Fin.pure ?_ ?_ ?_ | simp only [injs])
      · have hne : (xr == []) = false := by simpa using hnil
        have hw1 : IntKind.i64.wrap ((s.length : Int) - (xr.length : Int)) = ((s.length - xr.length : Nat) : Int) := by rw [wrap_in (by omega) (by omega)]; omega
        by_cases hm : 512 ≤ xl.length
        · have hge : decide ((512 : Int) ≤ (xl.length : Int)) = true := decide_eq_true (by omega)
          have hge' : decide ((xl.length : Int) ≥ (512 : Int)) = true := decide_eq_true (by omega)
          rw [lexG_many hnil hm] at g1
          cases g1
          cases ho : oneO xr with
          | none =>
            have hone := one_none_ev xr (by omega) g2 ho
            unfold srcK at hone
            (repeat' first | simp only [fins,mems,Tryz.results8,Tryz.ntmps8,Kt,wks,hne,Bool.not_false,hw1,hge,hnl,plain_tk,vcs,Ka,Kb,Kc,Kd,Ke,Kf,Kg,Kh,Ki,Kj,Kk,Kl,Km,reduceCtorEq,reduceIte,Kn,Ko,Kp,Kq,Kr,Ks,tys] | exact rfl | refine call_off (v := .any) ?_ | (refine call_fn_full ?_ [b0] (hone b0 _ _ ?_ only_mem (by omega)) ?_ ?_) | ((first | apply cond_bool | apply cond_bit) <;> intro hb) | refine And.intro (by omega) ?_ | refine And.intro (fun hb => ?_) (fun hb => ?_) | refine Fin.pure ?_ ?_ ?_ | simp only [injs])
          | some p =>
            obtain ⟨t, r⟩ := p
            rcases one_some_ev xr r t (by omega) g2 ho with ⟨ha, hone⟩ | ⟨ha, hone⟩
            · unfold srcK at hone
              (repeat' first | simp only [fins,mems,Tryz.results8,Tryz.ntmps8,Kt,wks,hne,Bool.not_false,hw1,hge,hnl,plain_tk,vcs,Ka,Kb,Kc,Kd,Ke,Kf,Kg,Kh,Ki,Kj,Kk,Kl,Km,reduceCtorEq,reduceIte,Kn,Ko,Kp,Kq,Kr,Ks,tys] | exact rfl | refine call_off (v := .any) ?_ | (refine call_fn_full ?_ [b0] (hone b0 _ _ ?_ only_mem (by omega)) ?_ ?_) | ((first | apply cond_bool | apply cond_bit) <;> intro hb) | refine And.intro (by omega) ?_ | refine And.intro (fun hb => ?_) (fun hb => ?_) | refine Fin.pure ?_ ?_ ?_ | simp only [injs])
            · unfold srcK at hone
              (repeat' first | simp only [fins,mems,Tryz.results8,Tryz.ntmps8,Kt,wks,fresh_self,hne,Bool.not_false,hw1,hge,hnl,plain_tk,vcs,Ka,Kb,Kc,Kd,Ke,Kf,Kg,Kh,Ki,Kj,Kk,Kl,Km,reduceCtorEq,reduceIte,Kn,Ko,Kp,Kq,Kr,Ks,tys] | exact rfl | refine call_off (v := .any) ?_ | (refine call_fn_full ?_ [b0] (hone b0 _ _ ?_ only_mem (by omega)) ?_ ?_) | ((first | apply cond_bool | apply cond_bit) <;> intro hb) | refine And.intro (by omega) ?_ | refine And.intro (fun hb => ?_) (fun hb => ?_) | refine Fin.pure ?_ ?_ ?_ | simp only [injs])
        · have hge : decide ((512 : Int) ≤ (xl.length : Int)) = false := decide_eq_false (by omega)
          cases ho : oneO xr with
          | none =>
            rw [lexG_bad hnil (by omega) ho] at g1
            cases g1
            have hone := one_none_ev xr (by omega) g2 ho
            unfold srcK at hone
            (repeat' first | simp only [fins,mems,Tryz.results8,Tryz.ntmps8,Kt,wks,hne,Bool.not_false,hw1,hge,hnl,plain_tk,vcs,Ka,Kb,Kc,Kd,Ke,Kf,Kg,Kh,Ki,Kj,Kk,Kl,Km,reduceCtorEq,reduceIte,Kn,Ko,Kp,Kq,Kr,Ks,tys] | exact rfl | refine call_off (v := .any) ?_ | (refine call_fn_full ?_ [b0] (hone b0 _ _ ?_ only_mem (by omega)) ?_ ?_) | ((first | apply cond_bool | apply cond_bit) <;> intro hb) | refine And.intro (by omega) ?_ | refine And.intro (fun hb => ?_) (fun hb => ?_) | refine Fin.pure ?_ ?_ ?_ | simp only [injs])
          | some p =>
            obtain ⟨t, r⟩ := p
            have hlt := one_lt hnil ho
            have hnl1 : (xl ++ [t]).length = xl.length + 1 := by simp
            have hmx : xl.length < 512 := by omega
            have hnx : xl.map tkC ++ [tkC t] = (xl ++ [t]).map tkC := by simp
            have hle : ∀ (k : Nat) (n x : List UInt8) (a : List Pr) (v : V), v.le (.sl false 2 (a.map prC)) → leLL (xl.map tkC ++ [[.int .u8 k, .str n, v, .str x]]) ((xl ++ [(⟨k, n, a, x⟩ : Tk)]).map tkC) := fun k n x a v hv => by
              rw [List.map_append]
              refine leLL_append ⟨⟨V.le_refl _, V.le_refl _, hv, V.le_refl _, trivial⟩, trivial⟩
            have h16z : decide ((0 : Int) > 16) = false := by decide
            rcases one_some_ev xr r t (by omega) g2 ho with ⟨ha, hone⟩ | ⟨ha, hone⟩
            · obtain ⟨k, n, l, x⟩ := t
              dsimp only at ha
              subst ha
              obtain ⟨k1, k2, k3, k4, k5⟩ := one_may hnil ho g2 (by omega) (Nat.zero_le _)
              rw [lexG_go hnil (by omega) ho (Nat.zero_le _)] at g1
              unfold srcK at hone
              repeat' first | simp only [fins,mems,Tryz.results8,Tryz.ntmps8,Kt,wks,hne,Bool.not_false,hw1,hge,hnl,plain_tk,h16z,vcs,Ka,Kb,Kc,Kd,Ke,Kf,Kg,Kh,Ki,Kj,Kk,Kl,Km,reduceCtorEq,reduceIte,Kn,Ko,Kp,Kq,Kr,Ks,tys] | exact rfl | refine call_off (v := .any) ?_ | (refine call_fn_full ?_ [b0] (hone b0 _ _ ?_ only_mem (by omega)) ?_ ?_) | ((first | apply cond_bool | apply cond_bit) <;> intro hb) | refine And.intro (by omega) ?_ | refine And.intro (fun hb => ?_) (fun hb => ?_)
              all_goals ((refine again_can2F cxG (⟨xl ++ [⟨k, n, [], x⟩], r⟩) [some b0, some (b0 + 624)] ?_ ?_ ?_ ?_; rotate_left 2; (focus (show b0 ≤ _; omega)); (focus (refine ⟨?_, ?_⟩ <;> (try simp only [cans,canfs,isRow_inst,plain_pr,plain_tk,hnx,hnl1,tkC,List.map_nil,finLL_plain _ _ (plain_tk _),finLLOk_plain _ _ (plain_tk _),List.length_map,vcs,Ka,Kb,Kc,Kd,Ke,Kf,Kg,Kh,Ki,Kj,Kk,Kl,Km,reduceCtorEq,reduceIte,Kn,Ko,Kp,Kq,Kr,Ks,tys,injs]) <;> (try omega)))))
              all_goals (first | exact ⟨g1, k2, by show r.length ≤ s.length; omega, by show (xl ++ [_]).length ≤ 512; simp; omega⟩ | (show r.length < xr.length; omega) | exact .inr (hle _ _ _ _ _ (by simp [V.le])) | exact .inr (hle _ _ _ _ _ (V.le_refl _)) | skip)
            · obtain ⟨k, n, l, x⟩ := t
              dsimp only at ha hone
              subst ha
              by_cases h16 : 16 < l.length
              · rw [lexG_great hnil (by omega) ho h16] at g1
                cases g1
                have h16d : decide ((16 : Int) < (l.length : Int)) = true := decide_eq_true (by omega)
                unfold srcK at hone
                (repeat' first | simp only [fins,mems,Tryz.results8,Tryz.ntmps8,Kt,wks,fresh_self,hne,Bool.not_false,hw1,hge,hnl,plain_tk,h16d,List.length_map,vcs,Ka,Kb,Kc,Kd,Ke,Kf,Kg,Kh,Ki,Kj,Kk,Kl,Km,reduceCtorEq,reduceIte,Kn,Ko,Kp,Kq,Kr,Ks,tys] | exact rfl | refine call_off (v := .any) ?_ | (refine call_fn_full ?_ [b0] (hone b0 _ _ ?_ only_mem (by omega)) ?_ ?_) | ((first | apply cond_bool | apply cond_bit) <;> intro hb) | refine And.intro (by omega) ?_ | refine And.intro (fun hb => ?_) (fun hb => ?_) | refine Fin.pure ?_ ?_ ?_ | simp only [injs])
              · have h16d : decide ((16 : Int) < (l.length : Int)) = false := decide_eq_false (by omega)
                obtain ⟨k1, k2, k3, k4, k5⟩ := one_may hnil ho g2 (by omega) (show l.length ≤ 16 by omega)
                rw [lexG_go hnil (by omega) ho (show l.length ≤ 16 by omega)] at g1
                unfold srcK at hone
                have htp : (l.map prC).take l.length = l.map prC := List.take_of_length_le (by simp)
                repeat' first | simp only [fins,mems,Tryz.results8,Tryz.ntmps8,Kt,wks,fresh_self,hne,Bool.not_false,hw1,hge,hnl,plain_tk,plain_pr,h16d,List.length_map,vcs,Ka,Kb,Kc,Kd,Ke,Kf,Kg,Kh,Ki,Kj,Kk,Kl,Km,reduceCtorEq,reduceIte,Kn,Ko,Kp,Kq,Kr,Ks,tys] | exact rfl | refine call_off (v := .any) ?_ | (refine call_fn_full ?_ [b0] (hone b0 _ _ ?_ only_mem (by omega)) ?_ ?_) | ((first | apply cond_bool | apply cond_bit) <;> intro hb) | refine And.intro (by omega) ?_ | refine And.intro (fun hb => ?_) (fun hb => ?_)
                all_goals ((refine again_can2F cxG (⟨xl ++ [⟨k, n, l, []⟩], r⟩) [some b0, some (b0 + 624)] ?_ ?_ ?_ ?_; rotate_left 2; (focus (show b0 ≤ _; omega)); (focus (refine ⟨?_, ?_⟩ <;> (try simp only [cans,canfs,isRow_inst,plain_pr,plain_tk,hnx,hnl1,htp,tkC,finLL_plain _ _ (plain_tk _),finLLOk_plain _ _ (plain_tk _),List.length_map,vcs,Ka,Kb,Kc,Kd,Ke,Kf,Kg,Kh,Ki,Kj,Kk,Kl,Km,reduceCtorEq,reduceIte,Kn,Ko,Kp,Kq,Kr,Ks,tys,injs]) <;> (try omega)))))
                all_goals (first | exact ⟨g1, k2, by show r.length ≤ s.length; omega, by show (xl ++ [_]).length ≤ 512; simp; omega⟩ | (show r.length < xr.length; omega) | exact .inr (hle _ _ _ _ _ (by simp [V.le])) | exact .inr (hle _ _ _ _ _ (V.le_refl _)) | skip)
  · have hA : lexA s = ([], 0, ptsErr s) := by unfold lexA; rw [if_pos (by simpa using hp)]
    have hb : (ptsErr s != 0) = true := by simpa using hp
    rw [hA]
    unfold lexV
    refine ev_go rfl (fun cargs w => Tryz.call8 cargs w) Tryz.func8 rfl mixed (by kernel_rfl) rfl ?_; intro b0 hb0
    (repeat' first | simp only [fins,mems,Tryz.results8,Tryz.ntmps8,Kt,wks,hb,vcs,Ka,Kb,Kc,Kd,Ke,Kf,Kg,Kh,Ki,Kj,Kk,Kl,Km,reduceCtorEq,reduceIte,Kn,Ko,Kp,Kq,Kr,Ks,tys] | exact rfl | refine call_off (v := .any) ?_ | (first | (refine call_fn ?_ (hck _) ?_) | (refine call_fn_g ?_ (fun _ => hck _) ?_)) | ((first | apply cond_bool | apply cond_bit) <;> intro hb) | refine And.intro (by omega) ?_ | refine And.intro (fun hb => ?_) (fun hb => ?_) | refine Fin.pure ?_ ?_ ?_ | simp only [injs])
end Go.Proofs.YtoaclokiggoeiaaGreatDoor
