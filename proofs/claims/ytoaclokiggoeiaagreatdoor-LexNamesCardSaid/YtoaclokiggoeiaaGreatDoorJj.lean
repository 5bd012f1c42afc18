/-
  Texts joined: XEb, XEf, XEg.
-/
import Derived.Test.YtoaclokiggoeiaaGreatDoorJf
import Derived.Test.YtoaclokiggoeiaaGreatDoorJe
import Derived.Test.YtoaclokiggoeiaaGreatDoorJg
namespace Go.Proofs.YtoaclokiggoeiaaGreatDoor
set_option maxRecDepth 100000
set_option maxHeartbeats 32000000
set_option linter.unusedSimpArgs false
set_option linter.unusedVariables false
open Nat renaming reduceAdd → Ka, reduceMul → Kb, reduceEqDiff → Kc, reduceLeDiff → Kd, reduceSub → Ke, reduceLT → Kf, reduceBEq → Kr, reduceBNe → Ks, reducePow → Kt
open Int renaming reduceToNat → Kg, reduceLE → Kh, reduceLT → Ki, reduceAdd → Kj, reduceSub → Kk, reduceMul → Kl, reduceNeg → Km, reduceBEq → Kn, reduceBNe → Ko, reduceEq → Kp, reduceNe → Kq
open Go Go.RowKit Go.Proofs.YtoaclokiggoeiaaGreatDoor.Vm
theorem noEsc_ev (v : V) (M : Mem) (nm : Nat) : Ev cx 72 nm [v] M v [] :=
  Ev.noEscape Tryz.func72 (by kernel_rfl) (by kernel_rfl) (by kernel_rfl) (by kernel_rfl) v M nm
theorem fresh_self (n : Nat) : Fresh n n = True := eq_true ⟨Nat.le_refl _, by omega⟩
def bK (used : Bool) (q : Nat) (c : V) : Blk := if used then ⟨2, [[.ptr q 0 0, c]]⟩ else @Blk.mk 2 [[.nilp, c]] (.typed 69)
theorem bK_t (q : Nat) (c : V) : bK true q c = ⟨2, [[.ptr q 0 0, c]]⟩ := rfl
theorem bK_f (q : Nat) (c : V) : bK false q c = @Blk.mk 2 [[.nilp, c]] (.typed 69) := rfl
theorem inf_b : (cx.P.info? 69).isSome = true := by kernel_rfl
theorem copyN_ev (used : Bool) (q : Nat) (M : Mem) (nm : Nat) (hq : M q = some (bK used q .nils)) (ho : ∀ z, (M z).isSome = true → z ∈ [q]) (hn : q < nm) :
    Ev cx 52 nm [.ptr q 0 0] M (.tup []) [(q, some (bK true q .nils))] := by
  cases used with
  | false =>
    refine ev_go rfl (fun cargs w => Tryz.call52 cargs w) Tryz.func52 rfl mixed (by kernel_rfl) rfl ?_; intro b0 hb0
    have lq : q < b0 := below_of hb0 (by rw [hq]; rfl)
    have z0 := lt_ne lq; have z1 := lt_ne_add lq; have z2 := lt_ne' lq; have z3 := lt_ne_add' lq
    repeat' first | simp only [fins,mems,Tryz.results52,Tryz.ntmps52,Kt,wks,inf_b,bK_t,bK_f,hq,z0,z1,z2,z3,vcs,Ka,Kb,Kc,Kd,Ke,Kf,Kg,Kh,Ki,Kj,Kk,Kl,Km,reduceCtorEq,reduceIte,Kn,Ko,Kp,Kq,Kr,Ks,tys,TypeDesc.pointer.injEq,exists_eq_left'] | exact rfl | refine call_off (v := .any) ?_ | (first | (refine call_fn ?_ (noEsc_ev (.ptr q 0 0) Mem.nil _) ?_) | (refine call_fn_g ?_ (fun _ => noEsc_ev (.ptr q 0 0) Mem.nil _) ?_)) | (refine ext_toUnsafe (y := ?_) (sz := ?_) (row := ?_) (rows := ?_) (o := ?_) (te := ?_) ?_ ?_ ?_ ?_ ?_ ?_ ?_ ?_; rotate_left 6; (iterate 2 (focus (simp only [Tryz.results52,Tryz.ntmps52,Kt,wks,inf_b,bK_t,bK_f,hq,z0,z1,z2,z3,vcs,Ka,Kb,Kc,Kd,Ke,Kf,Kg,Kh,Ki,Kj,Kk,Kl,Km,reduceCtorEq,reduceIte,Kn,Ko,Kp,Kq,Kr,Ks,tys,TypeDesc.pointer.injEq,exists_eq_left'] <;> exact rfl))); (focus (exact rfl)); (focus (omega)); (iterate 2 (focus (simp only [Tryz.results52,Tryz.ntmps52,Kt,wks,inf_b,bK_t,bK_f,hq,z0,z1,z2,z3,vcs,Ka,Kb,Kc,Kd,Ke,Kf,Kg,Kh,Ki,Kj,Kk,Kl,Km,reduceCtorEq,reduceIte,Kn,Ko,Kp,Kq,Kr,Ks,tys,TypeDesc.pointer.injEq,exists_eq_left'] <;> exact rfl))); (focus (kernel_rfl))) | (refine extG_true ?_) | (refine extG_false ?_) | (refine ext_fromUnsafe (y := ?_) (sz := ?_) (row := ?_) (rows := ?_) (u := ?_) ?_ ?_ ?_ ?_ ?_ ?_ ?_ ?_; rotate_left 5; (iterate 2 (focus (simp only [Tryz.results52,Tryz.ntmps52,Kt,wks,inf_b,bK_t,bK_f,hq,z0,z1,z2,z3,vcs,Ka,Kb,Kc,Kd,Ke,Kf,Kg,Kh,Ki,Kj,Kk,Kl,Km,reduceCtorEq,reduceIte,Kn,Ko,Kp,Kq,Kr,Ks,tys,TypeDesc.pointer.injEq,exists_eq_left'] <;> exact rfl))); (focus (omega)); (iterate 2 (focus (simp only [Tryz.results52,Tryz.ntmps52,Kt,wks,inf_b,bK_t,bK_f,hq,z0,z1,z2,z3,vcs,Ka,Kb,Kc,Kd,Ke,Kf,Kg,Kh,Ki,Kj,Kk,Kl,Km,reduceCtorEq,reduceIte,Kn,Ko,Kp,Kq,Kr,Ks,tys,TypeDesc.pointer.injEq,exists_eq_left'] <;> exact rfl))); (iterate 2 (focus (kernel_rfl)))) | ((first | apply cond_bool | apply cond_bit) <;> intro hb) | refine And.intro (by omega) ?_ | refine And.intro (fun hb => ?_) (fun hb => ?_)
    all_goals ((refine Fin.give [(q, none)] [] ?_ ?_ ?_ ?_ ?_ (fun q hq => by have hqq := ho q hq; first | (simp only [gives,tgt,List.map_cons,List.map_nil,List.mem_cons,List.not_mem_nil,or_false] at hqq ⊢; omega) | (simp only [gives,tgt,List.map_cons,List.map_nil,List.mem_cons,List.not_mem_nil,or_false] at hqq)) <;> (try simp only [Tryz.results52,Tryz.ntmps52,wks,inf_b,bK_t,bK_f,hq,z0,z1,z2,z3,giv,vcs,Ka,Kb,Kc,Kd,Ke,Kf,Kg,Kh,Ki,Kj,Kk,Kl,Km,reduceCtorEq,reduceIte,Kn,Ko,Kp,Kq,Kr,Ks,tys,TypeDesc.pointer.injEq,exists_eq_left']) <;> (try simp only [injs]) <;> (try omega)))
  | true =>
    refine ev_go rfl (fun cargs w => Tryz.call52 cargs w) Tryz.func52 rfl mixed (by kernel_rfl) rfl ?_; intro b0 hb0
    have lq : q < b0 := below_of hb0 (by rw [hq]; rfl)
    have z0 := lt_ne lq; have z1 := lt_ne_add lq; have z2 := lt_ne' lq; have z3 := lt_ne_add' lq
    repeat' first | simp only [fins,mems,Tryz.results52,Tryz.ntmps52,Kt,wks,inf_b,bK_t,bK_f,hq,z0,z1,z2,z3,vcs,Ka,Kb,Kc,Kd,Ke,Kf,Kg,Kh,Ki,Kj,Kk,Kl,Km,reduceCtorEq,reduceIte,Kn,Ko,Kp,Kq,Kr,Ks,tys,TypeDesc.pointer.injEq,exists_eq_left'] | exact rfl | refine call_off (v := .any) ?_ | ((first | apply cond_bool | apply cond_bit) <;> intro hb) | refine And.intro (by omega) ?_ | refine And.intro (fun hb => ?_) (fun hb => ?_)
    all_goals ((refine Fin.give [(q, none)] [] ?_ ?_ ?_ ?_ ?_ (fun q hq => by have hqq := ho q hq; first | (simp only [gives,tgt,List.map_cons,List.map_nil,List.mem_cons,List.not_mem_nil,or_false] at hqq ⊢; omega) | (simp only [gives,tgt,List.map_cons,List.map_nil,List.mem_cons,List.not_mem_nil,or_false] at hqq)) <;> (try simp only [Tryz.results52,Tryz.ntmps52,wks,inf_b,bK_t,bK_f,hq,z0,z1,z2,z3,giv,vcs,Ka,Kb,Kc,Kd,Ke,Kf,Kg,Kh,Ki,Kj,Kk,Kl,Km,reduceCtorEq,reduceIte,Kn,Ko,Kp,Kq,Kr,Ks,tys,TypeDesc.pointer.injEq,exists_eq_left']) <;> (try simp only [injs]) <;> (try omega)))
theorem ren_bytes (σ : List (Nat × Nat)) (bs : List UInt8) (t : TypeId) : Blk.ren σ (@Blk.mk 1 (bs.map byteRow) (.typed t)) = @Blk.mk 1 (bs.map byteRow) (.typed t) := by
  have h : plainLL (bs.map byteRow) = true := plainLL_map _ (fun _ => rfl) bs
  simp only [Blk.ren,renLL,h,if_true]
theorem renOk_bytes (σ : List (Nat × Nat)) (bs : List UInt8) (t : TypeId) : Blk.renOk σ (@Blk.mk 1 (bs.map byteRow) (.typed t)) = true := by
  have h : plainLL (bs.map byteRow) = true := plainLL_map _ (fun _ => rfl) bs
  simp only [Blk.renOk,renOkLL,h,Bool.true_or,Bool.true_and]
  rfl
theorem ren_cons (σ : List (Nat × Nat)) (c : UInt8) (bs : List UInt8) (t : TypeId) : Blk.ren σ (@Blk.mk 1 (byteRow c :: bs.map byteRow) (.typed t)) = @Blk.mk 1 (byteRow c :: bs.map byteRow) (.typed t) := ren_bytes σ (c :: bs) t
theorem renOk_cons (σ : List (Nat × Nat)) (c : UInt8) (bs : List UInt8) (t : TypeId) : Blk.renOk σ (@Blk.mk 1 (byteRow c :: bs.map byteRow) (.typed t)) = true := renOk_bytes σ (c :: bs) t
theorem ren_snoc (σ : List (Nat × Nat)) (c : UInt8) (bs : List UInt8) (t : TypeId) : Blk.ren σ (@Blk.mk 1 (bs.map byteRow ++ [[.int .u8 c.toNat]]) (.typed t)) = @Blk.mk 1 (bs.map byteRow ++ [[.int .u8 c.toNat]]) (.typed t) := by
  have := ren_bytes σ (bs ++ [c]) t
  rwa [List.map_append] at this
theorem renOk_snoc (σ : List (Nat × Nat)) (c : UInt8) (bs : List UInt8) (t : TypeId) : Blk.renOk σ (@Blk.mk 1 (bs.map byteRow ++ [[.int .u8 c.toNat]]) (.typed t)) = true := by
  have := renOk_bytes σ (bs ++ [c]) t
  rwa [List.map_append] at this
theorem ren_mkT (σ : List (Nat × Nat)) (s : Nat) (rows : List (List V)) (t : TypeId) : Blk.ren σ (@Blk.mk s rows (.typed t)) = @Blk.mk s (renLL σ rows) (.typed t) := rfl
theorem renOk_mkT (σ : List (Nat × Nat)) (s : Nat) (rows : List (List V)) (t : TypeId) : Blk.renOk σ (@Blk.mk s rows (.typed t)) = renOkLL σ rows := by
  simp only [Blk.renOk,Ob.renOk,Bool.and_true]
theorem plain_bs (bs : List UInt8) : plainLL (bs.map byteRow) = true := plainLL_map _ (fun _ => rfl) bs
theorem one_b (c : UInt8) : (byteRow c).all V.one = true := rfl
theorem one_bs (bs : List UInt8) : ((bs.map byteRow).all fun r => r.all V.one) = true := by
  rw [List.all_eq_true]
  intro r hr
  obtain ⟨c, _, rfl⟩ := List.mem_map.1 hr
  rfl
def rK (bs : List UInt8) : Blk := @Blk.mk 1 (bs.map byteRow) (.typed 5)
theorem copyO_ev (used : Bool) (q y n : Nat) (bs : List UInt8) (M : Mem) (nm : Nat) (hqy : q ≠ y) (hq : M q = some (bK used q (.own y 0 n))) (hy : M y = some (rK bs)) (ho : ∀ z, (M z).isSome = true → z ∈ [q, y]) (hn : q < nm) (hny : y < nm) :
    Ev cx 52 nm [.ptr q 0 0] M (.tup []) [(q, some (bK true q (.own y 0 n))), (y, some (rK bs))] := by
  have yz : (y = q) = False := eq_false (fun h => hqy h.symm)
  have zy : (q = y) = False := eq_false hqy
  cases used with
  | false =>
    refine ev_go rfl (fun cargs w => Tryz.call52 cargs w) Tryz.func52 rfl mixed (by kernel_rfl) rfl ?_; intro b0 hb0
    have lq : q < b0 := below_of hb0 (by rw [hq]; rfl)
    have ly : y < b0 := below_of hb0 (by rw [hy]; rfl)
    have y0 := lt_ne ly; have y1 := lt_ne_add ly; have y2 := lt_ne' ly; have y3 := lt_ne_add' ly
    have z0 := lt_ne lq; have z1 := lt_ne_add lq; have z2 := lt_ne' lq; have z3 := lt_ne_add' lq
    repeat' first | simp only [fins,mems,Tryz.results52,Tryz.ntmps52,Kt,wks,inf_b,bK_t,bK_f,hq,hy,y0,y1,y2,y3,yz,zy,z0,z1,z2,z3,vcs,Ka,Kb,Kc,Kd,Ke,Kf,Kg,Kh,Ki,Kj,Kk,Kl,Km,reduceCtorEq,reduceIte,Kn,Ko,Kp,Kq,Kr,Ks,tys,TypeDesc.pointer.injEq,exists_eq_left'] | exact rfl | refine call_off (v := .any) ?_ | (first | (refine call_fn ?_ (noEsc_ev (.ptr q 0 0) Mem.nil _) ?_) | (refine call_fn_g ?_ (fun _ => noEsc_ev (.ptr q 0 0) Mem.nil _) ?_)) | (refine ext_toUnsafe (y := ?_) (sz := ?_) (row := ?_) (rows := ?_) (o := ?_) (te := ?_) ?_ ?_ ?_ ?_ ?_ ?_ ?_ ?_; rotate_left 6; (iterate 2 (focus (simp only [Tryz.results52,Tryz.ntmps52,Kt,wks,inf_b,bK_t,bK_f,hq,hy,y0,y1,y2,y3,yz,zy,z0,z1,z2,z3,vcs,Ka,Kb,Kc,Kd,Ke,Kf,Kg,Kh,Ki,Kj,Kk,Kl,Km,reduceCtorEq,reduceIte,Kn,Ko,Kp,Kq,Kr,Ks,tys,TypeDesc.pointer.injEq,exists_eq_left'] <;> exact rfl))); (focus (exact rfl)); (focus (omega)); (iterate 2 (focus (simp only [Tryz.results52,Tryz.ntmps52,Kt,wks,inf_b,bK_t,bK_f,hq,hy,y0,y1,y2,y3,yz,zy,z0,z1,z2,z3,vcs,Ka,Kb,Kc,Kd,Ke,Kf,Kg,Kh,Ki,Kj,Kk,Kl,Km,reduceCtorEq,reduceIte,Kn,Ko,Kp,Kq,Kr,Ks,tys,TypeDesc.pointer.injEq,exists_eq_left'] <;> exact rfl))); (focus (kernel_rfl))) | (refine extG_true ?_) | (refine extG_false ?_) | (refine ext_fromUnsafe (y := ?_) (sz := ?_) (row := ?_) (rows := ?_) (u := ?_) ?_ ?_ ?_ ?_ ?_ ?_ ?_ ?_; rotate_left 5; (iterate 2 (focus (simp only [Tryz.results52,Tryz.ntmps52,Kt,wks,inf_b,bK_t,bK_f,hq,hy,y0,y1,y2,y3,yz,zy,z0,z1,z2,z3,vcs,Ka,Kb,Kc,Kd,Ke,Kf,Kg,Kh,Ki,Kj,Kk,Kl,Km,reduceCtorEq,reduceIte,Kn,Ko,Kp,Kq,Kr,Ks,tys,TypeDesc.pointer.injEq,exists_eq_left'] <;> exact rfl))); (focus (omega)); (iterate 2 (focus (simp only [Tryz.results52,Tryz.ntmps52,Kt,wks,inf_b,bK_t,bK_f,hq,hy,y0,y1,y2,y3,yz,zy,z0,z1,z2,z3,vcs,Ka,Kb,Kc,Kd,Ke,Kf,Kg,Kh,Ki,Kj,Kk,Kl,Km,reduceCtorEq,reduceIte,Kn,Ko,Kp,Kq,Kr,Ks,tys,TypeDesc.pointer.injEq,exists_eq_left'] <;> exact rfl))); (iterate 2 (focus (kernel_rfl)))) | ((first | apply cond_bool | apply cond_bit) <;> intro hb) | refine And.intro (by omega) ?_ | refine And.intro (fun hb => ?_) (fun hb => ?_)
    all_goals ((refine Fin.give [(q, none), (y, none)] [] ?_ ?_ ?_ ?_ ?_ (fun q hq => by have hqq := ho q hq; first | (simp only [gives,tgt,List.map_cons,List.map_nil,List.mem_cons,List.not_mem_nil,or_false] at hqq ⊢; omega) | (simp only [gives,tgt,List.map_cons,List.map_nil,List.mem_cons,List.not_mem_nil,or_false] at hqq)) <;> (try simp only [Tryz.results52,Tryz.ntmps52,wks,rK,ren_bytes,renOk_bytes,ite_self,Bool.false_and,Bool.false_eq_true,if_false,bK_t,bK_f,hq,hy,y0,y1,y2,y3,yz,zy,z0,z1,z2,z3,giv,vcs,Ka,Kb,Kc,Kd,Ke,Kf,Kg,Kh,Ki,Kj,Kk,Kl,Km,reduceCtorEq,reduceIte,Kn,Ko,Kp,Kq,Kr,Ks,tys,TypeDesc.pointer.injEq,exists_eq_left']) <;> (try simp only [injs]) <;> (try omega)))
  | true =>
    refine ev_go rfl (fun cargs w => Tryz.call52 cargs w) Tryz.func52 rfl mixed (by kernel_rfl) rfl ?_; intro b0 hb0
    have lq : q < b0 := below_of hb0 (by rw [hq]; rfl)
    have ly : y < b0 := below_of hb0 (by rw [hy]; rfl)
    have y0 := lt_ne ly; have y1 := lt_ne_add ly; have y2 := lt_ne' ly; have y3 := lt_ne_add' ly
    have z0 := lt_ne lq; have z1 := lt_ne_add lq; have z2 := lt_ne' lq; have z3 := lt_ne_add' lq
    repeat' first | simp only [fins,mems,Tryz.results52,Tryz.ntmps52,Kt,wks,inf_b,bK_t,bK_f,hq,hy,y0,y1,y2,y3,yz,zy,z0,z1,z2,z3,vcs,Ka,Kb,Kc,Kd,Ke,Kf,Kg,Kh,Ki,Kj,Kk,Kl,Km,reduceCtorEq,reduceIte,Kn,Ko,Kp,Kq,Kr,Ks,tys,TypeDesc.pointer.injEq,exists_eq_left'] | exact rfl | refine call_off (v := .any) ?_ | ((first | apply cond_bool | apply cond_bit) <;> intro hb) | refine And.intro (by omega) ?_ | refine And.intro (fun hb => ?_) (fun hb => ?_)
    all_goals ((refine Fin.give [(q, none), (y, none)] [] ?_ ?_ ?_ ?_ ?_ (fun q hq => by have hqq := ho q hq; first | (simp only [gives,tgt,List.map_cons,List.map_nil,List.mem_cons,List.not_mem_nil,or_false] at hqq ⊢; omega) | (simp only [gives,tgt,List.map_cons,List.map_nil,List.mem_cons,List.not_mem_nil,or_false] at hqq)) <;> (try simp only [Tryz.results52,Tryz.ntmps52,wks,rK,ren_bytes,renOk_bytes,ite_self,Bool.false_and,Bool.false_eq_true,if_false,bK_t,bK_f,hq,hy,y0,y1,y2,y3,yz,zy,z0,z1,z2,z3,giv,vcs,Ka,Kb,Kc,Kd,Ke,Kf,Kg,Kh,Ki,Kj,Kk,Kl,Km,reduceCtorEq,reduceIte,Kn,Ko,Kp,Kq,Kr,Ks,tys,TypeDesc.pointer.injEq,exists_eq_left']) <;> (try simp only [injs]) <;> (try omega)))
theorem wStrN_ev (used : Bool) (q : Nat) (s : List UInt8) (hs : s ≠ []) (hl : s.length ≤ lim) (M : Mem) (nm : Nat) (hq : M q = some (bK used q .nils)) (ho : ∀ z, (M z).isSome = true → z ∈ [q]) (hn : q < nm) :
    Ev cx 35 nm [.ptr q 0 0, .str s] M (.tup [.int .i64 s.length, .val .nilIface]) [(q, some (bK true q (.own nm 0 s.length))), (nm, some (rK s))] := by
  unfold lim at hl
  refine ev_go rfl (fun cargs w => Tryz.call35 cargs w) Tryz.func35 rfl mixed (by kernel_rfl) rfl ?_; intro b0 hb0
  have lq : q < b0 := below_of hb0 (by rw [hq]; rfl)
  have z0 := lt_ne lq; have z1 := lt_ne_add lq; have z2 := lt_ne' lq; have z3 := lt_ne_add' lq
  obtain ⟨c, s, rfl⟩ := List.exists_cons_of_ne_nil hs
  repeat' first | simp only [fins,mems,Tryz.results35,Tryz.ntmps35,Kt,wks,bK_t,hq,z0,z1,z2,z3,vcs,Ka,Kb,Kc,Kd,Ke,Kf,Kg,Kh,Ki,Kj,Kk,Kl,Km,reduceCtorEq,reduceIte,Kn,Ko,Kp,Kq,Kr,Ks,tys,TypeDesc.pointer.injEq,exists_eq_left'] | exact rfl | refine call_off (v := .any) ?_ | (refine call_fn_full ?_ [[q]] (copyN_ev used q _ _ ?_ only_mem (by omega)) ?_ ?_) | ((first | apply cond_bool | apply cond_bit) <;> intro hb) | refine And.intro (by omega) ?_ | refine And.intro (fun hb => ?_) (fun hb => ?_)
  refine call_fn_full ?_ [q] (copyN_ev used q _ _ ?_ only_mem (by omega)) ?_ ?_
  · simp only [vcs,Ka,Kb,Kc,Kd,Ke,Kf,Kg,Kh,Ki,Kj,Kk,Kl,Km,reduceCtorEq,reduceIte,Kn,Ko,Kp,Kq,Kr,Ks,tys,TypeDesc.pointer.injEq,exists_eq_left']
  · simp only [only_at,List.mem_cons,List.not_mem_nil,hq,vcs,Ka,Kb,Kc,Kd,Ke,Kf,Kg,Kh,Ki,Kj,Kk,Kl,Km,reduceCtorEq,reduceIte,Kn,Ko,Kp,Kq,Kr,Ks,tys,TypeDesc.pointer.injEq,exists_eq_left']
  · simp only [List.mem_cons,List.not_mem_nil,forall_eq,forall_eq_or_imp,hq,vcs,Ka,Kb,Kc,Kd,Ke,Kf,Kg,Kh,Ki,Kj,Kk,Kl,Km,reduceCtorEq,reduceIte,Kn,Ko,Kp,Kq,Kr,Ks,tys,TypeDesc.pointer.injEq,exists_eq_left']
  simp only [List.length_cons] at hl
  repeat' first | simp only [fins,mems,Tryz.results35,Tryz.ntmps35,Kt,wks,bK_t,hq,z0,z1,z2,z3,one_b,one_bs,List.length_map,vcs,Ka,Kb,Kc,Kd,Ke,Kf,Kg,Kh,Ki,Kj,Kk,Kl,Km,reduceCtorEq,reduceIte,Kn,Ko,Kp,Kq,Kr,Ks,tys,TypeDesc.pointer.injEq,exists_eq_left'] | exact rfl | refine call_off (v := .any) ?_ | ((first | apply cond_bool | apply cond_bit) <;> intro hb) | refine And.intro (by omega) ?_ | refine And.intro (fun hb => ?_) (fun hb => ?_)
  all_goals ((refine Fin.give [(q, none), (b0 + 160, some 0)] [] ?_ ?_ ?_ ?_ ?_ (fun q hq => by have hqq := ho q hq; first | (simp only [gives,tgt,List.map_cons,List.map_nil,List.mem_cons,List.not_mem_nil,or_false] at hqq ⊢; omega) | (simp only [gives,tgt,List.map_cons,List.map_nil,List.mem_cons,List.not_mem_nil,or_false] at hqq)) <;> (try simp only [Tryz.results35,Tryz.ntmps35,wks,rK,ren_cons,renOk_cons,ren_bytes,renOk_bytes,ite_self,Bool.false_and,Bool.false_eq_true,if_false,bK_t,hq,z0,z1,z2,z3,fresh_self,giv,vcs,Ka,Kb,Kc,Kd,Ke,Kf,Kg,Kh,Ki,Kj,Kk,Kl,Km,reduceCtorEq,reduceIte,Kn,Ko,Kp,Kq,Kr,Ks,tys,TypeDesc.pointer.injEq,exists_eq_left']) <;> (try simp only [injs]) <;> (try omega)))
theorem wStrO_ev (used : Bool) (q y : Nat) (bs s : List UInt8) (hl : bs.length + s.length ≤ lim) (M : Mem) (nm : Nat) (hqy : q ≠ y) (hq : M q = some (bK used q (.own y 0 bs.length))) (hy : M y = some (rK bs)) (ho : ∀ z, (M z).isSome = true → z ∈ [q, y]) (hn : q < nm) (hny : y < nm) :
    Ev cx 35 nm [.ptr q 0 0, .str s] M (.tup [.int .i64 s.length, .val .nilIface]) [(y, none), (q, some (bK true q (.own nm 0 (bs.length + s.length)))), (nm, some (rK (bs ++ s)))] := by
  unfold lim at hl
  have yz : (y = q) = False := eq_false (fun h => hqy h.symm)
  have zy : (q = y) = False := eq_false hqy
  refine ev_go rfl (fun cargs w => Tryz.call35 cargs w) Tryz.func35 rfl mixed (by kernel_rfl) rfl ?_; intro b0 hb0
  have lq : q < b0 := below_of hb0 (by rw [hq]; rfl)
  have ly : y < b0 := below_of hb0 (by rw [hy]; rfl)
  have y0 := lt_ne ly; have y1 := lt_ne_add ly; have y2 := lt_ne' ly; have y3 := lt_ne_add' ly
  have z0 := lt_ne lq; have z1 := lt_ne_add lq; have z2 := lt_ne' lq; have z3 := lt_ne_add' lq
  repeat' first | simp only [fins,mems,Tryz.results35,Tryz.ntmps35,Kt,wks,bK_t,hq,z0,z1,z2,z3,vcs,Ka,Kb,Kc,Kd,Ke,Kf,Kg,Kh,Ki,Kj,Kk,Kl,Km,reduceCtorEq,reduceIte,Kn,Ko,Kp,Kq,Kr,Ks,tys,TypeDesc.pointer.injEq,exists_eq_left'] | exact rfl | refine call_off (v := .any) ?_ | ((first | apply cond_bool | apply cond_bit) <;> intro hb) | refine And.intro (by omega) ?_ | refine And.intro (fun hb => ?_) (fun hb => ?_)
  refine call_fn_full ?_ [q, y] (copyO_ev used q y bs.length bs _ _ hqy ?_ ?_ only_mem (by omega) (by omega)) ?_ ?_
  · simp only [vcs,Ka,Kb,Kc,Kd,Ke,Kf,Kg,Kh,Ki,Kj,Kk,Kl,Km,reduceCtorEq,reduceIte,Kn,Ko,Kp,Kq,Kr,Ks,tys,TypeDesc.pointer.injEq,exists_eq_left']
  · simp only [only_at,List.mem_cons,List.not_mem_nil,true_or,or_true,hq,hy,yz,zy,vcs,Ka,Kb,Kc,Kd,Ke,Kf,Kg,Kh,Ki,Kj,Kk,Kl,Km,reduceCtorEq,reduceIte,Kn,Ko,Kp,Kq,Kr,Ks,tys,TypeDesc.pointer.injEq,exists_eq_left']
  · simp only [only_at,List.mem_cons,List.not_mem_nil,true_or,or_true,hq,hy,yz,zy,vcs,Ka,Kb,Kc,Kd,Ke,Kf,Kg,Kh,Ki,Kj,Kk,Kl,Km,reduceCtorEq,reduceIte,Kn,Ko,Kp,Kq,Kr,Ks,tys,TypeDesc.pointer.injEq,exists_eq_left']
  · simp only [List.mem_cons,List.not_mem_nil,forall_eq,forall_eq_or_imp,true_or,or_true,hq,hy,yz,zy,vcs,Ka,Kb,Kc,Kd,Ke,Kf,Kg,Kh,Ki,Kj,Kk,Kl,Km,reduceCtorEq,reduceIte,Kn,Ko,Kp,Kq,Kr,Ks,tys,TypeDesc.pointer.injEq,exists_eq_left']
  repeat' first | simp only [fins,mems,Tryz.results35,Tryz.ntmps35,Kt,wks,rK,bK_t,hq,hy,yz,zy,y0,y1,y2,y3,z0,z1,z2,z3,one_b,one_bs,List.length_map,List.take_of_length_le,Nat.le_refl,List.map_append.symm,vcs,Ka,Kb,Kc,Kd,Ke,Kf,Kg,Kh,Ki,Kj,Kk,Kl,Km,reduceCtorEq,reduceIte,Kn,Ko,Kp,Kq,Kr,Ks,tys,TypeDesc.pointer.injEq,exists_eq_left'] | exact rfl | refine call_off (v := .any) ?_ | ((first | apply cond_bool | apply cond_bit) <;> intro hb) | refine And.intro (by omega) ?_ | refine And.intro (fun hb => ?_) (fun hb => ?_)
  all_goals ((refine Fin.give [(q, none), (b0 + 160, some 0)] [y] ?_ ?_ ?_ ?_ ?_ (fun q hq => by have hqq := ho q hq; first | (simp only [gives,tgt,List.map_cons,List.map_nil,List.mem_cons,List.not_mem_nil,or_false] at hqq ⊢; omega) | (simp only [gives,tgt,List.map_cons,List.map_nil,List.mem_cons,List.not_mem_nil,or_false] at hqq)) <;> (try simp only [Tryz.results35,Tryz.ntmps35,wks,rK,Option.bind_some,ren_bytes,renOk_bytes,ite_self,Bool.false_and,Bool.false_eq_true,if_false,bK_t,hq,hy,yz,zy,y0,y1,y2,y3,z0,z1,z2,z3,fresh_self,giv,vcs,Ka,Kb,Kc,Kd,Ke,Kf,Kg,Kh,Ki,Kj,Kk,Kl,Km,reduceCtorEq,reduceIte,Kn,Ko,Kp,Kq,Kr,Ks,tys,TypeDesc.pointer.injEq,exists_eq_left']) <;> (try simp only [injs]) <;> (try omega)))
theorem wByteO_ev (used : Bool) (q y : Nat) (bs : List UInt8) (c : UInt8) (hl : bs.length + 1 ≤ lim) (M : Mem) (nm : Nat) (hqy : q ≠ y) (hq : M q = some (bK used q (.own y 0 bs.length))) (hy : M y = some (rK bs)) (ho : ∀ z, (M z).isSome = true → z ∈ [q, y]) (hn : q < nm) (hny : y < nm) :
    Ev cx 54 nm [.ptr q 0 0, .int .u8 c.toNat] M (.val .nilIface) [(y, none), (q, some (bK true q (.own nm 0 (bs.length + 1)))), (nm, some (rK (bs ++ [c])))] := by
  unfold lim at hl
  have yz : (y = q) = False := eq_false (fun h => hqy h.symm)
  have zy : (q = y) = False := eq_false hqy
  refine ev_go rfl (fun cargs w => Tryz.call54 cargs w) Tryz.func54 rfl mixed (by kernel_rfl) rfl ?_; intro b0 hb0
  have lq : q < b0 := below_of hb0 (by rw [hq]; rfl)
  have ly : y < b0 := below_of hb0 (by rw [hy]; rfl)
  have y0 := lt_ne ly; have y1 := lt_ne_add ly; have y2 := lt_ne' ly; have y3 := lt_ne_add' ly
  have z0 := lt_ne lq; have z1 := lt_ne_add lq; have z2 := lt_ne' lq; have z3 := lt_ne_add' lq
  repeat' first | simp only [fins,mems,Tryz.results54,Tryz.ntmps54,Kt,wks,bK_t,hq,z0,z1,z2,z3,vcs,Ka,Kb,Kc,Kd,Ke,Kf,Kg,Kh,Ki,Kj,Kk,Kl,Km,reduceCtorEq,reduceIte,Kn,Ko,Kp,Kq,Kr,Ks,tys,TypeDesc.pointer.injEq,exists_eq_left'] | exact rfl | refine call_off (v := .any) ?_ | ((first | apply cond_bool | apply cond_bit) <;> intro hb) | refine And.intro (by omega) ?_ | refine And.intro (fun hb => ?_) (fun hb => ?_)
  refine call_fn_full ?_ [q, y] (copyO_ev used q y bs.length bs _ _ hqy ?_ ?_ only_mem (by omega) (by omega)) ?_ ?_
  · simp only [vcs,Ka,Kb,Kc,Kd,Ke,Kf,Kg,Kh,Ki,Kj,Kk,Kl,Km,reduceCtorEq,reduceIte,Kn,Ko,Kp,Kq,Kr,Ks,tys,TypeDesc.pointer.injEq,exists_eq_left']
  · simp only [only_at,List.mem_cons,List.not_mem_nil,true_or,or_true,hq,hy,yz,zy,vcs,Ka,Kb,Kc,Kd,Ke,Kf,Kg,Kh,Ki,Kj,Kk,Kl,Km,reduceCtorEq,reduceIte,Kn,Ko,Kp,Kq,Kr,Ks,tys,TypeDesc.pointer.injEq,exists_eq_left']
  · simp only [only_at,List.mem_cons,List.not_mem_nil,true_or,or_true,hq,hy,yz,zy,vcs,Ka,Kb,Kc,Kd,Ke,Kf,Kg,Kh,Ki,Kj,Kk,Kl,Km,reduceCtorEq,reduceIte,Kn,Ko,Kp,Kq,Kr,Ks,tys,TypeDesc.pointer.injEq,exists_eq_left']
  · simp only [List.mem_cons,List.not_mem_nil,forall_eq,forall_eq_or_imp,true_or,or_true,hq,hy,yz,zy,vcs,Ka,Kb,Kc,Kd,Ke,Kf,Kg,Kh,Ki,Kj,Kk,Kl,Km,reduceCtorEq,reduceIte,Kn,Ko,Kp,Kq,Kr,Ks,tys,TypeDesc.pointer.injEq,exists_eq_left']
  repeat' first | simp only [fins,mems,Tryz.results54,Tryz.ntmps54,Kt,wks,rK,bK_t,hq,hy,yz,zy,y0,y1,y2,y3,z0,z1,z2,z3,one_b,one_bs,List.length_map,List.take_of_length_le,Nat.le_refl,vcs,Ka,Kb,Kc,Kd,Ke,Kf,Kg,Kh,Ki,Kj,Kk,Kl,Km,reduceCtorEq,reduceIte,Kn,Ko,Kp,Kq,Kr,Ks,tys,TypeDesc.pointer.injEq,exists_eq_left'] | exact rfl | refine call_off (v := .any) ?_ | ((first | apply cond_bool | apply cond_bit) <;> intro hb) | refine And.intro (by omega) ?_ | refine And.intro (fun hb => ?_) (fun hb => ?_)
  all_goals ((refine Fin.give [(q, none), (b0 + 160, some 0)] [y] ?_ ?_ ?_ ?_ ?_ (fun q hq => by have hqq := ho q hq; first | (simp only [gives,tgt,List.map_cons,List.map_nil,List.mem_cons,List.not_mem_nil,or_false] at hqq ⊢; omega) | (simp only [gives,tgt,List.map_cons,List.map_nil,List.mem_cons,List.not_mem_nil,or_false] at hqq)) <;> (try simp only [Tryz.results54,Tryz.ntmps54,wks,rK,ren_snoc,renOk_snoc,byteRow,List.map_append,List.map_cons,List.map_nil,Option.bind_some,ren_bytes,renOk_bytes,ite_self,Bool.false_and,Bool.false_eq_true,if_false,bK_t,hq,hy,yz,zy,y0,y1,y2,y3,z0,z1,z2,z3,fresh_self,giv,vcs,Ka,Kb,Kc,Kd,Ke,Kf,Kg,Kh,Ki,Kj,Kk,Kl,Km,reduceCtorEq,reduceIte,Kn,Ko,Kp,Kq,Kr,Ks,tys,TypeDesc.pointer.injEq,exists_eq_left']) <;> (try simp only [injs]) <;> (try omega)))
theorem bLenO_ev (used : Bool) (q y : Nat) (bs : List UInt8) (M : Mem) (nm : Nat) (hqy : q ≠ y) (hq : M q = some (bK used q (.own y 0 bs.length))) (hy : M y = some (rK bs)) (ho : ∀ z, (M z).isSome = true → z ∈ [q, y]) (hn : q < nm) (hny : y < nm) :
    Ev cx 37 nm [.ptr q 0 0] M (.int .i64 bs.length) [(q, some (bK used q (.own y 0 bs.length))), (y, some (rK bs))] := by
  have yz : (y = q) = False := eq_false (fun h => hqy h.symm)
  have zy : (q = y) = False := eq_false hqy
  refine ev_go rfl (fun cargs w => Tryz.call37 cargs w) Tryz.func37 rfl mixed (by kernel_rfl) rfl ?_; intro b0 hb0
  have lq : q < b0 := below_of hb0 (by rw [hq]; rfl)
  have ly : y < b0 := below_of hb0 (by rw [hy]; rfl)
  have y0 := lt_ne ly; have y1 := lt_ne_add ly; have y2 := lt_ne' ly; have y3 := lt_ne_add' ly
  have z0 := lt_ne lq; have z1 := lt_ne_add lq; have z2 := lt_ne' lq; have z3 := lt_ne_add' lq
  cases used <;> (repeat' first | simp only [fins,mems,Tryz.results37,Tryz.ntmps37,Kt,wks,bK_t,bK_f,hq,hy,yz,zy,y0,y1,y2,y3,z0,z1,z2,z3,vcs,Ka,Kb,Kc,Kd,Ke,Kf,Kg,Kh,Ki,Kj,Kk,Kl,Km,reduceCtorEq,reduceIte,Kn,Ko,Kp,Kq,Kr,Ks,tys,TypeDesc.pointer.injEq,exists_eq_left'] | exact rfl | refine call_off (v := .any) ?_ | ((first | apply cond_bool | apply cond_bit) <;> intro hb) | refine And.intro (by omega) ?_ | refine And.intro (fun hb => ?_) (fun hb => ?_))
  all_goals ((refine Fin.give [(q, none), (y, none)] [] ?_ ?_ ?_ ?_ ?_ (fun q hq => by have hqq := ho q hq; first | (simp only [gives,tgt,List.map_cons,List.map_nil,List.mem_cons,List.not_mem_nil,or_false] at hqq ⊢; omega) | (simp only [gives,tgt,List.map_cons,List.map_nil,List.mem_cons,List.not_mem_nil,or_false] at hqq)) <;> (try simp only [Tryz.results37,Tryz.ntmps37,wks,rK,ren_mkT,renOk_mkT,plain_bs,ite_self,Bool.false_and,Bool.false_eq_true,if_false,bK_t,bK_f,hq,hy,yz,zy,y0,y1,y2,y3,z0,z1,z2,z3,fresh_self,giv,vcs,Ka,Kb,Kc,Kd,Ke,Kf,Kg,Kh,Ki,Kj,Kk,Kl,Km,reduceCtorEq,reduceIte,Kn,Ko,Kp,Kq,Kr,Ks,tys,TypeDesc.pointer.injEq,exists_eq_left']) <;> (try simp only [injs]) <;> (try omega)))
theorem bStrO_ev (used : Bool) (q y : Nat) (bs : List UInt8) (hb : bs ≠ []) (hl : bs.length ≤ lim) (M : Mem) (nm : Nat) (hqy : q ≠ y) (hq : M q = some (bK used q (.own y 0 bs.length))) (hy : M y = some (rK bs)) (ho : ∀ z, (M z).isSome = true → z ∈ [q, y]) (hn : q < nm) (hny : y < nm) :
    Ev cx 38 nm [.ptr q 0 0] M (.str bs) [(q, none), (y, none)] := by
  unfold lim at hl
  have hp : 0 < bs.length := List.length_pos_iff.2 hb
  have yz : (y = q) = False := eq_false (fun h => hqy h.symm)
  have zy : (q = y) = False := eq_false hqy
  refine ev_go rfl (fun cargs w => Tryz.call38 cargs w) Tryz.func38 rfl mixed (by kernel_rfl) rfl ?_; intro b0 hb0
  have lq : q < b0 := below_of hb0 (by rw [hq]; rfl)
  have ly : y < b0 := below_of hb0 (by rw [hy]; rfl)
  have y0 := lt_ne ly; have y1 := lt_ne_add ly; have y2 := lt_ne' ly; have y3 := lt_ne_add' ly
  have z0 := lt_ne lq; have z1 := lt_ne_add lq; have z2 := lt_ne' lq; have z3 := lt_ne_add' lq
  cases used <;> (repeat' first | simp only [fins,mems,Tryz.results38,Tryz.ntmps38,Kt,wks,rK,bK_t,bK_f,hq,hy,yz,zy,y0,y1,y2,y3,z0,z1,z2,z3,hb,ne_eq,not_false_eq_true,vcs,Ka,Kb,Kc,Kd,Ke,Kf,Kg,Kh,Ki,Kj,Kk,Kl,Km,reduceCtorEq,reduceIte,Kn,Ko,Kp,Kq,Kr,Ks,tys,TypeDesc.pointer.injEq,exists_eq_left'] | exact rfl | refine call_off (v := .any) ?_ | (refine ext_sliceData (y := ?_) (n := ?_) rfl ?_ ?_ ?_; rotate_left 2; (focus (simp only [Tryz.results38,Tryz.ntmps38,Kt,wks,rK,bK_t,bK_f,hq,hy,yz,zy,y0,y1,y2,y3,z0,z1,z2,z3,hb,ne_eq,not_false_eq_true,vcs,Ka,Kb,Kc,Kd,Ke,Kf,Kg,Kh,Ki,Kj,Kk,Kl,Km,reduceCtorEq,reduceIte,Kn,Ko,Kp,Kq,Kr,Ks,tys,TypeDesc.pointer.injEq,exists_eq_left'] <;> exact rfl)); (focus (first | omega | (simp only [Tryz.results38,Tryz.ntmps38,Kt,wks,rK,bK_t,bK_f,hq,hy,yz,zy,y0,y1,y2,y3,z0,z1,z2,z3,hb,ne_eq,not_false_eq_true,vcs,Ka,Kb,Kc,Kd,Ke,Kf,Kg,Kh,Ki,Kj,Kk,Kl,Km,reduceCtorEq,reduceIte,Kn,Ko,Kp,Kq,Kr,Ks,tys,TypeDesc.pointer.injEq,exists_eq_left'] <;> omega)))) | (refine extG_true ?_) | (refine extG_false ?_) | (refine ext_unsafeString (y := ?_) (bs := ?_) (u := ?_) rfl ?_ ?_ ?_ ?_ ?_ ?_ ?_ ?_; rotate_left 3; (iterate 3 (focus (simp only [Tryz.results38,Tryz.ntmps38,Kt,wks,rK,bK_t,bK_f,hq,hy,yz,zy,y0,y1,y2,y3,z0,z1,z2,z3,hb,ne_eq,not_false_eq_true,vcs,Ka,Kb,Kc,Kd,Ke,Kf,Kg,Kh,Ki,Kj,Kk,Kl,Km,reduceCtorEq,reduceIte,Kn,Ko,Kp,Kq,Kr,Ks,tys,TypeDesc.pointer.injEq,exists_eq_left'] <;> exact rfl))); (focus (first | assumption | (simp only [Tryz.results38,Tryz.ntmps38,Kt,wks,rK,bK_t,bK_f,hq,hy,yz,zy,y0,y1,y2,y3,z0,z1,z2,z3,hb,ne_eq,not_false_eq_true,vcs,Ka,Kb,Kc,Kd,Ke,Kf,Kg,Kh,Ki,Kj,Kk,Kl,Km,reduceCtorEq,reduceIte,Kn,Ko,Kp,Kq,Kr,Ks,tys,TypeDesc.pointer.injEq,exists_eq_left']; done))); (focus (first | omega | (simp only [Tryz.results38,Tryz.ntmps38,Kt,wks,rK,bK_t,bK_f,hq,hy,yz,zy,y0,y1,y2,y3,z0,z1,z2,z3,hb,ne_eq,not_false_eq_true,vcs,Ka,Kb,Kc,Kd,Ke,Kf,Kg,Kh,Ki,Kj,Kk,Kl,Km,reduceCtorEq,reduceIte,Kn,Ko,Kp,Kq,Kr,Ks,tys,TypeDesc.pointer.injEq,exists_eq_left'] <;> omega))); (focus (simp only [Tryz.results38,Tryz.ntmps38,Kt,wks,rK,bK_t,bK_f,hq,hy,yz,zy,y0,y1,y2,y3,z0,z1,z2,z3,hb,ne_eq,not_false_eq_true,vcs,Ka,Kb,Kc,Kd,Ke,Kf,Kg,Kh,Ki,Kj,Kk,Kl,Km,reduceCtorEq,reduceIte,Kn,Ko,Kp,Kq,Kr,Ks,tys,TypeDesc.pointer.injEq,exists_eq_left'] <;> exact rfl)); (focus (kernel_rfl))) | refine draw_end' (ps := [(4, 8)]) (by decide +kernel) (by simp only [List.forall_mem_cons,List.getD_cons_zero,List.getD_cons_succ,Tryz.results38,Tryz.ntmps38,Kt,wks,rK,bK_t,bK_f,hq,hy,yz,zy,y0,y1,y2,y3,z0,z1,z2,z3,hb,ne_eq,not_false_eq_true,vcs,Ka,Kb,Kc,Kd,Ke,Kf,Kg,Kh,Ki,Kj,Kk,Kl,Km,reduceCtorEq,reduceIte,Kn,Ko,Kp,Kq,Kr,Ks,tys,TypeDesc.pointer.injEq,exists_eq_left'] <;> (try simp) <;> (try omega)) ?_ | refine draw_end (by decide +kernel) ?_ | ((first | apply cond_bool | apply cond_bit) <;> intro hb) | refine And.intro (by omega) ?_ | refine And.intro (fun hb => ?_) (fun hb => ?_))
  all_goals ((refine Fin.give [] [q, y] ?_ ?_ ?_ ?_ ?_ (fun q hq => by have hqq := ho q hq; first | (simp only [gives,tgt,List.map_cons,List.map_nil,List.mem_cons,List.not_mem_nil,or_false] at hqq ⊢; omega) | (simp only [gives,tgt,List.map_cons,List.map_nil,List.mem_cons,List.not_mem_nil,or_false] at hqq)) <;> (try simp only [Tryz.results38,Tryz.ntmps38,wks,rK,ite_self,Bool.false_and,Bool.false_eq_true,if_false,bK_t,bK_f,hq,hy,yz,zy,y0,y1,y2,y3,z0,z1,z2,z3,fresh_self,giv,vcs,Ka,Kb,Kc,Kd,Ke,Kf,Kg,Kh,Ki,Kj,Kk,Kl,Km,reduceCtorEq,reduceIte,Kn,Ko,Kp,Kq,Kr,Ks,tys,TypeDesc.pointer.injEq,exists_eq_left']) <;> (try simp only [injs]) <;> (try omega)))
theorem wByteN_ev (used : Bool) (q : Nat) (c : UInt8) (M : Mem) (nm : Nat) (hq : M q = some (bK used q .nils)) (ho : ∀ z, (M z).isSome = true → z ∈ [q]) (hn : q < nm) :
    Ev cx 54 nm [.ptr q 0 0, .int .u8 c.toNat] M (.val .nilIface) [(q, some (bK true q (.own nm 0 1))), (nm, some (rK [c]))] := by
  refine ev_go rfl (fun cargs w => Tryz.call54 cargs w) Tryz.func54 rfl mixed (by kernel_rfl) rfl ?_; intro b0 hb0
  have lq : q < b0 := below_of hb0 (by rw [hq]; rfl)
  have z0 := lt_ne lq; have z1 := lt_ne_add lq; have z2 := lt_ne' lq; have z3 := lt_ne_add' lq
  repeat' first | simp only [fins,mems,Tryz.results54,Tryz.ntmps54,Kt,wks,bK_t,hq,z0,z1,z2,z3,vcs,Ka,Kb,Kc,Kd,Ke,Kf,Kg,Kh,Ki,Kj,Kk,Kl,Km,reduceCtorEq,reduceIte,Kn,Ko,Kp,Kq,Kr,Ks,tys,TypeDesc.pointer.injEq,exists_eq_left'] | exact rfl | refine call_off (v := .any) ?_ | ((first | apply cond_bool | apply cond_bit) <;> intro hb) | refine And.intro (by omega) ?_ | refine And.intro (fun hb => ?_) (fun hb => ?_)
  refine call_fn_full ?_ [q] (copyN_ev used q _ _ ?_ only_mem (by omega)) ?_ ?_
  · simp only [vcs,Ka,Kb,Kc,Kd,Ke,Kf,Kg,Kh,Ki,Kj,Kk,Kl,Km,reduceCtorEq,reduceIte,Kn,Ko,Kp,Kq,Kr,Ks,tys,TypeDesc.pointer.injEq,exists_eq_left']
  · simp only [only_at,List.mem_cons,List.not_mem_nil,hq,vcs,Ka,Kb,Kc,Kd,Ke,Kf,Kg,Kh,Ki,Kj,Kk,Kl,Km,reduceCtorEq,reduceIte,Kn,Ko,Kp,Kq,Kr,Ks,tys,TypeDesc.pointer.injEq,exists_eq_left']
  · simp only [List.mem_cons,List.not_mem_nil,forall_eq,forall_eq_or_imp,hq,vcs,Ka,Kb,Kc,Kd,Ke,Kf,Kg,Kh,Ki,Kj,Kk,Kl,Km,reduceCtorEq,reduceIte,Kn,Ko,Kp,Kq,Kr,Ks,tys,TypeDesc.pointer.injEq,exists_eq_left']
  repeat' first | simp only [fins,mems,Tryz.results54,Tryz.ntmps54,Kt,wks,bK_t,hq,z0,z1,z2,z3,vcs,Ka,Kb,Kc,Kd,Ke,Kf,Kg,Kh,Ki,Kj,Kk,Kl,Km,reduceCtorEq,reduceIte,Kn,Ko,Kp,Kq,Kr,Ks,tys,TypeDesc.pointer.injEq,exists_eq_left'] | exact rfl | refine call_off (v := .any) ?_ | ((first | apply cond_bool | apply cond_bit) <;> intro hb) | refine And.intro (by omega) ?_ | refine And.intro (fun hb => ?_) (fun hb => ?_)
  all_goals ((refine Fin.give [(q, none), (b0 + 160, some 0)] [] ?_ ?_ ?_ ?_ ?_ (fun q hq => by have hqq := ho q hq; first | (simp only [gives,tgt,List.map_cons,List.map_nil,List.mem_cons,List.not_mem_nil,or_false] at hqq ⊢; omega) | (simp only [gives,tgt,List.map_cons,List.map_nil,List.mem_cons,List.not_mem_nil,or_false] at hqq)) <;> (try simp only [Tryz.results54,Tryz.ntmps54,wks,rK,ren_mkT,renOk_mkT,byteRow,List.map_append,List.map_cons,List.map_nil,ite_self,Bool.false_and,Bool.false_eq_true,if_false,bK_t,hq,z0,z1,z2,z3,fresh_self,giv,vcs,Ka,Kb,Kc,Kd,Ke,Kf,Kg,Kh,Ki,Kj,Kk,Kl,Km,reduceCtorEq,reduceIte,Kn,Ko,Kp,Kq,Kr,Ks,tys,TypeDesc.pointer.injEq,exists_eq_left']) <;> (try simp only [injs]) <;> (try omega)))
theorem bLenN_ev (used : Bool) (q : Nat) (M : Mem) (nm : Nat) (hq : M q = some (bK used q .nils)) (ho : ∀ z, (M z).isSome = true → z ∈ [q]) (hn : q < nm) :
    Ev cx 37 nm [.ptr q 0 0] M (.int .i64 0) [(q, some (bK used q .nils))] := by
  refine ev_go rfl (fun cargs w => Tryz.call37 cargs w) Tryz.func37 rfl mixed (by kernel_rfl) rfl ?_; intro b0 hb0
  have lq : q < b0 := below_of hb0 (by rw [hq]; rfl)
  have z0 := lt_ne lq; have z1 := lt_ne_add lq; have z2 := lt_ne' lq; have z3 := lt_ne_add' lq
  cases used <;> (repeat' first | simp only [fins,mems,Tryz.results37,Tryz.ntmps37,Kt,wks,bK_t,bK_f,hq,z0,z1,z2,z3,vcs,Ka,Kb,Kc,Kd,Ke,Kf,Kg,Kh,Ki,Kj,Kk,Kl,Km,reduceCtorEq,reduceIte,Kn,Ko,Kp,Kq,Kr,Ks,tys,TypeDesc.pointer.injEq,exists_eq_left'] | exact rfl | refine call_off (v := .any) ?_ | ((first | apply cond_bool | apply cond_bit) <;> intro hb) | refine And.intro (by omega) ?_ | refine And.intro (fun hb => ?_) (fun hb => ?_))
  all_goals ((refine Fin.give [(q, none)] [] ?_ ?_ ?_ ?_ ?_ (fun q hq => by have hqq := ho q hq; first | (simp only [gives,tgt,List.map_cons,List.map_nil,List.mem_cons,List.not_mem_nil,or_false] at hqq ⊢; omega) | (simp only [gives,tgt,List.map_cons,List.map_nil,List.mem_cons,List.not_mem_nil,or_false] at hqq)) <;> (try simp only [Tryz.results37,Tryz.ntmps37,wks,ren_mkT,renOk_mkT,ite_self,Bool.false_and,Bool.false_eq_true,if_false,bK_t,bK_f,hq,z0,z1,z2,z3,fresh_self,giv,vcs,Ka,Kb,Kc,Kd,Ke,Kf,Kg,Kh,Ki,Kj,Kk,Kl,Km,reduceCtorEq,reduceIte,Kn,Ko,Kp,Kq,Kr,Ks,tys,TypeDesc.pointer.injEq,exists_eq_left']) <;> (try simp only [injs]) <;> (try omega)))
theorem bStrN_ev (used : Bool) (q : Nat) (M : Mem) (nm : Nat) (hq : M q = some (bK used q .nils)) (ho : ∀ z, (M z).isSome = true → z ∈ [q]) (hn : q < nm) :
    Ev cx 38 nm [.ptr q 0 0] M (.str []) [(q, none)] := by
  refine ev_go rfl (fun cargs w => Tryz.call38 cargs w) Tryz.func38 rfl mixed (by kernel_rfl) rfl ?_; intro b0 hb0
  have lq : q < b0 := below_of hb0 (by rw [hq]; rfl)
  have z0 := lt_ne lq; have z1 := lt_ne_add lq; have z2 := lt_ne' lq; have z3 := lt_ne_add' lq
  cases used <;> (repeat' first | simp only [fins,mems,Tryz.results38,Tryz.ntmps38,Kt,wks,bK_t,bK_f,hq,z0,z1,z2,z3,vcs,Ka,Kb,Kc,Kd,Ke,Kf,Kg,Kh,Ki,Kj,Kk,Kl,Km,reduceCtorEq,reduceIte,Kn,Ko,Kp,Kq,Kr,Ks,tys,TypeDesc.pointer.injEq,exists_eq_left'] | exact rfl | refine call_off (v := .any) ?_ | (refine ext_sliceData_nil rfl ?_ ?_; (focus (simp only [Tryz.results38,Tryz.ntmps38,Kt,wks,bK_t,bK_f,hq,z0,z1,z2,z3,vcs,Ka,Kb,Kc,Kd,Ke,Kf,Kg,Kh,Ki,Kj,Kk,Kl,Km,reduceCtorEq,reduceIte,Kn,Ko,Kp,Kq,Kr,Ks,tys,TypeDesc.pointer.injEq,exists_eq_left'] <;> exact rfl))) | (refine extG_true ?_) | (refine extG_false ?_) | (refine ext_unsafeString_nil rfl ?_ ?_ ?_; (iterate 2 (focus (simp only [Tryz.results38,Tryz.ntmps38,Kt,wks,bK_t,bK_f,hq,z0,z1,z2,z3,vcs,Ka,Kb,Kc,Kd,Ke,Kf,Kg,Kh,Ki,Kj,Kk,Kl,Km,reduceCtorEq,reduceIte,Kn,Ko,Kp,Kq,Kr,Ks,tys,TypeDesc.pointer.injEq,exists_eq_left'] <;> exact rfl)))) | refine draw_end' (ps := [(4, 8)]) (by decide +kernel) (by simp only [List.forall_mem_cons,List.getD_cons_zero,List.getD_cons_succ,Tryz.results38,Tryz.ntmps38,Kt,wks,bK_t,bK_f,hq,z0,z1,z2,z3,vcs,Ka,Kb,Kc,Kd,Ke,Kf,Kg,Kh,Ki,Kj,Kk,Kl,Km,reduceCtorEq,reduceIte,Kn,Ko,Kp,Kq,Kr,Ks,tys,TypeDesc.pointer.injEq,exists_eq_left'] <;> (try simp) <;> (try omega)) ?_ | refine draw_end (by decide +kernel) ?_ | ((first | apply cond_bool | apply cond_bit) <;> intro hb) | refine And.intro (by omega) ?_ | refine And.intro (fun hb => ?_) (fun hb => ?_))
  all_goals ((refine Fin.give [] [q] ?_ ?_ ?_ ?_ ?_ (fun q hq => by have hqq := ho q hq; first | (simp only [gives,tgt,List.map_cons,List.map_nil,List.mem_cons,List.not_mem_nil,or_false] at hqq ⊢; omega) | (simp only [gives,tgt,List.map_cons,List.map_nil,List.mem_cons,List.not_mem_nil,or_false] at hqq)) <;> (try simp only [Tryz.results38,Tryz.ntmps38,wks,ite_self,Bool.false_and,Bool.false_eq_true,if_false,bK_t,bK_f,hq,z0,z1,z2,z3,fresh_self,giv,vcs,Ka,Kb,Kc,Kd,Ke,Kf,Kg,Kh,Ki,Kj,Kk,Kl,Km,reduceCtorEq,reduceIte,Kn,Ko,Kp,Kq,Kr,Ks,tys,TypeDesc.pointer.injEq,exists_eq_left']) <;> (try simp only [injs]) <;> (try omega)))
end Go.Proofs.YtoaclokiggoeiaaGreatDoor
namespace Go.Proofs.YtoaclokiggoeiaaGreatDoor
set_option maxRecDepth 100000
set_option maxHeartbeats 32000000
set_option linter.unusedSimpArgs false
set_option linter.unusedVariables false
open Go Go.RowKit Go.Proofs.YtoaclokiggoeiaaGreatDoor.Vm
def bS (u : Bool) (q y : Nat) (bs : List UInt8) : Blk := if bs = [] then bK u q .nils else bK true q (.own y 0 bs.length)
theorem bS_nil (u : Bool) (q y : Nat) : bS u q y [] = bK u q .nils := by unfold bS; rw [if_pos rfl]
theorem bS_ne (u : Bool) (q y : Nat) {bs : List UInt8} (h : bs ≠ []) : bS u q y bs = bK true q (.own y 0 bs.length) := by unfold bS; rw [if_neg h]
theorem bS_new (q y : Nat) : bS false q y [] = @Blk.mk 2 [[.nilp, .nils]] (.typed 69) := by rw [bS_nil]; rfl
theorem ren_bS (σ : List (Nat × Nat)) (u : Bool) (q y : Nat) (bs : List UInt8) : Blk.ren σ (bS u q y bs) = bS u ((newName σ q).getD q) ((newName σ y).getD y) bs := by
  unfold bS
  by_cases h : bs = []
  · rw [if_pos h, if_pos h]
    cases u <;> simp [bK,Blk.ren,renLL,renL,V.ren,plainLL,plainL,V.plain,Ob.ren,instCells]
  · rw [if_neg h, if_neg h]
    simp [bK,Blk.ren,renLL,renL,V.ren,plainLL,plainL,V.plain,Ob.ren,instCells]
theorem renOk_bS (σ : List (Nat × Nat)) (u : Bool) (q y : Nat) (bs : List UInt8) (h1 : (newName σ q).isSome = true) (h2 : (newName σ y).isSome = true) : Blk.renOk σ (bS u q y bs) = true := by
  unfold bS
  by_cases h : bs = []
  · rw [if_pos h]
    cases u <;> simp [bK,Blk.renOk,renOkLL,renOkL,V.renOk,h1,Ob.renOk,instCells]
  · rw [if_neg h]
    simp [bK,Blk.renOk,renOkLL,renOkL,V.renOk,h1,h2,Ob.renOk,instCells]
theorem rK_row (bs : List UInt8) : (rK bs).ob.isRow = true := rfl
theorem rK_nil : (rK []).rows = [] := rfl
theorem ren_rK (σ : List (Nat × Nat)) (bs : List UInt8) : Blk.ren σ (rK bs) = rK bs := ren_bytes σ bs _
theorem renOk_rK (σ : List (Nat × Nat)) (bs : List UInt8) : Blk.renOk σ (rK bs) = true := renOk_bytes σ bs _
theorem fresh_out {M : Mem} {q y nm : Nat} (ho : ∀ z, (M z).isSome = true → z ∈ [q, y]) (hn : q < nm) (hny : y < nm) : ∀ x, Fresh nm x → M x = none := fun x hx => by
  cases hm : M x with
  | none => rfl
  | some k =>
    have := ho x (by rw [hm]; rfl)
    simp only [List.mem_cons,List.not_mem_nil,or_false] at this
    have := hx.1
    omega
theorem nil_ho {l : List Nat} : ∀ z, ((Mem.nil : Mem) z).isSome = true → z ∈ l := fun z h => by cases h
theorem only1 {M : Mem} {q : Nat} {k : Blk} (h : M q = some k) : (M.only [q]) q = some k := only_eq.2 ⟨h, by simp⟩
section
variable (u : Bool) (q y : Nat) (bs : List UInt8) (M : Mem) (nm : Nat)
theorem wStr_ev (s : List UInt8) (hs : s ≠ []) (hl : bs.length + s.length ≤ lim) (hqy : q ≠ y) (hq : M q = some (bS u q y bs)) (hy : M y = some (rK bs)) (ho : ∀ z, (M z).isSome = true → z ∈ [q, y]) (hn : q < nm) (hny : y < nm) :
    Ev cx 35 nm [.ptr q 0 0, .str s] M (.tup [.int .i64 s.length, .val .nilIface]) [(y, none), (q, some (bS false q nm (bs ++ s))), (nm, some (rK (bs ++ s)))] := by
  rw [bS_ne false q nm (bs := bs ++ s) (by simp [hs]), List.length_append]
  by_cases hb : bs = []
  · subst hb
    rw [bS_nil] at hq
    simp only [List.nil_append,List.length_nil,Nat.zero_add] at hl ⊢
    refine Ev.dropM y (Ev.frame [q] (wStrN_ev u q s hs hl _ nm (only1 hq) only_mem hn) (fun x hx => ?_) (fresh_out ho hn hny))
    simp only [effNames,List.map_cons,List.map_nil,List.mem_cons,List.not_mem_nil,or_false] at hx
    rcases hx with rfl | rfl
    · left; simp
    · right; exact ⟨Nat.le_refl _, by omega⟩
  · rw [bS_ne u q y hb] at hq
    exact wStrO_ev true q y bs s hl M nm hqy hq hy ho hn hny
theorem wByte_ev (c : UInt8) (hl : bs.length + 1 ≤ lim) (hqy : q ≠ y) (hq : M q = some (bS u q y bs)) (hy : M y = some (rK bs)) (ho : ∀ z, (M z).isSome = true → z ∈ [q, y]) (hn : q < nm) (hny : y < nm) :
    Ev cx 54 nm [.ptr q 0 0, .int .u8 c.toNat] M (.val .nilIface) [(y, none), (q, some (bS false q nm (bs ++ [c]))), (nm, some (rK (bs ++ [c])))] := by
  rw [bS_ne false q nm (bs := bs ++ [c]) (by simp), List.length_append, List.length_singleton]
  by_cases hb : bs = []
  · subst hb
    rw [bS_nil] at hq
    simp only [List.nil_append,List.length_nil,Nat.zero_add] at hl ⊢
    refine Ev.dropM y (Ev.frame [q] (wByteN_ev u q c _ nm (only1 hq) only_mem hn) (fun x hx => ?_) (fresh_out ho hn hny))
    simp only [effNames,List.map_cons,List.map_nil,List.mem_cons,List.not_mem_nil,or_false] at hx
    rcases hx with rfl | rfl
    · left; simp
    · right; exact ⟨Nat.le_refl _, by omega⟩
  · rw [bS_ne u q y hb] at hq
    exact wByteO_ev true q y bs c hl M nm hqy hq hy ho hn hny
theorem app_self {M : Mem} {q y : Nat} {a b : Blk} (hq : M q = some a) (hy : M y = some b) : M.app [(q, some a)] = M.app [(q, some a), (y, some b)] := by
  funext x
  simp only [Mem.app,Mem.put]
  by_cases e : x = y
  · subst e
    by_cases e2 : x = q
    · subst e2; rw [hq] at hy; cases hy; simp
    · simp [e2,hy]
  · simp [e]
theorem bLen_ev (hqy : q ≠ y) (hq : M q = some (bS u q y bs)) (hy : M y = some (rK bs)) (ho : ∀ z, (M z).isSome = true → z ∈ [q, y]) (hn : q < nm) (hny : y < nm) :
    Ev cx 37 nm [.ptr q 0 0] M (.int .i64 bs.length) [(q, some (bS u q y bs)), (y, some (rK bs))] := by
  by_cases hb : bs = []
  · subst hb
    refine Ev.eff_eq ?_ (app_self hq hy)
    rw [bS_nil] at hq ⊢
    refine Ev.frame [q] (bLenN_ev u q _ nm (only1 hq) only_mem hn) (fun x hx => ?_) (fresh_out ho hn hny)
    simp only [effNames,List.map_cons,List.map_nil,List.mem_cons,List.not_mem_nil,or_false] at hx
    subst hx; left; simp
  · rw [bS_ne u q y hb] at hq ⊢
    exact bLenO_ev true q y bs M nm hqy hq hy ho hn hny
theorem bStr_ev (hl : bs.length ≤ lim) (hqy : q ≠ y) (hq : M q = some (bS u q y bs)) (hy : M y = some (rK bs)) (ho : ∀ z, (M z).isSome = true → z ∈ [q, y]) (hn : q < nm) (hny : y < nm) :
    Ev cx 38 nm [.ptr q 0 0] M (.str bs) [(q, none), (y, none)] := by
  by_cases hb : bs = []
  · subst hb
    rw [bS_nil] at hq
    have h1 : Ev cx 38 nm [.ptr q 0 0] M (.str []) [(q, none)] := by
      refine Ev.frame [q] (bStrN_ev u q _ nm (only1 hq) only_mem hn) (fun x hx => ?_) (fresh_out ho hn hny)
      simp only [effNames,List.map_cons,List.map_nil,List.mem_cons,List.not_mem_nil,or_false] at hx
      subst hx; left; simp
    refine Ev.eff_eq (Ev.dropM y h1) ?_
    funext x
    simp only [Mem.app,Mem.put]
    by_cases e : x = y <;> by_cases e2 : x = q <;> simp [e,e2]
  · rw [bS_ne u q y hb] at hq
    exact bStrO_ev true q y bs hb hl M nm hqy hq hy ho hn hny
end
end Go.Proofs.YtoaclokiggoeiaaGreatDoor
namespace Go.Proofs.YtoaclokiggoeiaaGreatDoor
set_option maxRecDepth 100000
set_option maxHeartbeats 32000000
set_option linter.unusedSimpArgs false
set_option linter.unusedVariables false
open Nat renaming reduceAdd → Ka, reduceMul → Kb, reduceEqDiff → Kc, reduceLeDiff → Kd, reduceSub → Ke, reduceLT → Kf, reduceBEq → Kr, reduceBNe → Ks, reducePow → Kt
open Int renaming reduceToNat → Kg, reduceLE → Kh, reduceLT → Ki, reduceAdd → Kj, reduceSub → Kk, reduceMul → Kl, reduceNeg → Km, reduceBEq → Kn, reduceBNe → Ko, reduceEq → Kp, reduceNe → Kq
open Go Go.RowKit Go.Proofs.YtoaclokiggoeiaaGreatDoor.Vm
def wordsL (q : Bool) : List (V × V) := [(.int .u8 38, .agg [.str [38, 97, 109, 112, 59]]), (.int .u8 60, .agg [.str [38, 108, 116, 59]]), (.int .u8 62, .agg [.str [38, 103, 116, 59]]), (.int .u8 13, .agg [.str [38, 35, 49, 51, 59]])] ++
  (if q = true then [(.int .u8 34, .agg [.str [38, 113, 117, 111, 116, 59]]), (.int .u8 9, .agg [.str [38, 35, 57, 59]]), (.int .u8 10, .agg [.str [38, 35, 49, 48, 59]])] else [])
theorem wordsT : mapT cx.P 128 = some (5, 114) := by kernel_rfl
theorem wordsZ : zeroOf cx.P 114 = some (.agg #[.string ⟨#[]⟩]) := by kernel_rfl
theorem wordsF : wordsL false = [(.int .u8 38, .agg [.str [38, 97, 109, 112, 59]]), (.int .u8 60, .agg [.str [38, 108, 116, 59]]), (.int .u8 62, .agg [.str [38, 103, 116, 59]]), (.int .u8 13, .agg [.str [38, 35, 49, 51, 59]])] := rfl
theorem wordsR : wordsL true = [(.int .u8 38, .agg [.str [38, 97, 109, 112, 59]]), (.int .u8 60, .agg [.str [38, 108, 116, 59]]), (.int .u8 62, .agg [.str [38, 103, 116, 59]]), (.int .u8 13, .agg [.str [38, 35, 49, 51, 59]]), (.int .u8 34, .agg [.str [38, 113, 117, 111, 116, 59]]), (.int .u8 9, .agg [.str [38, 35, 57, 59]]), (.int .u8 10, .agg [.str [38, 35, 49, 48, 59]])] := rfl
theorem words_ev (q : Bool) (nm : Nat) : Ev cx 93 nm [.bool q] Mem.nil (.mp nm) [(nm, some (mapK (wordsL q)))] := by
  cases q with
  | false =>
    refine ev_go rfl (fun cargs w => Tryz.call93 cargs w) Tryz.func93 rfl mixed (by kernel_rfl) rfl ?_; intro b0 hb0
    repeat' first | simp only [fins,mems,Tryz.results93,Tryz.ntmps93,Kt,wks,wordsT,wordsF,vcs,Ka,Kb,Kc,Kd,Ke,Kf,Kg,Kh,Ki,Kj,Kk,Kl,Km,reduceCtorEq,reduceIte,Kn,Ko,Kp,Kq,Kr,Ks,tys] | exact rfl | refine call_off (v := .any) ?_ | (refine ext_makeMap ?_) | (refine extG_true ?_) | (refine extG_false ?_) | (refine ext_insert (y := ?_) (kv := ?_) (xv := ?_) (kvs := ?_) ?_ ?_ ?_ ?_ wordsT ?_ ?_ ?_ ?_ ?_; rotate_left 4; (iterate 4 (focus (simp only [Tryz.results93,Tryz.ntmps93,Kt,wks,wordsT,wordsF,vcs,Ka,Kb,Kc,Kd,Ke,Kf,Kg,Kh,Ki,Kj,Kk,Kl,Km,reduceCtorEq,reduceIte,Kn,Ko,Kp,Kq,Kr,Ks,tys] <;> exact rfl))); (focus (kernel_rfl)); (iterate 3 (focus (exact rfl)))) | (refine ext_mapUpdate (y := ?_) (kv := ?_) (xv := ?_) (kvs := ?_) ?_ ?_ ?_ ?_ wordsT ?_ ?_ ?_ ?_ ?_; rotate_left 4; (iterate 4 (focus (simp only [Tryz.results93,Tryz.ntmps93,Kt,wks,wordsT,wordsF,vcs,Ka,Kb,Kc,Kd,Ke,Kf,Kg,Kh,Ki,Kj,Kk,Kl,Km,reduceCtorEq,reduceIte,Kn,Ko,Kp,Kq,Kr,Ks,tys] <;> exact rfl))); (focus (kernel_rfl)); (iterate 3 (focus (exact rfl)))) | ((first | apply cond_bool | apply cond_bit) <;> intro hb) | refine And.intro (by omega) ?_ | refine And.intro (fun hb => ?_) (fun hb => ?_)
    all_goals ((refine Fin.give [(b0 + 16, some 0)] [] ?_ ?_ ?_ ?_ ?_ (fun q hq => by have hqq := nil_ho (l := []) q hq; first | (simp only [gives,tgt,List.map_cons,List.map_nil,List.mem_cons,List.not_mem_nil,or_false] at hqq ⊢; omega) | (simp only [gives,tgt,List.map_cons,List.map_nil,List.mem_cons,List.not_mem_nil,or_false] at hqq)) <;> (try simp only [Tryz.results93,Tryz.ntmps93,wks,wordsF,wordsR,ren_map,renOk_map,giv,vcs,Ka,Kb,Kc,Kd,Ke,Kf,Kg,Kh,Ki,Kj,Kk,Kl,Km,reduceCtorEq,reduceIte,Kn,Ko,Kp,Kq,Kr,Ks,tys]) <;> (try simp only [injs]) <;> (try omega)))
  | true =>
    refine ev_go rfl (fun cargs w => Tryz.call93 cargs w) Tryz.func93 rfl mixed (by kernel_rfl) rfl ?_; intro b0 hb0
    repeat' first | simp only [fins,mems,Tryz.results93,Tryz.ntmps93,Kt,wks,wordsT,wordsF,vcs,Ka,Kb,Kc,Kd,Ke,Kf,Kg,Kh,Ki,Kj,Kk,Kl,Km,reduceCtorEq,reduceIte,Kn,Ko,Kp,Kq,Kr,Ks,tys] | exact rfl | refine call_off (v := .any) ?_ | (refine ext_makeMap ?_) | (refine extG_true ?_) | (refine extG_false ?_) | (refine ext_insert (y := ?_) (kv := ?_) (xv := ?_) (kvs := ?_) ?_ ?_ ?_ ?_ wordsT ?_ ?_ ?_ ?_ ?_; rotate_left 4; (iterate 4 (focus (simp only [Tryz.results93,Tryz.ntmps93,Kt,wks,wordsT,wordsF,vcs,Ka,Kb,Kc,Kd,Ke,Kf,Kg,Kh,Ki,Kj,Kk,Kl,Km,reduceCtorEq,reduceIte,Kn,Ko,Kp,Kq,Kr,Ks,tys] <;> exact rfl))); (focus (kernel_rfl)); (iterate 3 (focus (exact rfl)))) | (refine ext_mapUpdate (y := ?_) (kv := ?_) (xv := ?_) (kvs := ?_) ?_ ?_ ?_ ?_ wordsT ?_ ?_ ?_ ?_ ?_; rotate_left 4; (iterate 4 (focus (simp only [Tryz.results93,Tryz.ntmps93,Kt,wks,wordsT,wordsF,vcs,Ka,Kb,Kc,Kd,Ke,Kf,Kg,Kh,Ki,Kj,Kk,Kl,Km,reduceCtorEq,reduceIte,Kn,Ko,Kp,Kq,Kr,Ks,tys] <;> exact rfl))); (focus (kernel_rfl)); (iterate 3 (focus (exact rfl)))) | ((first | apply cond_bool | apply cond_bit) <;> intro hb) | refine And.intro (by omega) ?_ | refine And.intro (fun hb => ?_) (fun hb => ?_)
    all_goals ((refine Fin.give [(b0 + 16, some 0)] [] ?_ ?_ ?_ ?_ ?_ (fun q hq => by have hqq := nil_ho (l := []) q hq; first | (simp only [gives,tgt,List.map_cons,List.map_nil,List.mem_cons,List.not_mem_nil,or_false] at hqq ⊢; omega) | (simp only [gives,tgt,List.map_cons,List.map_nil,List.mem_cons,List.not_mem_nil,or_false] at hqq)) <;> (try simp only [Tryz.results93,Tryz.ntmps93,wks,wordsF,wordsR,ren_map,renOk_map,giv,vcs,Ka,Kb,Kc,Kd,Ke,Kf,Kg,Kh,Ki,Kj,Kk,Kl,Km,reduceCtorEq,reduceIte,Kn,Ko,Kp,Kq,Kr,Ks,tys]) <;> (try simp only [injs]) <;> (try omega)))
theorem ne_byte {c d : UInt8} (h : ¬ c = d) : ((c.toNat : Int) == (d.toNat : Int)) = false := by
  rw [beq_eq_false_iff_ne]
  intro e
  exact h (UInt8.toNat_inj.1 (by omega))
theorem find_words (q : Bool) (c : UInt8) : (findV (.int .u8 c.toNat) (wordsL q) = some none ∧ escB q c = [c]) ∨ findV (.int .u8 c.toNat) (wordsL q) = some (some (.agg [.str (escB q c)])) := by
  by_cases h1 : c = 38
  · subst h1; right; cases q <;> rfl
  by_cases h2 : c = 60
  · subst h2; right; cases q <;> rfl
  by_cases h3 : c = 62
  · subst h3; right; cases q <;> rfl
  by_cases h4 : c = 13
  · subst h4; right; cases q <;> rfl
  have e1 : ((c.toNat : Int) == 38) = false := ne_byte (d := 38) h1
  have e2 : ((c.toNat : Int) == 60) = false := ne_byte (d := 60) h2
  have e3 : ((c.toNat : Int) == 62) = false := ne_byte (d := 62) h3
  have e4 : ((c.toNat : Int) == 13) = false := ne_byte (d := 13) h4
  cases q with
  | false =>
    left
    simp only [wordsF,findV,sameV,if_true,e1,e2,e3,e4,escB,h1,h2,h3,h4,if_false,Bool.false_eq_true,and_self]
  | true =>
    by_cases h5 : c = 34
    · subst h5; right; rfl
    by_cases h6 : c = 9
    · subst h6; right; rfl
    by_cases h7 : c = 10
    · subst h7; right; rfl
    have e5 : ((c.toNat : Int) == 34) = false := ne_byte (d := 34) h5
    have e6 : ((c.toNat : Int) == 9) = false := ne_byte (d := 9) h6
    have e7 : ((c.toNat : Int) == 10) = false := ne_byte (d := 10) h7
    left
    simp only [wordsR,findV,sameV,if_true,e1,e2,e3,e4,e5,e6,e7,escB,h1,h2,h3,h4,h5,h6,h7,if_false,and_self]
def putE (q : Bool) (s : List UInt8) : Int := if ptsErr s ≠ 0 then ptsErr s else if 16384 < (escW q s).length then 4 else 0
def putT (q : Bool) (s : List UInt8) : List UInt8 := if putE q s = 0 then escW q s else []
theorem ePut_ev (s : List UInt8) (q : Bool) (hs : s.length ≤ lim) (nm : Nat) : Ev cx 73 nm [.str s, .bool q] Mem.nil (.tup [.str (putT q s), .int .i64 (putE q s)]) [] := by
  by_cases hz : ptsErr s = 0
  · have hb : (ptsErr s != 0) = false := by rw [hz]; rfl
    have hlen := ptsErr_len hz
    have hw := escW_length q s
    refine ev_go rfl (fun cargs w => Tryz.call73 cargs w) Tryz.func73 rfl mixed (by kernel_rfl) rfl ?_; intro b0 hb0
    repeat' first | simp only [fins,mems,Tryz.results73,Tryz.ntmps73,Kt,wks,hb,vcs,Ka,Kb,Kc,Kd,Ke,Kf,Kg,Kh,Ki,Kj,Kk,Kl,Km,reduceCtorEq,reduceIte,Kn,Ko,Kp,Kq,Kr,Ks,tys] | exact rfl | refine call_off (v := .any) ?_ | (first | (refine call_fn ?_ (tCheck_ev s hs _) ?_) | (refine call_fn_g ?_ (fun _ => tCheck_ev s hs _) ?_)) | (refine call_fn_new ?_ (words_ev q _) ?_ ?_) | (refine ext_toBytes (bs := ?_) ?_ ?_ ?_ ?_; rotate_left 1; (iterate 2 (focus (simp only [Tryz.results73,Tryz.ntmps73,Kt,wks,hb,vcs,Ka,Kb,Kc,Kd,Ke,Kf,Kg,Kh,Ki,Kj,Kk,Kl,Km,reduceCtorEq,reduceIte,Kn,Ko,Kp,Kq,Kr,Ks,tys]; done))); (focus (simp only [Tryz.results73,Tryz.ntmps73,Kt,wks,hb,vcs,Ka,Kb,Kc,Kd,Ke,Kf,Kg,Kh,Ki,Kj,Kk,Kl,Km,reduceCtorEq,reduceIte,Kn,Ko,Kp,Kq,Kr,Ks,tys] <;> exact rfl))) | (refine extG_true ?_) | (refine extG_false ?_) | omega | ((first | apply cond_bool | apply cond_bit) <;> intro hb) | refine And.intro (by omega) ?_ | refine And.intro (fun hb => ?_) (fun hb => ?_)
    (refine loop_can2 cxG (fun x : Nat => s.length - x) (fun x => x ≤ s.length) (b0 + 16) (fun x => [(7, .mp b0), (8, .ptr (b0 + 1) 0 0), (21, .sl false 1 (s.map byteRow)), (22, .int .i64 s.length), (23, .int .i64 x)]) (fun x => [(b0, mapK (wordsL q)), (b0 + 1, bS false (b0 + 1) (b0 + 2) (escW q (s.take x))), (b0 + 2, rK (escW q (s.take x)))]) (0) [some (b0 + 128), some (b0 + 160), none] ?_ ?_ ?_ ?_; rotate_left 1; (focus (show b0 ≤ _; omega)); (focus (refine ⟨?_, ?_⟩ <;> (try simp only [cans,bS_new,escW_nil,List.take_zero,rK_nil,rK_row,ren_map,renOk_map,ren_mkT,renOk_mkT,ren_rK,renOk_rK,plain_bs,List.length_map,vcs,Ka,Kb,Kc,Kd,Ke,Kf,Kg,Kh,Ki,Kj,Kk,Kl,Km,reduceCtorEq,reduceIte,Kn,Ko,Kp,Kq,Kr,Ks,tys,injs]) <;> (try omega))); rotate_left 1)
    · exact Nat.zero_le _
    · intro k hk
      by_cases hlt : k < s.length
      · obtain ⟨c, hc⟩ : ∃ c, s[k]? = some c := ⟨_, List.getElem?_eq_getElem hlt⟩
        have hh : (s.map byteRow)[k]? = some (byteRow c) := by rw [List.getElem?_map, hc]; rfl
        have hd : decide (k < s.length) = true := decide_eq_true hlt
        have hwk : IntKind.i64.wrap ((k : Int) + 1) = ((k + 1 : Nat) : Int) := wrap_in (by omega) (by omega)
        have hnx := escW_take q hc
        have hw1 := escW_length q (s.take k)
        have hw2 := escB_length q c
        have hw3 : (s.take k).length = k := by rw [List.length_take]; omega
        have hll : (escW q (s.take k)).length + (escB q c).length ≤ lim := by unfold lim; omega
        rcases find_words q c with ⟨hf, hb1⟩ | hf
        · rw [hb1] at hnx hll
          repeat' first | simp only [fins,mems,Tryz.results73,Tryz.ntmps73,Kt,wks,hh,hd,hlt,hf,wordsZ,fresh_self,List.length_map,gotV_true,byteRow,List.getElem?_cons_zero,Option.getD_none,Option.isSome_none,vcs,Ka,Kb,Kc,Kd,Ke,Kf,Kg,Kh,Ki,Kj,Kk,Kl,Km,reduceCtorEq,reduceIte,Kn,Ko,Kp,Kq,Kr,Ks,tys] | exact rfl | refine call_off (v := .any) ?_ | (refine call_fn_full ?_ [b0 + 1, b0 + 2] (wByte_ev false (b0 + 1) (b0 + 2) (escW q (s.take k)) _ _ c hll (by omega) ?_ ?_ only_mem (by omega) (by omega)) ?_ ?_) | (refine ext_lookup (y := ?_) (kv := ?_) (kvs := ?_) (q := ?_) ?_ ?_ ?_ wordsT ?_ ?_ wordsZ ?_ ?_ ?_; rotate_left 4; (iterate 3 (focus (simp only [Tryz.results73,Tryz.ntmps73,Kt,wks,hh,hd,hlt,hf,wordsZ,fresh_self,List.length_map,gotV_true,byteRow,List.getElem?_cons_zero,Option.getD_none,Option.isSome_none,vcs,Ka,Kb,Kc,Kd,Ke,Kf,Kg,Kh,Ki,Kj,Kk,Kl,Km,reduceCtorEq,reduceIte,Kn,Ko,Kp,Kq,Kr,Ks,tys] <;> exact rfl))); (focus (kernel_rfl)); (focus (exact rfl)); (focus (simp only [Tryz.results73,Tryz.ntmps73,Kt,wks,hh,hd,hlt,hf,wordsZ,fresh_self,List.length_map,gotV_true,byteRow,List.getElem?_cons_zero,Option.getD_none,Option.isSome_none,vcs,Ka,Kb,Kc,Kd,Ke,Kf,Kg,Kh,Ki,Kj,Kk,Kl,Km,reduceCtorEq,reduceIte,Kn,Ko,Kp,Kq,Kr,Ks,tys] <;> exact rfl)); (focus (intro v hv; cases hv <;> exact rfl))) | (refine extG_true ?_) | (refine extG_false ?_) | ((first | apply cond_bool | apply cond_bit) <;> intro hb) | refine And.intro (by omega) ?_ | refine And.intro (fun hb => ?_) (fun hb => ?_)
          all_goals ((refine again_can2 cxG (k + 1) [some b0, some (b0 + 1), some (b0 + 256)] ?_ ?_ ?_ ?_; rotate_left 2; (focus (show b0 ≤ _; omega)); (focus (refine ⟨?_, ?_⟩ <;> (try simp only [cans,hwk,hnx.symm,ren_map,renOk_map,ren_mkT,renOk_mkT,ren_bS,renOk_bS,ren_rK,renOk_rK,plain_bs,List.length_map,Option.getD_some,Option.isSome_some,vcs,Ka,Kb,Kc,Kd,Ke,Kf,Kg,Kh,Ki,Kj,Kk,Kl,Km,reduceCtorEq,reduceIte,Kn,Ko,Kp,Kq,Kr,Ks,tys,injs]) <;> (try omega)))))
          all_goals (first | (show s.length - (k + 1) < s.length - k; omega) | (show k + 1 ≤ s.length; omega) | skip)
        · repeat' first | simp only [fins,mems,Tryz.results73,Tryz.ntmps73,Kt,wks,hh,hd,hlt,hf,wordsZ,fresh_self,List.length_map,gotV_true,byteRow,List.getElem?_cons_zero,Option.getD_some,Option.isSome_some,vcs,Ka,Kb,Kc,Kd,Ke,Kf,Kg,Kh,Ki,Kj,Kk,Kl,Km,reduceCtorEq,reduceIte,Kn,Ko,Kp,Kq,Kr,Ks,tys] | exact rfl | refine call_off (v := .any) ?_ | (refine call_fn_full ?_ [b0 + 1, b0 + 2] (wStr_ev false (b0 + 1) (b0 + 2) (escW q (s.take k)) _ _ (escB q c) (escB_ne q c) hll (by omega) ?_ ?_ only_mem (by omega) (by omega)) ?_ ?_) | (refine ext_lookup (y := ?_) (kv := ?_) (kvs := ?_) (q := ?_) ?_ ?_ ?_ wordsT ?_ ?_ wordsZ ?_ ?_ ?_; rotate_left 4; (iterate 3 (focus (simp only [Tryz.results73,Tryz.ntmps73,Kt,wks,hh,hd,hlt,hf,wordsZ,fresh_self,List.length_map,gotV_true,byteRow,List.getElem?_cons_zero,Option.getD_some,Option.isSome_some,vcs,Ka,Kb,Kc,Kd,Ke,Kf,Kg,Kh,Ki,Kj,Kk,Kl,Km,reduceCtorEq,reduceIte,Kn,Ko,Kp,Kq,Kr,Ks,tys] <;> exact rfl))); (focus (kernel_rfl)); (focus (exact rfl)); (focus (simp only [Tryz.results73,Tryz.ntmps73,Kt,wks,hh,hd,hlt,hf,wordsZ,fresh_self,List.length_map,gotV_true,byteRow,List.getElem?_cons_zero,Option.getD_some,Option.isSome_some,vcs,Ka,Kb,Kc,Kd,Ke,Kf,Kg,Kh,Ki,Kj,Kk,Kl,Km,reduceCtorEq,reduceIte,Kn,Ko,Kp,Kq,Kr,Ks,tys] <;> exact rfl)); (focus (intro v hv; cases hv <;> exact rfl))) | (refine extG_true ?_) | (refine extG_false ?_) | ((first | apply cond_bool | apply cond_bit) <;> intro hb) | refine And.intro (by omega) ?_ | refine And.intro (fun hb => ?_) (fun hb => ?_)
          all_goals ((refine again_can2 cxG (k + 1) [some b0, some (b0 + 1), some (b0 + 272)] ?_ ?_ ?_ ?_; rotate_left 2; (focus (show b0 ≤ _; omega)); (focus (refine ⟨?_, ?_⟩ <;> (try simp only [cans,hwk,hnx.symm,ren_map,renOk_map,ren_mkT,renOk_mkT,ren_bS,renOk_bS,ren_rK,renOk_rK,plain_bs,List.length_map,Option.getD_some,Option.isSome_some,vcs,Ka,Kb,Kc,Kd,Ke,Kf,Kg,Kh,Ki,Kj,Kk,Kl,Km,reduceCtorEq,reduceIte,Kn,Ko,Kp,Kq,Kr,Ks,tys,injs]) <;> (try omega)))))
          all_goals (first | (show s.length - (k + 1) < s.length - k; omega) | (show k + 1 ≤ s.length; omega) | skip)
      · have hke : k = s.length := by omega
        subst hke
        have hd : decide (s.length < s.length) = false := decide_eq_false (by omega)
        have hll : (escW q s).length ≤ lim := by unfold lim; omega
        by_cases hbig : 16384 < (escW q s).length
        · have hp : putE q s = 4 := by unfold putE; rw [if_neg (fun h => h hz), if_pos hbig]
          have hp2 : putT q s = [] := by unfold putT; rw [hp]; rfl
          have hd2 : decide ((16384 : Int) < ((escW q s).length : Int)) = true := decide_eq_true (by omega)
          (repeat' first | simp only [fins,mems,Tryz.results73,Tryz.ntmps73,Kt,wks,hd,hd2,hp,hp2,List.take_length,vcs,Ka,Kb,Kc,Kd,Ke,Kf,Kg,Kh,Ki,Kj,Kk,Kl,Km,reduceCtorEq,reduceIte,Kn,Ko,Kp,Kq,Kr,Ks,tys] | exact rfl | refine call_off (v := .any) ?_ | (refine call_fn_full ?_ [b0 + 1, b0 + 2] (bLen_ev false (b0 + 1) (b0 + 2) (escW q s) _ _ (by omega) ?_ ?_ only_mem (by omega) (by omega)) ?_ ?_) | ((first | apply cond_bool | apply cond_bit) <;> intro hb) | refine And.intro (by omega) ?_ | refine And.intro (fun hb => ?_) (fun hb => ?_) | refine Fin.pure ?_ ?_ ?_ | simp only [injs])
        · have hp : putE q s = 0 := by unfold putE; rw [if_neg (fun h => h hz), if_neg hbig]
          have hp2 : putT q s = escW q s := by unfold putT; rw [hp]; rfl
          have hd2 : decide ((16384 : Int) < ((escW q s).length : Int)) = false := decide_eq_false (by omega)
          (repeat' first | simp only [fins,mems,Tryz.results73,Tryz.ntmps73,Kt,wks,hd,hd2,hp,hp2,List.take_length,vcs,Ka,Kb,Kc,Kd,Ke,Kf,Kg,Kh,Ki,Kj,Kk,Kl,Km,reduceCtorEq,reduceIte,Kn,Ko,Kp,Kq,Kr,Ks,tys] | exact rfl | refine call_off (v := .any) ?_ | (refine call_fn_full ?_ [b0 + 1, b0 + 2] (bLen_ev false (b0 + 1) (b0 + 2) (escW q s) _ _ (by omega) ?_ ?_ only_mem (by omega) (by omega)) ?_ ?_) | (refine call_fn_full ?_ [b0 + 1, b0 + 2] (bStr_ev false (b0 + 1) (b0 + 2) (escW q s) _ _ hll (by omega) ?_ ?_ only_mem (by omega) (by omega)) ?_ ?_) | ((first | apply cond_bool | apply cond_bit) <;> intro hb) | refine And.intro (by omega) ?_ | refine And.intro (fun hb => ?_) (fun hb => ?_) | refine Fin.pure ?_ ?_ ?_ | simp only [injs])
  · have hb : (ptsErr s != 0) = true := by rw [bne_iff_ne]; exact hz
    have h1 : putE q s = ptsErr s := by unfold putE; rw [if_pos hz]
    have h2 : putT q s = [] := by unfold putT; rw [h1, if_neg hz]
    refine ev_go rfl (fun cargs w => Tryz.call73 cargs w) Tryz.func73 rfl mixed (by kernel_rfl) rfl ?_; intro b0 hb0
    (repeat' first | simp only [fins,mems,Tryz.results73,Tryz.ntmps73,Kt,wks,hb,h1,h2,vcs,Ka,Kb,Kc,Kd,Ke,Kf,Kg,Kh,Ki,Kj,Kk,Kl,Km,reduceCtorEq,reduceIte,Kn,Ko,Kp,Kq,Kr,Ks,tys] | exact rfl | refine call_off (v := .any) ?_ | (first | (refine call_fn ?_ (tCheck_ev s hs _) ?_) | (refine call_fn_g ?_ (fun _ => tCheck_ev s hs _) ?_)) | ((first | apply cond_bool | apply cond_bit) <;> intro hb) | refine And.intro (by omega) ?_ | refine And.intro (fun hb => ?_) (fun hb => ?_) | refine Fin.pure ?_ ?_ ?_ | simp only [injs])
end Go.Proofs.YtoaclokiggoeiaaGreatDoor
