/-
  Texts joined: XNc, XNd, XNe, XNf, XNg, XNh, XNi, XNj, XNk, XNl, XNm, XNn, XNo.
-/
import Derived.Test.YtoaclokiggoeiaaGreatDoorMh
namespace Go.Proofs.YtoaclokiggoeiaaGreatDoor
set_option maxRecDepth 100000
set_option maxHeartbeats 32000000
set_option linter.unusedSimpArgs false
set_option linter.unusedVariables false
open Nat renaming reduceAdd → Ka, reduceMul → Kb, reduceEqDiff → Kc, reduceLeDiff → Kd, reduceSub → Ke, reduceLT → Kf, reduceBEq → Kr, reduceBNe → Ks, reducePow → Kt
open Int renaming reduceToNat → Kg, reduceLE → Kh, reduceLT → Ki, reduceAdd → Kj, reduceSub → Kk, reduceMul → Kl, reduceNeg → Km, reduceBEq → Kn, reduceBNe → Ko, reduceEq → Kp, reduceNe → Kq
open Go Go.RowKit Go.Proofs.YtoaclokiggoeiaaGreatDoor.Vm Go.Lib
theorem mnz_ev (n : Nat) (hn : n ≤ 281474976710656) (M : Mem) (nm : Nat) (hM : M nm = none) : Ev cx 127 nm [.int .i64 n] M (.own nm 0 n) [(nm, some (rK []))] :=
  Ev.makeNoZero (ps := Tryz.f127.params) (t := 30) Tryz.func127 (by kernel_rfl) (by kernel_rfl) (by kernel_rfl) (by kernel_rfl) und_30 n hn M nm hM
theorem runeLen1_ev (z : Int) (h0 : 0 ≤ z) (h1 : z ≤ 127) (nm : Nat) : Ev cx 99 nm [.int .i32 z] Mem.nil (.int .i64 1) [] := by
  have d0 : decide (z < 0) = false := decide_eq_false (by omega)
  have d1 : decide (z ≤ 127) = true := decide_eq_true h1
  refine ev_go rfl (fun cargs w => Tryz.call99 cargs w) Tryz.func99 rfl mixed (by kernel_rfl) rfl ?_; intro b0 hb0
  (repeat' first | simp only [fins,mems,Tryz.results99,Tryz.ntmps99,Kt,wks,d0,d1,vcs,Ka,Kb,Kc,Kd,Ke,Kf,Kg,Kh,Ki,Kj,Kk,Kl,Km,reduceCtorEq,reduceIte,Kn,Ko,Kp,Kq,Kr,Ks,tys] | exact rfl | refine call_off (v := .any) ?_ | ((first | apply cond_bool | apply cond_bit) <;> intro hb) | refine And.intro (by omega) ?_ | refine And.intro (fun hb => ?_) (fun hb => ?_) | refine Fin.pure ?_ ?_ ?_ | simp only [injs])
theorem ob_mk (s : Nat) (r : List (List V)) (o : Ob) : (@Blk.mk s r o).ob = o := rfl
theorem ren_nilT (σ : List (Nat × Nat)) (t : TypeId) : Blk.ren σ (@Blk.mk 1 [] (.typed t)) = @Blk.mk 1 [] (.typed t) := ren_bytesI σ [] t
theorem renOk_nilT (σ : List (Nat × Nat)) (t : TypeId) : Blk.renOk σ (@Blk.mk 1 [] (.typed t)) = true := renOk_bytesI σ [] t
theorem grow0_ev (q n : Nat) (hn : n ≤ 1000000) (M : Mem) (nm : Nat) (hq : M q = some (bK true q .nils)) (ho : ∀ z, (M z).isSome = true → z ∈ [q]) (hqn : q < nm) :
    Ev cx 117 nm [.ptr q 0 0, .int .i64 n] M (.tup []) [(q, some (bK true q (.own nm 0 0))), (nm, some (rK []))] := by
  have hw : IntKind.i64.wrap 0 = 0 := by decide
  have hw2 : IntKind.i64.wrap (0 + (n : Int)) = (n : Int) := by rw [wrap_in (by omega) (by omega)]; omega
  have hw3 : IntKind.i64.wrap (n : Int) = (n : Int) := wrap_in (by omega) (by omega)
  have nq := eq_false (show ¬ nm = q by omega)
  refine ev_go rfl (fun cargs w => Tryz.call117 cargs w) Tryz.func117 rfl mixed (by kernel_rfl) rfl ?_; intro b0 hb0
  have lq : q < b0 := below_of hb0 (by rw [hq]; rfl)
  have z0 := lt_ne lq; have z1 := lt_ne_add lq; have z2 := lt_ne' lq; have z3 := lt_ne_add' lq
  repeat' first | simp only [fins,mems,Tryz.results117,Tryz.ntmps117,Kt,wks,bK_t,hq,z0,z1,z2,z3,hw,hw2,hw3,rK_def,List.map_nil,fresh_self,isRow_typed,Nat.min_self,List.take_zero,List.all_nil,spliceL,vcs,Ka,Kb,Kc,Kd,Ke,Kf,Kg,Kh,Ki,Kj,Kk,Kl,Km,reduceCtorEq,reduceIte,Kn,Ko,Kp,Kq,Kr,Ks,tys] | exact rfl | refine call_off (v := .any) ?_ | (refine call_fn_new ?_ (mnz_ev n (by omega) Mem.nil _ rfl) ?_ ?_) | omega | refine draw_end' (ps := [(8, 12)]) (by decide +kernel) (by simp only [List.forall_mem_cons,List.getD_cons_zero,List.getD_cons_succ,Tryz.results117,Tryz.ntmps117,Kt,wks,bK_t,hq,z0,z1,z2,z3,hw,hw2,hw3,rK_def,List.map_nil,fresh_self,isRow_typed,Nat.min_self,List.take_zero,List.all_nil,spliceL,vcs,Ka,Kb,Kc,Kd,Ke,Kf,Kg,Kh,Ki,Kj,Kk,Kl,Km,reduceCtorEq,reduceIte,Kn,Ko,Kp,Kq,Kr,Ks,tys] <;> (try simp) <;> (try omega)) ?_ | refine draw_end (by decide +kernel) ?_ | ((first | apply cond_bool | apply cond_bit) <;> intro hb) | refine And.intro (by omega) ?_ | refine And.intro (fun hb => ?_) (fun hb => ?_)
  all_goals ((refine Fin.give [(q, none), (b0 + 128, some 0)] [] ?_ ?_ ?_ ?_ ?_ (fun q hq => by have hqq := ho q hq; first | (simp only [gives,tgt,List.map_cons,List.map_nil,List.mem_cons,List.not_mem_nil,or_false] at hqq ⊢; omega) | (simp only [gives,tgt,List.map_cons,List.map_nil,List.mem_cons,List.not_mem_nil,or_false] at hqq)) <;> (try simp only [Tryz.results117,Tryz.ntmps117,wks,ob_mk,ren_nilT,renOk_nilT,nq,bK_t,rK_def,hq,z0,z1,z2,z3,List.map_nil,giv,vcs,Ka,Kb,Kc,Kd,Ke,Kf,Kg,Kh,Ki,Kj,Kk,Kl,Km,reduceCtorEq,reduceIte,Kn,Ko,Kp,Kq,Kr,Ks,tys]) <;> (try simp only [injs]) <;> (try omega)))
theorem bGrow_ev (u : Bool) (q n : Nat) (h0 : 0 < n) (hn : n ≤ 1000000) (M : Mem) (nm : Nat) (hq : M q = some (bK u q .nils)) (ho : ∀ z, (M z).isSome = true → z ∈ [q]) (hqn : q < nm) :
    Ev cx 100 nm [.ptr q 0 0, .int .i64 n] M (.tup []) [(q, some (bK true q (.own nm 0 0))), (nm, some (rK []))] := by
  have d0 : decide ((n : Int) < 0) = false := decide_eq_false (by omega)
  have hw : IntKind.i64.wrap 0 = 0 := by decide
  have hw1 : IntKind.i64.wrap (0 - 0) = 0 := by decide
  have d1 : decide ((0 : Int) < (n : Int)) = true := decide_eq_true (by omega)
  have nq := eq_false (show ¬ nm = q by omega)
  refine ev_go rfl (fun cargs w => Tryz.call100 cargs w) Tryz.func100 rfl mixed (by kernel_rfl) rfl ?_; intro b0 hb0
  have lq : q < b0 := below_of hb0 (by rw [hq]; rfl)
  have z0 := lt_ne lq; have z1 := lt_ne_add lq; have z2 := lt_ne' lq; have z3 := lt_ne_add' lq
  repeat' first | simp only [fins,mems,Tryz.results100,Tryz.ntmps100,Kt,wks,bK_t,hq,z0,z1,z2,z3,d0,d1,hw,hw1,fresh_self,vcs,Ka,Kb,Kc,Kd,Ke,Kf,Kg,Kh,Ki,Kj,Kk,Kl,Km,reduceCtorEq,reduceIte,Kn,Ko,Kp,Kq,Kr,Ks,tys] | exact rfl | refine call_off (v := .any) ?_ | (refine call_fn_full ?_ [q] (copyN_ev u q _ _ ?_ only_mem (by omega)) ?_ ?_) | (refine call_fn_full ?_ [q] (grow0_ev q n hn _ _ ?_ only_mem (by omega)) ?_ ?_) | refine draw_end (by decide +kernel) ?_ | ((first | apply cond_bool | apply cond_bit) <;> intro hb) | refine And.intro (by omega) ?_ | refine And.intro (fun hb => ?_) (fun hb => ?_)
  all_goals ((refine Fin.give [(q, none), (b0 + 304, some 0)] [] ?_ ?_ ?_ ?_ ?_ (fun q hq => by have hqq := ho q hq; first | (simp only [gives,tgt,List.map_cons,List.map_nil,List.mem_cons,List.not_mem_nil,or_false] at hqq ⊢; omega) | (simp only [gives,tgt,List.map_cons,List.map_nil,List.mem_cons,List.not_mem_nil,or_false] at hqq)) <;> (try simp only [Tryz.results100,Tryz.ntmps100,wks,ob_mk,ren_nilT,renOk_nilT,nq,bK_t,rK_def,ren_bytes,renOk_bytes,hq,z0,z1,z2,z3,List.map_nil,giv,vcs,Ka,Kb,Kc,Kd,Ke,Kf,Kg,Kh,Ki,Kj,Kk,Kl,Km,reduceCtorEq,reduceIte,Kn,Ko,Kp,Kq,Kr,Ks,tys]) <;> (try simp only [injs]) <;> (try omega)))
theorem wRune_ev (z : Int) (hm : may z = true) (q y : Nat) (bs : List UInt8) (hbs : bs.length ≤ 1000000) (M : Mem) (nm : Nat) (hqy : q ≠ y) (hq : M q = some (bK true q (.own y 0 bs.length))) (hy : M y = some (rK bs)) (ho : ∀ z, (M z).isSome = true → z ∈ [q, y]) (hqn : q < nm) (hyn : y < nm) :
    Ev cx 101 nm [.ptr q 0 0, .int .i32 z] M (.tup [.int .i64 (encodeRune z).length, .val .nilIface]) [(y, none), (q, some (bK true q (.own nm 0 (bs.length + (encodeRune z).length)))), (nm, some (rK (bs ++ encodeRune z)))] := by
  have hel := encodeRune_length z
  have hw : IntKind.i64.wrap (((bs.length : Int) + ((encodeRune z).length : Int)) - (bs.length : Int)) = ((encodeRune z).length : Int) := by rw [wrap_in (by omega) (by omega)]; omega
  have hw' : IntKind.i64.wrap (((bs.length + (encodeRune z).length : Nat) : Int) - (bs.length : Int)) = ((encodeRune z).length : Int) := by rw [wrap_in (by omega) (by omega)]; omega
  refine ev_go rfl (fun cargs w => Tryz.call101 cargs w) Tryz.func101 rfl mixed (by kernel_rfl) rfl ?_; intro b0 hb0
  have lq : q < b0 := below_of hb0 (by rw [hq]; rfl)
  have ly : y < b0 := below_of hb0 (by rw [hy]; rfl)
  have y0 := lt_ne ly; have y1 := lt_ne_add ly; have y2 := lt_ne' ly; have y3 := lt_ne_add' ly
  have z0 := lt_ne lq; have z1 := lt_ne_add lq; have z2 := lt_ne' lq; have z3 := lt_ne_add' lq
  have n1 := eq_false hqy; have n4 := eq_false (Ne.symm hqy)
  repeat' first | simp only [fins,mems,Tryz.results101,Tryz.ntmps101,Kt,wks,bK_t,hq,hy,n1,n4,y0,y1,y2,y3,z0,z1,z2,z3,hw,hw',fresh_self,vcs,Ka,Kb,Kc,Kd,Ke,Kf,Kg,Kh,Ki,Kj,Kk,Kl,Km,reduceCtorEq,reduceIte,Kn,Ko,Kp,Kq,Kr,Ks,tys] | exact rfl | refine call_off (v := .any) ?_ | (refine call_fn_full ?_ [q, y] (copyO_ev true q y bs.length bs _ _ hqy ?_ ?_ only_mem (by omega) (by omega)) ?_ ?_) | (refine call_fn_full ?_ [y] (rune_ev z hm y bs hbs _ _ ?_ only_mem (by omega)) ?_ ?_) | ((first | apply cond_bool | apply cond_bit) <;> intro hb) | refine And.intro (by omega) ?_ | refine And.intro (fun hb => ?_) (fun hb => ?_)
  all_goals ((refine Fin.give [(q, none), (b0 + 256, some 0)] [y] ?_ ?_ ?_ ?_ ?_ (fun q hq => by have hqq := ho q hq; first | (simp only [gives,tgt,List.map_cons,List.map_nil,List.mem_cons,List.not_mem_nil,or_false] at hqq ⊢; omega) | (simp only [gives,tgt,List.map_cons,List.map_nil,List.mem_cons,List.not_mem_nil,or_false] at hqq)) <;> (try simp only [Tryz.results101,Tryz.ntmps101,wks,bK_t,rK_def,ren_bytes,renOk_bytes,hq,hy,n1,n4,y0,y1,y2,y3,z0,z1,z2,z3,giv,vcs,Ka,Kb,Kc,Kd,Ke,Kf,Kg,Kh,Ki,Kj,Kk,Kl,Km,reduceCtorEq,reduceIte,Kn,Ko,Kp,Kq,Kr,Ks,tys]) <;> (try simp only [injs]) <;> (try omega)))
theorem bCapC_ev (q y n c : Nat) (bs : List UInt8) (M : Mem) (nm : Nat) (hqy : q ≠ y) (hq : M q = some ⟨2, [[.ptr q 0 0, .ownc y 0 n c]]⟩) (hy : M y = some (rK bs)) (ho : ∀ z, (M z).isSome = true → z ∈ [q, y]) (hqn : q < nm) (hyn : y < nm) :
    Ev cx 102 nm [.ptr q 0 0] M (.int .i64 c) [(q, some ⟨2, [[.ptr q 0 0, .own y 0 n]]⟩), (y, some (rK bs))] := by
  refine ev_go rfl (fun cargs w => Tryz.call102 cargs w) Tryz.func102 rfl mixed (by kernel_rfl) rfl ?_; intro b0 hb0
  have lq : q < b0 := below_of hb0 (by rw [hq]; rfl)
  have ly : y < b0 := below_of hb0 (by rw [hy]; rfl)
  have y0 := lt_ne ly; have y1 := lt_ne_add ly; have y2 := lt_ne' ly; have y3 := lt_ne_add' ly
  have z0 := lt_ne lq; have z1 := lt_ne_add lq; have z2 := lt_ne' lq; have z3 := lt_ne_add' lq
  have n1 := eq_false hqy; have n4 := eq_false (Ne.symm hqy)
  repeat' first | simp only [fins,mems,Tryz.results102,Tryz.ntmps102,Kt,wks,hq,hy,n1,n4,y0,y1,y2,y3,z0,z1,z2,z3,vcs,Ka,Kb,Kc,Kd,Ke,Kf,Kg,Kh,Ki,Kj,Kk,Kl,Km,reduceCtorEq,reduceIte,Kn,Ko,Kp,Kq,Kr,Ks,tys] | exact rfl | refine call_off (v := .any) ?_ | ((first | apply cond_bool | apply cond_bit) <;> intro hb) | refine And.intro (by omega) ?_ | refine And.intro (fun hb => ?_) (fun hb => ?_)
  all_goals ((refine Fin.give [(q, none), (y, none)] [] ?_ ?_ ?_ ?_ ?_ (fun q hq => by have hqq := ho q hq; first | (simp only [gives,tgt,List.map_cons,List.map_nil,List.mem_cons,List.not_mem_nil,or_false] at hqq ⊢; omega) | (simp only [gives,tgt,List.map_cons,List.map_nil,List.mem_cons,List.not_mem_nil,or_false] at hqq)) <;> (try simp only [Tryz.results102,Tryz.ntmps102,wks,rK_def,ren_bytes,renOk_bytes,hq,hy,n1,n4,y0,y1,y2,y3,z0,z1,z2,z3,giv,vcs,Ka,Kb,Kc,Kd,Ke,Kf,Kg,Kh,Ki,Kj,Kk,Kl,Km,reduceCtorEq,reduceIte,Kn,Ko,Kp,Kq,Kr,Ks,tys]) <;> (try simp only [injs]) <;> (try omega)))
theorem bCap_some (q y : Nat) (bs : List UInt8) (M : Mem) (nm : Nat) (hqy : q ≠ y) (hq : M q = some (bK true q (.own y 0 bs.length))) (hy : M y = some (rK bs)) (ho : ∀ z, (M z).isSome = true → z ∈ [q, y]) (hqn : q < nm) (hyn : y < nm) :
    EvE cx 102 nm [.ptr q 0 0] M (fun u => ∃ c : Nat, bs.length ≤ c ∧ u = .int .i64 c) [(q, some (bK true q (.own y 0 bs.length))), (y, some (rK bs))] := by
  refine EvE.cell (v := fun c => .int .i64 c) q 1 y 0 bs.length 2 [.ptr q 0 0, .own y 0 bs.length] instCells hq rfl rfl (by simp [effNames]) (fun c hc => ?_)
  exact bCapC_ev q y bs.length c bs _ nm hqy (Mem.put_same _ _ _) (by rw [Mem.put_ne _ _ (Ne.symm hqy)]; exact hy) (fun z hz => by
    by_cases e : z = q
    · simp [e]
    · rw [Mem.put_ne _ _ e] at hz; exact ho z hz) hqn hyn
theorem bCapN_ev (u : Bool) (q : Nat) (M : Mem) (nm : Nat) (hq : M q = some (bK u q .nils)) (ho : ∀ z, (M z).isSome = true → z ∈ [q]) (hqn : q < nm) :
    Ev cx 102 nm [.ptr q 0 0] M (.int .i64 0) [(q, some (bK u q .nils))] := by
  cases u
  all_goals (
    first | rw [bK_f] at hq ⊢ | rw [bK_t] at hq ⊢
    refine ev_go rfl (fun cargs w => Tryz.call102 cargs w) Tryz.func102 rfl mixed (by kernel_rfl) rfl ?_; intro b0 hb0
    have lq : q < b0 := below_of hb0 (by rw [hq]; rfl)
    have z0 := lt_ne lq; have z1 := lt_ne_add lq; have z2 := lt_ne' lq; have z3 := lt_ne_add' lq
    repeat' first | simp only [fins,mems,Tryz.results102,Tryz.ntmps102,Kt,wks,hq,z0,z1,z2,z3,vcs,Ka,Kb,Kc,Kd,Ke,Kf,Kg,Kh,Ki,Kj,Kk,Kl,Km,reduceCtorEq,reduceIte,Kn,Ko,Kp,Kq,Kr,Ks,tys] | exact rfl | refine call_off (v := .any) ?_ | ((first | apply cond_bool | apply cond_bit) <;> intro hb) | refine And.intro (by omega) ?_ | refine And.intro (fun hb => ?_) (fun hb => ?_)
    all_goals ((refine Fin.give [(q, none)] [] ?_ ?_ ?_ ?_ ?_ (fun q hq => by have hqq := ho q hq; first | (simp only [gives,tgt,List.map_cons,List.map_nil,List.mem_cons,List.not_mem_nil,or_false] at hqq ⊢; omega) | (simp only [gives,tgt,List.map_cons,List.map_nil,List.mem_cons,List.not_mem_nil,or_false] at hqq)) <;> (try simp only [Tryz.results102,Tryz.ntmps102,wks,hq,ren_mkT,renOk_mkT,z0,z1,z2,z3,giv,vcs,Ka,Kb,Kc,Kd,Ke,Kf,Kg,Kh,Ki,Kj,Kk,Kl,Km,reduceCtorEq,reduceIte,Kn,Ko,Kp,Kq,Kr,Ks,tys]) <;> (try simp only [injs]) <;> (try omega))))
end Go.Proofs.YtoaclokiggoeiaaGreatDoor
namespace Go.Proofs.YtoaclokiggoeiaaGreatDoor
set_option maxRecDepth 100000
set_option maxHeartbeats 32000000
set_option linter.unusedSimpArgs false
set_option linter.unusedVariables false
open Go Go.RowKit Go.Proofs.YtoaclokiggoeiaaGreatDoor.Vm Go.Lib
theorem flat_enc {z : Int} (hm : may z = true) : (encodeRune z).map flatB = encodeRune (flatZ z) := by
  have hr := may_range hm
  by_cases h : z < 128
  · have key : ∀ n : Fin 128, (encodeRune (n.val : Int)).map flatB = encodeRune (flatZ (n.val : Int)) := by decide +kernel
    have := key ⟨z.toNat, by omega⟩
    have e : ((z.toNat : Nat) : Int) = z := by omega
    simpa only [e] using this
  · have hf : flatZ z = z := by
      unfold flatZ
      rw [if_neg]
      unfold blankZ
      simp only [decide_eq_true_eq]; omega
    rw [hf]
    have hh := enc_high (z := z) (by omega)
    rw [show (encodeRune z).map flatB = (encodeRune z).map id from List.map_congr_left (fun c hc => ?_), List.map_id]
    have := hh c hc
    have hb : blankB c = false := by
      unfold blankB
      have hne : ∀ d : UInt8, d.toNat < 128 → (c == d) = false := fun d hd => beq_false_of_ne (fun e => by subst e; omega)
      rw [hne 32 (by decide), hne 9 (by decide), hne 10 (by decide), hne 13 (by decide)]; rfl
    unfold flatB
    rw [hb]; rfl
theorem flat_may {z : Int} (hm : may z = true) : may (flatZ z) = true := by
  unfold flatZ
  split
  · decide
  · exact hm
theorem flat_dec (zs : List Int) (h : zs.all may = true) : (enc zs).map flatB = enc (zs.map flatZ) := by
  induction zs with
  | nil => rfl
  | cons z zs ih =>
    simp only [List.all_cons,Bool.and_eq_true] at h
    have e : enc (z :: zs) = encodeRune z ++ enc zs := by simp [enc]
    have e2 : enc ((z :: zs).map flatZ) = encodeRune (flatZ z) ++ enc (zs.map flatZ) := by simp [enc]
    rw [e, e2, List.map_append, flat_enc h.1, ih h.2]
theorem dec_flat {s : List UInt8} (h : (dec s).isSome = true) : (dec (s.map flatB)).isSome = true := by
  obtain ⟨zs, hz⟩ := Option.isSome_iff_exists.1 h
  obtain ⟨hm, rfl⟩ := (dec_iff s zs).1 hz
  rw [flat_dec zs hm, dec_enc]
  · rfl
  · rw [List.all_map, List.all_eq_true]
    intro z hz
    exact flat_may (List.all_eq_true.1 hm z hz)
theorem rune_here {s : List UInt8} {p : Nat} (hp : p < s.length) (h : (dec (s.drop p)).isSome = true) : ∃ z : Int, ((runeAt s p).1 : Int) = z ∧ may z = true ∧ encodeRune z = (s.drop p).take (runeAt s p).2 ∧ 1 ≤ (runeAt s p).2 ∧ p + (runeAt s p).2 ≤ s.length ∧ (dec (s.drop (p + (runeAt s p).2))).isSome = true ∧ (runeAt s p).2 = (encodeRune z).length := by
  have ho := one_at hp
  have hne : s.drop p ≠ [] := by
    intro h
    have := congrArg List.length h
    simp at this; omega
  split at ho
  · rw [dec_bad hne ho] at h; cases h
  · obtain ⟨_, hm, he, h1, h2⟩ := one_some ho
    have hd := dec_step ho
    rw [hd, List.drop_drop] at h
    simp only [List.length_drop] at h2
    refine ⟨_, rfl, hm, he, h1, by omega, by simpa using h, ?_⟩
    rw [he, List.length_take, List.length_drop]; omega
theorem take_flat {s : List UInt8} {p k : Nat} {z : Int} (hm : may z = true) (he : encodeRune z = (s.drop p).take k) : (s.take (p + k)).map flatB = (s.take p).map flatB ++ encodeRune (flatZ z) := by
  rw [List.take_add, List.map_append, ← he, flat_enc hm]
end Go.Proofs.YtoaclokiggoeiaaGreatDoor
namespace Go.Proofs.YtoaclokiggoeiaaGreatDoor
set_option maxRecDepth 100000
set_option maxHeartbeats 32000000
set_option linter.unusedSimpArgs false
set_option linter.unusedVariables false
open Nat renaming reduceAdd → Ka, reduceMul → Kb, reduceEqDiff → Kc, reduceLeDiff → Kd, reduceSub → Ke, reduceLT → Kf, reduceBEq → Kr, reduceBNe → Ks, reducePow → Kt
open Int renaming reduceToNat → Kg, reduceLE → Kh, reduceLT → Ki, reduceAdd → Kj, reduceSub → Kk, reduceMul → Kl, reduceNeg → Km, reduceBEq → Kn, reduceBNe → Ko, reduceEq → Kp, reduceNe → Kq
open Go Go.RowKit Go.Proofs.YtoaclokiggoeiaaGreatDoor.Vm Go.Lib
def firstL : List V := Lib.firstTab.map fun z => .int .u8 z
def accL : List V := (List.range 16).flatMap fun i => [V.int .u8 (Lib.accLo i), .int .u8 (Lib.accHi i)]
theorem g_first : cx.G 1 = .rp firstL := by show tabsG 1 = _; unfold tabsG; rw [if_pos rfl]; rfl
theorem g_acc : cx.G 2 = .rp accL := by show tabsG 2 = _; unfold tabsG; rw [if_neg (by decide), if_pos rfl]; rfl
theorem slow3_ev (t : List UInt8) (ht : t.length ≤ 1000000) (nm : Nat) : Ev cx 116 nm [.str (239 :: 191 :: 189 :: t)] Mem.nil (.tup [.int .i32 65533, .int .i64 3]) [] := by
  have hf : (firstL.drop 239)[0]? = some (.int .u8 3) := by kernel_rfl
  have hf' : 239 < firstL.length := by decide +kernel
  have hf2 : firstL.length = 256 := by decide +kernel
  have hl : (239 :: 191 :: 189 :: t).length = t.length + 3 := rfl
  have d1 : decide (((t.length + 3 : Nat) : Int) < 1) = false := decide_eq_false (by omega)
  have d2 : decide ((t.length : Int) + 3 < 1) = false := decide_eq_false (by omega)
  have g0 : (239 :: 191 :: 189 :: t)[0]? = some (239 : UInt8) := rfl
  have g1 : (239 :: 191 :: 189 :: t)[1]? = some (191 : UInt8) := rfl
  have g2 : (239 :: 191 :: 189 :: t)[2]? = some (189 : UInt8) := rfl
  have l0 : 0 < t.length + 3 := by omega
  have l1 : 1 < t.length + 3 := by omega
  have l2 : 2 < t.length + 3 := by omega
  have t1 : (239 : UInt8).toNat = 239 := rfl
  have t2 : (191 : UInt8).toNat = 191 := rfl
  have t3 : (189 : UInt8).toNat = 189 := rfl
  have p1 : 0 < (firstL.drop 239).length := by decide +kernel
  have s1 : Int.fdiv 3 (2 ^ min 4 IntKind.u8.bits) = 0 := by decide +kernel
  have a1 : List.take 2 accL = [V.int .u8 128, V.int .u8 191] := by kernel_rfl
  have p2 : 2 ≤ accL.length := by decide +kernel
  have w1 : IntKind.u8.wrap ((BitVec.ofInt IntKind.u8.bits 3 &&& BitVec.ofInt IntKind.u8.bits 7).toNat : Int) = 3 := by decide +kernel
  have w2 : IntKind.i64.wrap 3 = 3 := by decide
  have d3 : decide (((t.length + 3 : Nat) : Int) < 3) = false := decide_eq_false (by omega)
  have d4 : decide ((t.length : Int) + 3 < 3) = false := decide_eq_false (by omega)
  have x1 : IntKind.u8.wrap ((BitVec.ofInt IntKind.u8.bits 239 &&& BitVec.ofInt IntKind.u8.bits 15).toNat : Int) = 15 := by decide +kernel
  have x2 : IntKind.u8.wrap ((BitVec.ofInt IntKind.u8.bits 191 &&& BitVec.ofInt IntKind.u8.bits 63).toNat : Int) = 63 := by decide +kernel
  have x3 : IntKind.u8.wrap ((BitVec.ofInt IntKind.u8.bits 189 &&& BitVec.ofInt IntKind.u8.bits 63).toNat : Int) = 61 := by decide +kernel
  have w3 : IntKind.i32.wrap 15 = 15 := by decide
  have w4 : IntKind.i32.wrap 63 = 63 := by decide
  have w5 : IntKind.i32.wrap 61 = 61 := by decide
  have y1 : IntKind.i32.wrap (15 * 2 ^ min 12 IntKind.i32.bits) = 61440 := by decide +kernel
  have y2 : IntKind.i32.wrap (63 * 2 ^ min 6 IntKind.i32.bits) = 4032 := by decide +kernel
  have v1 : IntKind.i32.wrap ((BitVec.ofInt IntKind.i32.bits 61440 ||| BitVec.ofInt IntKind.i32.bits 4032).toNat : Int) = 65472 := by decide +kernel
  have v2 : IntKind.i32.wrap ((BitVec.ofInt IntKind.i32.bits 65472 ||| BitVec.ofInt IntKind.i32.bits 61).toNat : Int) = 65533 := by decide +kernel
  refine ev_go rfl (fun cargs w => Tryz.call116 cargs w) Tryz.func116 rfl mixed (by kernel_rfl) rfl ?_; intro b0 hb0
  (repeat' first | simp only [fins,mems,Tryz.results116,Tryz.ntmps116,Kt,wks,g_first,g_acc,hf,hf',hf2,hl,d1,d2,g0,g1,g2,l0,l1,l2,t1,t2,t3,p1,p2,s1,a1,w1,w2,w3,w4,w5,d3,d4,x1,x2,x3,y1,y2,v1,v2,Int.toNat_zero,Nat.zero_mul,List.drop_zero,vcs,Ka,Kb,Kc,Kd,Ke,Kf,Kg,Kh,Ki,Kj,Kk,Kl,Km,reduceCtorEq,reduceIte,Kn,Ko,Kp,Kq,Kr,Ks,tys] | exact rfl | refine call_off (v := .any) ?_ | ((first | apply cond_bool | apply cond_bit) <;> intro hb) | refine And.intro (by omega) ?_ | refine And.intro (fun hb => ?_) (fun hb => ?_) | refine Fin.pure ?_ ?_ ?_ | simp only [injs])
theorem odd3_ev (t : List UInt8) (ht : t.length ≤ 1000000) (nm : Nat) : Ev cx 98 nm [.str (239 :: 191 :: 189 :: t)] Mem.nil (.tup [.int .i32 65533, .int .i64 3]) [] := by
  have e0 : (!((239 :: 191 :: 189 :: t) == ([] : List UInt8))) = true := rfl
  have e0' : ((239 :: 191 :: 189 :: t) != ([] : List UInt8)) = true := rfl
  have hl : (239 :: 191 :: 189 :: t).length = t.length + 3 := rfl
  have g0 : (239 :: 191 :: 189 :: t)[0]? = some (239 : UInt8) := rfl
  have l0 : 0 < t.length + 3 := by omega
  have t1 : (239 : UInt8).toNat = 239 := rfl
  refine ev_go rfl (fun cargs w => Tryz.call98 cargs w) Tryz.func98 rfl mixed (by kernel_rfl) rfl ?_; intro b0 hb0
  (repeat' first | simp only [fins,mems,Tryz.results98,Tryz.ntmps98,Kt,wks,e0,e0',hl,g0,l0,t1,vcs,Ka,Kb,Kc,Kd,Ke,Kf,Kg,Kh,Ki,Kj,Kk,Kl,Km,reduceCtorEq,reduceIte,Kn,Ko,Kp,Kq,Kr,Ks,tys] | exact rfl | refine call_off (v := .any) ?_ | (first | (refine call_fn ?_ (slow3_ev t ht _) ?_) | (refine call_fn_g ?_ (fun _ => slow3_ev t ht _) ?_)) | ((first | apply cond_bool | apply cond_bit) <;> intro hb) | refine And.intro (by omega) ?_ | refine And.intro (fun hb => ?_) (fun hb => ?_) | refine Fin.pure ?_ ?_ ?_ | simp only [injs])
def flatF : V := .fn 79 []
theorem take_all_flat {s : List UInt8} {p : Nat} (h : (s.take p).map flatB = s.take p) (hp : p = s.length) : s.map flatB = s := by
  subst hp; rwa [List.take_length] at h
theorem nine_len {z : Int} (h : z = 9 ∨ z = 10 ∨ z = 13 ∨ z = 32) : encodeRune z = [z.toNat.toUInt8] ∧ 0 ≤ z ∧ z ≤ 127 := by
  refine ⟨?_, by omega, by omega⟩
  rcases h with rfl | rfl | rfl | rfl <;> decide +kernel
theorem low_enc {z : Int} (h0 : 0 ≤ z) (h : z < 128) : encodeRune z = [z.toNat.toUInt8] := by
  have key : ∀ n : Fin 128, encodeRune (n.val : Int) = [(n.val : Int).toNat.toUInt8] := by decide +kernel
  have := key ⟨z.toNat, by omega⟩
  have e : ((z.toNat : Nat) : Int) = z := by omega
  simpa only [e] using this
theorem low_wrap {z : Int} (h0 : 0 ≤ z) (h : z < 128) : IntKind.u8.wrap z = ((z.toNat.toUInt8).toNat : Int) := by
  have key : ∀ n : Fin 128, IntKind.u8.wrap (n.val : Int) = (((n.val : Int).toNat.toUInt8).toNat : Int) := by decide +kernel
  have := key ⟨z.toNat, by omega⟩
  have e : ((z.toNat : Nat) : Int) = z := by omega
  simpa only [e] using this
theorem ren_bK (σ : List (Nat × Nat)) (q y a b : Nat) : Blk.ren σ (bK true q (.own y a b)) = bK true ((newName σ q).getD q) (.own ((newName σ y).getD y) a b) := by
  simp [bK,Blk.ren,renLL,renL,V.ren,plainLL,plainL,V.plain,Ob.ren,instCells]
theorem renOk_bK (σ : List (Nat × Nat)) (q y a b : Nat) (h1 : (newName σ q).isSome = true) (h2 : (newName σ y).isSome = true) : Blk.renOk σ (bK true q (.own y a b)) = true := by
  simp [bK,Blk.renOk,renOkLL,renOkL,V.renOk,h1,h2,Ob.renOk,instCells]
theorem map_ev (s : List UInt8) (hs : s.length ≤ 20000) (hdec : (dec s).isSome = true) (nm : Nat) : Ev cx 78 nm [flatF, .str s] Mem.nil (.str (s.map flatB)) [] := by
  unfold flatF
  refine ev_go rfl (fun cargs w => Tryz.call78 cargs w) Tryz.func78 rfl mixed (by kernel_rfl) rfl ?_; intro b0 hb0
  repeat' first | simp only [fins,mems,Tryz.results78,Tryz.ntmps78,Kt,wks,vcs,Ka,Kb,Kc,Kd,Ke,Kf,Kg,Kh,Ki,Kj,Kk,Kl,Km,reduceCtorEq,reduceIte,Kn,Ko,Kp,Kq,Kr,Ks,tys] | exact rfl | refine call_off (v := .any) ?_ | (refine ext_range (s := ?_) ?_ ?_ ?_; rotate_left 1; (iterate 2 (focus (simp only [Tryz.results78,Tryz.ntmps78,Kt,wks,vcs,Ka,Kb,Kc,Kd,Ke,Kf,Kg,Kh,Ki,Kj,Kk,Kl,Km,reduceCtorEq,reduceIte,Kn,Ko,Kp,Kq,Kr,Ks,tys] <;> exact rfl)))) | (refine extG_true ?_) | (refine extG_false ?_) | ((first | (refine call_val (g := ?_) ?_ ?_) | (refine call_valg (g := ?_) ?_ ?_)); rotate_left 1; (focus (simp only [Tryz.results78,Tryz.ntmps78,Kt,wks,vcs,Ka,Kb,Kc,Kd,Ke,Kf,Kg,Kh,Ki,Kj,Kk,Kl,Km,reduceCtorEq,reduceIte,Kn,Ko,Kp,Kq,Kr,Ks,tys] <;> exact rfl))) | ((first | apply cond_bool | apply cond_bit) <;> intro hb) | refine And.intro (by omega) ?_ | refine And.intro (fun hb => ?_) (fun hb => ?_)
  (refine loop_can2 cxG (fun x : Nat => s.length - x) (fun x => x ≤ s.length ∧ (dec (s.drop x)).isSome = true ∧ (s.take x).map flatB = s.take x) (b0 + 16) (fun x => [(0, .fn 79 []), (1, .str s), (5, .ptr (b0 + 1) 0 0), (14, .ptr b0 0 0)]) (fun x => [(b0, iterK s x), (b0 + 1, bK false (b0 + 1) .nils)]) (0) [some (b0 + 48), some (b0 + 16)] ?_ ?_ ?_ ?_; rotate_left 1; (focus (show b0 ≤ _; omega)); (focus (refine ⟨?_, ?_⟩ <;> (try simp only [cans,ren_iter,renOk_iter,bK_f,ren_mkT,renOk_mkT,isRow_inst,vcs,Ka,Kb,Kc,Kd,Ke,Kf,Kg,Kh,Ki,Kj,Kk,Kl,Km,reduceCtorEq,reduceIte,Kn,Ko,Kp,Kq,Kr,Ks,tys,injs]) <;> (try omega))); rotate_left 1)
  · exact ⟨Nat.zero_le _, by rw [List.drop_zero]; exact hdec, rfl⟩
  · rintro p ⟨h1, h2, h3⟩
    by_cases hp : p < s.length
    · obtain ⟨z, hz, hm, he, hk1, hk2, hd2, hk3⟩ := rune_here hp h2
      have hmz := (may_iff z).1 hm
      have hfe := flat_ev z hm
      have htf := take_flat hm he
      by_cases hfz : flatZ z = z
      · have q1 : (flatZ z == z) = true := by rw [hfz]; simp
        have hnx : (s.take (p + (runeAt s p).2)).map flatB = s.take (p + (runeAt s p).2) := by
          rw [htf, h3, hfz, List.take_add, ← he]
        by_cases h65 : z = 65533
        · subst h65
          have hk3' : (runeAt s p).2 = 3 := by rw [hk3]; decide +kernel
          have hdr : s.drop p = 239 :: 191 :: 189 :: s.drop (p + 3) := by
            rw [hk3'] at he
            have h4 := List.take_append_drop 3 (s.drop p)
            rw [← he, show encodeRune 65533 = [239, 191, 189] by decide +kernel, List.drop_drop] at h4
            exact h4.symm
          have hodd := odd3_ev (s.drop (p + 3)) (by simp; omega)
          have q3 : (flatZ 65533 == 65533) = true := q1
          have hpi : (p : Int) ≤ (s.length : Int) := by omega
          rw [hfz] at hfe
          repeat' first | simp only [fins,mems,Tryz.results78,Tryz.ntmps78,Kt,wks,hp,h1,hpi,hz,hdr,bK_f,vcs,Ka,Kb,Kc,Kd,Ke,Kf,Kg,Kh,Ki,Kj,Kk,Kl,Km,reduceCtorEq,reduceIte,Kn,Ko,Kp,Kq,Kr,Ks,tys] | exact rfl | refine call_off (v := .any) ?_ | (first | (refine call_fn ?_ (hfe _) ?_) | (refine call_fn_g ?_ (fun _ => hfe _) ?_) | (refine call_fn ?_ (hodd _) ?_) | (refine call_fn_g ?_ (fun _ => hodd _) ?_)) | (refine ext_next (s := ?_) (y := ?_) (p := ?_) ?_ ?_ ?_ ?_; rotate_left 3; (iterate 2 (focus (simp only [Tryz.results78,Tryz.ntmps78,Kt,wks,hp,h1,hpi,hz,hdr,bK_f,vcs,Ka,Kb,Kc,Kd,Ke,Kf,Kg,Kh,Ki,Kj,Kk,Kl,Km,reduceCtorEq,reduceIte,Kn,Ko,Kp,Kq,Kr,Ks,tys] <;> exact rfl))); (focus (simp only [Tryz.results78,Tryz.ntmps78,Kt,wks,hp,h1,hpi,hz,hdr,bK_f,vcs,Ka,Kb,Kc,Kd,Ke,Kf,Kg,Kh,Ki,Kj,Kk,Kl,Km,reduceCtorEq,reduceIte,Kn,Ko,Kp,Kq,Kr,Ks,tys] <;> omega))) | (refine extG_true ?_) | (refine extG_false ?_) | ((first | (refine call_val (g := ?_) ?_ ?_) | (refine call_valg (g := ?_) ?_ ?_)); rotate_left 1; (focus (simp only [Tryz.results78,Tryz.ntmps78,Kt,wks,hp,h1,hpi,hz,hdr,bK_f,vcs,Ka,Kb,Kc,Kd,Ke,Kf,Kg,Kh,Ki,Kj,Kk,Kl,Km,reduceCtorEq,reduceIte,Kn,Ko,Kp,Kq,Kr,Ks,tys] <;> exact rfl))) | refine And.intro (by omega) ?_
          all_goals ((refine again_can2 cxG (p + (runeAt s p).2) [some b0, some (b0 + 1)] ?_ ?_ ?_ ?_; rotate_left 2; (focus (show b0 ≤ _; omega)); (focus (refine ⟨?_, ?_⟩ <;> (try simp only [cans,ren_iter,renOk_iter,bK_f,ren_mkT,renOk_mkT,isRow_inst,vcs,Ka,Kb,Kc,Kd,Ke,Kf,Kg,Kh,Ki,Kj,Kk,Kl,Km,reduceCtorEq,reduceIte,Kn,Ko,Kp,Kq,Kr,Ks,tys,injs]) <;> (try omega)))))
          all_goals (first | (show s.length - (p + (runeAt s p).2) < s.length - p; omega) | exact ⟨hk2, hd2, hnx⟩ | skip)
        · have q2 : (!(z == 65533)) = true := by rw [beq_false_of_ne h65]; rfl
          have q2' : (z != 65533) = true := q2
          repeat' first | simp only [fins,mems,Tryz.results78,Tryz.ntmps78,Kt,wks,hp,hz,q1,q2,q2',bK_f,vcs,Ka,Kb,Kc,Kd,Ke,Kf,Kg,Kh,Ki,Kj,Kk,Kl,Km,reduceCtorEq,reduceIte,Kn,Ko,Kp,Kq,Kr,Ks,tys] | exact rfl | refine call_off (v := .any) ?_ | (first | (refine call_fn ?_ (hfe _) ?_) | (refine call_fn_g ?_ (fun _ => hfe _) ?_)) | (refine ext_next (s := ?_) (y := ?_) (p := ?_) ?_ ?_ ?_ ?_; rotate_left 3; (iterate 2 (focus (simp only [Tryz.results78,Tryz.ntmps78,Kt,wks,hp,hz,q1,q2,q2',bK_f,vcs,Ka,Kb,Kc,Kd,Ke,Kf,Kg,Kh,Ki,Kj,Kk,Kl,Km,reduceCtorEq,reduceIte,Kn,Ko,Kp,Kq,Kr,Ks,tys] <;> exact rfl))); (focus (simp only [Tryz.results78,Tryz.ntmps78,Kt,wks,hp,hz,q1,q2,q2',bK_f,vcs,Ka,Kb,Kc,Kd,Ke,Kf,Kg,Kh,Ki,Kj,Kk,Kl,Km,reduceCtorEq,reduceIte,Kn,Ko,Kp,Kq,Kr,Ks,tys] <;> omega))) | (refine extG_true ?_) | (refine extG_false ?_) | ((first | (refine call_val (g := ?_) ?_ ?_) | (refine call_valg (g := ?_) ?_ ?_)); rotate_left 1; (focus (simp only [Tryz.results78,Tryz.ntmps78,Kt,wks,hp,hz,q1,q2,q2',bK_f,vcs,Ka,Kb,Kc,Kd,Ke,Kf,Kg,Kh,Ki,Kj,Kk,Kl,Km,reduceCtorEq,reduceIte,Kn,Ko,Kp,Kq,Kr,Ks,tys] <;> exact rfl))) | refine And.intro (by omega) ?_
          all_goals ((refine again_can2 cxG (p + (runeAt s p).2) [some b0, some (b0 + 1)] ?_ ?_ ?_ ?_; rotate_left 2; (focus (show b0 ≤ _; omega)); (focus (refine ⟨?_, ?_⟩ <;> (try simp only [cans,ren_iter,renOk_iter,bK_f,ren_mkT,renOk_mkT,isRow_inst,vcs,Ka,Kb,Kc,Kd,Ke,Kf,Kg,Kh,Ki,Kj,Kk,Kl,Km,reduceCtorEq,reduceIte,Kn,Ko,Kp,Kq,Kr,Ks,tys,injs]) <;> (try omega)))))
          all_goals (first | (show s.length - (p + (runeAt s p).2) < s.length - p; omega) | exact ⟨hk2, hd2, hnx⟩ | skip)
      · have hz4 : z = 9 ∨ z = 10 ∨ z = 13 := by
          unfold flatZ blankZ at hfz
          split at hfz
          · rename_i h; simp only [decide_eq_true_eq] at h; omega
          · exact absurd rfl hfz
        have hf32 : flatZ z = 32 := by
          unfold flatZ blankZ
          rw [if_pos (by simp only [decide_eq_true_eq]; omega)]
        have hen := nine_len (z := z) (by omega)
        have hk1' : (runeAt s p).2 = 1 := by rw [hk3, hen.1]; rfl
        have q1 : ((32 : Int) == z) = false := beq_false_of_ne (by omega)
        have q65 : (z == 65533) = false := beq_false_of_ne (by omega)
        have hrl := runeLen1_ev z hen.2.1 hen.2.2
        have hpi : (p : Int) ≤ (s.length : Int) := by omega
        have hw1 : IntKind.i64.wrap ((s.length : Int) + 4) = ((s.length + 4 : Nat) : Int) := wrap_in (by omega) (by omega)
        have hw2 : IntKind.i64.wrap ((p : Int) + 1) = ((p + 1 : Nat) : Int) := wrap_in (by omega) (by omega)
        have hpi2 : ((p + 1 : Nat) : Int) ≤ (s.length : Int) := by omega
        have hp1 : p + 1 ≤ s.length := by omega
        have htl : (s.take p).length = p := by rw [List.length_take]; omega
        rw [hf32] at hfe
        have hm32 : may 32 = true := by decide
        have hws := fun (M' : Mem) (n' : Nat) (a : M' (b0 + 1) = some (bK true (b0 + 1) (.own (b0 + 432) 0 0))) (b : M' (b0 + 432) = some (rK [])) (d : ∀ z, (M' z).isSome = true → z ∈ [b0 + 1, b0 + 432]) (hn1 : b0 + 1 < n') (hn2 : b0 + 432 < n') => wStrO_ev true (b0 + 1) (b0 + 432) [] (s.take p) (by unfold lim; simp; omega) M' n' (by omega) a b d hn1 hn2
        simp only [List.nil_append,List.length_nil,Nat.zero_add,htl] at hws
        have hwr := fun (M' : Mem) (n' : Nat) (a : M' (b0 + 1) = some (bK true (b0 + 1) (.own (b0 + 496) 0 (s.take p).length))) (b : M' (b0 + 496) = some (rK (s.take p))) (d : ∀ z, (M' z).isSome = true → z ∈ [b0 + 1, b0 + 496]) (hn1 : b0 + 1 < n') (hn2 : b0 + 496 < n') => wRune_ev 32 hm32 (b0 + 1) (b0 + 496) (s.take p) (by omega) M' n' (by omega) a b d hn1 hn2
        have he32 : encodeRune 32 = [32] := by decide +kernel
        simp only [htl,he32,List.length_cons,List.length_nil,Nat.zero_add] at hwr
        have hlo : (s.take p ++ [32]).length = p + 1 := by simp; omega
        repeat' first | simp only [fins,mems,Tryz.results78,Tryz.ntmps78,Kt,wks,hp,h1,hp1,hpi,hpi2,hz,q1,q65,hw1,hw2,bK_f,fresh_self,vcs,Ka,Kb,Kc,Kd,Ke,Kf,Kg,Kh,Ki,Kj,Kk,Kl,Km,reduceCtorEq,reduceIte,Kn,Ko,Kp,Kq,Kr,Ks,tys] | exact rfl | refine call_off (v := .any) ?_ | (first | (refine call_fn ?_ (hfe _) ?_) | (refine call_fn_g ?_ (fun _ => hfe _) ?_) | (refine call_fn ?_ (hrl _) ?_) | (refine call_fn_g ?_ (fun _ => hrl _) ?_)) | (refine call_fn_full ?_ [b0 + 1] (bGrow_ev false (b0 + 1) (s.length + 4) (by omega) (by omega) _ _ ?_ only_mem (by omega)) ?_ ?_) | (refine call_fn_full ?_ [b0 + 1, b0 + 432] (hws _ _ ?_ ?_ only_mem (by omega) (by omega)) ?_ ?_) | (refine call_fn_full ?_ [b0 + 1, b0 + 496] (hwr _ _ ?_ ?_ only_mem (by omega) (by omega)) ?_ ?_) | (refine ext_next (s := ?_) (y := ?_) (p := ?_) ?_ ?_ ?_ ?_; rotate_left 3; (iterate 2 (focus (simp only [Tryz.results78,Tryz.ntmps78,Kt,wks,hp,h1,hp1,hpi,hpi2,hz,q1,q65,hw1,hw2,bK_f,fresh_self,vcs,Ka,Kb,Kc,Kd,Ke,Kf,Kg,Kh,Ki,Kj,Kk,Kl,Km,reduceCtorEq,reduceIte,Kn,Ko,Kp,Kq,Kr,Ks,tys] <;> exact rfl))); (focus (simp only [Tryz.results78,Tryz.ntmps78,Kt,wks,hp,h1,hp1,hpi,hpi2,hz,q1,q65,hw1,hw2,bK_f,fresh_self,vcs,Ka,Kb,Kc,Kd,Ke,Kf,Kg,Kh,Ki,Kj,Kk,Kl,Km,reduceCtorEq,reduceIte,Kn,Ko,Kp,Kq,Kr,Ks,tys] <;> omega))) | (refine extG_true ?_) | (refine extG_false ?_) | ((first | (refine call_val (g := ?_) ?_ ?_) | (refine call_valg (g := ?_) ?_ ?_)); rotate_left 1; (focus (simp only [Tryz.results78,Tryz.ntmps78,Kt,wks,hp,h1,hp1,hpi,hpi2,hz,q1,q65,hw1,hw2,bK_f,fresh_self,vcs,Ka,Kb,Kc,Kd,Ke,Kf,Kg,Kh,Ki,Kj,Kk,Kl,Km,reduceCtorEq,reduceIte,Kn,Ko,Kp,Kq,Kr,Ks,tys] <;> exact rfl))) | refine And.intro (by omega) ?_
        have hcap := fun (M' : Mem) (n' : Nat) (a : M' (b0 + 1) = some (bK true (b0 + 1) (.own (b0 + 560) 0 (s.take p ++ [32]).length))) (b : M' (b0 + 560) = some (rK (s.take p ++ [32]))) (d : ∀ z, (M' z).isSome = true → z ∈ [b0 + 1, b0 + 560]) (hn1 : b0 + 1 < n') (hn2 : b0 + 560 < n') => bCap_some (b0 + 1) (b0 + 560) (s.take p ++ [32]) M' n' (by omega) a b d hn1 hn2
        simp only [hlo] at hcap
        refine call_some ?_ [b0 + 1, b0 + 560] (hcap _ _ ?_ ?_ only_mem (by omega) (by omega)) ?_ ?_
        iterate 4 (focus (simp only [mems,wks,vcs,Ka,Kb,Kc,Kd,Ke,Kf,Kg,Kh,Ki,Kj,Kk,Kl,Km,reduceCtorEq,reduceIte,Kn,Ko,Kp,Kq,Kr,Ks,tys] <;> exact rfl))
        rintro v ⟨c, hc, rfl⟩
        have hc0 : ((c : Int) == 0) = false := beq_false_of_ne (by omega)
        repeat' first | simp only [fins,mems,Tryz.results78,Tryz.ntmps78,Kt,wks,hc0,vcs,Ka,Kb,Kc,Kd,Ke,Kf,Kg,Kh,Ki,Kj,Kk,Kl,Km,reduceCtorEq,reduceIte,Kn,Ko,Kp,Kq,Kr,Ks,tys] | exact rfl | refine call_off (v := .any) ?_ | (refine ext_range (s := ?_) ?_ ?_ ?_; rotate_left 1; (iterate 2 (focus (simp only [Tryz.results78,Tryz.ntmps78,Kt,wks,hc0,vcs,Ka,Kb,Kc,Kd,Ke,Kf,Kg,Kh,Ki,Kj,Kk,Kl,Km,reduceCtorEq,reduceIte,Kn,Ko,Kp,Kq,Kr,Ks,tys] <;> exact rfl)))) | (refine extG_true ?_) | (refine extG_false ?_) | ((first | (refine call_val (g := ?_) ?_ ?_) | (refine call_valg (g := ?_) ?_ ?_)); rotate_left 1; (focus (simp only [Tryz.results78,Tryz.ntmps78,Kt,wks,hc0,vcs,Ka,Kb,Kc,Kd,Ke,Kf,Kg,Kh,Ki,Kj,Kk,Kl,Km,reduceCtorEq,reduceIte,Kn,Ko,Kp,Kq,Kr,Ks,tys] <;> exact rfl))) | refine And.intro (by omega) ?_
        obtain ⟨r, hr⟩ : ∃ r, r = s.drop (p + 1) := ⟨_, rfl⟩
        obtain ⟨pre, hpre⟩ : ∃ u, u = s.take p ++ [32] := ⟨_, rfl⟩
        rw [h3, hf32, he32, hk1'] at htf
        have hfl : s.map flatB = pre ++ r.map flatB := by rw [hpre, hr, ← htf, ← List.map_append, List.take_append_drop]
        rw [hk1', ← hr] at hd2
        rw [← hpre] at hlo
        have hrn : p + 1 + r.length = s.length := by rw [hr, List.length_drop]; omega
        rw [← hr, ← hpre, hfl]
        clear hcap hwr hws hfl hfe htf
        obtain ⟨P, hP⟩ : ∃ P, P = p + 1 := ⟨_, rfl⟩
        rw [← hP] at hlo hrn
        rw [← hP]
        (refine loop_can2 cxG (fun x : Nat => r.length - x) (fun x => x ≤ r.length ∧ (dec (r.drop x)).isSome = true) (b0 + 16) (fun x => [(0, .fn 79 []), (5, .ptr (b0 + 1) 0 0), (68, .ptr b0 0 0)]) (fun x => [(b0, iterK r x), (b0 + 1, bK true (b0 + 1) (.own (b0 + 2) 0 (P + x))), (b0 + 2, rK (pre ++ (r.take x).map flatB))]) (0) [some (b0 + 720), some (b0 + 1), some (b0 + 560)] ?_ ?_ ?_ ?_; rotate_left 1; (focus (show b0 ≤ _; omega)); (focus (refine ⟨?_, ?_⟩ <;> (try simp only [cans,ren_iter,renOk_iter,ren_bK,renOk_bK,ren_rK,renOk_rK,List.take_zero,List.map_nil,List.append_nil,Nat.add_zero,vcs,Ka,Kb,Kc,Kd,Ke,Kf,Kg,Kh,Ki,Kj,Kk,Kl,Km,reduceCtorEq,reduceIte,Kn,Ko,Kp,Kq,Kr,Ks,tys,injs]) <;> (try omega))); rotate_left 1)
        · exact ⟨Nat.zero_le _, by rw [List.drop_zero]; exact hd2⟩
        · rintro x ⟨g1, g2⟩
          by_cases gx : x < r.length
          · obtain ⟨z', gz, gm, ge, gk1, gk2, gd2, gk3⟩ := rune_here gx g2
            have gfe := flat_ev z' gm
            have gtf := take_flat gm ge
            have gfm := flat_may gm
            obtain ⟨w, hw⟩ : ∃ w, w = flatZ z' := ⟨_, rfl⟩
            rw [← hw] at gfe gtf gfm
            have gwr := may_range gfm
            have gw0 : decide (0 ≤ w) = true := decide_eq_true (by omega)
            have glo : (pre ++ (r.take x).map flatB).length = P + x := by rw [List.length_append, List.length_map, List.length_take, hlo]; omega
            have gnx : pre ++ (r.take x).map flatB ++ encodeRune w = pre ++ (r.take (x + (runeAt r x).2)).map flatB := by rw [gtf, List.append_assoc]
            have gkk : (runeAt r x).2 = (encodeRune w).length := by rw [gk3, hw, ← flat_enc gm, List.length_map]
            rw [gkk] at gnx gd2 gk2 gk1
            by_cases g128 : w < 128
            · have gd : decide (w < 128) = true := decide_eq_true g128
              have gen := low_enc (z := w) (by omega) g128
              have gu : IntKind.u8.wrap w = ((w.toNat.toUInt8).toNat : Int) := low_wrap (by omega) g128
              have gl1 : (encodeRune w).length = 1 := by rw [gen]; rfl
              rw [gl1] at gnx gd2 gk2 gkk
              rw [gen] at gnx
              have hwb := fun (M' : Mem) (n' : Nat) (a : M' (b0 + 1) = some (bK true (b0 + 1) (.own (b0 + 2) 0 (pre ++ (r.take x).map flatB).length))) (b : M' (b0 + 2) = some (rK (pre ++ (r.take x).map flatB))) (d : ∀ z, (M' z).isSome = true → z ∈ [b0 + 1, b0 + 2]) (hn1 : b0 + 1 < n') (hn2 : b0 + 2 < n') => wByteO_ev true (b0 + 1) (b0 + 2) (pre ++ (r.take x).map flatB) w.toNat.toUInt8 (by unfold lim; omega) M' n' (by omega) a b d hn1 hn2
              simp only [glo,gnx,← gu] at hwb
              repeat' first | simp only [fins,mems,Tryz.results78,Tryz.ntmps78,Kt,wks,gx,g1,gz,gw0,gd,gkk,vcs,Ka,Kb,Kc,Kd,Ke,Kf,Kg,Kh,Ki,Kj,Kk,Kl,Km,reduceCtorEq,reduceIte,Kn,Ko,Kp,Kq,Kr,Ks,tys] | exact rfl | refine call_off (v := .any) ?_ | (first | (refine call_fn ?_ (gfe _) ?_) | (refine call_fn_g ?_ (fun _ => gfe _) ?_)) | (refine call_fn_full ?_ [b0 + 1, b0 + 2] (hwb _ _ ?_ ?_ only_mem (by omega) (by omega)) ?_ ?_) | (refine ext_next (s := ?_) (y := ?_) (p := ?_) ?_ ?_ ?_ ?_; rotate_left 3; (iterate 2 (focus (simp only [Tryz.results78,Tryz.ntmps78,Kt,wks,gx,g1,gz,gw0,gd,gkk,vcs,Ka,Kb,Kc,Kd,Ke,Kf,Kg,Kh,Ki,Kj,Kk,Kl,Km,reduceCtorEq,reduceIte,Kn,Ko,Kp,Kq,Kr,Ks,tys] <;> exact rfl))); (focus (simp only [Tryz.results78,Tryz.ntmps78,Kt,wks,gx,g1,gz,gw0,gd,gkk,vcs,Ka,Kb,Kc,Kd,Ke,Kf,Kg,Kh,Ki,Kj,Kk,Kl,Km,reduceCtorEq,reduceIte,Kn,Ko,Kp,Kq,Kr,Ks,tys] <;> omega))) | (refine extG_true ?_) | (refine extG_false ?_) | ((first | (refine call_val (g := ?_) ?_ ?_) | (refine call_valg (g := ?_) ?_ ?_)); rotate_left 1; (focus (simp only [Tryz.results78,Tryz.ntmps78,Kt,wks,gx,g1,gz,gw0,gd,gkk,vcs,Ka,Kb,Kc,Kd,Ke,Kf,Kg,Kh,Ki,Kj,Kk,Kl,Km,reduceCtorEq,reduceIte,Kn,Ko,Kp,Kq,Kr,Ks,tys] <;> exact rfl))) | refine And.intro (by omega) ?_
              all_goals (first | omega | skip)
              all_goals ((refine again_can2 cxG (x + 1) [some b0, some (b0 + 1), some (b0 + 240)] ?_ ?_ ?_ ?_; rotate_left 2; (focus (show b0 ≤ _; omega)); (focus (refine ⟨?_, ?_⟩ <;> (try simp only [cans,ren_iter,renOk_iter,ren_bK,renOk_bK,ren_rK,renOk_rK,gkk,Nat.add_assoc,vcs,Ka,Kb,Kc,Kd,Ke,Kf,Kg,Kh,Ki,Kj,Kk,Kl,Km,reduceCtorEq,reduceIte,Kn,Ko,Kp,Kq,Kr,Ks,tys,injs]) <;> (try omega)))))
              all_goals (first | (show r.length - (x + 1) < r.length - x; omega) | exact ⟨gk2, gd2⟩ | skip)
            · have gd : decide (w < 128) = false := decide_eq_false g128
              have hwb := fun (M' : Mem) (n' : Nat) (a : M' (b0 + 1) = some (bK true (b0 + 1) (.own (b0 + 2) 0 (pre ++ (r.take x).map flatB).length))) (b : M' (b0 + 2) = some (rK (pre ++ (r.take x).map flatB))) (d : ∀ z, (M' z).isSome = true → z ∈ [b0 + 1, b0 + 2]) (hn1 : b0 + 1 < n') (hn2 : b0 + 2 < n') => wRune_ev w gfm (b0 + 1) (b0 + 2) (pre ++ (r.take x).map flatB) (by omega) M' n' (by omega) a b d hn1 hn2
              simp only [glo,gnx] at hwb
              repeat' first | simp only [fins,mems,Tryz.results78,Tryz.ntmps78,Kt,wks,gx,g1,gz,gw0,gd,gkk,vcs,Ka,Kb,Kc,Kd,Ke,Kf,Kg,Kh,Ki,Kj,Kk,Kl,Km,reduceCtorEq,reduceIte,Kn,Ko,Kp,Kq,Kr,Ks,tys] | exact rfl | refine call_off (v := .any) ?_ | (first | (refine call_fn ?_ (gfe _) ?_) | (refine call_fn_g ?_ (fun _ => gfe _) ?_)) | (refine call_fn_full ?_ [b0 + 1, b0 + 2] (hwb _ _ ?_ ?_ only_mem (by omega) (by omega)) ?_ ?_) | (refine ext_next (s := ?_) (y := ?_) (p := ?_) ?_ ?_ ?_ ?_; rotate_left 3; (iterate 2 (focus (simp only [Tryz.results78,Tryz.ntmps78,Kt,wks,gx,g1,gz,gw0,gd,gkk,vcs,Ka,Kb,Kc,Kd,Ke,Kf,Kg,Kh,Ki,Kj,Kk,Kl,Km,reduceCtorEq,reduceIte,Kn,Ko,Kp,Kq,Kr,Ks,tys] <;> exact rfl))); (focus (simp only [Tryz.results78,Tryz.ntmps78,Kt,wks,gx,g1,gz,gw0,gd,gkk,vcs,Ka,Kb,Kc,Kd,Ke,Kf,Kg,Kh,Ki,Kj,Kk,Kl,Km,reduceCtorEq,reduceIte,Kn,Ko,Kp,Kq,Kr,Ks,tys] <;> omega))) | (refine extG_true ?_) | (refine extG_false ?_) | ((first | (refine call_val (g := ?_) ?_ ?_) | (refine call_valg (g := ?_) ?_ ?_)); rotate_left 1; (focus (simp only [Tryz.results78,Tryz.ntmps78,Kt,wks,gx,g1,gz,gw0,gd,gkk,vcs,Ka,Kb,Kc,Kd,Ke,Kf,Kg,Kh,Ki,Kj,Kk,Kl,Km,reduceCtorEq,reduceIte,Kn,Ko,Kp,Kq,Kr,Ks,tys] <;> exact rfl))) | refine And.intro (by omega) ?_
              all_goals (first | omega | skip)
              all_goals ((refine again_can2 cxG (x + (encodeRune w).length) [some b0, some (b0 + 1), some (b0 + 224)] ?_ ?_ ?_ ?_; rotate_left 2; (focus (show b0 ≤ _; omega)); (focus (refine ⟨?_, ?_⟩ <;> (try simp only [cans,ren_iter,renOk_iter,ren_bK,renOk_bK,ren_rK,renOk_rK,gkk,Nat.add_assoc,vcs,Ka,Kb,Kc,Kd,Ke,Kf,Kg,Kh,Ki,Kj,Kk,Kl,Km,reduceCtorEq,reduceIte,Kn,Ko,Kp,Kq,Kr,Ks,tys,injs]) <;> (try omega)))))
              all_goals (first | (show r.length - (x + (encodeRune w).length) < r.length - x; omega) | exact ⟨gk2, gd2⟩ | skip)
          · have gxe : x = r.length := by omega
            have gtk : (r.take x) = r := by rw [gxe, List.take_length]
            have glo : (pre ++ r.map flatB).length = P + x := by rw [List.length_append, List.length_map, hlo, gxe]
            rw [gtk]
            have hbs := fun (M' : Mem) (n' : Nat) (a : M' (b0 + 1) = some (bK true (b0 + 1) (.own (b0 + 2) 0 (pre ++ r.map flatB).length))) (b : M' (b0 + 2) = some (rK (pre ++ r.map flatB))) (d : ∀ z, (M' z).isSome = true → z ∈ [b0 + 1, b0 + 2]) (hn1 : b0 + 1 < n') (hn2 : b0 + 2 < n') => bStrO_ev true (b0 + 1) (b0 + 2) (pre ++ r.map flatB) (by intro h; rw [h] at glo; simp at glo; omega) (by unfold lim; omega) M' n' (by omega) a b d hn1 hn2
            simp only [glo] at hbs
            (repeat' first | simp only [fins,mems,Tryz.results78,Tryz.ntmps78,Kt,wks,gx,vcs,Ka,Kb,Kc,Kd,Ke,Kf,Kg,Kh,Ki,Kj,Kk,Kl,Km,reduceCtorEq,reduceIte,Kn,Ko,Kp,Kq,Kr,Ks,tys] | exact rfl | refine call_off (v := .any) ?_ | (refine call_fn_full ?_ [b0 + 1, b0 + 2] (hbs _ _ ?_ ?_ only_mem (by omega) (by omega)) ?_ ?_) | (refine ext_over (s := ?_) (y := ?_) (p := ?_) ?_ ?_ ?_ ?_; rotate_left 3; (iterate 2 (focus (simp only [Tryz.results78,Tryz.ntmps78,Kt,wks,gx,vcs,Ka,Kb,Kc,Kd,Ke,Kf,Kg,Kh,Ki,Kj,Kk,Kl,Km,reduceCtorEq,reduceIte,Kn,Ko,Kp,Kq,Kr,Ks,tys] <;> exact rfl))); (focus (simp only [Tryz.results78,Tryz.ntmps78,Kt,wks,gx,vcs,Ka,Kb,Kc,Kd,Ke,Kf,Kg,Kh,Ki,Kj,Kk,Kl,Km,reduceCtorEq,reduceIte,Kn,Ko,Kp,Kq,Kr,Ks,tys] <;> omega))) | (refine extG_true ?_) | (refine extG_false ?_) | ((first | (refine call_val (g := ?_) ?_ ?_) | (refine call_valg (g := ?_) ?_ ?_)); rotate_left 1; (focus (simp only [Tryz.results78,Tryz.ntmps78,Kt,wks,gx,vcs,Ka,Kb,Kc,Kd,Ke,Kf,Kg,Kh,Ki,Kj,Kk,Kl,Km,reduceCtorEq,reduceIte,Kn,Ko,Kp,Kq,Kr,Ks,tys] <;> exact rfl))) | ((first | apply cond_bool | apply cond_bit) <;> intro hb) | refine And.intro (by omega) ?_ | refine And.intro (fun hb => ?_) (fun hb => ?_) | refine Fin.pure ?_ ?_ ?_ | simp only [injs])
    · have hpe : p = s.length := by omega
      have hr := take_all_flat h3 hpe
      have hd0 : decide ((0 : Int) = 0) = true := rfl
      rw [hr]
      (repeat' first | simp only [fins,mems,Tryz.results78,Tryz.ntmps78,Kt,wks,hp,bK_f,vcs,Ka,Kb,Kc,Kd,Ke,Kf,Kg,Kh,Ki,Kj,Kk,Kl,Km,reduceCtorEq,reduceIte,Kn,Ko,Kp,Kq,Kr,Ks,tys] | exact rfl | refine call_off (v := .any) ?_ | (refine call_fn_full ?_ [b0 + 1] (bCapN_ev false (b0 + 1) _ _ ?_ only_mem (by omega)) ?_ ?_) | (refine ext_over (s := ?_) (y := ?_) (p := ?_) ?_ ?_ ?_ ?_; rotate_left 3; (iterate 2 (focus (simp only [Tryz.results78,Tryz.ntmps78,Kt,wks,hp,bK_f,vcs,Ka,Kb,Kc,Kd,Ke,Kf,Kg,Kh,Ki,Kj,Kk,Kl,Km,reduceCtorEq,reduceIte,Kn,Ko,Kp,Kq,Kr,Ks,tys] <;> exact rfl))); (focus (simp only [Tryz.results78,Tryz.ntmps78,Kt,wks,hp,bK_f,vcs,Ka,Kb,Kc,Kd,Ke,Kf,Kg,Kh,Ki,Kj,Kk,Kl,Km,reduceCtorEq,reduceIte,Kn,Ko,Kp,Kq,Kr,Ks,tys] <;> omega))) | (refine extG_true ?_) | (refine extG_false ?_) | ((first | (refine call_val (g := ?_) ?_ ?_) | (refine call_valg (g := ?_) ?_ ?_)); rotate_left 1; (focus (simp only [Tryz.results78,Tryz.ntmps78,Kt,wks,hp,bK_f,vcs,Ka,Kb,Kc,Kd,Ke,Kf,Kg,Kh,Ki,Kj,Kk,Kl,Km,reduceCtorEq,reduceIte,Kn,Ko,Kp,Kq,Kr,Ks,tys] <;> exact rfl))) | ((first | apply cond_bool | apply cond_bit) <;> intro hb) | refine And.intro (by omega) ?_ | refine And.intro (fun hb => ?_) (fun hb => ?_) | refine Fin.pure ?_ ?_ ?_ | simp only [injs])
def srcK (s : List UInt8) : Blk := ⟨1, [[.str s]]⟩
theorem eat_ev (s p : List UInt8) (hs : s.length ≤ lim) (hp : p.length ≤ lim) (q : Nat) (M : Mem) (nm : Nat) (hq : M q = some (srcK s)) (ho : ∀ z, (M z).isSome = true → z ∈ [q]) (hqn : q < nm) :
    Ev cx 41 nm [.ptr q 0 0, .str p] M (.bool (preB s p)) [(q, some (srcK (if preB s p = true then s.drop p.length else s)))] := by
  have h := cutPre_ev s p hs hp
  cases hb : preB s p with
  | true =>
    rw [preR_yes hb] at h
    simp only [if_true]
    unfold srcK at hq ⊢
    refine ev_go rfl (fun cargs w => Tryz.call41 cargs w) Tryz.func41 rfl mixed (by kernel_rfl) rfl ?_; intro b0 hb0
    have lq : q < b0 := below_of hb0 (by rw [hq]; rfl)
    have z0 := lt_ne lq; have z1 := lt_ne_add lq; have z2 := lt_ne' lq; have z3 := lt_ne_add' lq
    repeat' first | simp only [fins,mems,Tryz.results41,Tryz.ntmps41,Kt,wks,hq,z0,z1,z2,z3,vcs,Ka,Kb,Kc,Kd,Ke,Kf,Kg,Kh,Ki,Kj,Kk,Kl,Km,reduceCtorEq,reduceIte,Kn,Ko,Kp,Kq,Kr,Ks,tys] | exact rfl | refine call_off (v := .any) ?_ | (first | (refine call_fn ?_ (h _) ?_) | (refine call_fn_g ?_ (fun _ => h _) ?_)) | ((first | apply cond_bool | apply cond_bit) <;> intro hb) | refine And.intro (by omega) ?_ | refine And.intro (fun hb => ?_) (fun hb => ?_)
    all_goals ((refine Fin.give [(q, none)] [] ?_ ?_ ?_ ?_ ?_ (fun q hq => by have hqq := ho q hq; first | (simp only [gives,tgt,List.map_cons,List.map_nil,List.mem_cons,List.not_mem_nil,or_false] at hqq ⊢; omega) | (simp only [gives,tgt,List.map_cons,List.map_nil,List.mem_cons,List.not_mem_nil,or_false] at hqq)) <;> (try simp only [Tryz.results41,Tryz.ntmps41,wks,hq,z0,z1,z2,z3,giv,vcs,Ka,Kb,Kc,Kd,Ke,Kf,Kg,Kh,Ki,Kj,Kk,Kl,Km,reduceCtorEq,reduceIte,Kn,Ko,Kp,Kq,Kr,Ks,tys]) <;> (try simp only [injs]) <;> (try omega)))
  | false =>
    rw [preR_no hb] at h
    simp only [Bool.false_eq_true,if_false]
    unfold srcK at hq ⊢
    refine ev_go rfl (fun cargs w => Tryz.call41 cargs w) Tryz.func41 rfl mixed (by kernel_rfl) rfl ?_; intro b0 hb0
    have lq : q < b0 := below_of hb0 (by rw [hq]; rfl)
    have z0 := lt_ne lq; have z1 := lt_ne_add lq; have z2 := lt_ne' lq; have z3 := lt_ne_add' lq
    repeat' first | simp only [fins,mems,Tryz.results41,Tryz.ntmps41,Kt,wks,hq,z0,z1,z2,z3,vcs,Ka,Kb,Kc,Kd,Ke,Kf,Kg,Kh,Ki,Kj,Kk,Kl,Km,reduceCtorEq,reduceIte,Kn,Ko,Kp,Kq,Kr,Ks,tys] | exact rfl | refine call_off (v := .any) ?_ | (first | (refine call_fn ?_ (h _) ?_) | (refine call_fn_g ?_ (fun _ => h _) ?_)) | ((first | apply cond_bool | apply cond_bit) <;> intro hb) | refine And.intro (by omega) ?_ | refine And.intro (fun hb => ?_) (fun hb => ?_)
    all_goals ((refine Fin.give [(q, none)] [] ?_ ?_ ?_ ?_ ?_ (fun q hq => by have hqq := ho q hq; first | (simp only [gives,tgt,List.map_cons,List.map_nil,List.mem_cons,List.not_mem_nil,or_false] at hqq ⊢; omega) | (simp only [gives,tgt,List.map_cons,List.map_nil,List.mem_cons,List.not_mem_nil,or_false] at hqq)) <;> (try simp only [Tryz.results41,Tryz.ntmps41,wks,hq,z0,z1,z2,z3,giv,vcs,Ka,Kb,Kc,Kd,Ke,Kf,Kg,Kh,Ki,Kj,Kk,Kl,Km,reduceCtorEq,reduceIte,Kn,Ko,Kp,Kq,Kr,Ks,tys]) <;> (try simp only [injs]) <;> (try omega)))
theorem skip_ev (s : List UInt8) (hs : s.length ≤ lim) (q : Nat) (M : Mem) (nm : Nat) (hq : M q = some (srcK s)) (ho : ∀ z, (M z).isSome = true → z ∈ [q]) (hqn : q < nm) :
    Ev cx 59 nm [.ptr q 0 0] M (.bool (decide ((skipL s).length < s.length))) [(q, some (srcK (skipL s)))] := by
  have h := trimLeftW_ev blanks4 s (by decide) (by decide) (by decide) hs
  rw [trim_skip] at h
  change ∀ nm, Ev cx _ nm _ Mem.nil (.str (skipL s)) [] at h
  unfold blanks4 at h
  have hd : decide (((skipL s).length : Int) < (s.length : Int)) = decide ((skipL s).length < s.length) := decide_eq_decide.2 (by omega)
  unfold srcK at hq ⊢
  refine ev_go rfl (fun cargs w => Tryz.call59 cargs w) Tryz.func59 rfl mixed (by kernel_rfl) rfl ?_; intro b0 hb0
  have lq : q < b0 := below_of hb0 (by rw [hq]; rfl)
  have z0 := lt_ne lq; have z1 := lt_ne_add lq; have z2 := lt_ne' lq; have z3 := lt_ne_add' lq
  repeat' first | simp only [fins,mems,Tryz.results59,Tryz.ntmps59,Kt,wks,hq,z0,z1,z2,z3,hd,vcs,Ka,Kb,Kc,Kd,Ke,Kf,Kg,Kh,Ki,Kj,Kk,Kl,Km,reduceCtorEq,reduceIte,Kn,Ko,Kp,Kq,Kr,Ks,tys] | exact rfl | refine call_off (v := .any) ?_ | (first | (refine call_fn ?_ (h _) ?_) | (refine call_fn_g ?_ (fun _ => h _) ?_)) | ((first | apply cond_bool | apply cond_bit) <;> intro hb) | refine And.intro (by omega) ?_ | refine And.intro (fun hb => ?_) (fun hb => ?_)
  all_goals ((refine Fin.give [(q, none)] [] ?_ ?_ ?_ ?_ ?_ (fun q hq => by have hqq := ho q hq; first | (simp only [gives,tgt,List.map_cons,List.map_nil,List.mem_cons,List.not_mem_nil,or_false] at hqq ⊢; omega) | (simp only [gives,tgt,List.map_cons,List.map_nil,List.mem_cons,List.not_mem_nil,or_false] at hqq)) <;> (try simp only [Tryz.results59,Tryz.ntmps59,wks,hq,z0,z1,z2,z3,hd,giv,vcs,Ka,Kb,Kc,Kd,Ke,Kf,Kg,Kh,Ki,Kj,Kk,Kl,Km,reduceCtorEq,reduceIte,Kn,Ko,Kp,Kq,Kr,Ks,tys]) <;> (try simp only [injs]) <;> (try omega)))
section
variable {cx : Cx} {Q : Post} {st : List Frm} {nm : Nat} {e : Env} {M : Mem} {d : Bool} {fs : List (List Nat)} {ops r : List Oper} {dst : Option Tmp} {t : TypeId} {pos : String} {af : Array Edge} {gd : Option (Nat × Bool)} {i : Nat}
def boxT (P : Program) (t : TypeId) : Bool := match P.underlying t with
  | some (.interface _) | none => false
  | some _ => true
theorem run_box {P : Program} {w : World} {t : TypeId} (x : Value) (h : boxT P t = true) : (Instr.makeInterface t x).run P w = .ok (.iface t x) w := by
  unfold boxT at h
  cases hu : P.underlying t with
  | none => rw [hu] at h; cases h
  | some u =>
    rw [hu] at h
    simp only [Instr.makeInterface,Sem.run_bind,run_underlying hu w,Result.andThen_ok]
    cases u <;> first | rfl | cases h
theorem ext_iface {ty : TypeId} {x : Operand} {u : V} (hx : evalV cx.G true e x = u) (ht : boxT cx.P ty = true)
    (h : goOps cx Q st nm (e.putD dst (.iface ty u)) M d (fs ++ [[]]) ops r (i + 1)) : goExt cx Q st nm e M d fs ops ⟨dst, .makeInterface ty x, t, pos, af, gd⟩ r i := by
  refine ⟨_, [], _, ⟨fun x hx => by simp [effNames] at hx, fun x hx => by simp [effNames] at hx, fun h => absurd rfl h, fun h => absurd rfl h, ?_⟩, h⟩
  intro N X w0 I ρ e' M' a w hr he hin hev hMM hf
  have hxi := he.eval hr (c := true) rfl (hin x (by simp [Op.operands]))
  rw [hev x (by simp [Op.operands]), hx] at hxi
  exact ⟨_, w, (Steps1.still (nm := nm + 16 * i) hr (.iface (t := ty) hxi)).n, wp_val (s := Instr.makeInterface ty (a.eval x)) rfl (run_box _ ht)⟩
end
def noV : V := .iface 23 (.int .i64 80)
theorem no_evp (q : Nat) (M : Mem) (nm : Nat) : EvP cx 45 nm [.ptr q 0 0] M noV := by
  unfold noV
  refine evp_go rfl cxG rfl (fun cargs w => Tryz.call45 cargs w) Tryz.func45 rfl mixed (by kernel_rfl) rfl ?_; intro b0 hb0
  repeat' first | simp only [fins,mems,Tryz.results45,Tryz.ntmps45,Kt,wks,goOps_panic,goPan_iface,goEx_code_pan,goEx_blk_pan,panP_at,vcs,Ka,Kb,Kc,Kd,Ke,Kf,Kg,Kh,Ki,Kj,Kk,Kl,Km,reduceCtorEq,reduceIte,Kn,Ko,Kp,Kq,Kr,Ks,tys] | exact rfl | refine call_off (v := .any) ?_ | (refine ext_iface rfl (by kernel_rfl) ?_) | ((first | apply cond_bool | apply cond_bit) <;> intro hb) | refine And.intro (by omega) ?_ | refine And.intro (fun hb => ?_) (fun hb => ?_)
theorem word_at {s : List UInt8} {x : Nat} (h : ∀ c ∈ s.take x, wordB c = true) (h2 : ∀ c, s[x]? = some c → wordB c = false) : wordT s = s.take x ∧ wordR s = s.drop x := by
  have e : s = s.take x ++ s.drop x := (List.take_append_drop x s).symm
  have hd : (s.drop x).takeWhile wordB = [] ∧ (s.drop x).dropWhile wordB = s.drop x := by
    cases hc : s.drop x with
    | nil => exact ⟨rfl, rfl⟩
    | cons c t =>
      have : s[x]? = some c := by
        have := congrArg List.head? hc
        simpa [List.head?_drop] using this
      rw [List.takeWhile_cons, List.dropWhile_cons, h2 c this]
      exact ⟨rfl, rfl⟩
  unfold wordT wordR
  constructor
  · conv => lhs; rw [e]
    rw [List.takeWhile_append_of_pos h, hd.1, List.append_nil]
  · conv => lhs; rw [e]
    rw [List.dropWhile_append_of_pos h, hd.2]
theorem word_step {s : List UInt8} {x : Nat} {c : UInt8} (h : ∀ c ∈ s.take x, wordB c = true) (hc : s[x]? = some c) (hw : wordB c = true) : ∀ c ∈ s.take (x + 1), wordB c = true := by
  intro d hd
  rw [List.take_add_one, hc] at hd
  rcases List.mem_append.1 hd with hd | hd
  · exact h d hd
  · simp at hd; rw [hd]; exact hw
theorem name_some {s n r : List UInt8} (h : nameO s = some (n, r)) : wordT s = n ∧ wordR s = r ∧ fullL n = true := by
  unfold nameO at h
  split at h
  · rename_i hf; cases h; exact ⟨rfl, rfl, hf⟩
  · cases h
theorem name_none {s : List UInt8} (h : nameO s = none) : fullL (wordT s) = false := by
  unfold nameO at h
  split at h
  · cases h
  · rename_i hf; simpa using hf
theorem sName_ev (s n r : List UInt8) (hs : s.length ≤ 1000000) (hn : nameO s = some (n, r)) (q : Nat) (M : Mem) (nm : Nat) (hq : M q = some (srcK s)) (ho : ∀ z, (M z).isSome = true → z ∈ [q]) (hqn : q < nm) :
    Ev cx 58 nm [.ptr q 0 0] M (.str n) [(q, some (srcK r))] := by
  obtain ⟨hw1, hw2, hfl⟩ := name_some hn
  unfold srcK at hq ⊢
  refine ev_go rfl (fun cargs w => Tryz.call58 cargs w) Tryz.func58 rfl mixed (by kernel_rfl) rfl ?_; intro b0 hb0
  have lq : q < b0 := below_of hb0 (by rw [hq]; rfl)
  have z0 := lt_ne lq; have z1 := lt_ne_add lq; have z2 := lt_ne' lq; have z3 := lt_ne_add' lq
  repeat' first | simp only [fins,mems,Tryz.results58,Tryz.ntmps58,Kt,wks,vcs,Ka,Kb,Kc,Kd,Ke,Kf,Kg,Kh,Ki,Kj,Kk,Kl,Km,reduceCtorEq,reduceIte,Kn,Ko,Kp,Kq,Kr,Ks,tys] | exact rfl | refine call_off (v := .any) ?_ | ((first | apply cond_bool | apply cond_bit) <;> intro hb) | refine And.intro (by omega) ?_ | refine And.intro (fun hb => ?_) (fun hb => ?_)
  (refine loop_can2 cxG (fun x : Nat => s.length - x) (fun x => x ≤ s.length ∧ (∀ c ∈ s.take x, wordB c = true)) (b0 + 16) (fun x => [(0, .ptr q 0 0), (3, .int .i64 x)]) (fun x => [(q, ⟨1, [[.str s]]⟩)]) (0) [some q] ?_ ?_ ?_ ?_; rotate_left 1; (focus (show b0 ≤ _; omega)); (focus (refine ⟨?_, ?_⟩ <;> (try simp only [cans,hq,z0,z1,z2,z3,vcs,Ka,Kb,Kc,Kd,Ke,Kf,Kg,Kh,Ki,Kj,Kk,Kl,Km,reduceCtorEq,reduceIte,Kn,Ko,Kp,Kq,Kr,Ks,tys,injs]) <;> (try omega))); rotate_left 1)
  · exact ⟨Nat.zero_le _, by simp⟩
  · rintro x ⟨h1, h2⟩
    have hend : ∀ (hx : ∀ c, s[x]? = some c → wordB c = false), s.take x = wordT s ∧ s.drop x = wordR s := fun hx => ⟨(word_at h2 hx).1.symm, (word_at h2 hx).2.symm⟩
    have h1' : (x : Int) ≤ (s.length : Int) := by omega
    by_cases hx : x < s.length
    · obtain ⟨c, hc⟩ : ∃ c, s[x]? = some c := ⟨_, List.getElem?_eq_getElem hx⟩
      have hx' : decide ((x : Int) < (s.length : Int)) = true := decide_eq_true (by omega)
      have hpe := part_ev c false
      have q58 : ((c.toNat : Int) == 58) = decide (c = 58) := beq_byte c 58
      have hwx : IntKind.i64.wrap ((x : Int) + 1) = ((x + 1 : Nat) : Int) := wrap_in (by omega) (by omega)
      have hwc : wordB c = (partB false c || decide (c = 58)) := by unfold wordB; congr 1
      have hgo : ∀ (hp : wordB c = true), x + 1 ≤ s.length ∧ ∀ c ∈ s.take (x + 1), wordB c = true := fun hp => ⟨by omega, word_step h2 hc hp⟩
      cases hp : partB false c <;> cases h58 : decide (c = 58) <;> rw [hp, h58] at hwc <;> rw [hp] at hpe <;> rw [h58] at q58
      · have he := hend (fun d hd => by rw [hc] at hd; cases hd; exact hwc)
        have hfe := full_ev (wordT s) (by unfold lim; rw [← he.1, List.length_take]; omega)
        rw [hw1, hfl] at hfe
        have e1 : s.take x = n := by rw [he.1, hw1]
        have e2 : s.drop x = r := by rw [he.2, hw2]
        repeat' first | simp only [fins,mems,Tryz.results58,Tryz.ntmps58,Kt,wks,hc,hx',h1,h1',hx,q58,e1,e2,vcs,Ka,Kb,Kc,Kd,Ke,Kf,Kg,Kh,Ki,Kj,Kk,Kl,Km,reduceCtorEq,reduceIte,Kn,Ko,Kp,Kq,Kr,Ks,tys] | exact rfl | refine call_off (v := .any) ?_ | (first | (refine call_fn ?_ (hfe _) ?_) | (refine call_fn_g ?_ (fun _ => hfe _) ?_) | (refine call_fn ?_ (hpe _) ?_) | (refine call_fn_g ?_ (fun _ => hpe _) ?_)) | (refine call_off (v := .any) ?_) | refine And.intro (by omega) ?_
        all_goals ((refine Fin.give [(q, none)] [] ?_ ?_ ?_ ?_ ?_ (fun q hq => by have hqq := ho q hq; first | (simp only [gives,tgt,List.map_cons,List.map_nil,List.mem_cons,List.not_mem_nil,or_false] at hqq ⊢; omega) | (simp only [gives,tgt,List.map_cons,List.map_nil,List.mem_cons,List.not_mem_nil,or_false] at hqq)) <;> (try simp only [Tryz.results58,Tryz.ntmps58,wks,hq,z0,z1,z2,z3,giv,vcs,Ka,Kb,Kc,Kd,Ke,Kf,Kg,Kh,Ki,Kj,Kk,Kl,Km,reduceCtorEq,reduceIte,Kn,Ko,Kp,Kq,Kr,Ks,tys]) <;> (try simp only [injs]) <;> (try omega)))
      · repeat' first | simp only [fins,mems,Tryz.results58,Tryz.ntmps58,Kt,wks,hc,hx',h1,h1',hx,q58,hwx,vcs,Ka,Kb,Kc,Kd,Ke,Kf,Kg,Kh,Ki,Kj,Kk,Kl,Km,reduceCtorEq,reduceIte,Kn,Ko,Kp,Kq,Kr,Ks,tys] | exact rfl | refine call_off (v := .any) ?_ | (first | (refine call_fn ?_ (hpe _) ?_) | (refine call_fn_g ?_ (fun _ => hpe _) ?_)) | (refine call_off (v := .any) ?_) | refine And.intro (by omega) ?_
        all_goals ((refine again_can2 cxG (x + 1) [some q] ?_ ?_ ?_ ?_; rotate_left 2; (focus (show b0 ≤ _; omega)); (focus (refine ⟨?_, ?_⟩ <;> (try simp only [cans,hq,z0,z1,z2,z3,vcs,Ka,Kb,Kc,Kd,Ke,Kf,Kg,Kh,Ki,Kj,Kk,Kl,Km,reduceCtorEq,reduceIte,Kn,Ko,Kp,Kq,Kr,Ks,tys,injs]) <;> (try omega)))))
        all_goals (first | (show s.length - (x + 1) < s.length - x; omega) | exact hgo hwc | skip)
      · repeat' first | simp only [fins,mems,Tryz.results58,Tryz.ntmps58,Kt,wks,hc,hx',h1,h1',hx,q58,hwx,vcs,Ka,Kb,Kc,Kd,Ke,Kf,Kg,Kh,Ki,Kj,Kk,Kl,Km,reduceCtorEq,reduceIte,Kn,Ko,Kp,Kq,Kr,Ks,tys] | exact rfl | refine call_off (v := .any) ?_ | (first | (refine call_fn ?_ (hpe _) ?_) | (refine call_fn_g ?_ (fun _ => hpe _) ?_)) | (refine call_off (v := .any) ?_) | refine And.intro (by omega) ?_
        all_goals ((refine again_can2 cxG (x + 1) [some q] ?_ ?_ ?_ ?_; rotate_left 2; (focus (show b0 ≤ _; omega)); (focus (refine ⟨?_, ?_⟩ <;> (try simp only [cans,hq,z0,z1,z2,z3,vcs,Ka,Kb,Kc,Kd,Ke,Kf,Kg,Kh,Ki,Kj,Kk,Kl,Km,reduceCtorEq,reduceIte,Kn,Ko,Kp,Kq,Kr,Ks,tys,injs]) <;> (try omega)))))
        all_goals (first | (show s.length - (x + 1) < s.length - x; omega) | exact hgo hwc | skip)
      · repeat' first | simp only [fins,mems,Tryz.results58,Tryz.ntmps58,Kt,wks,hc,hx',h1,h1',hx,q58,hwx,vcs,Ka,Kb,Kc,Kd,Ke,Kf,Kg,Kh,Ki,Kj,Kk,Kl,Km,reduceCtorEq,reduceIte,Kn,Ko,Kp,Kq,Kr,Ks,tys] | exact rfl | refine call_off (v := .any) ?_ | (first | (refine call_fn ?_ (hpe _) ?_) | (refine call_fn_g ?_ (fun _ => hpe _) ?_)) | (refine call_off (v := .any) ?_) | refine And.intro (by omega) ?_
        all_goals ((refine again_can2 cxG (x + 1) [some q] ?_ ?_ ?_ ?_; rotate_left 2; (focus (show b0 ≤ _; omega)); (focus (refine ⟨?_, ?_⟩ <;> (try simp only [cans,hq,z0,z1,z2,z3,vcs,Ka,Kb,Kc,Kd,Ke,Kf,Kg,Kh,Ki,Kj,Kk,Kl,Km,reduceCtorEq,reduceIte,Kn,Ko,Kp,Kq,Kr,Ks,tys,injs]) <;> (try omega)))))
        all_goals (first | (show s.length - (x + 1) < s.length - x; omega) | exact hgo hwc | skip)
    · have hx' : decide ((x : Int) < (s.length : Int)) = false := decide_eq_false (by omega)
      have hxe : s[x]? = none := List.getElem?_eq_none (by omega)
      have he := hend (fun d hd => by rw [hxe] at hd; cases hd)
      have hfe := full_ev (wordT s) (by unfold lim; rw [← he.1, List.length_take]; omega)
      rw [hw1, hfl] at hfe
      have e1 : s.take x = n := by rw [he.1, hw1]
      have e2 : s.drop x = r := by rw [he.2, hw2]
      repeat' first | simp only [fins,mems,Tryz.results58,Tryz.ntmps58,Kt,wks,hxe,hx',h1,h1',hx,e1,e2,vcs,Ka,Kb,Kc,Kd,Ke,Kf,Kg,Kh,Ki,Kj,Kk,Kl,Km,reduceCtorEq,reduceIte,Kn,Ko,Kp,Kq,Kr,Ks,tys] | exact rfl | refine call_off (v := .bool false) ?_ | (first | (refine call_fn ?_ (hfe _) ?_) | (refine call_fn_g ?_ (fun _ => hfe _) ?_)) | refine And.intro (by omega) ?_
      all_goals ((refine Fin.give [(q, none)] [] ?_ ?_ ?_ ?_ ?_ (fun q hq => by have hqq := ho q hq; first | (simp only [gives,tgt,List.map_cons,List.map_nil,List.mem_cons,List.not_mem_nil,or_false] at hqq ⊢; omega) | (simp only [gives,tgt,List.map_cons,List.map_nil,List.mem_cons,List.not_mem_nil,or_false] at hqq)) <;> (try simp only [Tryz.results58,Tryz.ntmps58,wks,hq,z0,z1,z2,z3,giv,vcs,Ka,Kb,Kc,Kd,Ke,Kf,Kg,Kh,Ki,Kj,Kk,Kl,Km,reduceCtorEq,reduceIte,Kn,Ko,Kp,Kq,Kr,Ks,tys]) <;> (try simp only [injs]) <;> (try omega)))
theorem sName_evp (s : List UInt8) (hs : s.length ≤ 1000000) (hn : nameO s = none) (q : Nat) (M : Mem) (nm : Nat) (hq : M q = some (srcK s)) (ho : ∀ z, (M z).isSome = true → z ∈ [q]) (hqn : q < nm) :
    EvP cx 58 nm [.ptr q 0 0] M noV := by
  have hfl := name_none hn
  unfold srcK at hq
  refine evp_go rfl cxG rfl (fun cargs w => Tryz.call58 cargs w) Tryz.func58 rfl mixed (by kernel_rfl) rfl ?_; intro b0 hb0
  have lq : q < b0 := below_of hb0 (by rw [hq]; rfl)
  have z0 := lt_ne lq; have z1 := lt_ne_add lq; have z2 := lt_ne' lq; have z3 := lt_ne_add' lq
  repeat' first | simp only [fins,mems,Tryz.results58,Tryz.ntmps58,Kt,wks,vcs,Ka,Kb,Kc,Kd,Ke,Kf,Kg,Kh,Ki,Kj,Kk,Kl,Km,reduceCtorEq,reduceIte,Kn,Ko,Kp,Kq,Kr,Ks,tys] | exact rfl | refine call_off (v := .any) ?_ | ((first | apply cond_bool | apply cond_bit) <;> intro hb) | refine And.intro (by omega) ?_ | refine And.intro (fun hb => ?_) (fun hb => ?_)
  (refine loop_can2 cxG (fun x : Nat => s.length - x) (fun x => x ≤ s.length ∧ (∀ c ∈ s.take x, wordB c = true)) (b0 + 16) (fun x => [(0, .ptr q 0 0), (3, .int .i64 x)]) (fun x => [(q, ⟨1, [[.str s]]⟩)]) (0) [some q] ?_ ?_ ?_ ?_; rotate_left 1; (focus (show b0 ≤ _; omega)); (focus (refine ⟨?_, ?_⟩ <;> (try simp only [cans,hq,z0,z1,z2,z3,vcs,Ka,Kb,Kc,Kd,Ke,Kf,Kg,Kh,Ki,Kj,Kk,Kl,Km,reduceCtorEq,reduceIte,Kn,Ko,Kp,Kq,Kr,Ks,tys,injs]) <;> (try omega))); rotate_left 1)
  · exact ⟨Nat.zero_le _, by simp⟩
  · rintro x ⟨h1, h2⟩
    have hend : ∀ (hx : ∀ c, s[x]? = some c → wordB c = false), s.take x = wordT s ∧ s.drop x = wordR s := fun hx => ⟨(word_at h2 hx).1.symm, (word_at h2 hx).2.symm⟩
    have h1' : (x : Int) ≤ (s.length : Int) := by omega
    by_cases hx : x < s.length
    · obtain ⟨c, hc⟩ : ∃ c, s[x]? = some c := ⟨_, List.getElem?_eq_getElem hx⟩
      have hx' : decide ((x : Int) < (s.length : Int)) = true := decide_eq_true (by omega)
      have hpe := part_ev c false
      have q58 : ((c.toNat : Int) == 58) = decide (c = 58) := beq_byte c 58
      have hwx : IntKind.i64.wrap ((x : Int) + 1) = ((x + 1 : Nat) : Int) := wrap_in (by omega) (by omega)
      have hwc : wordB c = (partB false c || decide (c = 58)) := by unfold wordB; congr 1
      have hgo : ∀ (hp : wordB c = true), x + 1 ≤ s.length ∧ ∀ c ∈ s.take (x + 1), wordB c = true := fun hp => ⟨by omega, word_step h2 hc hp⟩
      cases hp : partB false c <;> cases h58 : decide (c = 58) <;> rw [hp, h58] at hwc <;> rw [hp] at hpe <;> rw [h58] at q58
      · have he := hend (fun d hd => by rw [hc] at hd; cases hd; exact hwc)
        have hfe := full_ev (wordT s) (by unfold lim; rw [← he.1, List.length_take]; omega)
        rw [hfl] at hfe
        have e1 : s.take x = wordT s := he.1
        repeat' first | simp only [fins,mems,Tryz.results58,Tryz.ntmps58,Kt,wks,hc,hx',h1,h1',hx,q58,e1,goOps_panic,goPan_iface,goEx_code_pan,goEx_blk_pan,goEx_again_pan,panP_at,vcs,Ka,Kb,Kc,Kd,Ke,Kf,Kg,Kh,Ki,Kj,Kk,Kl,Km,reduceCtorEq,reduceIte,Kn,Ko,Kp,Kq,Kr,Ks,tys] | exact rfl | refine call_off (v := .any) ?_ | (first | (refine call_fn ?_ (hfe _) ?_) | (refine call_fn_g ?_ (fun _ => hfe _) ?_) | (refine call_fn ?_ (hpe _) ?_) | (refine call_fn_g ?_ (fun _ => hpe _) ?_)) | (refine call_off (v := .any) ?_) | (refine call_pan rfl [q] (no_evp q _ _) ?_) | refine And.intro (by omega) ?_
      · repeat' first | simp only [fins,mems,Tryz.results58,Tryz.ntmps58,Kt,wks,hc,hx',h1,h1',hx,q58,hwx,vcs,Ka,Kb,Kc,Kd,Ke,Kf,Kg,Kh,Ki,Kj,Kk,Kl,Km,reduceCtorEq,reduceIte,Kn,Ko,Kp,Kq,Kr,Ks,tys] | exact rfl | refine call_off (v := .any) ?_ | (first | (refine call_fn ?_ (hpe _) ?_) | (refine call_fn_g ?_ (fun _ => hpe _) ?_)) | (refine call_off (v := .any) ?_) | refine And.intro (by omega) ?_
        all_goals ((refine again_can2 cxG (x + 1) [some q] ?_ ?_ ?_ ?_; rotate_left 2; (focus (show b0 ≤ _; omega)); (focus (refine ⟨?_, ?_⟩ <;> (try simp only [cans,hq,z0,z1,z2,z3,vcs,Ka,Kb,Kc,Kd,Ke,Kf,Kg,Kh,Ki,Kj,Kk,Kl,Km,reduceCtorEq,reduceIte,Kn,Ko,Kp,Kq,Kr,Ks,tys,injs]) <;> (try omega)))))
        all_goals (first | (show s.length - (x + 1) < s.length - x; omega) | exact hgo hwc | skip)
      · repeat' first | simp only [fins,mems,Tryz.results58,Tryz.ntmps58,Kt,wks,hc,hx',h1,h1',hx,q58,hwx,vcs,Ka,Kb,Kc,Kd,Ke,Kf,Kg,Kh,Ki,Kj,Kk,Kl,Km,reduceCtorEq,reduceIte,Kn,Ko,Kp,Kq,Kr,Ks,tys] | exact rfl | refine call_off (v := .any) ?_ | (first | (refine call_fn ?_ (hpe _) ?_) | (refine call_fn_g ?_ (fun _ => hpe _) ?_)) | (refine call_off (v := .any) ?_) | refine And.intro (by omega) ?_
        all_goals ((refine again_can2 cxG (x + 1) [some q] ?_ ?_ ?_ ?_; rotate_left 2; (focus (show b0 ≤ _; omega)); (focus (refine ⟨?_, ?_⟩ <;> (try simp only [cans,hq,z0,z1,z2,z3,vcs,Ka,Kb,Kc,Kd,Ke,Kf,Kg,Kh,Ki,Kj,Kk,Kl,Km,reduceCtorEq,reduceIte,Kn,Ko,Kp,Kq,Kr,Ks,tys,injs]) <;> (try omega)))))
        all_goals (first | (show s.length - (x + 1) < s.length - x; omega) | exact hgo hwc | skip)
      · repeat' first | simp only [fins,mems,Tryz.results58,Tryz.ntmps58,Kt,wks,hc,hx',h1,h1',hx,q58,hwx,vcs,Ka,Kb,Kc,Kd,Ke,Kf,Kg,Kh,Ki,Kj,Kk,Kl,Km,reduceCtorEq,reduceIte,Kn,Ko,Kp,Kq,Kr,Ks,tys] | exact rfl | refine call_off (v := .any) ?_ | (first | (refine call_fn ?_ (hpe _) ?_) | (refine call_fn_g ?_ (fun _ => hpe _) ?_)) | (refine call_off (v := .any) ?_) | refine And.intro (by omega) ?_
        all_goals ((refine again_can2 cxG (x + 1) [some q] ?_ ?_ ?_ ?_; rotate_left 2; (focus (show b0 ≤ _; omega)); (focus (refine ⟨?_, ?_⟩ <;> (try simp only [cans,hq,z0,z1,z2,z3,vcs,Ka,Kb,Kc,Kd,Ke,Kf,Kg,Kh,Ki,Kj,Kk,Kl,Km,reduceCtorEq,reduceIte,Kn,Ko,Kp,Kq,Kr,Ks,tys,injs]) <;> (try omega)))))
        all_goals (first | (show s.length - (x + 1) < s.length - x; omega) | exact hgo hwc | skip)
    · have hx' : decide ((x : Int) < (s.length : Int)) = false := decide_eq_false (by omega)
      have hxe : s[x]? = none := List.getElem?_eq_none (by omega)
      have he := hend (fun d hd => by rw [hxe] at hd; cases hd)
      have hfe := full_ev (wordT s) (by unfold lim; rw [← he.1, List.length_take]; omega)
      rw [hfl] at hfe
      have e1 : s.take x = wordT s := he.1
      repeat' first | simp only [fins,mems,Tryz.results58,Tryz.ntmps58,Kt,wks,hxe,hx',h1,h1',hx,e1,goOps_panic,goPan_iface,goEx_code_pan,goEx_blk_pan,goEx_again_pan,panP_at,vcs,Ka,Kb,Kc,Kd,Ke,Kf,Kg,Kh,Ki,Kj,Kk,Kl,Km,reduceCtorEq,reduceIte,Kn,Ko,Kp,Kq,Kr,Ks,tys] | exact rfl | refine call_off (v := .bool false) ?_ | (first | (refine call_fn ?_ (hfe _) ?_) | (refine call_fn_g ?_ (fun _ => hfe _) ?_)) | (refine call_pan rfl [q] (no_evp q _ _) ?_) | refine And.intro (by omega) ?_
theorem cut_dec {d : UInt8} (hd : d.toNat < 128) : ∀ (zs : List Int) (a b : List UInt8), zs.all may = true → enc zs = a ++ d :: b → (dec a).isSome = true ∧ (dec b).isSome = true
  | [], a, b, _, h => by
    have := congrArg List.length h
    simp [enc] at this
  | z :: zs, a, b, hm, h => by
    simp only [List.all_cons,Bool.and_eq_true] at hm
    have e : enc (z :: zs) = encodeRune z ++ enc zs := by simp [enc]
    have e1 : enc [z] = encodeRune z := by simp [enc]
    have d1 : dec (encodeRune z) = some [z] := by rw [← e1]; exact dec_enc [z] (by simp [hm.1])
    rw [e] at h
    rcases List.append_eq_append_iff.1 h with ⟨a', h1, h2⟩ | ⟨c', h1, h2⟩
    · obtain ⟨k1, k2⟩ := cut_dec hd zs a' b hm.2 h2
      obtain ⟨y, hy⟩ := Option.isSome_iff_exists.1 k1
      refine ⟨?_, k2⟩
      rw [h1, dec_both d1 hy]; rfl
    · cases c' with
      | nil =>
        simp only [List.append_nil,List.nil_append] at h1 h2
        obtain ⟨_, k2⟩ := cut_dec hd zs [] b hm.2 (by rw [← h2]; rfl)
        refine ⟨?_, k2⟩
        rw [← h1, d1]; rfl
      | cons c t =>
        simp only [List.cons_append,List.cons.injEq] at h2
        obtain ⟨h2, h3⟩ := h2
        by_cases hz : z < 128
        · have hr := may_range hm.1
          rw [low_enc (by omega) hz] at h1
          cases a with
          | nil =>
            simp only [List.nil_append,List.cons.injEq] at h1
            rw [← h1.2, List.nil_append] at h3
            exact ⟨rfl, by rw [h3, dec_enc zs hm.2]; rfl⟩
          | cons a0 a1 =>
            have := congrArg List.length h1
            simp at this
        · have := enc_high (z := z) (by omega) d (by rw [h1, h2]; simp)
          omega
theorem cut_text {d : UInt8} (hd : d.toNat < 128) {s a b : List UInt8} (h : (dec s).isSome = true) (he : s = a ++ d :: b) : (dec a).isSome = true ∧ (dec b).isSome = true := by
  obtain ⟨zs, hz⟩ := Option.isSome_iff_exists.1 h
  obtain ⟨hm, h2⟩ := (dec_iff s zs).1 hz
  exact cut_dec hd zs a b hm (by rw [h2, he])
theorem pre_one (c d : UInt8) (t : List UInt8) : preB (c :: t) [d] = (c == d) := by
  unfold preB; simp
theorem rValue_ev (s v r : List UInt8) (hs : s.length ≤ 16384) (hd : (dec s).isSome = true) (hv : valueO s = some (v, r)) (q : Nat) (M : Mem) (nm : Nat) (hq : M q = some (srcK s)) (ho : ∀ z, (M z).isSome = true → z ∈ [q]) (hqn : q < nm) :
    Ev cx 61 nm [.ptr q 0 0] M (.str v) [(q, some (srcK r))] := by
  obtain ⟨a, h1, h2⟩ := value_some hv
  obtain ⟨k, hk, rfl, hka⟩ := quote_some h1
  have e1 : ∀ (k : UInt8) (t : List UInt8) (y : Bool), t.length ≤ 20000 → preB t [k] = y → ∀ (M' : Mem) (n' : Nat), M' q = some ⟨1, [[.str t]]⟩ → (∀ z, (M' z).isSome = true → z ∈ [q]) → q < n' → Ev cx 41 n' [.ptr q 0 0, .str [k]] M' (.bool y) [(q, some ⟨1, [[.str (if y then t.drop 1 else t)]]⟩)] := by
    intro k t y ht hy M' n' h1 h2 h3
    have := eat_ev t [k] (by unfold lim; omega) (by simp [lim]) q M' n' h1 h2 h3
    rw [hy] at this
    cases y <;> exact this
  have hla : a.length + r.length + 2 ≤ 16384 := by simpa [Nat.add_assoc, Nat.add_comm, Nat.add_left_comm] using hs
  have hk128 : k.toNat < 128 := by rcases hk with rfl | rfl <;> decide
  obtain ⟨_, hd2⟩ := cut_text hk128 (a := []) hd rfl
  obtain ⟨hda, hdr⟩ := cut_text hk128 hd2 rfl
  have hcv := cut_ev (a ++ k :: r) k (by simp [lim]; omega)
  have ecv : cutV k (a ++ k :: r) = .tup [.str a, .str r, .bool true] := by unfold cutV; rw [cut1_of hka]
  rw [ecv] at hcv
  have hmp := map_ev a (by omega) hda
  unfold flatF at hmp
  have hg := eGet_ev (a.map flatB) (by rw [List.length_map]; unfold lim; omega)
  rw [getV_some (ptsErr_iff.2 ⟨by rw [List.length_map]; omega, dec_flat hda⟩) h2] at hg
  unfold srcK at hq ⊢
  rcases hk with rfl | rfl
  · have p1 := e1 39 (39 :: (a ++ 39 :: r)) true (by simp; omega) (pre_one _ _ _)
    simp only [if_true,List.drop_succ_cons,List.drop_zero] at p1
    refine ev_go rfl (fun cargs w => Tryz.call61 cargs w) Tryz.func61 rfl mixed (by kernel_rfl) rfl ?_; intro b0 hb0
    have lq : q < b0 := below_of hb0 (by rw [hq]; rfl)
    have z0 := lt_ne lq; have z1 := lt_ne_add lq; have z2 := lt_ne' lq; have z3 := lt_ne_add' lq
    repeat' first | simp only [fins,mems,Tryz.results61,Tryz.ntmps61,Kt,wks,hq,z0,z1,z2,z3,vcs,Ka,Kb,Kc,Kd,Ke,Kf,Kg,Kh,Ki,Kj,Kk,Kl,Km,reduceCtorEq,reduceIte,Kn,Ko,Kp,Kq,Kr,Ks,tys] | exact rfl | refine call_off (v := .any) ?_ | (first | (refine call_fn ?_ (hcv _) ?_) | (refine call_fn_g ?_ (fun _ => hcv _) ?_) | (refine call_fn ?_ (hmp _) ?_) | (refine call_fn_g ?_ (fun _ => hmp _) ?_) | (refine call_fn ?_ (hg _) ?_) | (refine call_fn_g ?_ (fun _ => hg _) ?_)) | (refine call_fn_full ?_ [q] (p1 _ _ ?_ only_mem (by omega)) ?_ ?_) | ((first | apply cond_bool | apply cond_bit) <;> intro hb) | refine And.intro (by omega) ?_ | refine And.intro (fun hb => ?_) (fun hb => ?_)
    all_goals ((refine Fin.give [(q, none)] [] ?_ ?_ ?_ ?_ ?_ (fun q hq => by have hqq := ho q hq; first | (simp only [gives,tgt,List.map_cons,List.map_nil,List.mem_cons,List.not_mem_nil,or_false] at hqq ⊢; omega) | (simp only [gives,tgt,List.map_cons,List.map_nil,List.mem_cons,List.not_mem_nil,or_false] at hqq)) <;> (try simp only [Tryz.results61,Tryz.ntmps61,wks,hq,z0,z1,z2,z3,giv,vcs,Ka,Kb,Kc,Kd,Ke,Kf,Kg,Kh,Ki,Kj,Kk,Kl,Km,reduceCtorEq,reduceIte,Kn,Ko,Kp,Kq,Kr,Ks,tys]) <;> (try simp only [injs]) <;> (try omega)))
  · have p1 := e1 39 (34 :: (a ++ 34 :: r)) false (by simp; omega) (pre_one _ _ _)
    have p2 := e1 34 (34 :: (a ++ 34 :: r)) true (by simp; omega) (pre_one _ _ _)
    simp only [if_true,Bool.false_eq_true,if_false,List.drop_succ_cons,List.drop_zero] at p1 p2
    refine ev_go rfl (fun cargs w => Tryz.call61 cargs w) Tryz.func61 rfl mixed (by kernel_rfl) rfl ?_; intro b0 hb0
    have lq : q < b0 := below_of hb0 (by rw [hq]; rfl)
    have z0 := lt_ne lq; have z1 := lt_ne_add lq; have z2 := lt_ne' lq; have z3 := lt_ne_add' lq
    repeat' first | simp only [Tryz.results61,Tryz.ntmps61,Kt,wks,hq,z0,z1,z2,z3,vcs,Ka,Kb,Kc,Kd,Ke,Kf,Kg,Kh,Ki,Kj,Kk,Kl,Km,reduceCtorEq,reduceIte,Kn,Ko,Kp,Kq,Kr,Ks,tys] | exact rfl | ((first | (refine call_fn ?_ (hcv _) ?_) | (refine call_fn_g ?_ (fun _ => hcv _) ?_) | (refine call_fn ?_ (hmp _) ?_) | (refine call_fn_g ?_ (fun _ => hmp _) ?_) | (refine call_fn ?_ (hg _) ?_) | (refine call_fn_g ?_ (fun _ => hg _) ?_)); (focus (simp only [Tryz.results61,Tryz.ntmps61,Kt,wks,hq,z0,z1,z2,z3,vcs,Ka,Kb,Kc,Kd,Ke,Kf,Kg,Kh,Ki,Kj,Kk,Kl,Km,reduceCtorEq,reduceIte,Kn,Ko,Kp,Kq,Kr,Ks,tys] <;> exact rfl))) | ((refine call_fn_full ?_ [q] (p1 _ _ ?_ only_mem (by omega)) ?_ ?_); iterate 3 (focus (simp only [mems,Tryz.results61,Tryz.ntmps61,Kt,wks,hq,z0,z1,z2,z3,vcs,Ka,Kb,Kc,Kd,Ke,Kf,Kg,Kh,Ki,Kj,Kk,Kl,Km,reduceCtorEq,reduceIte,Kn,Ko,Kp,Kq,Kr,Ks,tys] <;> exact rfl))) | ((refine call_fn_full ?_ [q] (p2 _ _ ?_ only_mem (by omega)) ?_ ?_); iterate 3 (focus (simp only [mems,Tryz.results61,Tryz.ntmps61,Kt,wks,hq,z0,z1,z2,z3,vcs,Ka,Kb,Kc,Kd,Ke,Kf,Kg,Kh,Ki,Kj,Kk,Kl,Km,reduceCtorEq,reduceIte,Kn,Ko,Kp,Kq,Kr,Ks,tys] <;> exact rfl))) | ((first | apply cond_bool | apply cond_bit) <;> intro hb) | refine And.intro (by omega) ?_ | refine And.intro (fun hb => ?_) (fun hb => ?_)
    all_goals ((refine Fin.give [(q, none)] [] ?_ ?_ ?_ ?_ ?_ (fun q hq => by have hqq := ho q hq; first | (simp only [gives,tgt,List.map_cons,List.map_nil,List.mem_cons,List.not_mem_nil,or_false] at hqq ⊢; omega) | (simp only [gives,tgt,List.map_cons,List.map_nil,List.mem_cons,List.not_mem_nil,or_false] at hqq)) <;> (try simp only [Tryz.results61,Tryz.ntmps61,wks,hq,z0,z1,z2,z3,giv,vcs,Ka,Kb,Kc,Kd,Ke,Kf,Kg,Kh,Ki,Kj,Kk,Kl,Km,reduceCtorEq,reduceIte,Kn,Ko,Kp,Kq,Kr,Ks,tys]) <;> (try simp only [injs]) <;> (try omega)))
theorem rValue_evp (s : List UInt8) (hs : s.length ≤ 16384) (hd : (dec s).isSome = true) (hv : valueO s = none) (q : Nat) (M : Mem) (nm : Nat) (hq : M q = some (srcK s)) (ho : ∀ z, (M z).isSome = true → z ∈ [q]) (hqn : q < nm) :
    EvP cx 61 nm [.ptr q 0 0] M noV := by
  have e1 : ∀ (k : UInt8) (t : List UInt8) (y : Bool), t.length ≤ 20000 → preB t [k] = y → ∀ (M' : Mem) (n' : Nat), M' q = some ⟨1, [[.str t]]⟩ → (∀ z, (M' z).isSome = true → z ∈ [q]) → q < n' → Ev cx 41 n' [.ptr q 0 0, .str [k]] M' (.bool y) [(q, some ⟨1, [[.str (if y then t.drop 1 else t)]]⟩)] := by
    intro k t y ht hy M' n' h1 h2 h3
    have := eat_ev t [k] (by unfold lim; omega) (by simp [lim]) q M' n' h1 h2 h3
    rw [hy] at this
    cases y <;> exact this
  unfold srcK at hq
  by_cases hk : ∃ k t, s = k :: t ∧ (k = 39 ∨ k = 34)
  · obtain ⟨k, t, rfl, hk⟩ := hk
    have hk128 : k.toNat < 128 := by rcases hk with rfl | rfl <;> decide
    obtain ⟨_, hd2⟩ := cut_text hk128 (a := []) hd rfl
    have hlt : t.length + 1 ≤ 16384 := by simpa using hs
    have hcv := cut_ev t k (by unfold lim; omega)
    cases hc : cut1 k t with
    | none =>
      have ecv : cutV k t = .tup [.str t, .str [], .bool false] := by unfold cutV; rw [hc]
      rw [ecv] at hcv
      rcases hk with rfl | rfl
      · have p1 := e1 39 (39 :: t) true (by simp; omega) (pre_one _ _ _)
        simp only [if_true,List.drop_succ_cons,List.drop_zero] at p1
        refine evp_go rfl cxG rfl (fun cargs w => Tryz.call61 cargs w) Tryz.func61 rfl mixed (by kernel_rfl) rfl ?_; intro b0 hb0
        have lq : q < b0 := below_of hb0 (by rw [hq]; rfl)
        have z0 := lt_ne lq; have z1 := lt_ne_add lq; have z2 := lt_ne' lq; have z3 := lt_ne_add' lq
        repeat' first | simp only [fins,mems,Tryz.results61,Tryz.ntmps61,Kt,wks,hq,z0,z1,z2,z3,goOps_panic,goPan_iface,goEx_code_pan,goEx_blk_pan,goEx_again_pan,panP_at,vcs,Ka,Kb,Kc,Kd,Ke,Kf,Kg,Kh,Ki,Kj,Kk,Kl,Km,reduceCtorEq,reduceIte,Kn,Ko,Kp,Kq,Kr,Ks,tys] | exact rfl | refine call_off (v := .any) ?_ | (first | (refine call_fn ?_ (hcv _) ?_) | (refine call_fn_g ?_ (fun _ => hcv _) ?_)) | (refine call_fn_full ?_ [q] (p1 _ _ ?_ only_mem (by omega)) ?_ ?_) | (refine call_pan rfl [q] (no_evp q _ _) ?_) | ((first | apply cond_bool | apply cond_bit) <;> intro hb) | refine And.intro (by omega) ?_ | refine And.intro (fun hb => ?_) (fun hb => ?_)
      · have p1 := e1 39 (34 :: t) false (by simp; omega) (pre_one _ _ _)
        have p2 := e1 34 (34 :: t) true (by simp; omega) (pre_one _ _ _)
        simp only [if_true,Bool.false_eq_true,if_false,List.drop_succ_cons,List.drop_zero] at p1 p2
        refine evp_go rfl cxG rfl (fun cargs w => Tryz.call61 cargs w) Tryz.func61 rfl mixed (by kernel_rfl) rfl ?_; intro b0 hb0
        have lq : q < b0 := below_of hb0 (by rw [hq]; rfl)
        have z0 := lt_ne lq; have z1 := lt_ne_add lq; have z2 := lt_ne' lq; have z3 := lt_ne_add' lq
        repeat' first | simp only [Tryz.results61,Tryz.ntmps61,Kt,wks,hq,z0,z1,z2,z3,goOps_panic,goPan_iface,goEx_code_pan,goEx_blk_pan,goEx_again_pan,panP_at,vcs,Ka,Kb,Kc,Kd,Ke,Kf,Kg,Kh,Ki,Kj,Kk,Kl,Km,reduceCtorEq,reduceIte,Kn,Ko,Kp,Kq,Kr,Ks,tys] | exact rfl | ((first | (refine call_fn ?_ (hcv _) ?_) | (refine call_fn_g ?_ (fun _ => hcv _) ?_)); (focus (simp only [Tryz.results61,Tryz.ntmps61,Kt,wks,hq,z0,z1,z2,z3,goOps_panic,goPan_iface,goEx_code_pan,goEx_blk_pan,goEx_again_pan,panP_at,vcs,Ka,Kb,Kc,Kd,Ke,Kf,Kg,Kh,Ki,Kj,Kk,Kl,Km,reduceCtorEq,reduceIte,Kn,Ko,Kp,Kq,Kr,Ks,tys] <;> exact rfl))) | ((refine call_fn_full ?_ [q] (p1 _ _ ?_ only_mem (by omega)) ?_ ?_); iterate 3 (focus (simp only [mems,Tryz.results61,Tryz.ntmps61,Kt,wks,hq,z0,z1,z2,z3,goOps_panic,goPan_iface,goEx_code_pan,goEx_blk_pan,goEx_again_pan,panP_at,vcs,Ka,Kb,Kc,Kd,Ke,Kf,Kg,Kh,Ki,Kj,Kk,Kl,Km,reduceCtorEq,reduceIte,Kn,Ko,Kp,Kq,Kr,Ks,tys] <;> exact rfl))) | ((refine call_fn_full ?_ [q] (p2 _ _ ?_ only_mem (by omega)) ?_ ?_); iterate 3 (focus (simp only [mems,Tryz.results61,Tryz.ntmps61,Kt,wks,hq,z0,z1,z2,z3,goOps_panic,goPan_iface,goEx_code_pan,goEx_blk_pan,goEx_again_pan,panP_at,vcs,Ka,Kb,Kc,Kd,Ke,Kf,Kg,Kh,Ki,Kj,Kk,Kl,Km,reduceCtorEq,reduceIte,Kn,Ko,Kp,Kq,Kr,Ks,tys] <;> exact rfl))) | (refine call_pan rfl [q] (no_evp q _ _) ?_) | ((first | apply cond_bool | apply cond_bit) <;> intro hb) | refine And.intro (by omega) ?_ | refine And.intro (fun hb => ?_) (fun hb => ?_)
    | some p =>
      obtain ⟨a, r⟩ := p
      have ecv : cutV k t = .tup [.str a, .str r, .bool true] := by unfold cutV; rw [hc]
      rw [ecv] at hcv
      obtain ⟨he, hka⟩ := cut1_some hc
      obtain ⟨hda, hdr⟩ := cut_text hk128 hd2 he
      have hla : a.length ≤ 16384 := by
        have := congrArg List.length he
        simp at this; omega
      have hto : readL (a.map flatB) = none := by
        unfold valueO at hv
        rw [quote_cons, if_pos hk, hc] at hv
        simpa [toldO] using hv
      have hmp := map_ev a (by omega) hda
      unfold flatF at hmp
      have hg := eGet_ev (a.map flatB) (by rw [List.length_map]; unfold lim; omega)
      rw [getV_none (ptsErr_iff.2 ⟨by rw [List.length_map]; omega, dec_flat hda⟩) hto] at hg
      rcases hk with rfl | rfl
      · have p1 := e1 39 (39 :: t) true (by simp; omega) (pre_one _ _ _)
        simp only [if_true,List.drop_succ_cons,List.drop_zero] at p1
        refine evp_go rfl cxG rfl (fun cargs w => Tryz.call61 cargs w) Tryz.func61 rfl mixed (by kernel_rfl) rfl ?_; intro b0 hb0
        have lq : q < b0 := below_of hb0 (by rw [hq]; rfl)
        have z0 := lt_ne lq; have z1 := lt_ne_add lq; have z2 := lt_ne' lq; have z3 := lt_ne_add' lq
        repeat' first | simp only [fins,mems,Tryz.results61,Tryz.ntmps61,Kt,wks,hq,z0,z1,z2,z3,goOps_panic,goPan_iface,goEx_code_pan,goEx_blk_pan,goEx_again_pan,panP_at,vcs,Ka,Kb,Kc,Kd,Ke,Kf,Kg,Kh,Ki,Kj,Kk,Kl,Km,reduceCtorEq,reduceIte,Kn,Ko,Kp,Kq,Kr,Ks,tys] | exact rfl | refine call_off (v := .any) ?_ | (first | (refine call_fn ?_ (hcv _) ?_) | (refine call_fn_g ?_ (fun _ => hcv _) ?_) | (refine call_fn ?_ (hmp _) ?_) | (refine call_fn_g ?_ (fun _ => hmp _) ?_) | (refine call_fn ?_ (hg _) ?_) | (refine call_fn_g ?_ (fun _ => hg _) ?_)) | (refine call_fn_full ?_ [q] (p1 _ _ ?_ only_mem (by omega)) ?_ ?_) | (refine call_pan rfl [q] (no_evp q _ _) ?_) | ((first | apply cond_bool | apply cond_bit) <;> intro hb) | refine And.intro (by omega) ?_ | refine And.intro (fun hb => ?_) (fun hb => ?_)
      · have p1 := e1 39 (34 :: t) false (by simp; omega) (pre_one _ _ _)
        have p2 := e1 34 (34 :: t) true (by simp; omega) (pre_one _ _ _)
        simp only [if_true,Bool.false_eq_true,if_false,List.drop_succ_cons,List.drop_zero] at p1 p2
        refine evp_go rfl cxG rfl (fun cargs w => Tryz.call61 cargs w) Tryz.func61 rfl mixed (by kernel_rfl) rfl ?_; intro b0 hb0
        have lq : q < b0 := below_of hb0 (by rw [hq]; rfl)
        have z0 := lt_ne lq; have z1 := lt_ne_add lq; have z2 := lt_ne' lq; have z3 := lt_ne_add' lq
        repeat' first | simp only [Tryz.results61,Tryz.ntmps61,Kt,wks,hq,z0,z1,z2,z3,goOps_panic,goPan_iface,goEx_code_pan,goEx_blk_pan,goEx_again_pan,panP_at,vcs,Ka,Kb,Kc,Kd,Ke,Kf,Kg,Kh,Ki,Kj,Kk,Kl,Km,reduceCtorEq,reduceIte,Kn,Ko,Kp,Kq,Kr,Ks,tys] | exact rfl | ((first | (refine call_fn ?_ (hcv _) ?_) | (refine call_fn_g ?_ (fun _ => hcv _) ?_) | (refine call_fn ?_ (hmp _) ?_) | (refine call_fn_g ?_ (fun _ => hmp _) ?_) | (refine call_fn ?_ (hg _) ?_) | (refine call_fn_g ?_ (fun _ => hg _) ?_)); (focus (simp only [Tryz.results61,Tryz.ntmps61,Kt,wks,hq,z0,z1,z2,z3,goOps_panic,goPan_iface,goEx_code_pan,goEx_blk_pan,goEx_again_pan,panP_at,vcs,Ka,Kb,Kc,Kd,Ke,Kf,Kg,Kh,Ki,Kj,Kk,Kl,Km,reduceCtorEq,reduceIte,Kn,Ko,Kp,Kq,Kr,Ks,tys] <;> exact rfl))) | ((refine call_fn_full ?_ [q] (p1 _ _ ?_ only_mem (by omega)) ?_ ?_); iterate 3 (focus (simp only [mems,Tryz.results61,Tryz.ntmps61,Kt,wks,hq,z0,z1,z2,z3,goOps_panic,goPan_iface,goEx_code_pan,goEx_blk_pan,goEx_again_pan,panP_at,vcs,Ka,Kb,Kc,Kd,Ke,Kf,Kg,Kh,Ki,Kj,Kk,Kl,Km,reduceCtorEq,reduceIte,Kn,Ko,Kp,Kq,Kr,Ks,tys] <;> exact rfl))) | ((refine call_fn_full ?_ [q] (p2 _ _ ?_ only_mem (by omega)) ?_ ?_); iterate 3 (focus (simp only [mems,Tryz.results61,Tryz.ntmps61,Kt,wks,hq,z0,z1,z2,z3,goOps_panic,goPan_iface,goEx_code_pan,goEx_blk_pan,goEx_again_pan,panP_at,vcs,Ka,Kb,Kc,Kd,Ke,Kf,Kg,Kh,Ki,Kj,Kk,Kl,Km,reduceCtorEq,reduceIte,Kn,Ko,Kp,Kq,Kr,Ks,tys] <;> exact rfl))) | (refine call_pan rfl [q] (no_evp q _ _) ?_) | ((first | apply cond_bool | apply cond_bit) <;> intro hb) | refine And.intro (by omega) ?_ | refine And.intro (fun hb => ?_) (fun hb => ?_)
  · have hn : ∀ k : UInt8, k = 39 ∨ k = 34 → preB s [k] = false := by
      intro k hk2
      cases s with
      | nil => rfl
      | cons c t =>
        rw [pre_one]
        refine beq_false_of_ne (fun e => hk ⟨c, t, rfl, ?_⟩)
        rw [e]; exact hk2
    have p1 := e1 39 s false (by omega) (hn 39 (.inl rfl))
    have p2 := e1 34 s false (by omega) (hn 34 (.inr rfl))
    simp only [Bool.false_eq_true,if_false] at p1 p2
    refine evp_go rfl cxG rfl (fun cargs w => Tryz.call61 cargs w) Tryz.func61 rfl mixed (by kernel_rfl) rfl ?_; intro b0 hb0
    have lq : q < b0 := below_of hb0 (by rw [hq]; rfl)
    have z0 := lt_ne lq; have z1 := lt_ne_add lq; have z2 := lt_ne' lq; have z3 := lt_ne_add' lq
    repeat' first | simp only [Tryz.results61,Tryz.ntmps61,Kt,wks,hq,z0,z1,z2,z3,goOps_panic,goPan_iface,goEx_code_pan,goEx_blk_pan,goEx_again_pan,panP_at,vcs,Ka,Kb,Kc,Kd,Ke,Kf,Kg,Kh,Ki,Kj,Kk,Kl,Km,reduceCtorEq,reduceIte,Kn,Ko,Kp,Kq,Kr,Ks,tys] | exact rfl | ((refine call_fn_full ?_ [q] (p1 _ _ ?_ only_mem (by omega)) ?_ ?_); iterate 3 (focus (simp only [mems,Tryz.results61,Tryz.ntmps61,Kt,wks,hq,z0,z1,z2,z3,goOps_panic,goPan_iface,goEx_code_pan,goEx_blk_pan,goEx_again_pan,panP_at,vcs,Ka,Kb,Kc,Kd,Ke,Kf,Kg,Kh,Ki,Kj,Kk,Kl,Km,reduceCtorEq,reduceIte,Kn,Ko,Kp,Kq,Kr,Ks,tys] <;> exact rfl))) | ((refine call_fn_full ?_ [q] (p2 _ _ ?_ only_mem (by omega)) ?_ ?_); iterate 3 (focus (simp only [mems,Tryz.results61,Tryz.ntmps61,Kt,wks,hq,z0,z1,z2,z3,goOps_panic,goPan_iface,goEx_code_pan,goEx_blk_pan,goEx_again_pan,panP_at,vcs,Ka,Kb,Kc,Kd,Ke,Kf,Kg,Kh,Ki,Kj,Kk,Kl,Km,reduceCtorEq,reduceIte,Kn,Ko,Kp,Kq,Kr,Ks,tys] <;> exact rfl))) | (refine call_pan rfl [q] (no_evp q _ _) ?_) | ((first | apply cond_bool | apply cond_bit) <;> intro hb) | refine And.intro (by omega) ?_ | refine And.intro (fun hb => ?_) (fun hb => ?_)
end Go.Proofs.YtoaclokiggoeiaaGreatDoor
namespace Go.Proofs.YtoaclokiggoeiaaGreatDoor
set_option maxRecDepth 100000
set_option maxHeartbeats 32000000
set_option linter.unusedSimpArgs false
set_option linter.unusedVariables false
open Go Go.RowKit Go.Lib
theorem drop_dec {p : UInt8 → Bool} (hp : ∀ c, p c = true → c.toNat < 128) : ∀ s : List UInt8, (dec s).isSome = true → (dec (s.dropWhile p)).isSome = true
  | [], h => h
  | c :: s, h => by
    rw [List.dropWhile_cons]
    by_cases hc : p c = true
    · rw [if_pos hc]
      exact drop_dec hp s (cut_text (hp c hc) (a := []) h rfl).2
    · rw [if_neg hc]; exact h
theorem blank_low : ∀ c : UInt8, blankB c = true → c.toNat < 128 := by
  have key : ∀ n : Fin 256, blankB (UInt8.ofNat n.val) = true → n.val < 128 := by decide +kernel
  intro c hc
  have := key ⟨c.toNat, c.toNat_lt⟩ (by simpa using hc)
  exact this
theorem word_low : ∀ c : UInt8, wordB c = true → c.toNat < 128 := by
  have key : ∀ n : Fin 256, wordB (UInt8.ofNat n.val) = true → n.val < 128 := by decide +kernel
  intro c hc
  have := key ⟨c.toNat, c.toNat_lt⟩ (by simpa using hc)
  exact this
theorem skip_dec {s : List UInt8} (h : (dec s).isSome = true) : (dec (skipL s)).isSome = true := drop_dec blank_low s h
theorem name_dec {s n r : List UInt8} (h : (dec s).isSome = true) (hn : nameO s = some (n, r)) : (dec r).isSome = true := by
  rw [← (name_some hn).2.1]
  exact drop_dec word_low s h
theorem value_dec {s v r : List UInt8} (h : (dec s).isSome = true) (hv : valueO s = some (v, r)) : (dec r).isSome = true := by
  obtain ⟨a, h1, _⟩ := value_some hv
  obtain ⟨k, hk, rfl, _⟩ := quote_some h1
  have hk128 : k.toNat < 128 := by rcases hk with rfl | rfl <;> decide
  exact (cut_text hk128 (a := k :: a) h rfl).2
theorem attr_dec {s r : List UInt8} {a : Pr} (h : (dec s).isSome = true) (ha : attrO s = some (a, r)) : (dec r).isSome = true := by
  obtain ⟨r1, t, h1, h2, h3⟩ := attr_some ha
  have d1 := skip_dec (name_dec h h1)
  rw [h2] at d1
  have d2 := (cut_text (d := 61) (by decide) (a := []) d1 rfl).2
  exact value_dec (skip_dec d2) h3
theorem text_dec {s : List UInt8} (h : (dec s).isSome = true) : (dec (textT s)).isSome = true ∧ (dec (textR s)).isSome = true := by
  have e : s = textT s ++ textR s := (List.takeWhile_append_dropWhile).symm
  cases hr : textR s with
  | nil =>
    rw [hr, List.append_nil] at e
    rw [← e]; exact ⟨h, rfl⟩
  | cons c t =>
    have hc : textB c = false := by
      have := List.head?_dropWhile_not textB s
      unfold textR at hr
      rw [hr] at this
      simpa using this
    have hc60 : c = 60 := by simpa [textB] using hc
    rw [hr] at e
    subst hc60
    obtain ⟨h1, h2⟩ := cut_text (d := 60) (by decide) h e
    refine ⟨h1, ?_⟩
    have d60 : dec [60] = some [60] := by decide +kernel
    obtain ⟨y, hy⟩ := Option.isSome_iff_exists.1 h2
    rw [show (60 : UInt8) :: t = [60] ++ t from rfl, dec_both d60 hy]; rfl
end Go.Proofs.YtoaclokiggoeiaaGreatDoor
namespace Go.Proofs.YtoaclokiggoeiaaGreatDoor
set_option maxRecDepth 100000
set_option maxHeartbeats 32000000
set_option linter.unusedSimpArgs false
set_option linter.unusedVariables false
open Nat renaming reduceAdd → Ka, reduceMul → Kb, reduceEqDiff → Kc, reduceLeDiff → Kd, reduceSub → Ke, reduceLT → Kf, reduceBEq → Kr, reduceBNe → Ks, reducePow → Kt
open Int renaming reduceToNat → Kg, reduceLE → Kh, reduceLT → Ki, reduceAdd → Kj, reduceSub → Kk, reduceMul → Kl, reduceNeg → Km, reduceBEq → Kn, reduceBNe → Ko, reduceEq → Kp, reduceNe → Kq
open Go Go.RowKit Go.Proofs.YtoaclokiggoeiaaGreatDoor.Vm Go.Lib
theorem eatI_ev (s p : List UInt8) (y : Bool) (hs : s.length ≤ 20000) (hp : p.length ≤ 100) (hy : preB s p = y) (q : Nat) (M : Mem) (nm : Nat) (hq : M q = some ⟨1, [[.str s]]⟩) (ho : ∀ z, (M z).isSome = true → z ∈ [q]) (hqn : q < nm) :
    Ev cx 41 nm [.ptr q 0 0, .str p] M (.bool y) [(q, some ⟨1, [[.str (if y then s.drop p.length else s)]]⟩)] := by
  have := eat_ev s p (by unfold lim; omega) (by unfold lim; omega) q M nm hq ho hqn
  rw [hy] at this
  cases y <;> exact this
theorem after_pre {c : UInt8} {s : List UInt8} : preB s [c] = (afterO c s).isSome := by
  cases s with
  | nil => rfl
  | cons d t =>
    rw [pre_one, after_cons]
    by_cases h : d = c
    · rw [if_pos h, h]; simp
    · rw [if_neg h]; simpa using h
theorem rEnd_ev (s t n r r2 : List UInt8) (hs : s.length ≤ 16384) (h1 : afterO 47 s = some t) (h2 : nameO t = some (n, r)) (h3 : afterO 62 (skipL r) = some r2) (q : Nat) (M : Mem) (nm : Nat) (hq : M q = some (srcK s)) (ho : ∀ z, (M z).isSome = true → z ∈ [q]) (hqn : q < nm) :
    Ev cx 42 nm [.ptr q 0 0] M (.agg [.int .u8 2, .str n, .nils, .str []]) [(q, some (srcK r2))] := by
  obtain rfl := after_some h1
  have hk := after_some h3
  have l1 : t.length + 1 ≤ 16384 := by simpa using hs
  obtain ⟨_, _, _, l2⟩ := name_lt h2
  have l3 := skip_le r
  have p1 : ∀ (M' : Mem) (n' : Nat), M' q = some ⟨1, [[.str (47 :: t)]]⟩ → (∀ z, (M' z).isSome = true → z ∈ [q]) → q < n' → Ev cx 41 n' [.ptr q 0 0, .str [47]] M' (.bool true) [(q, some ⟨1, [[.str t]]⟩)] := fun M' n' a b c => by
    have := eatI_ev (47 :: t) [47] true (by omega) (by decide) (by rw [pre_one]; rfl) q M' n' a b c
    exact this
  have p2 : ∀ (M' : Mem) (n' : Nat), M' q = some ⟨1, [[.str (skipL r)]]⟩ → (∀ z, (M' z).isSome = true → z ∈ [q]) → q < n' → Ev cx 41 n' [.ptr q 0 0, .str [62]] M' (.bool true) [(q, some ⟨1, [[.str r2]]⟩)] := fun M' n' a b c => by
    rw [hk] at a l3
    have := eatI_ev (62 :: r2) [62] true (by omega) (by decide) (by rw [pre_one]; rfl) q M' n' a b c
    exact this
  have hn := sName_ev t n r (by omega) h2
  have hsk := skip_ev r (by unfold lim; omega)
  unfold srcK at hq hn hsk ⊢
  refine ev_go rfl (fun cargs w => Tryz.call42 cargs w) Tryz.func42 rfl mixed (by kernel_rfl) rfl ?_; intro b0 hb0
  have lq : q < b0 := below_of hb0 (by rw [hq]; rfl)
  have z0 := lt_ne lq; have z1 := lt_ne_add lq; have z2 := lt_ne' lq; have z3 := lt_ne_add' lq
  repeat' first | simp only [Tryz.results42,Tryz.ntmps42,Kt,wks,hq,z0,z1,z2,z3,vcs,Ka,Kb,Kc,Kd,Ke,Kf,Kg,Kh,Ki,Kj,Kk,Kl,Km,reduceCtorEq,reduceIte,Kn,Ko,Kp,Kq,Kr,Ks,tys] | exact rfl | ((first | (refine call_fn_full ?_ [q] (p1 _ _ ?_ only_mem (by omega)) ?_ ?_) | (refine call_fn_full ?_ [q] (hn q _ _ ?_ only_mem (by omega)) ?_ ?_) | (refine call_fn_full ?_ [q] (hsk q _ _ ?_ only_mem (by omega)) ?_ ?_)); iterate 3 (focus (simp only [mems,Tryz.results42,Tryz.ntmps42,Kt,wks,hq,z0,z1,z2,z3,vcs,Ka,Kb,Kc,Kd,Ke,Kf,Kg,Kh,Ki,Kj,Kk,Kl,Km,reduceCtorEq,reduceIte,Kn,Ko,Kp,Kq,Kr,Ks,tys] <;> exact rfl))) | ((refine call_fn_full ?_ [q] (p2 _ _ ?_ only_mem (by omega)) ?_ ?_); iterate 3 (focus (simp only [mems,Tryz.results42,Tryz.ntmps42,Kt,wks,hq,z0,z1,z2,z3,vcs,Ka,Kb,Kc,Kd,Ke,Kf,Kg,Kh,Ki,Kj,Kk,Kl,Km,reduceCtorEq,reduceIte,Kn,Ko,Kp,Kq,Kr,Ks,tys] <;> exact rfl))) | ((first | apply cond_bool | apply cond_bit) <;> intro hb) | refine And.intro (by omega) ?_ | refine And.intro (fun hb => ?_) (fun hb => ?_)
  all_goals ((refine Fin.give [(q, none)] [] ?_ ?_ ?_ ?_ ?_ (fun q hq => by have hqq := ho q hq; first | (simp only [gives,tgt,List.map_cons,List.map_nil,List.mem_cons,List.not_mem_nil,or_false] at hqq ⊢; omega) | (simp only [gives,tgt,List.map_cons,List.map_nil,List.mem_cons,List.not_mem_nil,or_false] at hqq)) <;> (try simp only [Tryz.results42,Tryz.ntmps42,wks,hq,z0,z1,z2,z3,giv,vcs,Ka,Kb,Kc,Kd,Ke,Kf,Kg,Kh,Ki,Kj,Kk,Kl,Km,reduceCtorEq,reduceIte,Kn,Ko,Kp,Kq,Kr,Ks,tys]) <;> (try simp only [injs]) <;> (try omega)))
theorem rEnd_evp (s t : List UInt8) (hs : s.length ≤ 16384) (h1 : afterO 47 s = some t) (hno : tagO s = none) (q : Nat) (M : Mem) (nm : Nat) (hq : M q = some (srcK s)) (ho : ∀ z, (M z).isSome = true → z ∈ [q]) (hqn : q < nm) :
    EvP cx 42 nm [.ptr q 0 0] M noV := by
  obtain rfl := after_some h1
  have l1 : t.length + 1 ≤ 16384 := by simpa using hs
  have p1 : ∀ (M' : Mem) (n' : Nat), M' q = some ⟨1, [[.str (47 :: t)]]⟩ → (∀ z, (M' z).isSome = true → z ∈ [q]) → q < n' → Ev cx 41 n' [.ptr q 0 0, .str [47]] M' (.bool true) [(q, some ⟨1, [[.str t]]⟩)] := fun M' n' a b c => by
    have := eatI_ev (47 :: t) [47] true (by omega) (by decide) (by rw [pre_one]; rfl) q M' n' a b c
    exact this
  unfold srcK at hq
  cases h2 : nameO t with
  | none =>
    have hn := sName_evp t (by omega) h2
    unfold srcK at hn
    refine evp_go rfl cxG rfl (fun cargs w => Tryz.call42 cargs w) Tryz.func42 rfl mixed (by kernel_rfl) rfl ?_; intro b0 hb0
    have lq : q < b0 := below_of hb0 (by rw [hq]; rfl)
    have z0 := lt_ne lq; have z1 := lt_ne_add lq; have z2 := lt_ne' lq; have z3 := lt_ne_add' lq
    repeat' first | simp only [Tryz.results42,Tryz.ntmps42,Kt,wks,hq,z0,z1,z2,z3,goOps_panic,goPan_iface,goEx_code_pan,goEx_blk_pan,goEx_again_pan,panP_at,vcs,Ka,Kb,Kc,Kd,Ke,Kf,Kg,Kh,Ki,Kj,Kk,Kl,Km,reduceCtorEq,reduceIte,Kn,Ko,Kp,Kq,Kr,Ks,tys] | exact rfl | ((refine call_fn_full ?_ [q] (p1 _ _ ?_ only_mem (by omega)) ?_ ?_); iterate 3 (focus (simp only [mems,Tryz.results42,Tryz.ntmps42,Kt,wks,hq,z0,z1,z2,z3,goOps_panic,goPan_iface,goEx_code_pan,goEx_blk_pan,goEx_again_pan,panP_at,vcs,Ka,Kb,Kc,Kd,Ke,Kf,Kg,Kh,Ki,Kj,Kk,Kl,Km,reduceCtorEq,reduceIte,Kn,Ko,Kp,Kq,Kr,Ks,tys] <;> exact rfl))) | ((first | apply cond_bool | apply cond_bit) <;> intro hb) | refine And.intro (by omega) ?_ | refine And.intro (fun hb => ?_) (fun hb => ?_)
    refine call_pan rfl [q] (hn q _ _ ?_ only_mem (by omega)) ?_
    · simp only [mems,wks,hq,z0,z1,z2,z3,vcs,Ka,Kb,Kc,Kd,Ke,Kf,Kg,Kh,Ki,Kj,Kk,Kl,Km,reduceCtorEq,reduceIte,Kn,Ko,Kp,Kq,Kr,Ks,tys] <;> exact rfl
    · simp only [goEx_code_pan,goEx_blk_pan,goEx_again_pan,panP_at,noV]
  | some p =>
    obtain ⟨n, r⟩ := p
    obtain ⟨_, _, _, l2⟩ := name_lt h2
    have l3 := skip_le r
    have h3 : afterO 62 (skipL r) = none := by
      unfold tagO at hno
      rw [h1] at hno
      simp only [h2,Option.bind_some,Option.map_eq_none_iff] at hno
      exact hno
    have hn := sName_ev t n r (by omega) h2
    have hsk := skip_ev r (by unfold lim; omega)
    have p2 := eatI_ev (skipL r) [62] false (by omega) (by decide) (by rw [after_pre, h3]; rfl)
    simp only [Bool.false_eq_true,if_false] at p2
    unfold srcK at hn hsk
    refine evp_go rfl cxG rfl (fun cargs w => Tryz.call42 cargs w) Tryz.func42 rfl mixed (by kernel_rfl) rfl ?_; intro b0 hb0
    have lq : q < b0 := below_of hb0 (by rw [hq]; rfl)
    have z0 := lt_ne lq; have z1 := lt_ne_add lq; have z2 := lt_ne' lq; have z3 := lt_ne_add' lq
    repeat' first | simp only [Tryz.results42,Tryz.ntmps42,Kt,wks,hq,z0,z1,z2,z3,goOps_panic,goPan_iface,goEx_code_pan,goEx_blk_pan,goEx_again_pan,panP_at,vcs,Ka,Kb,Kc,Kd,Ke,Kf,Kg,Kh,Ki,Kj,Kk,Kl,Km,reduceCtorEq,reduceIte,Kn,Ko,Kp,Kq,Kr,Ks,tys] | exact rfl | ((first | (refine call_fn_full ?_ [q] (p1 _ _ ?_ only_mem (by omega)) ?_ ?_) | (refine call_fn_full ?_ [q] (hn q _ _ ?_ only_mem (by omega)) ?_ ?_) | (refine call_fn_full ?_ [q] (hsk q _ _ ?_ only_mem (by omega)) ?_ ?_)); iterate 3 (focus (simp only [mems,Tryz.results42,Tryz.ntmps42,Kt,wks,hq,z0,z1,z2,z3,goOps_panic,goPan_iface,goEx_code_pan,goEx_blk_pan,goEx_again_pan,panP_at,vcs,Ka,Kb,Kc,Kd,Ke,Kf,Kg,Kh,Ki,Kj,Kk,Kl,Km,reduceCtorEq,reduceIte,Kn,Ko,Kp,Kq,Kr,Ks,tys] <;> exact rfl))) | ((refine call_fn_full ?_ [q] (p2 q _ _ ?_ only_mem (by omega)) ?_ ?_); iterate 3 (focus (simp only [mems,Tryz.results42,Tryz.ntmps42,Kt,wks,hq,z0,z1,z2,z3,goOps_panic,goPan_iface,goEx_code_pan,goEx_blk_pan,goEx_again_pan,panP_at,vcs,Ka,Kb,Kc,Kd,Ke,Kf,Kg,Kh,Ki,Kj,Kk,Kl,Km,reduceCtorEq,reduceIte,Kn,Ko,Kp,Kq,Kr,Ks,tys] <;> exact rfl))) | (refine call_pan rfl [q] (no_evp q _ _) ?_) | ((first | apply cond_bool | apply cond_bit) <;> intro hb) | refine And.intro (by omega) ?_ | refine And.intro (fun hb => ?_) (fun hb => ?_)
def idxI (o : Option Nat) : Int := match o with | some n => n | none => -1
theorem idxI_some (n : Nat) : idxI (some n) = n := rfl
theorem idxI_none : idxI none = -1 := rfl
theorem find_at2 {α : Type} {p : α → Bool} : ∀ {l : List α} {k : Nat} {x : α}, (l.take k).any p = false → l[k]? = some x → p x = true → l.findIdx? p = some k
  | [], k, x, _, h, _ => by simp at h
  | y :: l, 0, x, _, h, hp => by simp at h; subst h; simp [List.findIdx?_cons,hp]
  | y :: l, k + 1, x, hn, h, hp => by
    simp only [List.take_succ_cons,List.any_cons,Bool.or_eq_false_iff] at hn
    rw [List.findIdx?_cons, hn.1]
    simp [find_at2 (l := l) (k := k) (x := x) hn.2 (by simpa using h) hp]
theorem find_none2 {α : Type} {p : α → Bool} {l : List α} (h : l.any p = false) : l.findIdx? p = none := by
  simpa [List.findIdx?_eq_none_iff] using h
theorem any_none {α : Type} {p : α → Bool} {l : List α} (h : l.findIdx? p = none) : l.any p = false := by
  simpa [List.findIdx?_eq_none_iff] using h
theorem any_some {α : Type} {p : α → Bool} {l : List α} {n : Nat} (h : l.findIdx? p = some n) : l.any p = true := by
  cases ha : l.any p with
  | true => rfl
  | false => rw [find_none2 ha] at h; cases h
theorem finL_caps {caps : List V} (h : plainL caps = true) (σ : List (Nat × Nat)) (M : Mem) : finL σ M caps = caps := (finL_plain σ M caps h).1
theorem finLOk_caps {caps : List V} (h : plainL caps = true) (σ : List (Nat × Nat)) (M : Mem) : finLOk σ M caps = True := eq_true (finL_plain σ M caps h).2
theorem indexpr_ev (l : List Pr) (f : Nat) (caps : List V) (p : Pr → Bool) (hf : ∀ h ∈ l, ∀ nm, Ev cx f nm (.agg (prC h) :: caps) Mem.nil (.bool (p h)) []) (hn : l.length ≤ lim) (hpl : plainL caps = true) (nm : Nat) : Ev cx 50 nm [.sl false 2 (l.map prC), .fn f caps] Mem.nil (.int .i64 (idxI (l.findIdx? p))) [] := by
  unfold lim at hn
  refine ev_go rfl (fun cargs w => Tryz.call50 cargs w) Tryz.func50 rfl mixed (by kernel_rfl) rfl ?_; intro b0 hb0
  repeat' first | simp only [fins,mems,Tryz.results50,Tryz.ntmps50,Kt,wks,vcs,Ka,Kb,Kc,Kd,Ke,Kf,Kg,Kh,Ki,Kj,Kk,Kl,Km,reduceCtorEq,reduceIte,Kn,Ko,Kp,Kq,Kr,Ks,tys] | exact rfl | refine call_off (v := .any) ?_ | ((first | (refine call_val (g := ?_) ?_ ?_) | (refine call_valg (g := ?_) ?_ ?_)); rotate_left 1; (focus (simp only [Tryz.results50,Tryz.ntmps50,Kt,wks,vcs,Ka,Kb,Kc,Kd,Ke,Kf,Kg,Kh,Ki,Kj,Kk,Kl,Km,reduceCtorEq,reduceIte,Kn,Ko,Kp,Kq,Kr,Ks,tys] <;> exact rfl))) | ((first | apply cond_bool | apply cond_bit) <;> intro hb) | refine And.intro (by omega) ?_ | refine And.intro (fun hb => ?_) (fun hb => ?_)
  (refine loop_can2 cxG (fun x : Nat => l.length - x) (fun x => x ≤ l.length ∧ (l.take x).any p = false) (b0 + 16) (fun x => [(0, .sl false 2 (l.map prC)), (1, .fn f caps), (7, .int .i64 l.length), (8, .int .i64 x)]) (fun x => []) (0) [] ?_ ?_ ?_ ?_; rotate_left 1; (focus (show b0 ≤ _; omega)); (focus (refine ⟨?_, ?_⟩ <;> (try simp only [cans,List.length_map,plain_pr,finL_caps hpl,finLOk_caps hpl,vcs,Ka,Kb,Kc,Kd,Ke,Kf,Kg,Kh,Ki,Kj,Kk,Kl,Km,reduceCtorEq,reduceIte,Kn,Ko,Kp,Kq,Kr,Ks,tys,injs]) <;> (try omega))); rotate_left 1)
  · exact ⟨Nat.zero_le _, by simp⟩
  · rintro k ⟨hk, hno⟩
    by_cases hlt : k < l.length
    · obtain ⟨h, hh⟩ : ∃ h, l[k]? = some h := ⟨_, List.getElem?_eq_getElem hlt⟩
      have hat : (l.map prC)[k]? = some (prC h) := by rw [List.getElem?_map, hh]; rfl
      have hd : decide (k < l.length) = true := decide_eq_true hlt
      have hwk : IntKind.i64.wrap ((k : Int) + 1) = ((k + 1 : Nat) : Int) := wrap_in (by omega) (by omega)
      have hfh := hf h (List.mem_of_getElem? hh)
      cases hp : p h with
      | true =>
        have hfd := find_at2 hno hh hp
        rw [hp] at hfh
        (repeat' first | simp only [fins,mems,Tryz.results50,Tryz.ntmps50,Kt,wks,hat,prC,hlt,hd,hwk,hfd,idxI_some,List.length_map,vcs,Ka,Kb,Kc,Kd,Ke,Kf,Kg,Kh,Ki,Kj,Kk,Kl,Km,reduceCtorEq,reduceIte,Kn,Ko,Kp,Kq,Kr,Ks,tys] | exact rfl | refine call_off (v := .any) ?_ | refine call_pure (g := f) (caps := caps) (by simp only [Tryz.results50,Tryz.ntmps50,Kt,wks,hat,prC,hlt,hd,hwk,hfd,idxI_some,List.length_map,vcs,Ka,Kb,Kc,Kd,Ke,Kf,Kg,Kh,Ki,Kj,Kk,Kl,Km,reduceCtorEq,reduceIte,Kn,Ko,Kp,Kq,Kr,Ks,tys] <;> exact rfl) (by simp only [Tryz.results50,Tryz.ntmps50,Kt,wks,hat,prC,hlt,hd,hwk,hfd,idxI_some,List.length_map,vcs,Ka,Kb,Kc,Kd,Ke,Kf,Kg,Kh,Ki,Kj,Kk,Kl,Km,reduceCtorEq,reduceIte,Kn,Ko,Kp,Kq,Kr,Ks,tys] <;> exact rfl) (hfh _) ?_ | ((first | (refine call_val (g := ?_) ?_ ?_) | (refine call_valg (g := ?_) ?_ ?_)); rotate_left 1; (focus (simp only [Tryz.results50,Tryz.ntmps50,Kt,wks,hat,prC,hlt,hd,hwk,hfd,idxI_some,List.length_map,vcs,Ka,Kb,Kc,Kd,Ke,Kf,Kg,Kh,Ki,Kj,Kk,Kl,Km,reduceCtorEq,reduceIte,Kn,Ko,Kp,Kq,Kr,Ks,tys] <;> exact rfl))) | ((first | apply cond_bool | apply cond_bit) <;> intro hb) | refine And.intro (by omega) ?_ | refine And.intro (fun hb => ?_) (fun hb => ?_) | refine Fin.pure ?_ ?_ ?_ | simp only [injs])
      | false =>
        have hn' := notany_succ (p := p) hno hh hp
        rw [hp] at hfh
        repeat' first | simp only [fins,mems,Tryz.results50,Tryz.ntmps50,Kt,wks,hat,prC,hlt,hd,hwk,List.length_map,vcs,Ka,Kb,Kc,Kd,Ke,Kf,Kg,Kh,Ki,Kj,Kk,Kl,Km,reduceCtorEq,reduceIte,Kn,Ko,Kp,Kq,Kr,Ks,tys] | exact rfl | refine call_off (v := .any) ?_ | refine call_pure (g := f) (caps := caps) (by simp only [Tryz.results50,Tryz.ntmps50,Kt,wks,hat,prC,hlt,hd,hwk,List.length_map,vcs,Ka,Kb,Kc,Kd,Ke,Kf,Kg,Kh,Ki,Kj,Kk,Kl,Km,reduceCtorEq,reduceIte,Kn,Ko,Kp,Kq,Kr,Ks,tys] <;> exact rfl) (by simp only [Tryz.results50,Tryz.ntmps50,Kt,wks,hat,prC,hlt,hd,hwk,List.length_map,vcs,Ka,Kb,Kc,Kd,Ke,Kf,Kg,Kh,Ki,Kj,Kk,Kl,Km,reduceCtorEq,reduceIte,Kn,Ko,Kp,Kq,Kr,Ks,tys] <;> exact rfl) (hfh _) ?_ | ((first | (refine call_val (g := ?_) ?_ ?_) | (refine call_valg (g := ?_) ?_ ?_)); rotate_left 1; (focus (simp only [Tryz.results50,Tryz.ntmps50,Kt,wks,hat,prC,hlt,hd,hwk,List.length_map,vcs,Ka,Kb,Kc,Kd,Ke,Kf,Kg,Kh,Ki,Kj,Kk,Kl,Km,reduceCtorEq,reduceIte,Kn,Ko,Kp,Kq,Kr,Ks,tys] <;> exact rfl))) | ((first | apply cond_bool | apply cond_bit) <;> intro hb) | refine And.intro (by omega) ?_ | refine And.intro (fun hb => ?_) (fun hb => ?_)
        all_goals ((refine again_can2 cxG (k + 1) [] ?_ ?_ ?_ ?_; rotate_left 2; (focus (show b0 ≤ _; omega)); (focus (refine ⟨?_, ?_⟩ <;> (try simp only [cans,plain_pr,finL_caps hpl,finLOk_caps hpl,hwk,vcs,Ka,Kb,Kc,Kd,Ke,Kf,Kg,Kh,Ki,Kj,Kk,Kl,Km,reduceCtorEq,reduceIte,Kn,Ko,Kp,Kq,Kr,Ks,tys,injs]) <;> (try omega)))))
        all_goals (first | (show l.length - (k + 1) < l.length - k; omega) | exact ⟨hlt, hn'⟩ | skip)
    · have hke : k = l.length := by omega
      subst hke
      rw [List.take_length] at hno
      have hfd := find_none2 hno
      have hd : decide (l.length < l.length) = false := decide_eq_false (by omega)
      (repeat' first | simp only [fins,mems,Tryz.results50,Tryz.ntmps50,Kt,wks,hd,hfd,idxI_none,List.length_map,vcs,Ka,Kb,Kc,Kd,Ke,Kf,Kg,Kh,Ki,Kj,Kk,Kl,Km,reduceCtorEq,reduceIte,Kn,Ko,Kp,Kq,Kr,Ks,tys] | exact rfl | refine call_off (v := .any) ?_ | ((first | (refine call_val (g := ?_) ?_ ?_) | (refine call_valg (g := ?_) ?_ ?_)); rotate_left 1; (focus (simp only [Tryz.results50,Tryz.ntmps50,Kt,wks,hd,hfd,idxI_none,List.length_map,vcs,Ka,Kb,Kc,Kd,Ke,Kf,Kg,Kh,Ki,Kj,Kk,Kl,Km,reduceCtorEq,reduceIte,Kn,Ko,Kp,Kq,Kr,Ks,tys] <;> exact rfl))) | ((first | apply cond_bool | apply cond_bit) <;> intro hb) | refine And.intro (by omega) ?_ | refine And.intro (fun hb => ?_) (fun hb => ?_) | refine Fin.pure ?_ ?_ ?_ | simp only [injs])
theorem containspr_ev (l : List Pr) (f : Nat) (caps : List V) (p : Pr → Bool) (hf : ∀ h ∈ l, ∀ nm, Ev cx f nm (.agg (prC h) :: caps) Mem.nil (.bool (p h)) []) (hn : l.length ≤ lim) (hpl : plainL caps = true) (nm : Nat) : Ev cx 31 nm [.sl false 2 (l.map prC), .fn f caps] Mem.nil (.bool (l.any p)) [] := by
  have hi := indexpr_ev l f caps p hf hn hpl
  cases h : l.findIdx? p with
  | none =>
    have ha : l.any p = false := any_none h
    rw [h] at hi
    refine ev_go rfl (fun cargs w => Tryz.call31 cargs w) Tryz.func31 rfl mixed (by kernel_rfl) rfl ?_; intro b0 hb0
    (repeat' first | simp only [fins,mems,Tryz.results31,Tryz.ntmps31,Kt,wks,ha,idxI_none,vcs,Ka,Kb,Kc,Kd,Ke,Kf,Kg,Kh,Ki,Kj,Kk,Kl,Km,reduceCtorEq,reduceIte,Kn,Ko,Kp,Kq,Kr,Ks,tys] | exact rfl | refine call_off (v := .any) ?_ | (first | (refine call_fn ?_ (hi _) ?_) | (refine call_fn_g ?_ (fun _ => hi _) ?_)) | ((first | apply cond_bool | apply cond_bit) <;> intro hb) | refine And.intro (by omega) ?_ | refine And.intro (fun hb => ?_) (fun hb => ?_) | refine Fin.pure ?_ ?_ ?_ | simp only [injs])
  | some n =>
    have ha : l.any p = true := any_some h
    rw [h] at hi
    have hz : decide ((0 : Int) ≤ (n : Int)) = true := decide_eq_true (by omega)
    refine ev_go rfl (fun cargs w => Tryz.call31 cargs w) Tryz.func31 rfl mixed (by kernel_rfl) rfl ?_; intro b0 hb0
    (repeat' first | simp only [fins,mems,Tryz.results31,Tryz.ntmps31,Kt,wks,ha,idxI_some,hz,vcs,Ka,Kb,Kc,Kd,Ke,Kf,Kg,Kh,Ki,Kj,Kk,Kl,Km,reduceCtorEq,reduceIte,Kn,Ko,Kp,Kq,Kr,Ks,tys] | exact rfl | refine call_off (v := .any) ?_ | (first | (refine call_fn ?_ (hi _) ?_) | (refine call_fn_g ?_ (fun _ => hi _) ?_)) | ((first | apply cond_bool | apply cond_bit) <;> intro hb) | refine And.intro (by omega) ?_ | refine And.intro (fun hb => ?_) (fun hb => ?_) | refine Fin.pure ?_ ?_ ?_ | simp only [injs])
theorem tag1_ev (a b : Pr) (nm : Nat) : Ev cx 60 nm [.agg (prC b), .rp (prC a)] Mem.nil (.bool (a.name == b.name)) [] := by
  refine ev_go rfl (fun cargs w => Tryz.call60 cargs w) Tryz.func60 rfl mixed (by kernel_rfl) rfl ?_; intro b0 hb0
  (repeat' first | simp only [fins,mems,Tryz.results60,Tryz.ntmps60,Kt,wks,prC,vcs,Ka,Kb,Kc,Kd,Ke,Kf,Kg,Kh,Ki,Kj,Kk,Kl,Km,reduceCtorEq,reduceIte,Kn,Ko,Kp,Kq,Kr,Ks,tys] | exact rfl | refine call_off (v := .any) ?_ | ((first | apply cond_bool | apply cond_bit) <;> intro hb) | refine And.intro (by omega) ?_ | refine And.intro (fun hb => ?_) (fun hb => ?_) | refine Fin.pure ?_ ?_ ?_ | simp only [injs])
theorem twice_ev (l : List Pr) (a : Pr) (hn : l.length ≤ lim) (nm : Nat) : Ev cx 31 nm [.sl false 2 (l.map prC), .fn 60 [.rp (prC a)]] Mem.nil (.bool (l.any fun b => a.name == b.name)) [] :=
  containspr_ev l 60 [.rp (prC a)] (fun b => a.name == b.name) (fun b _ nm => tag1_ev a b nm) hn rfl nm
end Go.Proofs.YtoaclokiggoeiaaGreatDoor
namespace Go.Proofs.YtoaclokiggoeiaaGreatDoor
set_option maxRecDepth 100000
set_option maxHeartbeats 32000000
set_option linter.unusedSimpArgs false
set_option linter.unusedVariables false
open Go Go.RowKit Go.Lib
theorem end_one {s : List UInt8} (h : preB s [62] = true) : ∃ t, s = 62 :: t ∧ endO s = some (1, t) := by
  cases s with
  | nil => cases h
  | cons c t =>
    rw [pre_one] at h
    obtain rfl := eq_of_beq h
    exact ⟨t, rfl, rfl⟩
theorem end_three {s : List UInt8} (h : preB s [47, 62] = true) : ∃ t, s = 47 :: 62 :: t ∧ endO s = some (3, t) := by
  match s, h with
  | [], h => cases h
  | [c], h => simp [preB] at h
  | c :: d :: t, h =>
    simp [preB] at h
    obtain ⟨rfl, rfl⟩ := h
    exact ⟨t, rfl, rfl⟩
theorem end_none {s : List UInt8} (h1 : preB s [62] = false) (h2 : preB s [47, 62] = false) : endO s = none := by
  unfold endO
  split
  · rw [pre_one] at h1; simp at h1
  · simp [preB] at h2
  · rfl
end Go.Proofs.YtoaclokiggoeiaaGreatDoor
namespace Go.Proofs.YtoaclokiggoeiaaGreatDoor
set_option maxRecDepth 100000
set_option maxHeartbeats 32000000
set_option linter.unusedSimpArgs false
set_option linter.unusedVariables false
open Nat renaming reduceAdd → Ka, reduceMul → Kb, reduceEqDiff → Kc, reduceLeDiff → Kd, reduceSub → Ke, reduceLT → Kf, reduceBEq → Kr, reduceBNe → Ks, reducePow → Kt
open Int renaming reduceToNat → Kg, reduceLE → Kh, reduceLT → Ki, reduceAdd → Kj, reduceSub → Kk, reduceMul → Kl, reduceNeg → Km, reduceBEq → Kn, reduceBNe → Ko, reduceEq → Kp, reduceNe → Kq
open Go Go.RowKit Go.Proofs.YtoaclokiggoeiaaGreatDoor.Vm Go.Lib
structure TSt where
  l : List Pr
  rest : List UInt8
theorem rTag_ev (s n r0 r : List UInt8) (k : Nat) (l : List Pr) (hs : s.length ≤ 16384) (hd : (dec s).isSome = true) (h1 : afterO 47 s = none) (h2 : nameO s = some (n, r0)) (h3 : tagL n [] r0 = some (⟨k, n, l, []⟩, r)) (q : Nat) (M : Mem) (nm : Nat) (hq : M q = some (srcK s)) (ho : ∀ z, (M z).isSome = true → z ∈ [q]) (hqn : q < nm) :
    Ev cx 42 nm [.ptr q 0 0] M (.agg [.int .u8 k, .str n, .own nm 0 l.length, .str []]) [(q, some (srcK r)), (nm, some ⟨2, l.map prC⟩)] := by
  have p1 := eatI_ev s [47] false (by omega) (by decide) (by rw [after_pre, h1]; rfl)
  simp only [Bool.false_eq_true,if_false] at p1
  have hn := sName_ev s n r0 (by omega) h2
  obtain ⟨_, _, _, l2⟩ := name_lt h2
  have hd0 := name_dec hd h2
  unfold srcK at hq hn ⊢
  refine ev_go rfl (fun cargs w => Tryz.call42 cargs w) Tryz.func42 rfl mixed (by kernel_rfl) rfl ?_; intro b0 hb0
  have lq : q < b0 := below_of hb0 (by rw [hq]; rfl)
  have z0 := lt_ne lq; have z1 := lt_ne_add lq; have z2 := lt_ne' lq; have z3 := lt_ne_add' lq
  repeat' first | simp only [Tryz.results42,Tryz.ntmps42,Kt,wks,hq,z0,z1,z2,z3,vcs,Ka,Kb,Kc,Kd,Ke,Kf,Kg,Kh,Ki,Kj,Kk,Kl,Km,reduceCtorEq,reduceIte,Kn,Ko,Kp,Kq,Kr,Ks,tys] | exact rfl | ((first | (refine call_fn_full ?_ [q] (p1 q _ _ ?_ only_mem (by omega)) ?_ ?_) | (refine call_fn_full ?_ [q] (hn q _ _ ?_ only_mem (by omega)) ?_ ?_)); iterate 3 (focus (simp only [mems,Tryz.results42,Tryz.ntmps42,Kt,wks,hq,z0,z1,z2,z3,vcs,Ka,Kb,Kc,Kd,Ke,Kf,Kg,Kh,Ki,Kj,Kk,Kl,Km,reduceCtorEq,reduceIte,Kn,Ko,Kp,Kq,Kr,Ks,tys] <;> exact rfl))) | ((first | apply cond_bool | apply cond_bit) <;> intro hb) | refine And.intro (by omega) ?_ | refine And.intro (fun hb => ?_) (fun hb => ?_)
  (refine loop_can2 cxG (fun x : TSt => x.rest.length) (fun x => tagL n x.l x.rest = some (⟨k, n, l, []⟩, r) ∧ (dec x.rest).isSome = true ∧ x.rest.length + x.l.length ≤ 16384) (b0 + 16) (fun x => [(0, .ptr q 0 0), (2, .ptr b0 0 0)]) (fun x => [(q, ⟨1, [[.str x.rest]]⟩), (b0, ⟨4, [[.int .u8 0, .str n, .own (b0 + 1) 0 x.l.length, .str []]]⟩), (b0 + 1, ⟨2, x.l.map prC⟩)]) (⟨[], r0⟩) [some q, some b0, none] ?_ ?_ ?_ ?_; rotate_left 1; (focus (show b0 ≤ _; omega)); (focus (refine ⟨?_, ?_⟩ <;> (try simp only [cans,hq,z0,z1,z2,z3,isRow_inst,List.map_nil,List.length_nil,vcs,Ka,Kb,Kc,Kd,Ke,Kf,Kg,Kh,Ki,Kj,Kk,Kl,Km,reduceCtorEq,reduceIte,Kn,Ko,Kp,Kq,Kr,Ks,tys,injs]) <;> (try omega))); rotate_left 1)
  · exact ⟨h3, hd0, by show r0.length + 0 ≤ 16384; omega⟩
  · rintro ⟨xl, xr⟩ ⟨g1, g2, g3⟩
    dsimp only at g1 g2 g3 ⊢
    have gl := skip_le xr
    have hsk := skip_ev xr (by unfold lim; omega)
    unfold srcK at hsk
    have hnl : (xl.map prC).length = xl.length := List.length_map _
    by_cases e62 : preB (skipL xr) [62] = true
    · obtain ⟨t, ht, hen⟩ := end_one e62
      rw [tag_end hen] at g1
      simp only [Option.some.injEq,Prod.mk.injEq,Tk.mk.injEq,true_and,and_true] at g1
      obtain ⟨⟨rfl, rfl⟩, rfl⟩ := g1
      have p62 := eatI_ev (skipL xr) [62] true (by omega) (by decide) e62
      simp only [if_true,ht,List.drop_succ_cons,List.drop_zero,List.length_cons,List.length_nil] at p62 hsk
      repeat' first | simp only [Tryz.results42,Tryz.ntmps42,Kt,wks,hq,z0,z1,z2,z3,vcs,Ka,Kb,Kc,Kd,Ke,Kf,Kg,Kh,Ki,Kj,Kk,Kl,Km,reduceCtorEq,reduceIte,Kn,Ko,Kp,Kq,Kr,Ks,tys] | exact rfl | ((first | (refine call_fn_full ?_ [q] (hsk q _ _ ?_ only_mem (by omega)) ?_ ?_) | (refine call_fn_full ?_ [q] (p62 q _ _ ?_ only_mem (by omega)) ?_ ?_)); iterate 3 (focus (simp only [mems,Tryz.results42,Tryz.ntmps42,Kt,wks,hq,z0,z1,z2,z3,vcs,Ka,Kb,Kc,Kd,Ke,Kf,Kg,Kh,Ki,Kj,Kk,Kl,Km,reduceCtorEq,reduceIte,Kn,Ko,Kp,Kq,Kr,Ks,tys] <;> exact rfl))) | ((first | apply cond_bool | apply cond_bit) <;> intro hb) | refine And.intro (by omega) ?_ | refine And.intro (fun hb => ?_) (fun hb => ?_)
      all_goals ((refine Fin.give [(q, none), (b0 + 1, some 0)] [] ?_ ?_ ?_ ?_ ?_ (fun q hq => by have hqq := ho q hq; first | (simp only [gives,tgt,List.map_cons,List.map_nil,List.mem_cons,List.not_mem_nil,or_false] at hqq ⊢; omega) | (simp only [gives,tgt,List.map_cons,List.map_nil,List.mem_cons,List.not_mem_nil,or_false] at hqq)) <;> (try simp only [Tryz.results42,Tryz.ntmps42,wks,hq,plain_pr,z0,z1,z2,z3,giv,vcs,Ka,Kb,Kc,Kd,Ke,Kf,Kg,Kh,Ki,Kj,Kk,Kl,Km,reduceCtorEq,reduceIte,Kn,Ko,Kp,Kq,Kr,Ks,tys]) <;> (try simp only [injs]) <;> (try omega)))
    · have e62' : preB (skipL xr) [62] = false := by simpa using e62
      have p62 := eatI_ev (skipL xr) [62] false (by omega) (by decide) e62'
      simp only [Bool.false_eq_true,if_false] at p62
      by_cases e47 : preB (skipL xr) [47, 62] = true
      · obtain ⟨t, ht, hen⟩ := end_three e47
        rw [tag_end hen] at g1
        simp only [Option.some.injEq,Prod.mk.injEq,Tk.mk.injEq,true_and,and_true] at g1
        obtain ⟨⟨rfl, rfl⟩, rfl⟩ := g1
        have p63 := eatI_ev (skipL xr) [47, 62] true (by omega) (by decide) e47
        simp only [if_true,ht,List.drop_succ_cons,List.drop_zero,List.length_cons,List.length_nil] at p62 p63 hsk
        repeat' first | simp only [Tryz.results42,Tryz.ntmps42,Kt,wks,hq,z0,z1,z2,z3,vcs,Ka,Kb,Kc,Kd,Ke,Kf,Kg,Kh,Ki,Kj,Kk,Kl,Km,reduceCtorEq,reduceIte,Kn,Ko,Kp,Kq,Kr,Ks,tys] | exact rfl | ((first | (refine call_fn_full ?_ [q] (hsk q _ _ ?_ only_mem (by omega)) ?_ ?_) | (refine call_fn_full ?_ [q] (p62 q _ _ ?_ only_mem (by omega)) ?_ ?_)); iterate 3 (focus (simp only [mems,Tryz.results42,Tryz.ntmps42,Kt,wks,hq,z0,z1,z2,z3,vcs,Ka,Kb,Kc,Kd,Ke,Kf,Kg,Kh,Ki,Kj,Kk,Kl,Km,reduceCtorEq,reduceIte,Kn,Ko,Kp,Kq,Kr,Ks,tys] <;> exact rfl))) | ((refine call_fn_full ?_ [q] (p63 q _ _ ?_ only_mem (by omega)) ?_ ?_); iterate 3 (focus (simp only [mems,Tryz.results42,Tryz.ntmps42,Kt,wks,hq,z0,z1,z2,z3,vcs,Ka,Kb,Kc,Kd,Ke,Kf,Kg,Kh,Ki,Kj,Kk,Kl,Km,reduceCtorEq,reduceIte,Kn,Ko,Kp,Kq,Kr,Ks,tys] <;> exact rfl))) | ((first | apply cond_bool | apply cond_bit) <;> intro hb) | refine And.intro (by omega) ?_ | refine And.intro (fun hb => ?_) (fun hb => ?_)
        all_goals ((refine Fin.give [(q, none), (b0 + 1, some 0)] [] ?_ ?_ ?_ ?_ ?_ (fun q hq => by have hqq := ho q hq; first | (simp only [gives,tgt,List.map_cons,List.map_nil,List.mem_cons,List.not_mem_nil,or_false] at hqq ⊢; omega) | (simp only [gives,tgt,List.map_cons,List.map_nil,List.mem_cons,List.not_mem_nil,or_false] at hqq)) <;> (try simp only [Tryz.results42,Tryz.ntmps42,wks,hq,plain_pr,z0,z1,z2,z3,giv,vcs,Ka,Kb,Kc,Kd,Ke,Kf,Kg,Kh,Ki,Kj,Kk,Kl,Km,reduceCtorEq,reduceIte,Kn,Ko,Kp,Kq,Kr,Ks,tys]) <;> (try simp only [injs]) <;> (try omega)))
      · have e47' : preB (skipL xr) [47, 62] = false := by simpa using e47
        have hen := end_none e62' e47'
        have p63 := eatI_ev (skipL xr) [47, 62] false (by omega) (by decide) e47'
        simp only [Bool.false_eq_true,if_false] at p63
        by_cases hgap : (skipL xr).length < xr.length
        · cases hat : attrO (skipL xr) with
          | none => rw [tag_bad hen hat] at g1; cases g1
          | some p =>
            obtain ⟨a, r'⟩ := p
            cases hany : (xl.any fun b => a.name == b.name) with
            | true => rw [tag_twice hen hat hany] at g1; cases g1
            | false =>
              rw [tag_attr hen hgap hat hany] at g1
              have hlt := attr_lt hat
              have g2' := attr_dec (skip_dec g2) hat
              obtain ⟨r1, t, k1, k2, k3⟩ := attr_some hat
              have d1 := skip_dec (name_dec (skip_dec g2) k1)
              rw [k2] at d1
              have d2 := skip_dec (cut_text (d := 61) (by decide) (a := []) d1 rfl).2
              obtain ⟨_, _, _, m1⟩ := name_lt k1
              have m2 := skip_le r1
              have m3 := skip_le t
              rw [k2] at m2
              simp only [List.length_cons] at m2
              have hgd : decide ((skipL xr).length < xr.length) = true := decide_eq_true hgap
              rw [hgd] at hsk
              have hn1 := sName_ev (skipL xr) a.name r1 (by omega) k1
              have hsk1 := skip_ev r1 (by unfold lim; omega)
              have hsk2 := skip_ev t (by unfold lim; omega)
              rw [k2] at hsk1
              have p61 := eatI_ev (61 :: t) [61] true (by simp; omega) (by decide) (by rw [pre_one]; rfl)
              simp only [if_true,List.drop_succ_cons,List.drop_zero,List.length_cons,List.length_nil] at p61
              have htw := twice_ev xl ⟨a.name, []⟩ (by unfold lim; omega)
              simp only [hany,prC] at htw
              have hva := rValue_ev (skipL t) a.value r' (by omega) d2 k3
              unfold srcK at hn1 hsk1 hsk2 hva
              repeat' first | simp only [Tryz.results42,Tryz.ntmps42,Kt,wks,plain_pr,hq,prC,z0,z1,z2,z3,Bool.not_true,Bool.not_false,List.length_map,vcs,Ka,Kb,Kc,Kd,Ke,Kf,Kg,Kh,Ki,Kj,Kk,Kl,Km,reduceCtorEq,reduceIte,Kn,Ko,Kp,Kq,Kr,Ks,tys] | exact rfl | ((refine call_fn_gvx (xs := ?_) [b0 + 1, b0 + 384] ?_ (fun _ => ?_) (fun _ => ?_) rfl ((fun _ => htw _)) ?_); rotate_left 1; iterate 3 (focus (simp only [fins,mems,Tryz.results42,Tryz.ntmps42,Kt,wks,plain_pr,hq,prC,z0,z1,z2,z3,Bool.not_true,Bool.not_false,List.length_map,vcs,Ka,Kb,Kc,Kd,Ke,Kf,Kg,Kh,Ki,Kj,Kk,Kl,Km,reduceCtorEq,reduceIte,Kn,Ko,Kp,Kq,Kr,Ks,tys] <;> (first | exact rfl | omega)))) | ((first | (refine call_fn_full ?_ [q] (hsk q _ _ ?_ only_mem (by omega)) ?_ ?_) | (refine call_fn_full ?_ [q] (p62 q _ _ ?_ only_mem (by omega)) ?_ ?_) | (refine call_fn_full ?_ [q] (hn1 q _ _ ?_ only_mem (by omega)) ?_ ?_) | (refine call_fn_full ?_ [q] (hva q _ _ ?_ only_mem (by omega)) ?_ ?_)); iterate 3 (focus (simp only [mems,Tryz.results42,Tryz.ntmps42,Kt,wks,plain_pr,hq,prC,z0,z1,z2,z3,Bool.not_true,Bool.not_false,List.length_map,vcs,Ka,Kb,Kc,Kd,Ke,Kf,Kg,Kh,Ki,Kj,Kk,Kl,Km,reduceCtorEq,reduceIte,Kn,Ko,Kp,Kq,Kr,Ks,tys] <;> exact rfl))) | ((first | (refine call_fn_full ?_ [q] (p63 q _ _ ?_ only_mem (by omega)) ?_ ?_) | (refine call_fn_full ?_ [q] (hsk1 q _ _ ?_ only_mem (by omega)) ?_ ?_)); iterate 3 (focus (simp only [mems,Tryz.results42,Tryz.ntmps42,Kt,wks,plain_pr,hq,prC,z0,z1,z2,z3,Bool.not_true,Bool.not_false,List.length_map,vcs,Ka,Kb,Kc,Kd,Ke,Kf,Kg,Kh,Ki,Kj,Kk,Kl,Km,reduceCtorEq,reduceIte,Kn,Ko,Kp,Kq,Kr,Ks,tys] <;> exact rfl))) | ((first | (refine call_fn_full ?_ [q] (hsk2 q _ _ ?_ only_mem (by omega)) ?_ ?_) | (refine call_fn_full ?_ [q] (p61 q _ _ ?_ only_mem (by omega)) ?_ ?_)); iterate 3 (focus (simp only [mems,Tryz.results42,Tryz.ntmps42,Kt,wks,plain_pr,hq,prC,z0,z1,z2,z3,Bool.not_true,Bool.not_false,List.length_map,vcs,Ka,Kb,Kc,Kd,Ke,Kf,Kg,Kh,Ki,Kj,Kk,Kl,Km,reduceCtorEq,reduceIte,Kn,Ko,Kp,Kq,Kr,Ks,tys] <;> exact rfl))) | ((first | apply cond_bool | apply cond_bit) <;> intro hb) | refine And.intro (by omega) ?_ | refine And.intro (fun hb => ?_) (fun hb => ?_)
              have hnx : xl.map prC ++ [[.str a.name, .str a.value]] = (xl ++ [a]).map prC := by simp [prC]
              have hnn : (xl ++ [a]).length = xl.length + 1 := by simp
              rw [hnx]
              all_goals ((refine again_can2 cxG (⟨xl ++ [a], r'⟩) [some q, some b0, some (b0 + 848)] ?_ ?_ ?_ ?_; rotate_left 2; (focus (show b0 ≤ _; omega)); (focus (refine ⟨?_, ?_⟩ <;> (try simp only [cans,plain_pr,hq,z0,z1,z2,z3,hnn,List.length_map,vcs,Ka,Kb,Kc,Kd,Ke,Kf,Kg,Kh,Ki,Kj,Kk,Kl,Km,reduceCtorEq,reduceIte,Kn,Ko,Kp,Kq,Kr,Ks,tys,injs]) <;> (try omega)))))
              all_goals (first | exact ⟨g1, g2', by show r'.length + (xl ++ [a]).length ≤ 16384; omega⟩ | (show r'.length < xr.length; omega) | skip)
        · rw [tag_gap hen hgap] at g1; cases g1
theorem rHead_evp (s : List UInt8) (hs : s.length ≤ 16384) (h1 : afterO 47 s = none) (h2 : nameO s = none) (q : Nat) (M : Mem) (nm : Nat) (hq : M q = some (srcK s)) (ho : ∀ z, (M z).isSome = true → z ∈ [q]) (hqn : q < nm) :
    EvP cx 42 nm [.ptr q 0 0] M noV := by
  have p1 := eatI_ev s [47] false (by omega) (by decide) (by rw [after_pre, h1]; rfl)
  simp only [Bool.false_eq_true,if_false] at p1
  have hn := sName_evp s (by omega) h2
  unfold srcK at hq hn
  refine evp_go rfl cxG rfl (fun cargs w => Tryz.call42 cargs w) Tryz.func42 rfl mixed (by kernel_rfl) rfl ?_; intro b0 hb0
  have lq : q < b0 := below_of hb0 (by rw [hq]; rfl)
  have z0 := lt_ne lq; have z1 := lt_ne_add lq; have z2 := lt_ne' lq; have z3 := lt_ne_add' lq
  repeat' first | simp only [Tryz.results42,Tryz.ntmps42,Kt,wks,hq,z0,z1,z2,z3,goOps_panic,goPan_iface,goEx_code_pan,goEx_blk_pan,goEx_again_pan,panP_at,vcs,Ka,Kb,Kc,Kd,Ke,Kf,Kg,Kh,Ki,Kj,Kk,Kl,Km,reduceCtorEq,reduceIte,Kn,Ko,Kp,Kq,Kr,Ks,tys] | exact rfl | ((refine call_fn_full ?_ [q] (p1 q _ _ ?_ only_mem (by omega)) ?_ ?_); iterate 3 (focus (simp only [mems,Tryz.results42,Tryz.ntmps42,Kt,wks,hq,z0,z1,z2,z3,goOps_panic,goPan_iface,goEx_code_pan,goEx_blk_pan,goEx_again_pan,panP_at,vcs,Ka,Kb,Kc,Kd,Ke,Kf,Kg,Kh,Ki,Kj,Kk,Kl,Km,reduceCtorEq,reduceIte,Kn,Ko,Kp,Kq,Kr,Ks,tys] <;> exact rfl))) | ((first | apply cond_bool | apply cond_bit) <;> intro hb) | refine And.intro (by omega) ?_ | refine And.intro (fun hb => ?_) (fun hb => ?_)
  refine call_pan rfl [q] (hn q _ _ ?_ only_mem (by omega)) ?_
  · simp only [mems,wks,hq,z0,z1,z2,z3,vcs,Ka,Kb,Kc,Kd,Ke,Kf,Kg,Kh,Ki,Kj,Kk,Kl,Km,reduceCtorEq,reduceIte,Kn,Ko,Kp,Kq,Kr,Ks,tys] <;> exact rfl
  · simp only [goEx_code_pan,goEx_blk_pan,goEx_again_pan,panP_at,noV]
end Go.Proofs.YtoaclokiggoeiaaGreatDoor
