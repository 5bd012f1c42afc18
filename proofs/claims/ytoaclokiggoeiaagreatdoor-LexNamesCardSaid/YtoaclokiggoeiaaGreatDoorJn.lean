/-
  Texts joined: XGi.
-/
import Derived.Test.YtoaclokiggoeiaaGreatDoorJm
namespace Go.Proofs.YtoaclokiggoeiaaGreatDoor
set_option maxRecDepth 100000
set_option maxHeartbeats 32000000
set_option linter.unusedSimpArgs false
set_option linter.unusedVariables false
open Nat renaming reduceAdd → Ka, reduceMul → Kb, reduceEqDiff → Kc, reduceLeDiff → Kd, reduceSub → Ke, reduceLT → Kf, reduceBEq → Kr, reduceBNe → Ks, reducePow → Kt
open Int renaming reduceToNat → Kg, reduceLE → Kh, reduceLT → Ki, reduceAdd → Kj, reduceSub → Kk, reduceMul → Kl, reduceNeg → Km, reduceBEq → Kn, reduceBNe → Ko, reduceEq → Kp, reduceNe → Kq
open Go Go.RowKit Go.Proofs.YtoaclokiggoeiaaGreatDoor.Vm Go.Lib
theorem call_off_bnd {Q : Post} {st : List Frm} {nm : Nat} {e : Env} {M : Mem} {d : Bool} {fs : List (List Nat)} {ops : List Oper} {dst : Option Tmp} {f : Operand} {args : Array Operand} {ats : Array TypeId} {t : TypeId} {pos : String} {af : Array Edge} {gd : Option (Nat × Bool)} {r : List Oper} {i : Nat} {g : FuncId} {fi : List V} {v : V}
    (hf : evalV cx.G false e f = .fnb g fi) (h : goOps cx Q st nm (e.putD dst (.gd false v)) M d (fs ++ [[]]) ops r (i + 1)) : goCallG cx Q st nm e M d fs false ops ⟨dst, .call ⟨.value f, args, ats⟩, t, pos, af, gd⟩ r i := by
  unfold goCallG vcCallG
  refine .inl ?_
  simp only [hf,V.tgt]
  exact ⟨[], v, fun h => (by cases h), h⟩
theorem meant_length {a x : List UInt8} (h : meantL a = some x) : x.length ≤ 4 := by
  have hp : ∀ o, pointW o = some x → x.length ≤ 4 := fun o h => by
    cases o with
    | none => cases h
    | some n =>
      cases hm : may (n : Int) with
      | true => rw [point_yes hm] at h; cases h; exact (encodeRune_length (n : Int)).2
      | false => rw [point_no hm] at h; cases h
  unfold meantL at h
  repeat' split at h
  all_goals (first | (cases h; simp; done) | exact hp _ h | cases h)
def getE (s : List UInt8) : Int := if ptsErr s ≠ 0 then ptsErr s else match readL s with | none => 80 | some _ => 0
def getT (s : List UInt8) : List UInt8 := if getE s = 0 then (readL s).getD [] else []
def getV (s : List UInt8) : V := .tup [.str (getT s), .int .i64 (getE s)]
theorem getV_pts {s : List UInt8} (h : ptsErr s ≠ 0) : getV s = .tup [.str [], .int .i64 (ptsErr s)] := by
  have he : getE s = ptsErr s := by unfold getE; rw [if_pos h]
  unfold getV getT; rw [he, if_neg h]
theorem getV_none {s : List UInt8} (h : ptsErr s = 0) (h2 : readL s = none) : getV s = .tup [.str [], .int .i64 80] := by
  have he : getE s = 80 := by unfold getE; rw [if_neg (by simp [h]), h2]
  unfold getV getT; rw [he]; rfl
theorem getV_some {s x : List UInt8} (h : ptsErr s = 0) (h2 : readL s = some x) : getV s = .tup [.str x, .int .i64 0] := by
  have he : getE s = 0 := by unfold getE; rw [if_neg (by simp [h]), h2]
  unfold getV getT; rw [he, h2]; rfl
section
variable (rest a b : List UInt8) (hr : rest.length ≤ 1000000) (hc : cut1 59 rest = some (a, b))
include hr hc
theorem refer_no (hm : meantL a = none) (q y : Nat) (out : List UInt8) (hout : out.length ≤ 1000000) (M : Mem) (nm : Nat) (hqy : q ≠ y) (hq : M q = some (rdK rest y out.length)) (hy : M y = some (rK out)) (ho : ∀ w, (M w).isSome = true → w ∈ [q, y]) (hqn : q < nm) (hyn : y < nm) :
    Ev cx 63 nm [.ptr q 0 0] M (.bool false) [(q, some (rdK rest y out.length)), (y, some (rK out))] := by
  rcases find_named a with ⟨x, _, h, _⟩ | ⟨hf, _⟩
  · rw [hm] at h; cases h
  · exact refer_num rest a b hr hc hf q y out hout M nm hqy hq hy ho hqn hyn _ _ (.inl ⟨hm, rfl, rfl⟩)
theorem refer_yes (x : List UInt8) (hm : meantL a = some x) (q y : Nat) (out : List UInt8) (hout : out.length ≤ 1000000) (M : Mem) (nm : Nat) (hqy : q ≠ y) (hq : M q = some (rdK rest y out.length)) (hy : M y = some (rK out)) (ho : ∀ w, (M w).isSome = true → w ∈ [q, y]) (hqn : q < nm) (hyn : y < nm) :
    Ev cx 63 nm [.ptr q 0 0] M (.bool true) [(y, none), (q, some (rdK b nm (out ++ x).length)), (nm, some (rK (out ++ x)))] := by
  rcases find_named a with ⟨x', hf, h, hx⟩ | ⟨hf, _⟩
  · rw [hm] at h; cases h
    exact refer_word rest a b x hr hc hf hx q y out hout M nm hqy hq hy ho hqn hyn
  · exact refer_num rest a b hr hc hf q y out hout M nm hqy hq hy ho hqn hyn _ _ (.inr ⟨x, hm, rfl, rfl⟩)
end
structure RSt where
  rest : List UInt8
  out : List UInt8
def RSt.inv (s : List UInt8) (x : RSt) : Prop := readL s = (readL x.rest).map (x.out ++ ·) ∧ x.rest.length ≤ s.length ∧ x.out.length ≤ 4 * (s.length - x.rest.length)
theorem map_app (o : Option (List UInt8)) (a b : List UInt8) : (o.map (b ++ ·)).map (a ++ ·) = o.map ((a ++ b) ++ ·) := by cases o <;> simp
theorem eGet_ev (s : List UInt8) (hs : s.length ≤ lim) (nm : Nat) : Ev cx 44 nm [.str s] Mem.nil (getV s) [] := by
  by_cases hz : ptsErr s = 0
  · have hb : (ptsErr s != 0) = false := by rw [hz]; rfl
    have hlen := ptsErr_len hz
    refine ev_go rfl (fun cargs w => Tryz.call44 cargs w) Tryz.func44 rfl mixed (by kernel_rfl) rfl ?_; intro b0 hb0
    repeat' first | simp only [fins,mems,Tryz.results44,Tryz.ntmps44,Kt,wks,hb,vcs,Ka,Kb,Kc,Kd,Ke,Kf,Kg,Kh,Ki,Kj,Kk,Kl,Km,reduceCtorEq,reduceIte,Kn,Ko,Kp,Kq,Kr,Ks,tys] | exact rfl | refine call_off (v := .any) ?_ | (first | (refine call_fn ?_ (tCheck_ev s hs _) ?_) | (refine call_fn_g ?_ (fun _ => tCheck_ev s hs _) ?_)) | ((first | (refine call_val (g := ?_) ?_ ?_) | (refine call_valg (g := ?_) ?_ ?_)); rotate_left 1; (focus (simp only [Tryz.results44,Tryz.ntmps44,Kt,wks,hb,vcs,Ka,Kb,Kc,Kd,Ke,Kf,Kg,Kh,Ki,Kj,Kk,Kl,Km,reduceCtorEq,reduceIte,Kn,Ko,Kp,Kq,Kr,Ks,tys] <;> exact rfl))) | ((first | apply cond_bool | apply cond_bit) <;> intro hb) | refine And.intro (by omega) ?_ | refine And.intro (fun hb => ?_) (fun hb => ?_)
    (refine loop_can2 cxG (fun x : RSt => x.rest.length) (fun x => x.inv s) (b0 + 16) (fun x => [(5, .ptr b0 0 0), (6, .fnb 63 [.ptr b0 0 0])]) (fun x => [(b0, rdK x.rest (b0 + 1) x.out.length), (b0 + 1, rK x.out)]) (RSt.mk s []) [some (b0 + 144), none] ?_ ?_ ?_ ?_; rotate_left 1; (focus (show b0 ≤ _; omega)); (focus (refine ⟨?_, ?_⟩ <;> (try simp only [cans,rdK_def,rK_def,ren_bytesI,renOk_bytesI,isRow_typed,isRow_inst,List.map_nil,List.length_nil,vcs,Ka,Kb,Kc,Kd,Ke,Kf,Kg,Kh,Ki,Kj,Kk,Kl,Km,reduceCtorEq,reduceIte,Kn,Ko,Kp,Kq,Kr,Ks,tys,injs]) <;> (try omega))); rotate_left 1)
    · refine ⟨?_, Nat.le_refl _, Nat.zero_le _⟩
      cases readL s <;> rfl
    · rintro ⟨rest, out⟩ ⟨h1, h2, h3⟩
      simp only at h1 h2 h3
      cases rest with
      | nil =>
        have hd : (([] : List UInt8) != []) = false := rfl
        have hr : readL s = some out := by rw [h1, readL_nil]; simp
        have hv := getV_some hz hr
        have htk : (out.map byteRow).take out.length = out.map byteRow := List.take_of_length_le (by simp)
        (repeat' first | simp only [fins,mems,Tryz.results44,Tryz.ntmps44,Kt,wks,hd,hv,htk,rdK_def,rK_def,List.length_map,Nat.le_refl,vcs,Ka,Kb,Kc,Kd,Ke,Kf,Kg,Kh,Ki,Kj,Kk,Kl,Km,reduceCtorEq,reduceIte,Kn,Ko,Kp,Kq,Kr,Ks,tys] | exact rfl | refine call_off (v := .any) ?_ | (refine ext_toStr (v := ?_) (bs := out) ?_ ?_ ?_ ?_ ?_ ?_ ?_; rotate_left 1; (iterate 2 (focus (simp only [Tryz.results44,Tryz.ntmps44,Kt,wks,hd,hv,htk,rdK_def,rK_def,List.length_map,Nat.le_refl,vcs,Ka,Kb,Kc,Kd,Ke,Kf,Kg,Kh,Ki,Kj,Kk,Kl,Km,reduceCtorEq,reduceIte,Kn,Ko,Kp,Kq,Kr,Ks,tys]; done))); (focus (simp only [Tryz.results44,Tryz.ntmps44,Kt,wks,hd,hv,htk,rdK_def,rK_def,List.length_map,Nat.le_refl,vcs,Ka,Kb,Kc,Kd,Ke,Kf,Kg,Kh,Ki,Kj,Kk,Kl,Km,reduceCtorEq,reduceIte,Kn,Ko,Kp,Kq,Kr,Ks,tys] <;> exact rfl)); (focus (exact rfl)); (focus (simp only [mems,Tryz.results44,Tryz.ntmps44,Kt,wks,hd,hv,htk,rdK_def,rK_def,List.length_map,Nat.le_refl,vcs,Ka,Kb,Kc,Kd,Ke,Kf,Kg,Kh,Ki,Kj,Kk,Kl,Km,reduceCtorEq,reduceIte,Kn,Ko,Kp,Kq,Kr,Ks,tys]; done)); (focus (simp only [Tryz.results44,Tryz.ntmps44,Kt,wks,hd,hv,htk,rdK_def,rK_def,List.length_map,Nat.le_refl,vcs,Ka,Kb,Kc,Kd,Ke,Kf,Kg,Kh,Ki,Kj,Kk,Kl,Km,reduceCtorEq,reduceIte,Kn,Ko,Kp,Kq,Kr,Ks,tys] <;> exact rfl))) | (refine extG_true ?_) | (refine extG_false ?_) | ((first | (refine call_val (g := ?_) ?_ ?_) | (refine call_valg (g := ?_) ?_ ?_)); rotate_left 1; (focus (simp only [Tryz.results44,Tryz.ntmps44,Kt,wks,hd,hv,htk,rdK_def,rK_def,List.length_map,Nat.le_refl,vcs,Ka,Kb,Kc,Kd,Ke,Kf,Kg,Kh,Ki,Kj,Kk,Kl,Km,reduceCtorEq,reduceIte,Kn,Ko,Kp,Kq,Kr,Ks,tys] <;> exact rfl))) | ((first | apply cond_bool | apply cond_bit) <;> intro hb) | refine And.intro (by omega) ?_ | refine And.intro (fun hb => ?_) (fun hb => ?_) | refine Fin.pure ?_ ?_ ?_ | simp only [injs])
      | cons c r =>
        have hd : (!((c :: r) == [])) = true := rfl
        have hl0 : 0 < (c :: r).length := by simp
        have hl1 : 1 ≤ (c :: r).length := by simp
        have hl2 : (1 : Int) ≤ ((c :: r).length : Int) := by simp only [List.length_cons]; omega
        simp only [List.length_cons] at hl0 hl1 hl2 h2 h3
        have q60 : ((c.toNat : Int) == 60) = decide (c = 60) := beq_byte c 60
        have q38 : ((c.toNat : Int) == 38) = decide (c = 38) := beq_byte c 38
        by_cases c60 : c = 60
        · have d60 : decide (c = 60) = true := decide_eq_true c60
          rw [d60] at q60
          have hr : readL s = none := by rw [h1, c60, readL_lt]; rfl
          have hv := getV_none hz hr
          (repeat' first | simp only [fins,mems,Tryz.results44,Tryz.ntmps44,Kt,wks,hd,hl0,hl1,hl2,hv,q60,rdK_def,rK_def,List.getElem?_cons_zero,List.drop_succ_cons,List.drop_zero,vcs,Ka,Kb,Kc,Kd,Ke,Kf,Kg,Kh,Ki,Kj,Kk,Kl,Km,reduceCtorEq,reduceIte,Kn,Ko,Kp,Kq,Kr,Ks,tys] | exact rfl | refine call_off (v := .any) ?_ | ((first | (refine call_val (g := ?_) ?_ ?_) | (refine call_valg (g := ?_) ?_ ?_)); rotate_left 1; (focus (simp only [Tryz.results44,Tryz.ntmps44,Kt,wks,hd,hl0,hl1,hl2,hv,q60,rdK_def,rK_def,List.getElem?_cons_zero,List.drop_succ_cons,List.drop_zero,vcs,Ka,Kb,Kc,Kd,Ke,Kf,Kg,Kh,Ki,Kj,Kk,Kl,Km,reduceCtorEq,reduceIte,Kn,Ko,Kp,Kq,Kr,Ks,tys] <;> exact rfl))) | ((first | apply cond_bool | apply cond_bit) <;> intro hb) | refine And.intro (by omega) ?_ | refine And.intro (fun hb => ?_) (fun hb => ?_) | refine Fin.pure ?_ ?_ ?_ | simp only [injs])
        have d60 : decide (c = 60) = false := decide_eq_false c60
        rw [d60] at q60
        by_cases c38 : c = 38
        · have d38 : decide (c = 38) = true := decide_eq_true c38
          rw [d38] at q38
          subst c38
          cases hc : cut1 59 r with
          | none =>
            have hr : readL s = none := by rw [h1, readL_none hc]; rfl
            have hv := getV_none hz hr
            have href := refer_cut r (by omega) hc b0 (b0 + 1) out
            (repeat' first | simp only [fins,mems,Tryz.results44,Tryz.ntmps44,Kt,wks,hd,hl0,hl1,hl2,hv,q60,q38,rdK_def,rK_def,List.getElem?_cons_zero,List.drop_succ_cons,List.drop_zero,Bool.not_false,vcs,Ka,Kb,Kc,Kd,Ke,Kf,Kg,Kh,Ki,Kj,Kk,Kl,Km,reduceCtorEq,reduceIte,Kn,Ko,Kp,Kq,Kr,Ks,tys] | exact rfl | refine call_off (v := .any) ?_ | ((refine call_on_bnd (fi := ?_) ?_ ?_ [b0, b0 + 1] (href _ _ (by omega) ?_ ?_ only_mem (by omega) (by omega)) ?_ ?_); rotate_left 1) | ((first | (refine call_val (g := ?_) ?_ ?_) | (refine call_valg (g := ?_) ?_ ?_)); rotate_left 1; (focus (simp only [Tryz.results44,Tryz.ntmps44,Kt,wks,hd,hl0,hl1,hl2,hv,q60,q38,rdK_def,rK_def,List.getElem?_cons_zero,List.drop_succ_cons,List.drop_zero,Bool.not_false,vcs,Ka,Kb,Kc,Kd,Ke,Kf,Kg,Kh,Ki,Kj,Kk,Kl,Km,reduceCtorEq,reduceIte,Kn,Ko,Kp,Kq,Kr,Ks,tys] <;> exact rfl))) | ((first | apply cond_bool | apply cond_bit) <;> intro hb) | refine And.intro (by omega) ?_ | refine And.intro (fun hb => ?_) (fun hb => ?_) | refine Fin.pure ?_ ?_ ?_ | simp only [injs])
          | some p =>
            obtain ⟨a, b⟩ := p
            have hcl := cut1_len hc
            cases hm : meantL a with
            | none =>
              have hr : readL s = none := by rw [h1, readL_bad hc hm]; rfl
              have hv := getV_none hz hr
              have href := refer_no r a b (by omega) hc hm b0 (b0 + 1) out (by omega)
              (repeat' first | simp only [fins,mems,Tryz.results44,Tryz.ntmps44,Kt,wks,hd,hl0,hl1,hl2,hv,q60,q38,rdK_def,rK_def,List.getElem?_cons_zero,List.drop_succ_cons,List.drop_zero,Bool.not_false,vcs,Ka,Kb,Kc,Kd,Ke,Kf,Kg,Kh,Ki,Kj,Kk,Kl,Km,reduceCtorEq,reduceIte,Kn,Ko,Kp,Kq,Kr,Ks,tys] | exact rfl | refine call_off (v := .any) ?_ | ((refine call_on_bnd (fi := ?_) ?_ ?_ [b0, b0 + 1] (href _ _ (by omega) ?_ ?_ only_mem (by omega) (by omega)) ?_ ?_); rotate_left 1) | ((first | (refine call_val (g := ?_) ?_ ?_) | (refine call_valg (g := ?_) ?_ ?_)); rotate_left 1; (focus (simp only [Tryz.results44,Tryz.ntmps44,Kt,wks,hd,hl0,hl1,hl2,hv,q60,q38,rdK_def,rK_def,List.getElem?_cons_zero,List.drop_succ_cons,List.drop_zero,Bool.not_false,vcs,Ka,Kb,Kc,Kd,Ke,Kf,Kg,Kh,Ki,Kj,Kk,Kl,Km,reduceCtorEq,reduceIte,Kn,Ko,Kp,Kq,Kr,Ks,tys] <;> exact rfl))) | ((first | apply cond_bool | apply cond_bit) <;> intro hb) | refine And.intro (by omega) ?_ | refine And.intro (fun hb => ?_) (fun hb => ?_) | refine Fin.pure ?_ ?_ ?_ | simp only [injs])
            | some x =>
              have hxl := meant_length hm
              have hr : readL s = (readL b).map ((out ++ x) ++ ·) := by rw [h1, readL_ref hc hm, map_app]
              have href := refer_yes r a b (by omega) hc x hm b0 (b0 + 1) out (by omega)
              have q38n : (((38 : UInt8).toNat : Int) != 38) = false := rfl
              repeat' first | simp only [fins,mems,Tryz.results44,Tryz.ntmps44,Kt,wks,hd,hl0,hl1,hl2,q60,q38,q38n,rdK_def,rK_def,fresh_self,List.getElem?_cons_zero,List.drop_succ_cons,List.drop_zero,Bool.not_true,vcs,Ka,Kb,Kc,Kd,Ke,Kf,Kg,Kh,Ki,Kj,Kk,Kl,Km,reduceCtorEq,reduceIte,Kn,Ko,Kp,Kq,Kr,Ks,tys] | exact rfl | refine call_off (v := .any) ?_ | ((refine call_on_bnd (fi := ?_) ?_ ?_ [b0, b0 + 1] (href _ _ (by omega) ?_ ?_ only_mem (by omega) (by omega)) ?_ ?_); rotate_left 1) | ((first | (refine call_val (g := ?_) ?_ ?_) | (refine call_valg (g := ?_) ?_ ?_)); rotate_left 1; (focus (simp only [Tryz.results44,Tryz.ntmps44,Kt,wks,hd,hl0,hl1,hl2,q60,q38,q38n,rdK_def,rK_def,fresh_self,List.getElem?_cons_zero,List.drop_succ_cons,List.drop_zero,Bool.not_true,vcs,Ka,Kb,Kc,Kd,Ke,Kf,Kg,Kh,Ki,Kj,Kk,Kl,Km,reduceCtorEq,reduceIte,Kn,Ko,Kp,Kq,Kr,Ks,tys] <;> exact rfl))) | ((first | apply cond_bool | apply cond_bit) <;> intro hb) | refine And.intro (by omega) ?_ | refine And.intro (fun hb => ?_) (fun hb => ?_)
              all_goals ((refine again_can2 cxG (RSt.mk b (out ++ x)) [some b0, some (b0 + 448)] ?_ ?_ ?_ ?_; rotate_left 2; (focus (show b0 ≤ _; omega)); (focus (refine ⟨?_, ?_⟩ <;> (try simp only [cans,rdK_def,rK_def,ren_bytesI,renOk_bytesI,isRow_typed,isRow_inst,List.length_map,vcs,Ka,Kb,Kc,Kd,Ke,Kf,Kg,Kh,Ki,Kj,Kk,Kl,Km,reduceCtorEq,reduceIte,Kn,Ko,Kp,Kq,Kr,Ks,tys,injs]) <;> (try omega)))))
              all_goals (first | (show b.length < (38 :: r).length; simp only [List.length_cons]; omega) | (refine ⟨hr, ?_, ?_⟩ <;> simp only [List.length_append] <;> omega) | skip)
        · have d38 : decide (c = 38) = false := decide_eq_false c38
          rw [d38] at q38
          have q38n : ((c.toNat : Int) != 38) = true := by unfold bne; rw [q38]; rfl
          have hr : readL s = (readL r).map ((out ++ [c]) ++ ·) := by rw [h1, readL_other c60 c38]; cases readL r <;> simp
          have hsn : out.map byteRow ++ [[V.int .u8 c.toNat]] = (out ++ [c]).map byteRow := by rw [List.map_append]; rfl
          repeat' first | simp only [fins,mems,Tryz.results44,Tryz.ntmps44,Kt,wks,hd,hl0,hl1,hl2,q60,q38,q38n,hsn,rdK_def,rK_def,fresh_self,tyT,if_true,blkT_some,one_bsI,List.length_map,List.take_of_length_le,Nat.le_refl,Option.bind_some,List.getElem?_cons_zero,List.drop_succ_cons,List.drop_zero,Bool.not_true,Bool.not_false,vcs,Ka,Kb,Kc,Kd,Ke,Kf,Kg,Kh,Ki,Kj,Kk,Kl,Km,reduceCtorEq,reduceIte,Kn,Ko,Kp,Kq,Kr,Ks,tys] | exact rfl | refine call_off (v := .any) ?_ | ((refine call_off_bnd (v := .any) (g := ?_) (fi := ?_) ?_ ?_); rotate_left 2) | ((first | (refine call_val (g := ?_) ?_ ?_) | (refine call_valg (g := ?_) ?_ ?_)); rotate_left 1; (focus (simp only [Tryz.results44,Tryz.ntmps44,Kt,wks,hd,hl0,hl1,hl2,q60,q38,q38n,hsn,rdK_def,rK_def,fresh_self,tyT,if_true,blkT_some,one_bsI,List.length_map,List.take_of_length_le,Nat.le_refl,Option.bind_some,List.getElem?_cons_zero,List.drop_succ_cons,List.drop_zero,Bool.not_true,Bool.not_false,vcs,Ka,Kb,Kc,Kd,Ke,Kf,Kg,Kh,Ki,Kj,Kk,Kl,Km,reduceCtorEq,reduceIte,Kn,Ko,Kp,Kq,Kr,Ks,tys] <;> exact rfl))) | ((first | apply cond_bool | apply cond_bit) <;> intro hb) | refine And.intro (by omega) ?_ | refine And.intro (fun hb => ?_) (fun hb => ?_)
          all_goals ((refine again_can2 cxG (RSt.mk r (out ++ [c])) [some b0, some (b0 + 672)] ?_ ?_ ?_ ?_; rotate_left 2; (focus (show b0 ≤ _; omega)); (focus (refine ⟨?_, ?_⟩ <;> (try simp only [cans,rdK_def,rK_def,ren_bytesI,renOk_bytesI,isRow_typed,isRow_inst,List.length_map,List.length_append,List.length_cons,List.length_nil,vcs,Ka,Kb,Kc,Kd,Ke,Kf,Kg,Kh,Ki,Kj,Kk,Kl,Km,reduceCtorEq,reduceIte,Kn,Ko,Kp,Kq,Kr,Ks,tys,injs]) <;> (try omega)))))
          all_goals (first | (show r.length < (c :: r).length; simp only [List.length_cons]; omega) | (refine ⟨hr, ?_, ?_⟩ <;> simp only [List.length_append,List.length_cons,List.length_nil] <;> omega) | skip)
  · have hb : (ptsErr s != 0) = true := by rw [bne_iff_ne]; exact hz
    have hv := getV_pts hz
    refine ev_go rfl (fun cargs w => Tryz.call44 cargs w) Tryz.func44 rfl mixed (by kernel_rfl) rfl ?_; intro b0 hb0
    (repeat' first | simp only [fins,mems,Tryz.results44,Tryz.ntmps44,Kt,wks,hb,hv,vcs,Ka,Kb,Kc,Kd,Ke,Kf,Kg,Kh,Ki,Kj,Kk,Kl,Km,reduceCtorEq,reduceIte,Kn,Ko,Kp,Kq,Kr,Ks,tys] | exact rfl | refine call_off (v := .any) ?_ | (first | (refine call_fn ?_ (tCheck_ev s hs _) ?_) | (refine call_fn_g ?_ (fun _ => tCheck_ev s hs _) ?_)) | ((first | (refine call_val (g := ?_) ?_ ?_) | (refine call_valg (g := ?_) ?_ ?_)); rotate_left 1; (focus (simp only [Tryz.results44,Tryz.ntmps44,Kt,wks,hb,hv,vcs,Ka,Kb,Kc,Kd,Ke,Kf,Kg,Kh,Ki,Kj,Kk,Kl,Km,reduceCtorEq,reduceIte,Kn,Ko,Kp,Kq,Kr,Ks,tys] <;> exact rfl))) | ((first | apply cond_bool | apply cond_bit) <;> intro hb) | refine And.intro (by omega) ?_ | refine And.intro (fun hb => ?_) (fun hb => ?_) | refine Fin.pure ?_ ?_ ?_ | simp only [injs])
end Go.Proofs.YtoaclokiggoeiaaGreatDoor
