/-
  Texts joined: XNg, XNh, XNi, XNj.
-/
import Derived.Test.YtoaclokiggoeiaaGreatDoorJq
import Derived.Test.YtoaclokiggoeiaaGreatDoorJm
import Derived.Test.YtoaclokiggoeiaaGreatDoorJp
import Derived.Test.YtoaclokiggoeiaaGreatDoorJn
namespace Go.Proofs.YtoaclokiggoeiaaGreatDoor
set_option maxRecDepth 100000
set_option maxHeartbeats 32000000
set_option linter.unusedSimpArgs false
set_option linter.unusedVariables false
open Nat renaming reduceAdd → Ka, reduceMul → Kb, reduceEqDiff → Kc, reduceLeDiff → Kd, reduceSub → Ke, reduceLT → Kf, reduceBEq → Kr, reduceBNe → Ks, reducePow → Kt
open Int renaming reduceToNat → Kg, reduceLE → Kh, reduceLT → Ki, reduceAdd → Kj, reduceSub → Kk, reduceMul → Kl, reduceNeg → Km, reduceBEq → Kn, reduceBNe → Ko, reduceEq → Kp, reduceNe → Kq
open Go Go.RowKit Go.Proofs.YtoaclokiggoeiaaGreatDoor.Vm Go.Lib
def srcK (s : List UInt8) : Blk := ⟨1, [[.str s]]⟩
theorem eat_ev (s p : List UInt8) (hs : s.length ≤ lim) (hp : p.length ≤ lim) (q : Nat) (M : Mem) (nm : Nat) (hq : M q = some (srcK s)) (ho : ∀ z, (M z).isSome = true → z ∈ [q]) (hqn : q < nm) :
    Ev cx 41 nm [.ptr q 0 0, .str p] M (.bool (preB s p)) [(q, some (srcK (if preB s p = true then s.drop p.length else s)))] := by
  have h := cutPre_ev s p hs hp
  cases hb : preB s p with
  | true =>
    rw [preR_yes hb] at h
    simp only [if_true]
    unfold srcK at hq ⊢
    refine ev_go rfl (fun cargs w => Tryz.call41 cargs w) Tryz.func41 rfl mixed (by kernel_rfl) rfl ?_; intro b0 hb0
    have lq : q < b0 := below_of hb0 (by rw [hq]; rfl)
    have z0 := lt_ne lq; have z1 := lt_ne_add lq; have z2 := lt_ne' lq; have z3 := lt_ne_add' lq
    repeat' first | simp only [fins,mems,Tryz.results41,Tryz.ntmps41,Kt,wks,hq,z0,z1,z2,z3,vcs,Ka,Kb,Kc,Kd,Ke,Kf,Kg,Kh,Ki,Kj,Kk,Kl,Km,reduceCtorEq,reduceIte,Kn,Ko,Kp,Kq,Kr,Ks,tys] | exact rfl | refine call_off (v := .any) ?_ | (first | (refine call_fn ?_ (h _) ?_) | (refine call_fn_g ?_ (fun _ => h _) ?_)) | ((first | apply cond_bool | apply cond_bit) <;> intro hb) | refine And.intro (by omega) ?_ | refine And.intro (fun hb => ?_) (fun hb => ?_)
    all_goals ((refine Fin.give [(q, none)] [] ?_ ?_ ?_ ?_ ?_ (fun q hq => by have hqq := ho q hq; first | (simp only [gives,tgt,List.map_cons,List.map_nil,List.mem_cons,List.not_mem_nil,or_false] at hqq ⊢; omega) | (simp only [gives,tgt,List.map_cons,List.map_nil,List.mem_cons,List.not_mem_nil,or_false] at hqq)) <;> (try simp only [Tryz.results41,Tryz.ntmps41,wks,hq,z0,z1,z2,z3,giv,vcs,Ka,Kb,Kc,Kd,Ke,Kf,Kg,Kh,Ki,Kj,Kk,Kl,Km,reduceCtorEq,reduceIte,Kn,Ko,Kp,Kq,Kr,Ks,tys]) <;> (try simp only [injs]) <;> (try omega)))
  | false =>
    rw [preR_no hb] at h
    simp only [Bool.false_eq_true,if_false]
    unfold srcK at hq ⊢
    refine ev_go rfl (fun cargs w => Tryz.call41 cargs w) Tryz.func41 rfl mixed (by kernel_rfl) rfl ?_; intro b0 hb0
    have lq : q < b0 := below_of hb0 (by rw [hq]; rfl)
    have z0 := lt_ne lq; have z1 := lt_ne_add lq; have z2 := lt_ne' lq; have z3 := lt_ne_add' lq
    repeat' first | simp only [fins,mems,Tryz.results41,Tryz.ntmps41,Kt,wks,hq,z0,z1,z2,z3,vcs,Ka,Kb,Kc,Kd,Ke,Kf,Kg,Kh,Ki,Kj,Kk,Kl,Km,reduceCtorEq,reduceIte,Kn,Ko,Kp,Kq,Kr,Ks,tys] | exact rfl | refine call_off (v := .any) ?_ | (first | (refine call_fn ?_ (h _) ?_) | (refine call_fn_g ?_ (fun _ => h _) ?_)) | ((first | apply cond_bool | apply cond_bit) <;> intro hb) | refine And.intro (by omega) ?_ | refine And.intro (fun hb => ?_) (fun hb => ?_)
    all_goals ((refine Fin.give [(q, none)] [] ?_ ?_ ?_ ?_ ?_ (fun q hq => by have hqq := ho q hq; first | (simp only [gives,tgt,List.map_cons,List.map_nil,List.mem_cons,List.not_mem_nil,or_false] at hqq ⊢; omega) | (simp only [gives,tgt,List.map_cons,List.map_nil,List.mem_cons,List.not_mem_nil,or_false] at hqq)) <;> (try simp only [Tryz.results41,Tryz.ntmps41,wks,hq,z0,z1,z2,z3,giv,vcs,Ka,Kb,Kc,Kd,Ke,Kf,Kg,Kh,Ki,Kj,Kk,Kl,Km,reduceCtorEq,reduceIte,Kn,Ko,Kp,Kq,Kr,Ks,tys]) <;> (try simp only [injs]) <;> (try omega)))
theorem skip_ev (s : List UInt8) (hs : s.length ≤ lim) (q : Nat) (M : Mem) (nm : Nat) (hq : M q = some (srcK s)) (ho : ∀ z, (M z).isSome = true → z ∈ [q]) (hqn : q < nm) :
    Ev cx 59 nm [.ptr q 0 0] M (.bool (decide ((skipL s).length < s.length))) [(q, some (srcK (skipL s)))] := by
  have h := trimLeftW_ev blanks4 s (by decide) (by decide) (by decide) hs
  rw [trim_skip] at h
  change ∀ nm, Ev cx _ nm _ Mem.nil (.str (skipL s)) [] at h
  unfold blanks4 at h
  have hd : decide (((skipL s).length : Int) < (s.length : Int)) = decide ((skipL s).length < s.length) := decide_eq_decide.2 (by omega)
  unfold srcK at hq ⊢
  refine ev_go rfl (fun cargs w => Tryz.call59 cargs w) Tryz.func59 rfl mixed (by kernel_rfl) rfl ?_; intro b0 hb0
  have lq : q < b0 := below_of hb0 (by rw [hq]; rfl)
  have z0 := lt_ne lq; have z1 := lt_ne_add lq; have z2 := lt_ne' lq; have z3 := lt_ne_add' lq
  repeat' first | simp only [fins,mems,Tryz.results59,Tryz.ntmps59,Kt,wks,hq,z0,z1,z2,z3,hd,vcs,Ka,Kb,Kc,Kd,Ke,Kf,Kg,Kh,Ki,Kj,Kk,Kl,Km,reduceCtorEq,reduceIte,Kn,Ko,Kp,Kq,Kr,Ks,tys] | exact rfl | refine call_off (v := .any) ?_ | (first | (refine call_fn ?_ (h _) ?_) | (refine call_fn_g ?_ (fun _ => h _) ?_)) | ((first | apply cond_bool | apply cond_bit) <;> intro hb) | refine And.intro (by omega) ?_ | refine And.intro (fun hb => ?_) (fun hb => ?_)
  all_goals ((refine Fin.give [(q, none)] [] ?_ ?_ ?_ ?_ ?_ (fun q hq => by have hqq := ho q hq; first | (simp only [gives,tgt,List.map_cons,List.map_nil,List.mem_cons,List.not_mem_nil,or_false] at hqq ⊢; omega) | (simp only [gives,tgt,List.map_cons,List.map_nil,List.mem_cons,List.not_mem_nil,or_false] at hqq)) <;> (try simp only [Tryz.results59,Tryz.ntmps59,wks,hq,z0,z1,z2,z3,hd,giv,vcs,Ka,Kb,Kc,Kd,Ke,Kf,Kg,Kh,Ki,Kj,Kk,Kl,Km,reduceCtorEq,reduceIte,Kn,Ko,Kp,Kq,Kr,Ks,tys]) <;> (try simp only [injs]) <;> (try omega)))
section
variable {cx : Cx} {Q : Post} {st : List Frm} {nm : Nat} {e : Env} {M : Mem} {d : Bool} {fs : List (List Nat)} {ops r : List Oper} {dst : Option Tmp} {t : TypeId} {pos : String} {af : Array Edge} {gd : Option (Nat × Bool)} {i : Nat}
def boxT (P : Program) (t : TypeId) : Bool := match P.underlying t with
  | some (.interface _) | none => false
  | some _ => true
theorem run_box {P : Program} {w : World} {t : TypeId} (x : Value) (h : boxT P t = true) : (Instr.makeInterface t x).run P w = .ok (.iface t x) w := by
  unfold boxT at h
  cases hu : P.underlying t with
  | none => rw [hu] at h; cases h
  | some u =>
    rw [hu] at h
    simp only [Instr.makeInterface,Sem.run_bind,run_underlying hu w,Result.andThen_ok]
    cases u <;> first | rfl | cases h
theorem ext_iface {ty : TypeId} {x : Operand} {u : V} (hx : evalV cx.G true e x = u) (ht : boxT cx.P ty = true)
    (h : goOps cx Q st nm (e.putD dst (.iface ty u)) M d (fs ++ [[]]) ops r (i + 1)) : goExt cx Q st nm e M d fs ops ⟨dst, .makeInterface ty x, t, pos, af, gd⟩ r i := by
  refine ⟨_, [], _, ⟨fun x hx => by simp [effNames] at hx, fun x hx => by simp [effNames] at hx, fun h => absurd rfl h, fun h => absurd rfl h, ?_⟩, h⟩
  intro N X w0 I ρ e' M' a w hr he hin hev hMM hf
  have hxi := he.eval hr (c := true) rfl (hin x (by simp [Op.operands]))
  rw [hev x (by simp [Op.operands]), hx] at hxi
  exact ⟨_, w, (Steps1.still (nm := nm + 16 * i) hr (.iface (t := ty) hxi)).n, wp_val (s := Instr.makeInterface ty (a.eval x)) rfl (run_box _ ht)⟩
end
def noV : V := .iface 23 (.int .i64 80)
theorem no_evp (q : Nat) (M : Mem) (nm : Nat) : EvP cx 45 nm [.ptr q 0 0] M noV := by
  unfold noV
  refine evp_go rfl cxG rfl (fun cargs w => Tryz.call45 cargs w) Tryz.func45 rfl mixed (by kernel_rfl) rfl ?_; intro b0 hb0
  repeat' first | simp only [fins,mems,Tryz.results45,Tryz.ntmps45,Kt,wks,goOps_panic,goPan_iface,goEx_code_pan,goEx_blk_pan,panP_at,vcs,Ka,Kb,Kc,Kd,Ke,Kf,Kg,Kh,Ki,Kj,Kk,Kl,Km,reduceCtorEq,reduceIte,Kn,Ko,Kp,Kq,Kr,Ks,tys] | exact rfl | refine call_off (v := .any) ?_ | (refine ext_iface rfl (by kernel_rfl) ?_) | ((first | apply cond_bool | apply cond_bit) <;> intro hb) | refine And.intro (by omega) ?_ | refine And.intro (fun hb => ?_) (fun hb => ?_)
theorem word_at {s : List UInt8} {x : Nat} (h : ∀ c ∈ s.take x, wordB c = true) (h2 : ∀ c, s[x]? = some c → wordB c = false) : wordT s = s.take x ∧ wordR s = s.drop x := by
  have e : s = s.take x ++ s.drop x := (List.take_append_drop x s).symm
  have hd : (s.drop x).takeWhile wordB = [] ∧ (s.drop x).dropWhile wordB = s.drop x := by
    cases hc : s.drop x with
    | nil => exact ⟨rfl, rfl⟩
    | cons c t =>
      have : s[x]? = some c := by
        have := congrArg List.head? hc
        simpa [List.head?_drop] using this
      rw [List.takeWhile_cons, List.dropWhile_cons, h2 c this]
      exact ⟨rfl, rfl⟩
  unfold wordT wordR
  constructor
  · conv => lhs; rw [e]
    rw [List.takeWhile_append_of_pos h, hd.1, List.append_nil]
  · conv => lhs; rw [e]
    rw [List.dropWhile_append_of_pos h, hd.2]
theorem word_step {s : List UInt8} {x : Nat} {c : UInt8} (h : ∀ c ∈ s.take x, wordB c = true) (hc : s[x]? = some c) (hw : wordB c = true) : ∀ c ∈ s.take (x + 1), wordB c = true := by
  intro d hd
  rw [List.take_add_one, hc] at hd
  rcases List.mem_append.1 hd with hd | hd
  · exact h d hd
  · simp at hd; rw [hd]; exact hw
theorem name_some {s n r : List UInt8} (h : nameO s = some (n, r)) : wordT s = n ∧ wordR s = r ∧ fullL n = true := by
  unfold nameO at h
  split at h
  · rename_i hf; cases h; exact ⟨rfl, rfl, hf⟩
  · cases h
theorem name_none {s : List UInt8} (h : nameO s = none) : fullL (wordT s) = false := by
  unfold nameO at h
  split at h
  · cases h
  · rename_i hf; simpa using hf
theorem sName_ev (s n r : List UInt8) (hs : s.length ≤ 1000000) (hn : nameO s = some (n, r)) (q : Nat) (M : Mem) (nm : Nat) (hq : M q = some (srcK s)) (ho : ∀ z, (M z).isSome = true → z ∈ [q]) (hqn : q < nm) :
    Ev cx 58 nm [.ptr q 0 0] M (.str n) [(q, some (srcK r))] := by
  obtain ⟨hw1, hw2, hfl⟩ := name_some hn
  unfold srcK at hq ⊢
  refine ev_go rfl (fun cargs w => Tryz.call58 cargs w) Tryz.func58 rfl mixed (by kernel_rfl) rfl ?_; intro b0 hb0
  have lq : q < b0 := below_of hb0 (by rw [hq]; rfl)
  have z0 := lt_ne lq; have z1 := lt_ne_add lq; have z2 := lt_ne' lq; have z3 := lt_ne_add' lq
  repeat' first | simp only [fins,mems,Tryz.results58,Tryz.ntmps58,Kt,wks,vcs,Ka,Kb,Kc,Kd,Ke,Kf,Kg,Kh,Ki,Kj,Kk,Kl,Km,reduceCtorEq,reduceIte,Kn,Ko,Kp,Kq,Kr,Ks,tys] | exact rfl | refine call_off (v := .any) ?_ | ((first | apply cond_bool | apply cond_bit) <;> intro hb) | refine And.intro (by omega) ?_ | refine And.intro (fun hb => ?_) (fun hb => ?_)
  (refine loop_can2 cxG (fun x : Nat => s.length - x) (fun x => x ≤ s.length ∧ (∀ c ∈ s.take x, wordB c = true)) (b0 + 16) (fun x => [(0, .ptr q 0 0), (3, .int .i64 x)]) (fun x => [(q, ⟨1, [[.str s]]⟩)]) (0) [some q] ?_ ?_ ?_ ?_; rotate_left 1; (focus (show b0 ≤ _; omega)); (focus (refine ⟨?_, ?_⟩ <;> (try simp only [cans,hq,z0,z1,z2,z3,vcs,Ka,Kb,Kc,Kd,Ke,Kf,Kg,Kh,Ki,Kj,Kk,Kl,Km,reduceCtorEq,reduceIte,Kn,Ko,Kp,Kq,Kr,Ks,tys,injs]) <;> (try omega))); rotate_left 1)
  · exact ⟨Nat.zero_le _, by simp⟩
  · rintro x ⟨h1, h2⟩
    have hend : ∀ (hx : ∀ c, s[x]? = some c → wordB c = false), s.take x = wordT s ∧ s.drop x = wordR s := fun hx => ⟨(word_at h2 hx).1.symm, (word_at h2 hx).2.symm⟩
    have h1' : (x : Int) ≤ (s.length : Int) := by omega
    by_cases hx : x < s.length
    · obtain ⟨c, hc⟩ : ∃ c, s[x]? = some c := ⟨_, List.getElem?_eq_getElem hx⟩
      have hx' : decide ((x : Int) < (s.length : Int)) = true := decide_eq_true (by omega)
      have hpe := part_ev c false
      have q58 : ((c.toNat : Int) == 58) = decide (c = 58) := beq_byte c 58
      have hwx : IntKind.i64.wrap ((x : Int) + 1) = ((x + 1 : Nat) : Int) := wrap_in (by omega) (by omega)
      have hwc : wordB c = (partB false c || decide (c = 58)) := by unfold wordB; congr 1
      have hgo : ∀ (hp : wordB c = true), x + 1 ≤ s.length ∧ ∀ c ∈ s.take (x + 1), wordB c = true := fun hp => ⟨by omega, word_step h2 hc hp⟩
      cases hp : partB false c <;> cases h58 : decide (c = 58) <;> rw [hp, h58] at hwc <;> rw [hp] at hpe <;> rw [h58] at q58
      · have he := hend (fun d hd => by rw [hc] at hd; cases hd; exact hwc)
        have hfe := full_ev (wordT s) (by unfold lim; rw [← he.1, List.length_take]; omega)
        rw [hw1, hfl] at hfe
        have e1 : s.take x = n := by rw [he.1, hw1]
        have e2 : s.drop x = r := by rw [he.2, hw2]
        repeat' first | simp only [fins,mems,Tryz.results58,Tryz.ntmps58,Kt,wks,hc,hx',h1,h1',hx,q58,e1,e2,vcs,Ka,Kb,Kc,Kd,Ke,Kf,Kg,Kh,Ki,Kj,Kk,Kl,Km,reduceCtorEq,reduceIte,Kn,Ko,Kp,Kq,Kr,Ks,tys] | exact rfl | refine call_off (v := .any) ?_ | (first | (refine call_fn ?_ (hfe _) ?_) | (refine call_fn_g ?_ (fun _ => hfe _) ?_) | (refine call_fn ?_ (hpe _) ?_) | (refine call_fn_g ?_ (fun _ => hpe _) ?_)) | (refine call_off (v := .any) ?_) | refine And.intro (by omega) ?_
        all_goals ((refine Fin.give [(q, none)] [] ?_ ?_ ?_ ?_ ?_ (fun q hq => by have hqq := ho q hq; first | (simp only [gives,tgt,List.map_cons,List.map_nil,List.mem_cons,List.not_mem_nil,or_false] at hqq ⊢; omega) | (simp only [gives,tgt,List.map_cons,List.map_nil,List.mem_cons,List.not_mem_nil,or_false] at hqq)) <;> (try simp only [Tryz.results58,Tryz.ntmps58,wks,hq,z0,z1,z2,z3,giv,vcs,Ka,Kb,Kc,Kd,Ke,Kf,Kg,Kh,Ki,Kj,Kk,Kl,Km,reduceCtorEq,reduceIte,Kn,Ko,Kp,Kq,Kr,Ks,tys]) <;> (try simp only [injs]) <;> (try omega)))
      · repeat' first | simp only [fins,mems,Tryz.results58,Tryz.ntmps58,Kt,wks,hc,hx',h1,h1',hx,q58,hwx,vcs,Ka,Kb,Kc,Kd,Ke,Kf,Kg,Kh,Ki,Kj,Kk,Kl,Km,reduceCtorEq,reduceIte,Kn,Ko,Kp,Kq,Kr,Ks,tys] | exact rfl | refine call_off (v := .any) ?_ | (first | (refine call_fn ?_ (hpe _) ?_) | (refine call_fn_g ?_ (fun _ => hpe _) ?_)) | (refine call_off (v := .any) ?_) | refine And.intro (by omega) ?_
        all_goals ((refine again_can2 cxG (x + 1) [some q] ?_ ?_ ?_ ?_; rotate_left 2; (focus (show b0 ≤ _; omega)); (focus (refine ⟨?_, ?_⟩ <;> (try simp only [cans,hq,z0,z1,z2,z3,vcs,Ka,Kb,Kc,Kd,Ke,Kf,Kg,Kh,Ki,Kj,Kk,Kl,Km,reduceCtorEq,reduceIte,Kn,Ko,Kp,Kq,Kr,Ks,tys,injs]) <;> (try omega)))))
        all_goals (first | (show s.length - (x + 1) < s.length - x; omega) | exact hgo hwc | skip)
      · repeat' first | simp only [fins,mems,Tryz.results58,Tryz.ntmps58,Kt,wks,hc,hx',h1,h1',hx,q58,hwx,vcs,Ka,Kb,Kc,Kd,Ke,Kf,Kg,Kh,Ki,Kj,Kk,Kl,Km,reduceCtorEq,reduceIte,Kn,Ko,Kp,Kq,Kr,Ks,tys] | exact rfl | refine call_off (v := .any) ?_ | (first | (refine call_fn ?_ (hpe _) ?_) | (refine call_fn_g ?_ (fun _ => hpe _) ?_)) | (refine call_off (v := .any) ?_) | refine And.intro (by omega) ?_
        all_goals ((refine again_can2 cxG (x + 1) [some q] ?_ ?_ ?_ ?_; rotate_left 2; (focus (show b0 ≤ _; omega)); (focus (refine ⟨?_, ?_⟩ <;> (try simp only [cans,hq,z0,z1,z2,z3,vcs,Ka,Kb,Kc,Kd,Ke,Kf,Kg,Kh,Ki,Kj,Kk,Kl,Km,reduceCtorEq,reduceIte,Kn,Ko,Kp,Kq,Kr,Ks,tys,injs]) <;> (try omega)))))
        all_goals (first | (show s.length - (x + 1) < s.length - x; omega) | exact hgo hwc | skip)
      · repeat' first | simp only [fins,mems,Tryz.results58,Tryz.ntmps58,Kt,wks,hc,hx',h1,h1',hx,q58,hwx,vcs,Ka,Kb,Kc,Kd,Ke,Kf,Kg,Kh,Ki,Kj,Kk,Kl,Km,reduceCtorEq,reduceIte,Kn,Ko,Kp,Kq,Kr,Ks,tys] | exact rfl | refine call_off (v := .any) ?_ | (first | (refine call_fn ?_ (hpe _) ?_) | (refine call_fn_g ?_ (fun _ => hpe _) ?_)) | (refine call_off (v := .any) ?_) | refine And.intro (by omega) ?_
        all_goals ((refine again_can2 cxG (x + 1) [some q] ?_ ?_ ?_ ?_; rotate_left 2; (focus (show b0 ≤ _; omega)); (focus (refine ⟨?_, ?_⟩ <;> (try simp only [cans,hq,z0,z1,z2,z3,vcs,Ka,Kb,Kc,Kd,Ke,Kf,Kg,Kh,Ki,Kj,Kk,Kl,Km,reduceCtorEq,reduceIte,Kn,Ko,Kp,Kq,Kr,Ks,tys,injs]) <;> (try omega)))))
        all_goals (first | (show s.length - (x + 1) < s.length - x; omega) | exact hgo hwc | skip)
    · have hx' : decide ((x : Int) < (s.length : Int)) = false := decide_eq_false (by omega)
      have hxe : s[x]? = none := List.getElem?_eq_none (by omega)
      have he := hend (fun d hd => by rw [hxe] at hd; cases hd)
      have hfe := full_ev (wordT s) (by unfold lim; rw [← he.1, List.length_take]; omega)
      rw [hw1, hfl] at hfe
      have e1 : s.take x = n := by rw [he.1, hw1]
      have e2 : s.drop x = r := by rw [he.2, hw2]
      repeat' first | simp only [fins,mems,Tryz.results58,Tryz.ntmps58,Kt,wks,hxe,hx',h1,h1',hx,e1,e2,vcs,Ka,Kb,Kc,Kd,Ke,Kf,Kg,Kh,Ki,Kj,Kk,Kl,Km,reduceCtorEq,reduceIte,Kn,Ko,Kp,Kq,Kr,Ks,tys] | exact rfl | refine call_off (v := .bool false) ?_ | (first | (refine call_fn ?_ (hfe _) ?_) | (refine call_fn_g ?_ (fun _ => hfe _) ?_)) | refine And.intro (by omega) ?_
      all_goals ((refine Fin.give [(q, none)] [] ?_ ?_ ?_ ?_ ?_ (fun q hq => by have hqq := ho q hq; first | (simp only [gives,tgt,List.map_cons,List.map_nil,List.mem_cons,List.not_mem_nil,or_false] at hqq ⊢; omega) | (simp only [gives,tgt,List.map_cons,List.map_nil,List.mem_cons,List.not_mem_nil,or_false] at hqq)) <;> (try simp only [Tryz.results58,Tryz.ntmps58,wks,hq,z0,z1,z2,z3,giv,vcs,Ka,Kb,Kc,Kd,Ke,Kf,Kg,Kh,Ki,Kj,Kk,Kl,Km,reduceCtorEq,reduceIte,Kn,Ko,Kp,Kq,Kr,Ks,tys]) <;> (try simp only [injs]) <;> (try omega)))
theorem sName_evp (s : List UInt8) (hs : s.length ≤ 1000000) (hn : nameO s = none) (q : Nat) (M : Mem) (nm : Nat) (hq : M q = some (srcK s)) (ho : ∀ z, (M z).isSome = true → z ∈ [q]) (hqn : q < nm) :
    EvP cx 58 nm [.ptr q 0 0] M noV := by
  have hfl := name_none hn
  unfold srcK at hq
  refine evp_go rfl cxG rfl (fun cargs w => Tryz.call58 cargs w) Tryz.func58 rfl mixed (by kernel_rfl) rfl ?_; intro b0 hb0
  have lq : q < b0 := below_of hb0 (by rw [hq]; rfl)
  have z0 := lt_ne lq; have z1 := lt_ne_add lq; have z2 := lt_ne' lq; have z3 := lt_ne_add' lq
  repeat' first | simp only [fins,mems,Tryz.results58,Tryz.ntmps58,Kt,wks,vcs,Ka,Kb,Kc,Kd,Ke,Kf,Kg,Kh,Ki,Kj,Kk,Kl,Km,reduceCtorEq,reduceIte,Kn,Ko,Kp,Kq,Kr,Ks,tys] | exact rfl | refine call_off (v := .any) ?_ | ((first | apply cond_bool | apply cond_bit) <;> intro hb) | refine And.intro (by omega) ?_ | refine And.intro (fun hb => ?_) (fun hb => ?_)
  (refine loop_can2 cxG (fun x : Nat => s.length - x) (fun x => x ≤ s.length ∧ (∀ c ∈ s.take x, wordB c = true)) (b0 + 16) (fun x => [(0, .ptr q 0 0), (3, .int .i64 x)]) (fun x => [(q, ⟨1, [[.str s]]⟩)]) (0) [some q] ?_ ?_ ?_ ?_; rotate_left 1; (focus (show b0 ≤ _; omega)); (focus (refine ⟨?_, ?_⟩ <;> (try simp only [cans,hq,z0,z1,z2,z3,vcs,Ka,Kb,Kc,Kd,Ke,Kf,Kg,Kh,Ki,Kj,Kk,Kl,Km,reduceCtorEq,reduceIte,Kn,Ko,Kp,Kq,Kr,Ks,tys,injs]) <;> (try omega))); rotate_left 1)
  · exact ⟨Nat.zero_le _, by simp⟩
  · rintro x ⟨h1, h2⟩
    have hend : ∀ (hx : ∀ c, s[x]? = some c → wordB c = false), s.take x = wordT s ∧ s.drop x = wordR s := fun hx => ⟨(word_at h2 hx).1.symm, (word_at h2 hx).2.symm⟩
    have h1' : (x : Int) ≤ (s.length : Int) := by omega
    by_cases hx : x < s.length
    · obtain ⟨c, hc⟩ : ∃ c, s[x]? = some c := ⟨_, List.getElem?_eq_getElem hx⟩
      have hx' : decide ((x : Int) < (s.length : Int)) = true := decide_eq_true (by omega)
      have hpe := part_ev c false
      have q58 : ((c.toNat : Int) == 58) = decide (c = 58) := beq_byte c 58
      have hwx : IntKind.i64.wrap ((x : Int) + 1) = ((x + 1 : Nat) : Int) := wrap_in (by omega) (by omega)
      have hwc : wordB c = (partB false c || decide (c = 58)) := by unfold wordB; congr 1
      have hgo : ∀ (hp : wordB c = true), x + 1 ≤ s.length ∧ ∀ c ∈ s.take (x + 1), wordB c = true := fun hp => ⟨by omega, word_step h2 hc hp⟩
      cases hp : partB false c <;> cases h58 : decide (c = 58) <;> rw [hp, h58] at hwc <;> rw [hp] at hpe <;> rw [h58] at q58
      · have he := hend (fun d hd => by rw [hc] at hd; cases hd; exact hwc)
        have hfe := full_ev (wordT s) (by unfold lim; rw [← he.1, List.length_take]; omega)
        rw [hfl] at hfe
        have e1 : s.take x = wordT s := he.1
        repeat' first | simp only [fins,mems,Tryz.results58,Tryz.ntmps58,Kt,wks,hc,hx',h1,h1',hx,q58,e1,goOps_panic,goPan_iface,goEx_code_pan,goEx_blk_pan,goEx_again_pan,panP_at,vcs,Ka,Kb,Kc,Kd,Ke,Kf,Kg,Kh,Ki,Kj,Kk,Kl,Km,reduceCtorEq,reduceIte,Kn,Ko,Kp,Kq,Kr,Ks,tys] | exact rfl | refine call_off (v := .any) ?_ | (first | (refine call_fn ?_ (hfe _) ?_) | (refine call_fn_g ?_ (fun _ => hfe _) ?_) | (refine call_fn ?_ (hpe _) ?_) | (refine call_fn_g ?_ (fun _ => hpe _) ?_)) | (refine call_off (v := .any) ?_) | (refine call_pan rfl [q] (no_evp q _ _) ?_) | refine And.intro (by omega) ?_
      · repeat' first | simp only [fins,mems,Tryz.results58,Tryz.ntmps58,Kt,wks,hc,hx',h1,h1',hx,q58,hwx,vcs,Ka,Kb,Kc,Kd,Ke,Kf,Kg,Kh,Ki,Kj,Kk,Kl,Km,reduceCtorEq,reduceIte,Kn,Ko,Kp,Kq,Kr,Ks,tys] | exact rfl | refine call_off (v := .any) ?_ | (first | (refine call_fn ?_ (hpe _) ?_) | (refine call_fn_g ?_ (fun _ => hpe _) ?_)) | (refine call_off (v := .any) ?_) | refine And.intro (by omega) ?_
        all_goals ((refine again_can2 cxG (x + 1) [some q] ?_ ?_ ?_ ?_; rotate_left 2; (focus (show b0 ≤ _; omega)); (focus (refine ⟨?_, ?_⟩ <;> (try simp only [cans,hq,z0,z1,z2,z3,vcs,Ka,Kb,Kc,Kd,Ke,Kf,Kg,Kh,Ki,Kj,Kk,Kl,Km,reduceCtorEq,reduceIte,Kn,Ko,Kp,Kq,Kr,Ks,tys,injs]) <;> (try omega)))))
        all_goals (first | (show s.length - (x + 1) < s.length - x; omega) | exact hgo hwc | skip)
      · repeat' first | simp only [fins,mems,Tryz.results58,Tryz.ntmps58,Kt,wks,hc,hx',h1,h1',hx,q58,hwx,vcs,Ka,Kb,Kc,Kd,Ke,Kf,Kg,Kh,Ki,Kj,Kk,Kl,Km,reduceCtorEq,reduceIte,Kn,Ko,Kp,Kq,Kr,Ks,tys] | exact rfl | refine call_off (v := .any) ?_ | (first | (refine call_fn ?_ (hpe _) ?_) | (refine call_fn_g ?_ (fun _ => hpe _) ?_)) | (refine call_off (v := .any) ?_) | refine And.intro (by omega) ?_
        all_goals ((refine again_can2 cxG (x + 1) [some q] ?_ ?_ ?_ ?_; rotate_left 2; (focus (show b0 ≤ _; omega)); (focus (refine ⟨?_, ?_⟩ <;> (try simp only [cans,hq,z0,z1,z2,z3,vcs,Ka,Kb,Kc,Kd,Ke,Kf,Kg,Kh,Ki,Kj,Kk,Kl,Km,reduceCtorEq,reduceIte,Kn,Ko,Kp,Kq,Kr,Ks,tys,injs]) <;> (try omega)))))
        all_goals (first | (show s.length - (x + 1) < s.length - x; omega) | exact hgo hwc | skip)
      · repeat' first | simp only [fins,mems,Tryz.results58,Tryz.ntmps58,Kt,wks,hc,hx',h1,h1',hx,q58,hwx,vcs,Ka,Kb,Kc,Kd,Ke,Kf,Kg,Kh,Ki,Kj,Kk,Kl,Km,reduceCtorEq,reduceIte,Kn,Ko,Kp,Kq,Kr,Ks,tys] | exact rfl | refine call_off (v := .any) ?_ | (first | (refine call_fn ?_ (hpe _) ?_) | (refine call_fn_g ?_ (fun _ => hpe _) ?_)) | (refine call_off (v := .any) ?_) | refine And.intro (by omega) ?_
        all_goals ((refine again_can2 cxG (x + 1) [some q] ?_ ?_ ?_ ?_; rotate_left 2; (focus (show b0 ≤ _; omega)); (focus (refine ⟨?_, ?_⟩ <;> (try simp only [cans,hq,z0,z1,z2,z3,vcs,Ka,Kb,Kc,Kd,Ke,Kf,Kg,Kh,Ki,Kj,Kk,Kl,Km,reduceCtorEq,reduceIte,Kn,Ko,Kp,Kq,Kr,Ks,tys,injs]) <;> (try omega)))))
        all_goals (first | (show s.length - (x + 1) < s.length - x; omega) | exact hgo hwc | skip)
    · have hx' : decide ((x : Int) < (s.length : Int)) = false := decide_eq_false (by omega)
      have hxe : s[x]? = none := List.getElem?_eq_none (by omega)
      have he := hend (fun d hd => by rw [hxe] at hd; cases hd)
      have hfe := full_ev (wordT s) (by unfold lim; rw [← he.1, List.length_take]; omega)
      rw [hfl] at hfe
      have e1 : s.take x = wordT s := he.1
      repeat' first | simp only [fins,mems,Tryz.results58,Tryz.ntmps58,Kt,wks,hxe,hx',h1,h1',hx,e1,goOps_panic,goPan_iface,goEx_code_pan,goEx_blk_pan,goEx_again_pan,panP_at,vcs,Ka,Kb,Kc,Kd,Ke,Kf,Kg,Kh,Ki,Kj,Kk,Kl,Km,reduceCtorEq,reduceIte,Kn,Ko,Kp,Kq,Kr,Ks,tys] | exact rfl | refine call_off (v := .bool false) ?_ | (first | (refine call_fn ?_ (hfe _) ?_) | (refine call_fn_g ?_ (fun _ => hfe _) ?_)) | (refine call_pan rfl [q] (no_evp q _ _) ?_) | refine And.intro (by omega) ?_
theorem cut_dec {d : UInt8} (hd : d.toNat < 128) : ∀ (zs : List Int) (a b : List UInt8), zs.all may = true → enc zs = a ++ d :: b → (dec a).isSome = true ∧ (dec b).isSome = true
  | [], a, b, _, h => by
    have := congrArg List.length h
    simp [enc] at this
  | z :: zs, a, b, hm, h => by
    simp only [List.all_cons,Bool.and_eq_true] at hm
    have e : enc (z :: zs) = encodeRune z ++ enc zs := by simp [enc]
    have e1 : enc [z] = encodeRune z := by simp [enc]
    have d1 : dec (encodeRune z) = some [z] := by rw [← e1]; exact dec_enc [z] (by simp [hm.1])
    rw [e] at h
    rcases List.append_eq_append_iff.1 h with ⟨a', h1, h2⟩ | ⟨c', h1, h2⟩
    · obtain ⟨k1, k2⟩ := cut_dec hd zs a' b hm.2 h2
      obtain ⟨y, hy⟩ := Option.isSome_iff_exists.1 k1
      refine ⟨?_, k2⟩
      rw [h1, dec_both d1 hy]; rfl
    · cases c' with
      | nil =>
        simp only [List.append_nil,List.nil_append] at h1 h2
        obtain ⟨_, k2⟩ := cut_dec hd zs [] b hm.2 (by rw [← h2]; rfl)
        refine ⟨?_, k2⟩
        rw [← h1, d1]; rfl
      | cons c t =>
        simp only [List.cons_append,List.cons.injEq] at h2
        obtain ⟨h2, h3⟩ := h2
        by_cases hz : z < 128
        · have hr := may_range hm.1
          rw [low_enc (by omega) hz] at h1
          cases a with
          | nil =>
            simp only [List.nil_append,List.cons.injEq] at h1
            rw [← h1.2, List.nil_append] at h3
            exact ⟨rfl, by rw [h3, dec_enc zs hm.2]; rfl⟩
          | cons a0 a1 =>
            have := congrArg List.length h1
            simp at this
        · have := enc_high (z := z) (by omega) d (by rw [h1, h2]; simp)
          omega
theorem cut_text {d : UInt8} (hd : d.toNat < 128) {s a b : List UInt8} (h : (dec s).isSome = true) (he : s = a ++ d :: b) : (dec a).isSome = true ∧ (dec b).isSome = true := by
  obtain ⟨zs, hz⟩ := Option.isSome_iff_exists.1 h
  obtain ⟨hm, h2⟩ := (dec_iff s zs).1 hz
  exact cut_dec hd zs a b hm (by rw [h2, he])
theorem pre_one (c d : UInt8) (t : List UInt8) : preB (c :: t) [d] = (c == d) := by
  unfold preB; simp
theorem rValue_ev (s v r : List UInt8) (hs : s.length ≤ 16384) (hd : (dec s).isSome = true) (hv : valueO s = some (v, r)) (q : Nat) (M : Mem) (nm : Nat) (hq : M q = some (srcK s)) (ho : ∀ z, (M z).isSome = true → z ∈ [q]) (hqn : q < nm) :
    Ev cx 61 nm [.ptr q 0 0] M (.str v) [(q, some (srcK r))] := by
  obtain ⟨a, h1, h2⟩ := value_some hv
  obtain ⟨k, hk, rfl, hka⟩ := quote_some h1
  have e1 : ∀ (k : UInt8) (t : List UInt8) (y : Bool), t.length ≤ 20000 → preB t [k] = y → ∀ (M' : Mem) (n' : Nat), M' q = some ⟨1, [[.str t]]⟩ → (∀ z, (M' z).isSome = true → z ∈ [q]) → q < n' → Ev cx 41 n' [.ptr q 0 0, .str [k]] M' (.bool y) [(q, some ⟨1, [[.str (if y then t.drop 1 else t)]]⟩)] := by
    intro k t y ht hy M' n' h1 h2 h3
    have := eat_ev t [k] (by unfold lim; omega) (by simp [lim]) q M' n' h1 h2 h3
    rw [hy] at this
    cases y <;> exact this
  have hla : a.length + r.length + 2 ≤ 16384 := by simpa [Nat.add_assoc, Nat.add_comm, Nat.add_left_comm] using hs
  have hk128 : k.toNat < 128 := by rcases hk with rfl | rfl <;> decide
  obtain ⟨_, hd2⟩ := cut_text hk128 (a := []) hd rfl
  obtain ⟨hda, hdr⟩ := cut_text hk128 hd2 rfl
  have hcv := cut_ev (a ++ k :: r) k (by simp [lim]; omega)
  have ecv : cutV k (a ++ k :: r) = .tup [.str a, .str r, .bool true] := by unfold cutV; rw [cut1_of hka]
  rw [ecv] at hcv
  have hmp := map_ev a (by omega) hda
  unfold flatF at hmp
  have hg := eGet_ev (a.map flatB) (by rw [List.length_map]; unfold lim; omega)
  rw [getV_some (ptsErr_iff.2 ⟨by rw [List.length_map]; omega, dec_flat hda⟩) h2] at hg
  unfold srcK at hq ⊢
  rcases hk with rfl | rfl
  · have p1 := e1 39 (39 :: (a ++ 39 :: r)) true (by simp; omega) (pre_one _ _ _)
    simp only [if_true,List.drop_succ_cons,List.drop_zero] at p1
    refine ev_go rfl (fun cargs w => Tryz.call61 cargs w) Tryz.func61 rfl mixed (by kernel_rfl) rfl ?_; intro b0 hb0
    have lq : q < b0 := below_of hb0 (by rw [hq]; rfl)
    have z0 := lt_ne lq; have z1 := lt_ne_add lq; have z2 := lt_ne' lq; have z3 := lt_ne_add' lq
    repeat' first | simp only [fins,mems,Tryz.results61,Tryz.ntmps61,Kt,wks,hq,z0,z1,z2,z3,vcs,Ka,Kb,Kc,Kd,Ke,Kf,Kg,Kh,Ki,Kj,Kk,Kl,Km,reduceCtorEq,reduceIte,Kn,Ko,Kp,Kq,Kr,Ks,tys] | exact rfl | refine call_off (v := .any) ?_ | (first | (refine call_fn ?_ (hcv _) ?_) | (refine call_fn_g ?_ (fun _ => hcv _) ?_) | (refine call_fn ?_ (hmp _) ?_) | (refine call_fn_g ?_ (fun _ => hmp _) ?_) | (refine call_fn ?_ (hg _) ?_) | (refine call_fn_g ?_ (fun _ => hg _) ?_)) | (refine call_fn_full ?_ [q] (p1 _ _ ?_ only_mem (by omega)) ?_ ?_) | ((first | apply cond_bool | apply cond_bit) <;> intro hb) | refine And.intro (by omega) ?_ | refine And.intro (fun hb => ?_) (fun hb => ?_)
    all_goals ((refine Fin.give [(q, none)] [] ?_ ?_ ?_ ?_ ?_ (fun q hq => by have hqq := ho q hq; first | (simp only [gives,tgt,List.map_cons,List.map_nil,List.mem_cons,List.not_mem_nil,or_false] at hqq ⊢; omega) | (simp only [gives,tgt,List.map_cons,List.map_nil,List.mem_cons,List.not_mem_nil,or_false] at hqq)) <;> (try simp only [Tryz.results61,Tryz.ntmps61,wks,hq,z0,z1,z2,z3,giv,vcs,Ka,Kb,Kc,Kd,Ke,Kf,Kg,Kh,Ki,Kj,Kk,Kl,Km,reduceCtorEq,reduceIte,Kn,Ko,Kp,Kq,Kr,Ks,tys]) <;> (try simp only [injs]) <;> (try omega)))
  · have p1 := e1 39 (34 :: (a ++ 34 :: r)) false (by simp; omega) (pre_one _ _ _)
    have p2 := e1 34 (34 :: (a ++ 34 :: r)) true (by simp; omega) (pre_one _ _ _)
    simp only [if_true,Bool.false_eq_true,if_false,List.drop_succ_cons,List.drop_zero] at p1 p2
    refine ev_go rfl (fun cargs w => Tryz.call61 cargs w) Tryz.func61 rfl mixed (by kernel_rfl) rfl ?_; intro b0 hb0
    have lq : q < b0 := below_of hb0 (by rw [hq]; rfl)
    have z0 := lt_ne lq; have z1 := lt_ne_add lq; have z2 := lt_ne' lq; have z3 := lt_ne_add' lq
    repeat' first | simp only [Tryz.results61,Tryz.ntmps61,Kt,wks,hq,z0,z1,z2,z3,vcs,Ka,Kb,Kc,Kd,Ke,Kf,Kg,Kh,Ki,Kj,Kk,Kl,Km,reduceCtorEq,reduceIte,Kn,Ko,Kp,Kq,Kr,Ks,tys] | exact rfl | ((first | (refine call_fn ?_ (hcv _) ?_) | (refine call_fn_g ?_ (fun _ => hcv _) ?_) | (refine call_fn ?_ (hmp _) ?_) | (refine call_fn_g ?_ (fun _ => hmp _) ?_) | (refine call_fn ?_ (hg _) ?_) | (refine call_fn_g ?_ (fun _ => hg _) ?_)); (focus (simp only [Tryz.results61,Tryz.ntmps61,Kt,wks,hq,z0,z1,z2,z3,vcs,Ka,Kb,Kc,Kd,Ke,Kf,Kg,Kh,Ki,Kj,Kk,Kl,Km,reduceCtorEq,reduceIte,Kn,Ko,Kp,Kq,Kr,Ks,tys] <;> exact rfl))) | ((refine call_fn_full ?_ [q] (p1 _ _ ?_ only_mem (by omega)) ?_ ?_); iterate 3 (focus (simp only [mems,Tryz.results61,Tryz.ntmps61,Kt,wks,hq,z0,z1,z2,z3,vcs,Ka,Kb,Kc,Kd,Ke,Kf,Kg,Kh,Ki,Kj,Kk,Kl,Km,reduceCtorEq,reduceIte,Kn,Ko,Kp,Kq,Kr,Ks,tys] <;> exact rfl))) | ((refine call_fn_full ?_ [q] (p2 _ _ ?_ only_mem (by omega)) ?_ ?_); iterate 3 (focus (simp only [mems,Tryz.results61,Tryz.ntmps61,Kt,wks,hq,z0,z1,z2,z3,vcs,Ka,Kb,Kc,Kd,Ke,Kf,Kg,Kh,Ki,Kj,Kk,Kl,Km,reduceCtorEq,reduceIte,Kn,Ko,Kp,Kq,Kr,Ks,tys] <;> exact rfl))) | ((first | apply cond_bool | apply cond_bit) <;> intro hb) | refine And.intro (by omega) ?_ | refine And.intro (fun hb => ?_) (fun hb => ?_)
    all_goals ((refine Fin.give [(q, none)] [] ?_ ?_ ?_ ?_ ?_ (fun q hq => by have hqq := ho q hq; first | (simp only [gives,tgt,List.map_cons,List.map_nil,List.mem_cons,List.not_mem_nil,or_false] at hqq ⊢; omega) | (simp only [gives,tgt,List.map_cons,List.map_nil,List.mem_cons,List.not_mem_nil,or_false] at hqq)) <;> (try simp only [Tryz.results61,Tryz.ntmps61,wks,hq,z0,z1,z2,z3,giv,vcs,Ka,Kb,Kc,Kd,Ke,Kf,Kg,Kh,Ki,Kj,Kk,Kl,Km,reduceCtorEq,reduceIte,Kn,Ko,Kp,Kq,Kr,Ks,tys]) <;> (try simp only [injs]) <;> (try omega)))
theorem rValue_evp (s : List UInt8) (hs : s.length ≤ 16384) (hd : (dec s).isSome = true) (hv : valueO s = none) (q : Nat) (M : Mem) (nm : Nat) (hq : M q = some (srcK s)) (ho : ∀ z, (M z).isSome = true → z ∈ [q]) (hqn : q < nm) :
    EvP cx 61 nm [.ptr q 0 0] M noV := by
  have e1 : ∀ (k : UInt8) (t : List UInt8) (y : Bool), t.length ≤ 20000 → preB t [k] = y → ∀ (M' : Mem) (n' : Nat), M' q = some ⟨1, [[.str t]]⟩ → (∀ z, (M' z).isSome = true → z ∈ [q]) → q < n' → Ev cx 41 n' [.ptr q 0 0, .str [k]] M' (.bool y) [(q, some ⟨1, [[.str (if y then t.drop 1 else t)]]⟩)] := by
    intro k t y ht hy M' n' h1 h2 h3
    have := eat_ev t [k] (by unfold lim; omega) (by simp [lim]) q M' n' h1 h2 h3
    rw [hy] at this
    cases y <;> exact this
  unfold srcK at hq
  by_cases hk : ∃ k t, s = k :: t ∧ (k = 39 ∨ k = 34)
  · obtain ⟨k, t, rfl, hk⟩ := hk
    have hk128 : k.toNat < 128 := by rcases hk with rfl | rfl <;> decide
    obtain ⟨_, hd2⟩ := cut_text hk128 (a := []) hd rfl
    have hlt : t.length + 1 ≤ 16384 := by simpa using hs
    have hcv := cut_ev t k (by unfold lim; omega)
    cases hc : cut1 k t with
    | none =>
      have ecv : cutV k t = .tup [.str t, .str [], .bool false] := by unfold cutV; rw [hc]
      rw [ecv] at hcv
      rcases hk with rfl | rfl
      · have p1 := e1 39 (39 :: t) true (by simp; omega) (pre_one _ _ _)
        simp only [if_true,List.drop_succ_cons,List.drop_zero] at p1
        refine evp_go rfl cxG rfl (fun cargs w => Tryz.call61 cargs w) Tryz.func61 rfl mixed (by kernel_rfl) rfl ?_; intro b0 hb0
        have lq : q < b0 := below_of hb0 (by rw [hq]; rfl)
        have z0 := lt_ne lq; have z1 := lt_ne_add lq; have z2 := lt_ne' lq; have z3 := lt_ne_add' lq
        repeat' first | simp only [fins,mems,Tryz.results61,Tryz.ntmps61,Kt,wks,hq,z0,z1,z2,z3,goOps_panic,goPan_iface,goEx_code_pan,goEx_blk_pan,goEx_again_pan,panP_at,vcs,Ka,Kb,Kc,Kd,Ke,Kf,Kg,Kh,Ki,Kj,Kk,Kl,Km,reduceCtorEq,reduceIte,Kn,Ko,Kp,Kq,Kr,Ks,tys] | exact rfl | refine call_off (v := .any) ?_ | (first | (refine call_fn ?_ (hcv _) ?_) | (refine call_fn_g ?_ (fun _ => hcv _) ?_)) | (refine call_fn_full ?_ [q] (p1 _ _ ?_ only_mem (by omega)) ?_ ?_) | (refine call_pan rfl [q] (no_evp q _ _) ?_) | ((first | apply cond_bool | apply cond_bit) <;> intro hb) | refine And.intro (by omega) ?_ | refine And.intro (fun hb => ?_) (fun hb => ?_)
      · have p1 := e1 39 (34 :: t) false (by simp; omega) (pre_one _ _ _)
        have p2 := e1 34 (34 :: t) true (by simp; omega) (pre_one _ _ _)
        simp only [if_true,Bool.false_eq_true,if_false,List.drop_succ_cons,List.drop_zero] at p1 p2
        refine evp_go rfl cxG rfl (fun cargs w => Tryz.call61 cargs w) Tryz.func61 rfl mixed (by kernel_rfl) rfl ?_; intro b0 hb0
        have lq : q < b0 := below_of hb0 (by rw [hq]; rfl)
        have z0 := lt_ne lq; have z1 := lt_ne_add lq; have z2 := lt_ne' lq; have z3 := lt_ne_add' lq
        repeat' first | simp only [Tryz.results61,Tryz.ntmps61,Kt,wks,hq,z0,z1,z2,z3,goOps_panic,goPan_iface,goEx_code_pan,goEx_blk_pan,goEx_again_pan,panP_at,vcs,Ka,Kb,Kc,Kd,Ke,Kf,Kg,Kh,Ki,Kj,Kk,Kl,Km,reduceCtorEq,reduceIte,Kn,Ko,Kp,Kq,Kr,Ks,tys] | exact rfl | ((first | (refine call_fn ?_ (hcv _) ?_) | (refine call_fn_g ?_ (fun _ => hcv _) ?_)); (focus (simp only [Tryz.results61,Tryz.ntmps61,Kt,wks,hq,z0,z1,z2,z3,goOps_panic,goPan_iface,goEx_code_pan,goEx_blk_pan,goEx_again_pan,panP_at,vcs,Ka,Kb,Kc,Kd,Ke,Kf,Kg,Kh,Ki,Kj,Kk,Kl,Km,reduceCtorEq,reduceIte,Kn,Ko,Kp,Kq,Kr,Ks,tys] <;> exact rfl))) | ((refine call_fn_full ?_ [q] (p1 _ _ ?_ only_mem (by omega)) ?_ ?_); iterate 3 (focus (simp only [mems,Tryz.results61,Tryz.ntmps61,Kt,wks,hq,z0,z1,z2,z3,goOps_panic,goPan_iface,goEx_code_pan,goEx_blk_pan,goEx_again_pan,panP_at,vcs,Ka,Kb,Kc,Kd,Ke,Kf,Kg,Kh,Ki,Kj,Kk,Kl,Km,reduceCtorEq,reduceIte,Kn,Ko,Kp,Kq,Kr,Ks,tys] <;> exact rfl))) | ((refine call_fn_full ?_ [q] (p2 _ _ ?_ only_mem (by omega)) ?_ ?_); iterate 3 (focus (simp only [mems,Tryz.results61,Tryz.ntmps61,Kt,wks,hq,z0,z1,z2,z3,goOps_panic,goPan_iface,goEx_code_pan,goEx_blk_pan,goEx_again_pan,panP_at,vcs,Ka,Kb,Kc,Kd,Ke,Kf,Kg,Kh,Ki,Kj,Kk,Kl,Km,reduceCtorEq,reduceIte,Kn,Ko,Kp,Kq,Kr,Ks,tys] <;> exact rfl))) | (refine call_pan rfl [q] (no_evp q _ _) ?_) | ((first | apply cond_bool | apply cond_bit) <;> intro hb) | refine And.intro (by omega) ?_ | refine And.intro (fun hb => ?_) (fun hb => ?_)
    | some p =>
      obtain ⟨a, r⟩ := p
      have ecv : cutV k t = .tup [.str a, .str r, .bool true] := by unfold cutV; rw [hc]
      rw [ecv] at hcv
      obtain ⟨he, hka⟩ := cut1_some hc
      obtain ⟨hda, hdr⟩ := cut_text hk128 hd2 he
      have hla : a.length ≤ 16384 := by
        have := congrArg List.length he
        simp at this; omega
      have hto : readL (a.map flatB) = none := by
        unfold valueO at hv
        rw [quote_cons, if_pos hk, hc] at hv
        simpa [toldO] using hv
      have hmp := map_ev a (by omega) hda
      unfold flatF at hmp
      have hg := eGet_ev (a.map flatB) (by rw [List.length_map]; unfold lim; omega)
      rw [getV_none (ptsErr_iff.2 ⟨by rw [List.length_map]; omega, dec_flat hda⟩) hto] at hg
      rcases hk with rfl | rfl
      · have p1 := e1 39 (39 :: t) true (by simp; omega) (pre_one _ _ _)
        simp only [if_true,List.drop_succ_cons,List.drop_zero] at p1
        refine evp_go rfl cxG rfl (fun cargs w => Tryz.call61 cargs w) Tryz.func61 rfl mixed (by kernel_rfl) rfl ?_; intro b0 hb0
        have lq : q < b0 := below_of hb0 (by rw [hq]; rfl)
        have z0 := lt_ne lq; have z1 := lt_ne_add lq; have z2 := lt_ne' lq; have z3 := lt_ne_add' lq
        repeat' first | simp only [fins,mems,Tryz.results61,Tryz.ntmps61,Kt,wks,hq,z0,z1,z2,z3,goOps_panic,goPan_iface,goEx_code_pan,goEx_blk_pan,goEx_again_pan,panP_at,vcs,Ka,Kb,Kc,Kd,Ke,Kf,Kg,Kh,Ki,Kj,Kk,Kl,Km,reduceCtorEq,reduceIte,Kn,Ko,Kp,Kq,Kr,Ks,tys] | exact rfl | refine call_off (v := .any) ?_ | (first | (refine call_fn ?_ (hcv _) ?_) | (refine call_fn_g ?_ (fun _ => hcv _) ?_) | (refine call_fn ?_ (hmp _) ?_) | (refine call_fn_g ?_ (fun _ => hmp _) ?_) | (refine call_fn ?_ (hg _) ?_) | (refine call_fn_g ?_ (fun _ => hg _) ?_)) | (refine call_fn_full ?_ [q] (p1 _ _ ?_ only_mem (by omega)) ?_ ?_) | (refine call_pan rfl [q] (no_evp q _ _) ?_) | ((first | apply cond_bool | apply cond_bit) <;> intro hb) | refine And.intro (by omega) ?_ | refine And.intro (fun hb => ?_) (fun hb => ?_)
      · have p1 := e1 39 (34 :: t) false (by simp; omega) (pre_one _ _ _)
        have p2 := e1 34 (34 :: t) true (by simp; omega) (pre_one _ _ _)
        simp only [if_true,Bool.false_eq_true,if_false,List.drop_succ_cons,List.drop_zero] at p1 p2
        refine evp_go rfl cxG rfl (fun cargs w => Tryz.call61 cargs w) Tryz.func61 rfl mixed (by kernel_rfl) rfl ?_; intro b0 hb0
        have lq : q < b0 := below_of hb0 (by rw [hq]; rfl)
        have z0 := lt_ne lq; have z1 := lt_ne_add lq; have z2 := lt_ne' lq; have z3 := lt_ne_add' lq
        repeat' first | simp only [Tryz.results61,Tryz.ntmps61,Kt,wks,hq,z0,z1,z2,z3,goOps_panic,goPan_iface,goEx_code_pan,goEx_blk_pan,goEx_again_pan,panP_at,vcs,Ka,Kb,Kc,Kd,Ke,Kf,Kg,Kh,Ki,Kj,Kk,Kl,Km,reduceCtorEq,reduceIte,Kn,Ko,Kp,Kq,Kr,Ks,tys] | exact rfl | ((first | (refine call_fn ?_ (hcv _) ?_) | (refine call_fn_g ?_ (fun _ => hcv _) ?_) | (refine call_fn ?_ (hmp _) ?_) | (refine call_fn_g ?_ (fun _ => hmp _) ?_) | (refine call_fn ?_ (hg _) ?_) | (refine call_fn_g ?_ (fun _ => hg _) ?_)); (focus (simp only [Tryz.results61,Tryz.ntmps61,Kt,wks,hq,z0,z1,z2,z3,goOps_panic,goPan_iface,goEx_code_pan,goEx_blk_pan,goEx_again_pan,panP_at,vcs,Ka,Kb,Kc,Kd,Ke,Kf,Kg,Kh,Ki,Kj,Kk,Kl,Km,reduceCtorEq,reduceIte,Kn,Ko,Kp,Kq,Kr,Ks,tys] <;> exact rfl))) | ((refine call_fn_full ?_ [q] (p1 _ _ ?_ only_mem (by omega)) ?_ ?_); iterate 3 (focus (simp only [mems,Tryz.results61,Tryz.ntmps61,Kt,wks,hq,z0,z1,z2,z3,goOps_panic,goPan_iface,goEx_code_pan,goEx_blk_pan,goEx_again_pan,panP_at,vcs,Ka,Kb,Kc,Kd,Ke,Kf,Kg,Kh,Ki,Kj,Kk,Kl,Km,reduceCtorEq,reduceIte,Kn,Ko,Kp,Kq,Kr,Ks,tys] <;> exact rfl))) | ((refine call_fn_full ?_ [q] (p2 _ _ ?_ only_mem (by omega)) ?_ ?_); iterate 3 (focus (simp only [mems,Tryz.results61,Tryz.ntmps61,Kt,wks,hq,z0,z1,z2,z3,goOps_panic,goPan_iface,goEx_code_pan,goEx_blk_pan,goEx_again_pan,panP_at,vcs,Ka,Kb,Kc,Kd,Ke,Kf,Kg,Kh,Ki,Kj,Kk,Kl,Km,reduceCtorEq,reduceIte,Kn,Ko,Kp,Kq,Kr,Ks,tys] <;> exact rfl))) | (refine call_pan rfl [q] (no_evp q _ _) ?_) | ((first | apply cond_bool | apply cond_bit) <;> intro hb) | refine And.intro (by omega) ?_ | refine And.intro (fun hb => ?_) (fun hb => ?_)
  · have hn : ∀ k : UInt8, k = 39 ∨ k = 34 → preB s [k] = false := by
      intro k hk2
      cases s with
      | nil => rfl
      | cons c t =>
        rw [pre_one]
        refine beq_false_of_ne (fun e => hk ⟨c, t, rfl, ?_⟩)
        rw [e]; exact hk2
    have p1 := e1 39 s false (by omega) (hn 39 (.inl rfl))
    have p2 := e1 34 s false (by omega) (hn 34 (.inr rfl))
    simp only [Bool.false_eq_true,if_false] at p1 p2
    refine evp_go rfl cxG rfl (fun cargs w => Tryz.call61 cargs w) Tryz.func61 rfl mixed (by kernel_rfl) rfl ?_; intro b0 hb0
    have lq : q < b0 := below_of hb0 (by rw [hq]; rfl)
    have z0 := lt_ne lq; have z1 := lt_ne_add lq; have z2 := lt_ne' lq; have z3 := lt_ne_add' lq
    repeat' first | simp only [Tryz.results61,Tryz.ntmps61,Kt,wks,hq,z0,z1,z2,z3,goOps_panic,goPan_iface,goEx_code_pan,goEx_blk_pan,goEx_again_pan,panP_at,vcs,Ka,Kb,Kc,Kd,Ke,Kf,Kg,Kh,Ki,Kj,Kk,Kl,Km,reduceCtorEq,reduceIte,Kn,Ko,Kp,Kq,Kr,Ks,tys] | exact rfl | ((refine call_fn_full ?_ [q] (p1 _ _ ?_ only_mem (by omega)) ?_ ?_); iterate 3 (focus (simp only [mems,Tryz.results61,Tryz.ntmps61,Kt,wks,hq,z0,z1,z2,z3,goOps_panic,goPan_iface,goEx_code_pan,goEx_blk_pan,goEx_again_pan,panP_at,vcs,Ka,Kb,Kc,Kd,Ke,Kf,Kg,Kh,Ki,Kj,Kk,Kl,Km,reduceCtorEq,reduceIte,Kn,Ko,Kp,Kq,Kr,Ks,tys] <;> exact rfl))) | ((refine call_fn_full ?_ [q] (p2 _ _ ?_ only_mem (by omega)) ?_ ?_); iterate 3 (focus (simp only [mems,Tryz.results61,Tryz.ntmps61,Kt,wks,hq,z0,z1,z2,z3,goOps_panic,goPan_iface,goEx_code_pan,goEx_blk_pan,goEx_again_pan,panP_at,vcs,Ka,Kb,Kc,Kd,Ke,Kf,Kg,Kh,Ki,Kj,Kk,Kl,Km,reduceCtorEq,reduceIte,Kn,Ko,Kp,Kq,Kr,Ks,tys] <;> exact rfl))) | (refine call_pan rfl [q] (no_evp q _ _) ?_) | ((first | apply cond_bool | apply cond_bit) <;> intro hb) | refine And.intro (by omega) ?_ | refine And.intro (fun hb => ?_) (fun hb => ?_)
end Go.Proofs.YtoaclokiggoeiaaGreatDoor
namespace Go.Proofs.YtoaclokiggoeiaaGreatDoor
set_option maxRecDepth 100000
set_option maxHeartbeats 32000000
set_option linter.unusedSimpArgs false
set_option linter.unusedVariables false
open Go Go.RowKit Go.Lib
theorem drop_dec {p : UInt8 → Bool} (hp : ∀ c, p c = true → c.toNat < 128) : ∀ s : List UInt8, (dec s).isSome = true → (dec (s.dropWhile p)).isSome = true
  | [], h => h
  | c :: s, h => by
    rw [List.dropWhile_cons]
    by_cases hc : p c = true
    · rw [if_pos hc]
      exact drop_dec hp s (cut_text (hp c hc) (a := []) h rfl).2
    · rw [if_neg hc]; exact h
theorem blank_low : ∀ c : UInt8, blankB c = true → c.toNat < 128 := by
  have key : ∀ n : Fin 256, blankB (UInt8.ofNat n.val) = true → n.val < 128 := by decide +kernel
  intro c hc
  have := key ⟨c.toNat, c.toNat_lt⟩ (by simpa using hc)
  exact this
theorem word_low : ∀ c : UInt8, wordB c = true → c.toNat < 128 := by
  have key : ∀ n : Fin 256, wordB (UInt8.ofNat n.val) = true → n.val < 128 := by decide +kernel
  intro c hc
  have := key ⟨c.toNat, c.toNat_lt⟩ (by simpa using hc)
  exact this
theorem skip_dec {s : List UInt8} (h : (dec s).isSome = true) : (dec (skipL s)).isSome = true := drop_dec blank_low s h
theorem name_dec {s n r : List UInt8} (h : (dec s).isSome = true) (hn : nameO s = some (n, r)) : (dec r).isSome = true := by
  rw [← (name_some hn).2.1]
  exact drop_dec word_low s h
theorem value_dec {s v r : List UInt8} (h : (dec s).isSome = true) (hv : valueO s = some (v, r)) : (dec r).isSome = true := by
  obtain ⟨a, h1, _⟩ := value_some hv
  obtain ⟨k, hk, rfl, _⟩ := quote_some h1
  have hk128 : k.toNat < 128 := by rcases hk with rfl | rfl <;> decide
  exact (cut_text hk128 (a := k :: a) h rfl).2
theorem attr_dec {s r : List UInt8} {a : Pr} (h : (dec s).isSome = true) (ha : attrO s = some (a, r)) : (dec r).isSome = true := by
  obtain ⟨r1, t, h1, h2, h3⟩ := attr_some ha
  have d1 := skip_dec (name_dec h h1)
  rw [h2] at d1
  have d2 := (cut_text (d := 61) (by decide) (a := []) d1 rfl).2
  exact value_dec (skip_dec d2) h3
theorem text_dec {s : List UInt8} (h : (dec s).isSome = true) : (dec (textT s)).isSome = true ∧ (dec (textR s)).isSome = true := by
  have e : s = textT s ++ textR s := (List.takeWhile_append_dropWhile).symm
  cases hr : textR s with
  | nil =>
    rw [hr, List.append_nil] at e
    rw [← e]; exact ⟨h, rfl⟩
  | cons c t =>
    have hc : textB c = false := by
      have := List.head?_dropWhile_not textB s
      unfold textR at hr
      rw [hr] at this
      simpa using this
    have hc60 : c = 60 := by simpa [textB] using hc
    rw [hr] at e
    subst hc60
    obtain ⟨h1, h2⟩ := cut_text (d := 60) (by decide) h e
    refine ⟨h1, ?_⟩
    have d60 : dec [60] = some [60] := by decide +kernel
    obtain ⟨y, hy⟩ := Option.isSome_iff_exists.1 h2
    rw [show (60 : UInt8) :: t = [60] ++ t from rfl, dec_both d60 hy]; rfl
end Go.Proofs.YtoaclokiggoeiaaGreatDoor
