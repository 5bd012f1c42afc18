/-
  Texts joined: XNk, XNl, XNm, XNn, XNo.
-/
import Derived.Test.YtoaclokiggoeiaaGreatDoorJr
import Derived.Test.YtoaclokiggoeiaaGreatDoorJp
namespace Go.Proofs.YtoaclokiggoeiaaGreatDoor
set_option maxRecDepth 100000
set_option maxHeartbeats 32000000
set_option linter.unusedSimpArgs false
set_option linter.unusedVariables false
open Nat renaming reduceAdd → Ka, reduceMul → Kb, reduceEqDiff → Kc, reduceLeDiff → Kd, reduceSub → Ke, reduceLT → Kf, reduceBEq → Kr, reduceBNe → Ks, reducePow → Kt
open Int renaming reduceToNat → Kg, reduceLE → Kh, reduceLT → Ki, reduceAdd → Kj, reduceSub → Kk, reduceMul → Kl, reduceNeg → Km, reduceBEq → Kn, reduceBNe → Ko, reduceEq → Kp, reduceNe → Kq
open Go Go.RowKit Go.Proofs.YtoaclokiggoeiaaGreatDoor.Vm Go.Lib
theorem eatI_ev (s p : List UInt8) (y : Bool) (hs : s.length ≤ 20000) (hp : p.length ≤ 100) (hy : preB s p = y) (q : Nat) (M : Mem) (nm : Nat) (hq : M q = some ⟨1, [[.str s]]⟩) (ho : ∀ z, (M z).isSome = true → z ∈ [q]) (hqn : q < nm) :
    Ev cx 41 nm [.ptr q 0 0, .str p] M (.bool y) [(q, some ⟨1, [[.str (if y then s.drop p.length else s)]]⟩)] := by
  have := eat_ev s p (by unfold lim; omega) (by unfold lim; omega) q M nm hq ho hqn
  rw [hy] at this
  cases y <;> exact this
theorem after_pre {c : UInt8} {s : List UInt8} : preB s [c] = (afterO c s).isSome := by
  cases s with
  | nil => rfl
  | cons d t =>
    rw [pre_one, after_cons]
    by_cases h : d = c
    · rw [if_pos h, h]; simp
    · rw [if_neg h]; simpa using h
theorem rEnd_ev (s t n r r2 : List UInt8) (hs : s.length ≤ 16384) (h1 : afterO 47 s = some t) (h2 : nameO t = some (n, r)) (h3 : afterO 62 (skipL r) = some r2) (q : Nat) (M : Mem) (nm : Nat) (hq : M q = some (srcK s)) (ho : ∀ z, (M z).isSome = true → z ∈ [q]) (hqn : q < nm) :
    Ev cx 42 nm [.ptr q 0 0] M (.agg [.int .u8 2, .str n, .nils, .str []]) [(q, some (srcK r2))] := by
  obtain rfl := after_some h1
  have hk := after_some h3
  have l1 : t.length + 1 ≤ 16384 := by simpa using hs
  obtain ⟨_, _, _, l2⟩ := name_lt h2
  have l3 := skip_le r
  have p1 : ∀ (M' : Mem) (n' : Nat), M' q = some ⟨1, [[.str (47 :: t)]]⟩ → (∀ z, (M' z).isSome = true → z ∈ [q]) → q < n' → Ev cx 41 n' [.ptr q 0 0, .str [47]] M' (.bool true) [(q, some ⟨1, [[.str t]]⟩)] := fun M' n' a b c => by
    have := eatI_ev (47 :: t) [47] true (by omega) (by decide) (by rw [pre_one]; rfl) q M' n' a b c
    exact this
  have p2 : ∀ (M' : Mem) (n' : Nat), M' q = some ⟨1, [[.str (skipL r)]]⟩ → (∀ z, (M' z).isSome = true → z ∈ [q]) → q < n' → Ev cx 41 n' [.ptr q 0 0, .str [62]] M' (.bool true) [(q, some ⟨1, [[.str r2]]⟩)] := fun M' n' a b c => by
    rw [hk] at a l3
    have := eatI_ev (62 :: r2) [62] true (by omega) (by decide) (by rw [pre_one]; rfl) q M' n' a b c
    exact this
  have hn := sName_ev t n r (by omega) h2
  have hsk := skip_ev r (by unfold lim; omega)
  unfold srcK at hq hn hsk ⊢
  refine ev_go rfl (fun cargs w => Tryz.call42 cargs w) Tryz.func42 rfl mixed (by kernel_rfl) rfl ?_; intro b0 hb0
  have lq : q < b0 := below_of hb0 (by rw [hq]; rfl)
  have z0 := lt_ne lq; have z1 := lt_ne_add lq; have z2 := lt_ne' lq; have z3 := lt_ne_add' lq
  repeat' first | simp only [Tryz.results42,Tryz.ntmps42,Kt,wks,hq,z0,z1,z2,z3,vcs,Ka,Kb,Kc,Kd,Ke,Kf,Kg,Kh,Ki,Kj,Kk,Kl,Km,reduceCtorEq,reduceIte,Kn,Ko,Kp,Kq,Kr,Ks,tys] | exact rfl | ((first | (refine call_fn_full ?_ [q] (p1 _ _ ?_ only_mem (by omega)) ?_ ?_) | (refine call_fn_full ?_ [q] (hn q _ _ ?_ only_mem (by omega)) ?_ ?_) | (refine call_fn_full ?_ [q] (hsk q _ _ ?_ only_mem (by omega)) ?_ ?_)); iterate 3 (focus (simp only [mems,Tryz.results42,Tryz.ntmps42,Kt,wks,hq,z0,z1,z2,z3,vcs,Ka,Kb,Kc,Kd,Ke,Kf,Kg,Kh,Ki,Kj,Kk,Kl,Km,reduceCtorEq,reduceIte,Kn,Ko,Kp,Kq,Kr,Ks,tys] <;> exact rfl))) | ((refine call_fn_full ?_ [q] (p2 _ _ ?_ only_mem (by omega)) ?_ ?_); iterate 3 (focus (simp only [mems,Tryz.results42,Tryz.ntmps42,Kt,wks,hq,z0,z1,z2,z3,vcs,Ka,Kb,Kc,Kd,Ke,Kf,Kg,Kh,Ki,Kj,Kk,Kl,Km,reduceCtorEq,reduceIte,Kn,Ko,Kp,Kq,Kr,Ks,tys] <;> exact rfl))) | ((first | apply cond_bool | apply cond_bit) <;> intro hb) | refine And.intro (by omega) ?_ | refine And.intro (fun hb => ?_) (fun hb => ?_)
  all_goals ((refine Fin.give [(q, none)] [] ?_ ?_ ?_ ?_ ?_ (fun q hq => by have hqq := ho q hq; first | (simp only [gives,tgt,List.map_cons,List.map_nil,List.mem_cons,List.not_mem_nil,or_false] at hqq ⊢; omega) | (simp only [gives,tgt,List.map_cons,List.map_nil,List.mem_cons,List.not_mem_nil,or_false] at hqq)) <;> (try simp only [Tryz.results42,Tryz.ntmps42,wks,hq,z0,z1,z2,z3,giv,vcs,Ka,Kb,Kc,Kd,Ke,Kf,Kg,Kh,Ki,Kj,Kk,Kl,Km,reduceCtorEq,reduceIte,Kn,Ko,Kp,Kq,Kr,Ks,tys]) <;> (try simp only [injs]) <;> (try omega)))
theorem rEnd_evp (s t : List UInt8) (hs : s.length ≤ 16384) (h1 : afterO 47 s = some t) (hno : tagO s = none) (q : Nat) (M : Mem) (nm : Nat) (hq : M q = some (srcK s)) (ho : ∀ z, (M z).isSome = true → z ∈ [q]) (hqn : q < nm) :
    EvP cx 42 nm [.ptr q 0 0] M noV := by
  obtain rfl := after_some h1
  have l1 : t.length + 1 ≤ 16384 := by simpa using hs
  have p1 : ∀ (M' : Mem) (n' : Nat), M' q = some ⟨1, [[.str (47 :: t)]]⟩ → (∀ z, (M' z).isSome = true → z ∈ [q]) → q < n' → Ev cx 41 n' [.ptr q 0 0, .str [47]] M' (.bool true) [(q, some ⟨1, [[.str t]]⟩)] := fun M' n' a b c => by
    have := eatI_ev (47 :: t) [47] true (by omega) (by decide) (by rw [pre_one]; rfl) q M' n' a b c
    exact this
  unfold srcK at hq
  cases h2 : nameO t with
  | none =>
    have hn := sName_evp t (by omega) h2
    unfold srcK at hn
    refine evp_go rfl cxG rfl (fun cargs w => Tryz.call42 cargs w) Tryz.func42 rfl mixed (by kernel_rfl) rfl ?_; intro b0 hb0
    have lq : q < b0 := below_of hb0 (by rw [hq]; rfl)
    have z0 := lt_ne lq; have z1 := lt_ne_add lq; have z2 := lt_ne' lq; have z3 := lt_ne_add' lq
    repeat' first | simp only [Tryz.results42,Tryz.ntmps42,Kt,wks,hq,z0,z1,z2,z3,goOps_panic,goPan_iface,goEx_code_pan,goEx_blk_pan,goEx_again_pan,panP_at,vcs,Ka,Kb,Kc,Kd,Ke,Kf,Kg,Kh,Ki,Kj,Kk,Kl,Km,reduceCtorEq,reduceIte,Kn,Ko,Kp,Kq,Kr,Ks,tys] | exact rfl | ((refine call_fn_full ?_ [q] (p1 _ _ ?_ only_mem (by omega)) ?_ ?_); iterate 3 (focus (simp only [mems,Tryz.results42,Tryz.ntmps42,Kt,wks,hq,z0,z1,z2,z3,goOps_panic,goPan_iface,goEx_code_pan,goEx_blk_pan,goEx_again_pan,panP_at,vcs,Ka,Kb,Kc,Kd,Ke,Kf,Kg,Kh,Ki,Kj,Kk,Kl,Km,reduceCtorEq,reduceIte,Kn,Ko,Kp,Kq,Kr,Ks,tys] <;> exact rfl))) | ((first | apply cond_bool | apply cond_bit) <;> intro hb) | refine And.intro (by omega) ?_ | refine And.intro (fun hb => ?_) (fun hb => ?_)
    refine call_pan rfl [q] (hn q _ _ ?_ only_mem (by omega)) ?_
    · simp only [mems,wks,hq,z0,z1,z2,z3,vcs,Ka,Kb,Kc,Kd,Ke,Kf,Kg,Kh,Ki,Kj,Kk,Kl,Km,reduceCtorEq,reduceIte,Kn,Ko,Kp,Kq,Kr,Ks,tys] <;> exact rfl
    · simp only [goEx_code_pan,goEx_blk_pan,goEx_again_pan,panP_at,noV]
  | some p =>
    obtain ⟨n, r⟩ := p
    obtain ⟨_, _, _, l2⟩ := name_lt h2
    have l3 := skip_le r
    have h3 : afterO 62 (skipL r) = none := by
      unfold tagO at hno
      rw [h1] at hno
      simp only [h2,Option.bind_some,Option.map_eq_none_iff] at hno
      exact hno
    have hn := sName_ev t n r (by omega) h2
    have hsk := skip_ev r (by unfold lim; omega)
    have p2 := eatI_ev (skipL r) [62] false (by omega) (by decide) (by rw [after_pre, h3]; rfl)
    simp only [Bool.false_eq_true,if_false] at p2
    unfold srcK at hn hsk
    refine evp_go rfl cxG rfl (fun cargs w => Tryz.call42 cargs w) Tryz.func42 rfl mixed (by kernel_rfl) rfl ?_; intro b0 hb0
    have lq : q < b0 := below_of hb0 (by rw [hq]; rfl)
    have z0 := lt_ne lq; have z1 := lt_ne_add lq; have z2 := lt_ne' lq; have z3 := lt_ne_add' lq
    repeat' first | simp only [Tryz.results42,Tryz.ntmps42,Kt,wks,hq,z0,z1,z2,z3,goOps_panic,goPan_iface,goEx_code_pan,goEx_blk_pan,goEx_again_pan,panP_at,vcs,Ka,Kb,Kc,Kd,Ke,Kf,Kg,Kh,Ki,Kj,Kk,Kl,Km,reduceCtorEq,reduceIte,Kn,Ko,Kp,Kq,Kr,Ks,tys] | exact rfl | ((first | (refine call_fn_full ?_ [q] (p1 _ _ ?_ only_mem (by omega)) ?_ ?_) | (refine call_fn_full ?_ [q] (hn q _ _ ?_ only_mem (by omega)) ?_ ?_) | (refine call_fn_full ?_ [q] (hsk q _ _ ?_ only_mem (by omega)) ?_ ?_)); iterate 3 (focus (simp only [mems,Tryz.results42,Tryz.ntmps42,Kt,wks,hq,z0,z1,z2,z3,goOps_panic,goPan_iface,goEx_code_pan,goEx_blk_pan,goEx_again_pan,panP_at,vcs,Ka,Kb,Kc,Kd,Ke,Kf,Kg,Kh,Ki,Kj,Kk,Kl,Km,reduceCtorEq,reduceIte,Kn,Ko,Kp,Kq,Kr,Ks,tys] <;> exact rfl))) | ((refine call_fn_full ?_ [q] (p2 q _ _ ?_ only_mem (by omega)) ?_ ?_); iterate 3 (focus (simp only [mems,Tryz.results42,Tryz.ntmps42,Kt,wks,hq,z0,z1,z2,z3,goOps_panic,goPan_iface,goEx_code_pan,goEx_blk_pan,goEx_again_pan,panP_at,vcs,Ka,Kb,Kc,Kd,Ke,Kf,Kg,Kh,Ki,Kj,Kk,Kl,Km,reduceCtorEq,reduceIte,Kn,Ko,Kp,Kq,Kr,Ks,tys] <;> exact rfl))) | (refine call_pan rfl [q] (no_evp q _ _) ?_) | ((first | apply cond_bool | apply cond_bit) <;> intro hb) | refine And.intro (by omega) ?_ | refine And.intro (fun hb => ?_) (fun hb => ?_)
def idxI (o : Option Nat) : Int := match o with | some n => n | none => -1
theorem idxI_some (n : Nat) : idxI (some n) = n := rfl
theorem idxI_none : idxI none = -1 := rfl
theorem find_at2 {α : Type} {p : α → Bool} : ∀ {l : List α} {k : Nat} {x : α}, (l.take k).any p = false → l[k]? = some x → p x = true → l.findIdx? p = some k
  | [], k, x, _, h, _ => by simp at h
  | y :: l, 0, x, _, h, hp => by simp at h; subst h; simp [List.findIdx?_cons,hp]
  | y :: l, k + 1, x, hn, h, hp => by
    simp only [List.take_succ_cons,List.any_cons,Bool.or_eq_false_iff] at hn
    rw [List.findIdx?_cons, hn.1]
    simp [find_at2 (l := l) (k := k) (x := x) hn.2 (by simpa using h) hp]
theorem find_none2 {α : Type} {p : α → Bool} {l : List α} (h : l.any p = false) : l.findIdx? p = none := by
  simpa [List.findIdx?_eq_none_iff] using h
theorem any_none {α : Type} {p : α → Bool} {l : List α} (h : l.findIdx? p = none) : l.any p = false := by
  simpa [List.findIdx?_eq_none_iff] using h
theorem any_some {α : Type} {p : α → Bool} {l : List α} {n : Nat} (h : l.findIdx? p = some n) : l.any p = true := by
  cases ha : l.any p with
  | true => rfl
  | false => rw [find_none2 ha] at h; cases h
theorem finL_caps {caps : List V} (h : plainL caps = true) (σ : List (Nat × Nat)) (M : Mem) : finL σ M caps = caps := (finL_plain σ M caps h).1
theorem finLOk_caps {caps : List V} (h : plainL caps = true) (σ : List (Nat × Nat)) (M : Mem) : finLOk σ M caps = True := eq_true (finL_plain σ M caps h).2
theorem indexpr_ev (l : List Pr) (f : Nat) (caps : List V) (p : Pr → Bool) (hf : ∀ h ∈ l, ∀ nm, Ev cx f nm (.agg (prC h) :: caps) Mem.nil (.bool (p h)) []) (hn : l.length ≤ lim) (hpl : plainL caps = true) (nm : Nat) : Ev cx 50 nm [.sl false 2 (l.map prC), .fn f caps] Mem.nil (.int .i64 (idxI (l.findIdx? p))) [] := by
  unfold lim at hn
  refine ev_go rfl (fun cargs w => Tryz.call50 cargs w) Tryz.func50 rfl mixed (by kernel_rfl) rfl ?_; intro b0 hb0
  repeat' first | simp only [fins,mems,Tryz.results50,Tryz.ntmps50,Kt,wks,vcs,Ka,Kb,Kc,Kd,Ke,Kf,Kg,Kh,Ki,Kj,Kk,Kl,Km,reduceCtorEq,reduceIte,Kn,Ko,Kp,Kq,Kr,Ks,tys] | exact rfl | refine call_off (v := .any) ?_ | ((first | (refine call_val (g := ?_) ?_ ?_) | (refine call_valg (g := ?_) ?_ ?_)); rotate_left 1; (focus (simp only [Tryz.results50,Tryz.ntmps50,Kt,wks,vcs,Ka,Kb,Kc,Kd,Ke,Kf,Kg,Kh,Ki,Kj,Kk,Kl,Km,reduceCtorEq,reduceIte,Kn,Ko,Kp,Kq,Kr,Ks,tys] <;> exact rfl))) | ((first | apply cond_bool | apply cond_bit) <;> intro hb) | refine And.intro (by omega) ?_ | refine And.intro (fun hb => ?_) (fun hb => ?_)
  (refine loop_can2 cxG (fun x : Nat => l.length - x) (fun x => x ≤ l.length ∧ (l.take x).any p = false) (b0 + 16) (fun x => [(0, .sl false 2 (l.map prC)), (1, .fn f caps), (7, .int .i64 l.length), (8, .int .i64 x)]) (fun x => []) (0) [] ?_ ?_ ?_ ?_; rotate_left 1; (focus (show b0 ≤ _; omega)); (focus (refine ⟨?_, ?_⟩ <;> (try simp only [cans,List.length_map,plain_pr,finL_caps hpl,finLOk_caps hpl,vcs,Ka,Kb,Kc,Kd,Ke,Kf,Kg,Kh,Ki,Kj,Kk,Kl,Km,reduceCtorEq,reduceIte,Kn,Ko,Kp,Kq,Kr,Ks,tys,injs]) <;> (try omega))); rotate_left 1)
  · exact ⟨Nat.zero_le _, by simp⟩
  · rintro k ⟨hk, hno⟩
    by_cases hlt : k < l.length
    · obtain ⟨h, hh⟩ : ∃ h, l[k]? = some h := ⟨_, List.getElem?_eq_getElem hlt⟩
      have hat : (l.map prC)[k]? = some (prC h) := by rw [List.getElem?_map, hh]; rfl
      have hd : decide (k < l.length) = true := decide_eq_true hlt
      have hwk : IntKind.i64.wrap ((k : Int) + 1) = ((k + 1 : Nat) : Int) := wrap_in (by omega) (by omega)
      have hfh := hf h (List.mem_of_getElem? hh)
      cases hp : p h with
      | true =>
        have hfd := find_at2 hno hh hp
        rw [hp] at hfh
        (repeat' first | simp only [fins,mems,Tryz.results50,Tryz.ntmps50,Kt,wks,hat,prC,hlt,hd,hwk,hfd,idxI_some,List.length_map,vcs,Ka,Kb,Kc,Kd,Ke,Kf,Kg,Kh,Ki,Kj,Kk,Kl,Km,reduceCtorEq,reduceIte,Kn,Ko,Kp,Kq,Kr,Ks,tys] | exact rfl | refine call_off (v := .any) ?_ | refine call_pure (g := f) (caps := caps) (by simp only [Tryz.results50,Tryz.ntmps50,Kt,wks,hat,prC,hlt,hd,hwk,hfd,idxI_some,List.length_map,vcs,Ka,Kb,Kc,Kd,Ke,Kf,Kg,Kh,Ki,Kj,Kk,Kl,Km,reduceCtorEq,reduceIte,Kn,Ko,Kp,Kq,Kr,Ks,tys] <;> exact rfl) (by simp only [Tryz.results50,Tryz.ntmps50,Kt,wks,hat,prC,hlt,hd,hwk,hfd,idxI_some,List.length_map,vcs,Ka,Kb,Kc,Kd,Ke,Kf,Kg,Kh,Ki,Kj,Kk,Kl,Km,reduceCtorEq,reduceIte,Kn,Ko,Kp,Kq,Kr,Ks,tys] <;> exact rfl) (hfh _) ?_ | ((first | (refine call_val (g := ?_) ?_ ?_) | (refine call_valg (g := ?_) ?_ ?_)); rotate_left 1; (focus (simp only [Tryz.results50,Tryz.ntmps50,Kt,wks,hat,prC,hlt,hd,hwk,hfd,idxI_some,List.length_map,vcs,Ka,Kb,Kc,Kd,Ke,Kf,Kg,Kh,Ki,Kj,Kk,Kl,Km,reduceCtorEq,reduceIte,Kn,Ko,Kp,Kq,Kr,Ks,tys] <;> exact rfl))) | ((first | apply cond_bool | apply cond_bit) <;> intro hb) | refine And.intro (by omega) ?_ | refine And.intro (fun hb => ?_) (fun hb => ?_) | refine Fin.pure ?_ ?_ ?_ | simp only [injs])
      | false =>
        have hn' := notany_succ (p := p) hno hh hp
        rw [hp] at hfh
        repeat' first | simp only [fins,mems,Tryz.results50,Tryz.ntmps50,Kt,wks,hat,prC,hlt,hd,hwk,List.length_map,vcs,Ka,Kb,Kc,Kd,Ke,Kf,Kg,Kh,Ki,Kj,Kk,Kl,Km,reduceCtorEq,reduceIte,Kn,Ko,Kp,Kq,Kr,Ks,tys] | exact rfl | refine call_off (v := .any) ?_ | refine call_pure (g := f) (caps := caps) (by simp only [Tryz.results50,Tryz.ntmps50,Kt,wks,hat,prC,hlt,hd,hwk,List.length_map,vcs,Ka,Kb,Kc,Kd,Ke,Kf,Kg,Kh,Ki,Kj,Kk,Kl,Km,reduceCtorEq,reduceIte,Kn,Ko,Kp,Kq,Kr,Ks,tys] <;> exact rfl) (by simp only [Tryz.results50,Tryz.ntmps50,Kt,wks,hat,prC,hlt,hd,hwk,List.length_map,vcs,Ka,Kb,Kc,Kd,Ke,Kf,Kg,Kh,Ki,Kj,Kk,Kl,Km,reduceCtorEq,reduceIte,Kn,Ko,Kp,Kq,Kr,Ks,tys] <;> exact rfl) (hfh _) ?_ | ((first | (refine call_val (g := ?_) ?_ ?_) | (refine call_valg (g := ?_) ?_ ?_)); rotate_left 1; (focus (simp only [Tryz.results50,Tryz.ntmps50,Kt,wks,hat,prC,hlt,hd,hwk,List.length_map,vcs,Ka,Kb,Kc,Kd,Ke,Kf,Kg,Kh,Ki,Kj,Kk,Kl,Km,reduceCtorEq,reduceIte,Kn,Ko,Kp,Kq,Kr,Ks,tys] <;> exact rfl))) | ((first | apply cond_bool | apply cond_bit) <;> intro hb) | refine And.intro (by omega) ?_ | refine And.intro (fun hb => ?_) (fun hb => ?_)
        all_goals ((refine again_can2 cxG (k + 1) [] ?_ ?_ ?_ ?_; rotate_left 2; (focus (show b0 ≤ _; omega)); (focus (refine ⟨?_, ?_⟩ <;> (try simp only [cans,plain_pr,finL_caps hpl,finLOk_caps hpl,hwk,vcs,Ka,Kb,Kc,Kd,Ke,Kf,Kg,Kh,Ki,Kj,Kk,Kl,Km,reduceCtorEq,reduceIte,Kn,Ko,Kp,Kq,Kr,Ks,tys,injs]) <;> (try omega)))))
        all_goals (first | (show l.length - (k + 1) < l.length - k; omega) | exact ⟨hlt, hn'⟩ | skip)
    · have hke : k = l.length := by omega
      subst hke
      rw [List.take_length] at hno
      have hfd := find_none2 hno
      have hd : decide (l.length < l.length) = false := decide_eq_false (by omega)
      (repeat' first | simp only [fins,mems,Tryz.results50,Tryz.ntmps50,Kt,wks,hd,hfd,idxI_none,List.length_map,vcs,Ka,Kb,Kc,Kd,Ke,Kf,Kg,Kh,Ki,Kj,Kk,Kl,Km,reduceCtorEq,reduceIte,Kn,Ko,Kp,Kq,Kr,Ks,tys] | exact rfl | refine call_off (v := .any) ?_ | ((first | (refine call_val (g := ?_) ?_ ?_) | (refine call_valg (g := ?_) ?_ ?_)); rotate_left 1; (focus (simp only [Tryz.results50,Tryz.ntmps50,Kt,wks,hd,hfd,idxI_none,List.length_map,vcs,Ka,Kb,Kc,Kd,Ke,Kf,Kg,Kh,Ki,Kj,Kk,Kl,Km,reduceCtorEq,reduceIte,Kn,Ko,Kp,Kq,Kr,Ks,tys] <;> exact rfl))) | ((first | apply cond_bool | apply cond_bit) <;> intro hb) | refine And.intro (by omega) ?_ | refine And.intro (fun hb => ?_) (fun hb => ?_) | refine Fin.pure ?_ ?_ ?_ | simp only [injs])
theorem containspr_ev (l : List Pr) (f : Nat) (caps : List V) (p : Pr → Bool) (hf : ∀ h ∈ l, ∀ nm, Ev cx f nm (.agg (prC h) :: caps) Mem.nil (.bool (p h)) []) (hn : l.length ≤ lim) (hpl : plainL caps = true) (nm : Nat) : Ev cx 31 nm [.sl false 2 (l.map prC), .fn f caps] Mem.nil (.bool (l.any p)) [] := by
  have hi := indexpr_ev l f caps p hf hn hpl
  cases h : l.findIdx? p with
  | none =>
    have ha : l.any p = false := any_none h
    rw [h] at hi
    refine ev_go rfl (fun cargs w => Tryz.call31 cargs w) Tryz.func31 rfl mixed (by kernel_rfl) rfl ?_; intro b0 hb0
    (repeat' first | simp only [fins,mems,Tryz.results31,Tryz.ntmps31,Kt,wks,ha,idxI_none,vcs,Ka,Kb,Kc,Kd,Ke,Kf,Kg,Kh,Ki,Kj,Kk,Kl,Km,reduceCtorEq,reduceIte,Kn,Ko,Kp,Kq,Kr,Ks,tys] | exact rfl | refine call_off (v := .any) ?_ | (first | (refine call_fn ?_ (hi _) ?_) | (refine call_fn_g ?_ (fun _ => hi _) ?_)) | ((first | apply cond_bool | apply cond_bit) <;> intro hb) | refine And.intro (by omega) ?_ | refine And.intro (fun hb => ?_) (fun hb => ?_) | refine Fin.pure ?_ ?_ ?_ | simp only [injs])
  | some n =>
    have ha : l.any p = true := any_some h
    rw [h] at hi
    have hz : decide ((0 : Int) ≤ (n : Int)) = true := decide_eq_true (by omega)
    refine ev_go rfl (fun cargs w => Tryz.call31 cargs w) Tryz.func31 rfl mixed (by kernel_rfl) rfl ?_; intro b0 hb0
    (repeat' first | simp only [fins,mems,Tryz.results31,Tryz.ntmps31,Kt,wks,ha,idxI_some,hz,vcs,Ka,Kb,Kc,Kd,Ke,Kf,Kg,Kh,Ki,Kj,Kk,Kl,Km,reduceCtorEq,reduceIte,Kn,Ko,Kp,Kq,Kr,Ks,tys] | exact rfl | refine call_off (v := .any) ?_ | (first | (refine call_fn ?_ (hi _) ?_) | (refine call_fn_g ?_ (fun _ => hi _) ?_)) | ((first | apply cond_bool | apply cond_bit) <;> intro hb) | refine And.intro (by omega) ?_ | refine And.intro (fun hb => ?_) (fun hb => ?_) | refine Fin.pure ?_ ?_ ?_ | simp only [injs])
theorem tag1_ev (a b : Pr) (nm : Nat) : Ev cx 60 nm [.agg (prC b), .rp (prC a)] Mem.nil (.bool (a.name == b.name)) [] := by
  refine ev_go rfl (fun cargs w => Tryz.call60 cargs w) Tryz.func60 rfl mixed (by kernel_rfl) rfl ?_; intro b0 hb0
  (repeat' first | simp only [fins,mems,Tryz.results60,Tryz.ntmps60,Kt,wks,prC,vcs,Ka,Kb,Kc,Kd,Ke,Kf,Kg,Kh,Ki,Kj,Kk,Kl,Km,reduceCtorEq,reduceIte,Kn,Ko,Kp,Kq,Kr,Ks,tys] | exact rfl | refine call_off (v := .any) ?_ | ((first | apply cond_bool | apply cond_bit) <;> intro hb) | refine And.intro (by omega) ?_ | refine And.intro (fun hb => ?_) (fun hb => ?_) | refine Fin.pure ?_ ?_ ?_ | simp only [injs])
theorem twice_ev (l : List Pr) (a : Pr) (hn : l.length ≤ lim) (nm : Nat) : Ev cx 31 nm [.sl false 2 (l.map prC), .fn 60 [.rp (prC a)]] Mem.nil (.bool (l.any fun b => a.name == b.name)) [] :=
  containspr_ev l 60 [.rp (prC a)] (fun b => a.name == b.name) (fun b _ nm => tag1_ev a b nm) hn rfl nm
end Go.Proofs.YtoaclokiggoeiaaGreatDoor
namespace Go.Proofs.YtoaclokiggoeiaaGreatDoor
set_option maxRecDepth 100000
set_option maxHeartbeats 32000000
set_option linter.unusedSimpArgs false
set_option linter.unusedVariables false
open Go Go.RowKit Go.Lib
theorem end_one {s : List UInt8} (h : preB s [62] = true) : ∃ t, s = 62 :: t ∧ endO s = some (1, t) := by
  cases s with
  | nil => cases h
  | cons c t =>
    rw [pre_one] at h
    obtain rfl := eq_of_beq h
    exact ⟨t, rfl, rfl⟩
theorem end_three {s : List UInt8} (h : preB s [47, 62] = true) : ∃ t, s = 47 :: 62 :: t ∧ endO s = some (3, t) := by
  match s, h with
  | [], h => cases h
  | [c], h => simp [preB] at h
  | c :: d :: t, h =>
    simp [preB] at h
    obtain ⟨rfl, rfl⟩ := h
    exact ⟨t, rfl, rfl⟩
theorem end_none {s : List UInt8} (h1 : preB s [62] = false) (h2 : preB s [47, 62] = false) : endO s = none := by
  unfold endO
  split
  · rw [pre_one] at h1; simp at h1
  · simp [preB] at h2
  · rfl
end Go.Proofs.YtoaclokiggoeiaaGreatDoor
namespace Go.Proofs.YtoaclokiggoeiaaGreatDoor
set_option maxRecDepth 100000
set_option maxHeartbeats 32000000
set_option linter.unusedSimpArgs false
set_option linter.unusedVariables false
open Nat renaming reduceAdd → Ka, reduceMul → Kb, reduceEqDiff → Kc, reduceLeDiff → Kd, reduceSub → Ke, reduceLT → Kf, reduceBEq → Kr, reduceBNe → Ks, reducePow → Kt
open Int renaming reduceToNat → Kg, reduceLE → Kh, reduceLT → Ki, reduceAdd → Kj, reduceSub → Kk, reduceMul → Kl, reduceNeg → Km, reduceBEq → Kn, reduceBNe → Ko, reduceEq → Kp, reduceNe → Kq
open Go Go.RowKit Go.Proofs.YtoaclokiggoeiaaGreatDoor.Vm Go.Lib
structure TSt where
  l : List Pr
  rest : List UInt8
theorem rTag_ev (s n r0 r : List UInt8) (k : Nat) (l : List Pr) (hs : s.length ≤ 16384) (hd : (dec s).isSome = true) (h1 : afterO 47 s = none) (h2 : nameO s = some (n, r0)) (h3 : tagL n [] r0 = some (⟨k, n, l, []⟩, r)) (q : Nat) (M : Mem) (nm : Nat) (hq : M q = some (srcK s)) (ho : ∀ z, (M z).isSome = true → z ∈ [q]) (hqn : q < nm) :
    Ev cx 42 nm [.ptr q 0 0] M (.agg [.int .u8 k, .str n, .own nm 0 l.length, .str []]) [(q, some (srcK r)), (nm, some ⟨2, l.map prC⟩)] := by
  have p1 := eatI_ev s [47] false (by omega) (by decide) (by rw [after_pre, h1]; rfl)
  simp only [Bool.false_eq_true,if_false] at p1
  have hn := sName_ev s n r0 (by omega) h2
  obtain ⟨_, _, _, l2⟩ := name_lt h2
  have hd0 := name_dec hd h2
  unfold srcK at hq hn ⊢
  refine ev_go rfl (fun cargs w => Tryz.call42 cargs w) Tryz.func42 rfl mixed (by kernel_rfl) rfl ?_; intro b0 hb0
  have lq : q < b0 := below_of hb0 (by rw [hq]; rfl)
  have z0 := lt_ne lq; have z1 := lt_ne_add lq; have z2 := lt_ne' lq; have z3 := lt_ne_add' lq
  repeat' first | simp only [Tryz.results42,Tryz.ntmps42,Kt,wks,hq,z0,z1,z2,z3,vcs,Ka,Kb,Kc,Kd,Ke,Kf,Kg,Kh,Ki,Kj,Kk,Kl,Km,reduceCtorEq,reduceIte,Kn,Ko,Kp,Kq,Kr,Ks,tys] | exact rfl | ((first | (refine call_fn_full ?_ [q] (p1 q _ _ ?_ only_mem (by omega)) ?_ ?_) | (refine call_fn_full ?_ [q] (hn q _ _ ?_ only_mem (by omega)) ?_ ?_)); iterate 3 (focus (simp only [mems,Tryz.results42,Tryz.ntmps42,Kt,wks,hq,z0,z1,z2,z3,vcs,Ka,Kb,Kc,Kd,Ke,Kf,Kg,Kh,Ki,Kj,Kk,Kl,Km,reduceCtorEq,reduceIte,Kn,Ko,Kp,Kq,Kr,Ks,tys] <;> exact rfl))) | ((first | apply cond_bool | apply cond_bit) <;> intro hb) | refine And.intro (by omega) ?_ | refine And.intro (fun hb => ?_) (fun hb => ?_)
  (refine loop_can2 cxG (fun x : TSt => x.rest.length) (fun x => tagL n x.l x.rest = some (⟨k, n, l, []⟩, r) ∧ (dec x.rest).isSome = true ∧ x.rest.length + x.l.length ≤ 16384) (b0 + 16) (fun x => [(0, .ptr q 0 0), (2, .ptr b0 0 0)]) (fun x => [(q, ⟨1, [[.str x.rest]]⟩), (b0, ⟨4, [[.int .u8 0, .str n, .own (b0 + 1) 0 x.l.length, .str []]]⟩), (b0 + 1, ⟨2, x.l.map prC⟩)]) (⟨[], r0⟩) [some q, some b0, none] ?_ ?_ ?_ ?_; rotate_left 1; (focus (show b0 ≤ _; omega)); (focus (refine ⟨?_, ?_⟩ <;> (try simp only [cans,hq,z0,z1,z2,z3,isRow_inst,List.map_nil,List.length_nil,vcs,Ka,Kb,Kc,Kd,Ke,Kf,Kg,Kh,Ki,Kj,Kk,Kl,Km,reduceCtorEq,reduceIte,Kn,Ko,Kp,Kq,Kr,Ks,tys,injs]) <;> (try omega))); rotate_left 1)
  · exact ⟨h3, hd0, by show r0.length + 0 ≤ 16384; omega⟩
  · rintro ⟨xl, xr⟩ ⟨g1, g2, g3⟩
    dsimp only at g1 g2 g3 ⊢
    have gl := skip_le xr
    have hsk := skip_ev xr (by unfold lim; omega)
    unfold srcK at hsk
    have hnl : (xl.map prC).length = xl.length := List.length_map _
    by_cases e62 : preB (skipL xr) [62] = true
    · obtain ⟨t, ht, hen⟩ := end_one e62
      rw [tag_end hen] at g1
      simp only [Option.some.injEq,Prod.mk.injEq,Tk.mk.injEq,true_and,and_true] at g1
      obtain ⟨⟨rfl, rfl⟩, rfl⟩ := g1
      have p62 := eatI_ev (skipL xr) [62] true (by omega) (by decide) e62
      simp only [if_true,ht,List.drop_succ_cons,List.drop_zero,List.length_cons,List.length_nil] at p62 hsk
      repeat' first | simp only [Tryz.results42,Tryz.ntmps42,Kt,wks,hq,z0,z1,z2,z3,vcs,Ka,Kb,Kc,Kd,Ke,Kf,Kg,Kh,Ki,Kj,Kk,Kl,Km,reduceCtorEq,reduceIte,Kn,Ko,Kp,Kq,Kr,Ks,tys] | exact rfl | ((first | (refine call_fn_full ?_ [q] (hsk q _ _ ?_ only_mem (by omega)) ?_ ?_) | (refine call_fn_full ?_ [q] (p62 q _ _ ?_ only_mem (by omega)) ?_ ?_)); iterate 3 (focus (simp only [mems,Tryz.results42,Tryz.ntmps42,Kt,wks,hq,z0,z1,z2,z3,vcs,Ka,Kb,Kc,Kd,Ke,Kf,Kg,Kh,Ki,Kj,Kk,Kl,Km,reduceCtorEq,reduceIte,Kn,Ko,Kp,Kq,Kr,Ks,tys] <;> exact rfl))) | ((first | apply cond_bool | apply cond_bit) <;> intro hb) | refine And.intro (by omega) ?_ | refine And.intro (fun hb => ?_) (fun hb => ?_)
      all_goals ((refine Fin.give [(q, none), (b0 + 1, some 0)] [] ?_ ?_ ?_ ?_ ?_ (fun q hq => by have hqq := ho q hq; first | (simp only [gives,tgt,List.map_cons,List.map_nil,List.mem_cons,List.not_mem_nil,or_false] at hqq ⊢; omega) | (simp only [gives,tgt,List.map_cons,List.map_nil,List.mem_cons,List.not_mem_nil,or_false] at hqq)) <;> (try simp only [Tryz.results42,Tryz.ntmps42,wks,hq,plain_pr,z0,z1,z2,z3,giv,vcs,Ka,Kb,Kc,Kd,Ke,Kf,Kg,Kh,Ki,Kj,Kk,Kl,Km,reduceCtorEq,reduceIte,Kn,Ko,Kp,Kq,Kr,Ks,tys]) <;> (try simp only [injs]) <;> (try omega)))
    · have e62' : preB (skipL xr) [62] = false := by simpa using e62
      have p62 := eatI_ev (skipL xr) [62] false (by omega) (by decide) e62'
      simp only [Bool.false_eq_true,if_false] at p62
      by_cases e47 : preB (skipL xr) [47, 62] = true
      · obtain ⟨t, ht, hen⟩ := end_three e47
        rw [tag_end hen] at g1
        simp only [Option.some.injEq,Prod.mk.injEq,Tk.mk.injEq,true_and,and_true] at g1
        obtain ⟨⟨rfl, rfl⟩, rfl⟩ := g1
        have p63 := eatI_ev (skipL xr) [47, 62] true (by omega) (by decide) e47
        simp only [if_true,ht,List.drop_succ_cons,List.drop_zero,List.length_cons,List.length_nil] at p62 p63 hsk
        repeat' first | simp only [Tryz.results42,Tryz.ntmps42,Kt,wks,hq,z0,z1,z2,z3,vcs,Ka,Kb,Kc,Kd,Ke,Kf,Kg,Kh,Ki,Kj,Kk,Kl,Km,reduceCtorEq,reduceIte,Kn,Ko,Kp,Kq,Kr,Ks,tys] | exact rfl | ((first | (refine call_fn_full ?_ [q] (hsk q _ _ ?_ only_mem (by omega)) ?_ ?_) | (refine call_fn_full ?_ [q] (p62 q _ _ ?_ only_mem (by omega)) ?_ ?_)); iterate 3 (focus (simp only [mems,Tryz.results42,Tryz.ntmps42,Kt,wks,hq,z0,z1,z2,z3,vcs,Ka,Kb,Kc,Kd,Ke,Kf,Kg,Kh,Ki,Kj,Kk,Kl,Km,reduceCtorEq,reduceIte,Kn,Ko,Kp,Kq,Kr,Ks,tys] <;> exact rfl))) | ((refine call_fn_full ?_ [q] (p63 q _ _ ?_ only_mem (by omega)) ?_ ?_); iterate 3 (focus (simp only [mems,Tryz.results42,Tryz.ntmps42,Kt,wks,hq,z0,z1,z2,z3,vcs,Ka,Kb,Kc,Kd,Ke,Kf,Kg,Kh,Ki,Kj,Kk,Kl,Km,reduceCtorEq,reduceIte,Kn,Ko,Kp,Kq,Kr,Ks,tys] <;> exact rfl))) | ((first | apply cond_bool | apply cond_bit) <;> intro hb) | refine And.intro (by omega) ?_ | refine And.intro (fun hb => ?_) (fun hb => ?_)
        all_goals ((refine Fin.give [(q, none), (b0 + 1, some 0)] [] ?_ ?_ ?_ ?_ ?_ (fun q hq => by have hqq := ho q hq; first | (simp only [gives,tgt,List.map_cons,List.map_nil,List.mem_cons,List.not_mem_nil,or_false] at hqq ⊢; omega) | (simp only [gives,tgt,List.map_cons,List.map_nil,List.mem_cons,List.not_mem_nil,or_false] at hqq)) <;> (try simp only [Tryz.results42,Tryz.ntmps42,wks,hq,plain_pr,z0,z1,z2,z3,giv,vcs,Ka,Kb,Kc,Kd,Ke,Kf,Kg,Kh,Ki,Kj,Kk,Kl,Km,reduceCtorEq,reduceIte,Kn,Ko,Kp,Kq,Kr,Ks,tys]) <;> (try simp only [injs]) <;> (try omega)))
      · have e47' : preB (skipL xr) [47, 62] = false := by simpa using e47
        have hen := end_none e62' e47'
        have p63 := eatI_ev (skipL xr) [47, 62] false (by omega) (by decide) e47'
        simp only [Bool.false_eq_true,if_false] at p63
        by_cases hgap : (skipL xr).length < xr.length
        · cases hat : attrO (skipL xr) with
          | none => rw [tag_bad hen hat] at g1; cases g1
          | some p =>
            obtain ⟨a, r'⟩ := p
            cases hany : (xl.any fun b => a.name == b.name) with
            | true => rw [tag_twice hen hat hany] at g1; cases g1
            | false =>
              rw [tag_attr hen hgap hat hany] at g1
              have hlt := attr_lt hat
              have g2' := attr_dec (skip_dec g2) hat
              obtain ⟨r1, t, k1, k2, k3⟩ := attr_some hat
              have d1 := skip_dec (name_dec (skip_dec g2) k1)
              rw [k2] at d1
              have d2 := skip_dec (cut_text (d := 61) (by decide) (a := []) d1 rfl).2
              obtain ⟨_, _, _, m1⟩ := name_lt k1
              have m2 := skip_le r1
              have m3 := skip_le t
              rw [k2] at m2
              simp only [List.length_cons] at m2
              have hgd : decide ((skipL xr).length < xr.length) = true := decide_eq_true hgap
              rw [hgd] at hsk
              have hn1 := sName_ev (skipL xr) a.name r1 (by omega) k1
              have hsk1 := skip_ev r1 (by unfold lim; omega)
              have hsk2 := skip_ev t (by unfold lim; omega)
              rw [k2] at hsk1
              have p61 := eatI_ev (61 :: t) [61] true (by simp; omega) (by decide) (by rw [pre_one]; rfl)
              simp only [if_true,List.drop_succ_cons,List.drop_zero,List.length_cons,List.length_nil] at p61
              have htw := twice_ev xl ⟨a.name, []⟩ (by unfold lim; omega)
              simp only [hany,prC] at htw
              have hva := rValue_ev (skipL t) a.value r' (by omega) d2 k3
              unfold srcK at hn1 hsk1 hsk2 hva
              repeat' first | simp only [Tryz.results42,Tryz.ntmps42,Kt,wks,plain_pr,hq,prC,z0,z1,z2,z3,Bool.not_true,Bool.not_false,List.length_map,vcs,Ka,Kb,Kc,Kd,Ke,Kf,Kg,Kh,Ki,Kj,Kk,Kl,Km,reduceCtorEq,reduceIte,Kn,Ko,Kp,Kq,Kr,Ks,tys] | exact rfl | ((refine call_fn_gvx (xs := ?_) [b0 + 1, b0 + 384] ?_ (fun _ => ?_) (fun _ => ?_) rfl ((fun _ => htw _)) ?_); rotate_left 1; iterate 3 (focus (simp only [fins,mems,Tryz.results42,Tryz.ntmps42,Kt,wks,plain_pr,hq,prC,z0,z1,z2,z3,Bool.not_true,Bool.not_false,List.length_map,vcs,Ka,Kb,Kc,Kd,Ke,Kf,Kg,Kh,Ki,Kj,Kk,Kl,Km,reduceCtorEq,reduceIte,Kn,Ko,Kp,Kq,Kr,Ks,tys] <;> (first | exact rfl | omega)))) | ((first | (refine call_fn_full ?_ [q] (hsk q _ _ ?_ only_mem (by omega)) ?_ ?_) | (refine call_fn_full ?_ [q] (p62 q _ _ ?_ only_mem (by omega)) ?_ ?_) | (refine call_fn_full ?_ [q] (hn1 q _ _ ?_ only_mem (by omega)) ?_ ?_) | (refine call_fn_full ?_ [q] (hva q _ _ ?_ only_mem (by omega)) ?_ ?_)); iterate 3 (focus (simp only [mems,Tryz.results42,Tryz.ntmps42,Kt,wks,plain_pr,hq,prC,z0,z1,z2,z3,Bool.not_true,Bool.not_false,List.length_map,vcs,Ka,Kb,Kc,Kd,Ke,Kf,Kg,Kh,Ki,Kj,Kk,Kl,Km,reduceCtorEq,reduceIte,Kn,Ko,Kp,Kq,Kr,Ks,tys] <;> exact rfl))) | ((first | (refine call_fn_full ?_ [q] (p63 q _ _ ?_ only_mem (by omega)) ?_ ?_) | (refine call_fn_full ?_ [q] (hsk1 q _ _ ?_ only_mem (by omega)) ?_ ?_)); iterate 3 (focus (simp only [mems,Tryz.results42,Tryz.ntmps42,Kt,wks,plain_pr,hq,prC,z0,z1,z2,z3,Bool.not_true,Bool.not_false,List.length_map,vcs,Ka,Kb,Kc,Kd,Ke,Kf,Kg,Kh,Ki,Kj,Kk,Kl,Km,reduceCtorEq,reduceIte,Kn,Ko,Kp,Kq,Kr,Ks,tys] <;> exact rfl))) | ((first | (refine call_fn_full ?_ [q] (hsk2 q _ _ ?_ only_mem (by omega)) ?_ ?_) | (refine call_fn_full ?_ [q] (p61 q _ _ ?_ only_mem (by omega)) ?_ ?_)); iterate 3 (focus (simp only [mems,Tryz.results42,Tryz.ntmps42,Kt,wks,plain_pr,hq,prC,z0,z1,z2,z3,Bool.not_true,Bool.not_false,List.length_map,vcs,Ka,Kb,Kc,Kd,Ke,Kf,Kg,Kh,Ki,Kj,Kk,Kl,Km,reduceCtorEq,reduceIte,Kn,Ko,Kp,Kq,Kr,Ks,tys] <;> exact rfl))) | ((first | apply cond_bool | apply cond_bit) <;> intro hb) | refine And.intro (by omega) ?_ | refine And.intro (fun hb => ?_) (fun hb => ?_)
              have hnx : xl.map prC ++ [[.str a.name, .str a.value]] = (xl ++ [a]).map prC := by simp [prC]
              have hnn : (xl ++ [a]).length = xl.length + 1 := by simp
              rw [hnx]
              all_goals ((refine again_can2 cxG (⟨xl ++ [a], r'⟩) [some q, some b0, some (b0 + 848)] ?_ ?_ ?_ ?_; rotate_left 2; (focus (show b0 ≤ _; omega)); (focus (refine ⟨?_, ?_⟩ <;> (try simp only [cans,plain_pr,hq,z0,z1,z2,z3,hnn,List.length_map,vcs,Ka,Kb,Kc,Kd,Ke,Kf,Kg,Kh,Ki,Kj,Kk,Kl,Km,reduceCtorEq,reduceIte,Kn,Ko,Kp,Kq,Kr,Ks,tys,injs]) <;> (try omega)))))
              all_goals (first | exact ⟨g1, g2', by show r'.length + (xl ++ [a]).length ≤ 16384; omega⟩ | (show r'.length < xr.length; omega) | skip)
        · rw [tag_gap hen hgap] at g1; cases g1
theorem rHead_evp (s : List UInt8) (hs : s.length ≤ 16384) (h1 : afterO 47 s = none) (h2 : nameO s = none) (q : Nat) (M : Mem) (nm : Nat) (hq : M q = some (srcK s)) (ho : ∀ z, (M z).isSome = true → z ∈ [q]) (hqn : q < nm) :
    EvP cx 42 nm [.ptr q 0 0] M noV := by
  have p1 := eatI_ev s [47] false (by omega) (by decide) (by rw [after_pre, h1]; rfl)
  simp only [Bool.false_eq_true,if_false] at p1
  have hn := sName_evp s (by omega) h2
  unfold srcK at hq hn
  refine evp_go rfl cxG rfl (fun cargs w => Tryz.call42 cargs w) Tryz.func42 rfl mixed (by kernel_rfl) rfl ?_; intro b0 hb0
  have lq : q < b0 := below_of hb0 (by rw [hq]; rfl)
  have z0 := lt_ne lq; have z1 := lt_ne_add lq; have z2 := lt_ne' lq; have z3 := lt_ne_add' lq
  repeat' first | simp only [Tryz.results42,Tryz.ntmps42,Kt,wks,hq,z0,z1,z2,z3,goOps_panic,goPan_iface,goEx_code_pan,goEx_blk_pan,goEx_again_pan,panP_at,vcs,Ka,Kb,Kc,Kd,Ke,Kf,Kg,Kh,Ki,Kj,Kk,Kl,Km,reduceCtorEq,reduceIte,Kn,Ko,Kp,Kq,Kr,Ks,tys] | exact rfl | ((refine call_fn_full ?_ [q] (p1 q _ _ ?_ only_mem (by omega)) ?_ ?_); iterate 3 (focus (simp only [mems,Tryz.results42,Tryz.ntmps42,Kt,wks,hq,z0,z1,z2,z3,goOps_panic,goPan_iface,goEx_code_pan,goEx_blk_pan,goEx_again_pan,panP_at,vcs,Ka,Kb,Kc,Kd,Ke,Kf,Kg,Kh,Ki,Kj,Kk,Kl,Km,reduceCtorEq,reduceIte,Kn,Ko,Kp,Kq,Kr,Ks,tys] <;> exact rfl))) | ((first | apply cond_bool | apply cond_bit) <;> intro hb) | refine And.intro (by omega) ?_ | refine And.intro (fun hb => ?_) (fun hb => ?_)
  refine call_pan rfl [q] (hn q _ _ ?_ only_mem (by omega)) ?_
  · simp only [mems,wks,hq,z0,z1,z2,z3,vcs,Ka,Kb,Kc,Kd,Ke,Kf,Kg,Kh,Ki,Kj,Kk,Kl,Km,reduceCtorEq,reduceIte,Kn,Ko,Kp,Kq,Kr,Ks,tys] <;> exact rfl
  · simp only [goEx_code_pan,goEx_blk_pan,goEx_again_pan,panP_at,noV]
end Go.Proofs.YtoaclokiggoeiaaGreatDoor
