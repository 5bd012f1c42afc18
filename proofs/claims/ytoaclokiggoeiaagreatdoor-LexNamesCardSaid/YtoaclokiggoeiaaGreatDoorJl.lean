/-
  Texts joined: XNb, XGf.
-/
import Derived.Test.YtoaclokiggoeiaaGreatDoorJk
import Derived.Test.YtoaclokiggoeiaaGreatDoorJf
namespace Go.Proofs.YtoaclokiggoeiaaGreatDoor
set_option maxRecDepth 100000
set_option maxHeartbeats 32000000
set_option linter.unusedSimpArgs false
set_option linter.unusedVariables false
open Nat renaming reduceAdd → Ka, reduceMul → Kb, reduceEqDiff → Kc, reduceLeDiff → Kd, reduceSub → Ke, reduceLT → Kf, reduceBEq → Kr, reduceBNe → Ks, reducePow → Kt
open Int renaming reduceToNat → Kg, reduceLE → Kh, reduceLT → Ki, reduceAdd → Kj, reduceSub → Kk, reduceMul → Kl, reduceNeg → Km, reduceBEq → Kn, reduceBNe → Ko, reduceEq → Kp, reduceNe → Kq
open Go Go.RowKit Go.Proofs.YtoaclokiggoeiaaGreatDoor.Vm Go.Lib
def blanks4 : List UInt8 := [32, 9, 10, 13]
theorem blanks_in (c : UInt8) : inB blanks4 c.toNat = blankB c := by
  have key : ∀ n : Fin 256, inB blanks4 n.val = blankB (UInt8.ofNat n.val) := by decide +kernel
  have := key ⟨c.toNat, c.toNat_lt⟩
  simpa using this
theorem trim_skip : ∀ s : List UInt8, trimL blanks4 s = s.dropWhile blankB
  | [] => rfl
  | c :: s => by
    rw [trimL, blanks_in, List.dropWhile_cons, trim_skip s]
theorem trimLeftW_ev (cs s : List UInt8) (h : ∀ c ∈ cs, c.toNat < 128) (hl : cs.length ≤ 100) (h2 : 2 ≤ cs.length) (hs : s.length ≤ lim) (nm : Nat) : Ev cx 77 nm [.str s, .str cs] Mem.nil (.str (trimL cs s)) [] := by
  have hcs : (cs == []) = false := beq_false_of_ne (by intro e; subst e; simp at h2)
  by_cases h0 : s = []
  · subst h0
    have e0 : (([] : List UInt8) == []) = true := rfl
    have e1 : trimL cs [] = [] := rfl
    refine ev_go rfl (fun cargs w => Tryz.call77 cargs w) Tryz.func77 rfl mixed (by kernel_rfl) rfl ?_; intro b0 hb0
    (repeat' first | simp only [fins,mems,Tryz.results77,Tryz.ntmps77,Kt,wks,e0,e1,vcs,Ka,Kb,Kc,Kd,Ke,Kf,Kg,Kh,Ki,Kj,Kk,Kl,Km,reduceCtorEq,reduceIte,Kn,Ko,Kp,Kq,Kr,Ks,tys] | exact rfl | refine call_off (v := .any) ?_ | ((first | apply cond_bool | apply cond_bit) <;> intro hb) | refine And.intro (by omega) ?_ | refine And.intro (fun hb => ?_) (fun hb => ?_) | refine Fin.pure ?_ ?_ ?_ | simp only [injs])
  · have e0 : (s == []) = false := beq_false_of_ne h0
    have e2 : ((cs.length : Int) == 1) = false := beq_false_of_ne (by omega)
    refine ev_go rfl (fun cargs w => Tryz.call77 cargs w) Tryz.func77 rfl mixed (by kernel_rfl) rfl ?_; intro b0 hb0
    (repeat' first | simp only [fins,mems,Tryz.results77,Tryz.ntmps77,Kt,wks,e0,hcs,e2,as_lit,as_take,as_drop,as_one,fin_as,finOk_as,leL_as,asRow_length,plain_as,plain_asL,vcs,Ka,Kb,Kc,Kd,Ke,Kf,Kg,Kh,Ki,Kj,Kk,Kl,Km,reduceCtorEq,reduceIte,Kn,Ko,Kp,Kq,Kr,Ks,tys] | exact rfl | refine call_off (v := .any) ?_ | (first | (refine call_fn ?_ (ascii_ev cs h hl _) ?_) | (refine call_fn_g ?_ (fun _ => ascii_ev cs h hl _) ?_)) | ((refine call_fn_vx (xs := ?_) [b0 + 320] ?_ ?_ ?_ rfl (trimLeft_ev cs s hs _) ?_); rotate_left 1) | omega | ((first | apply cond_bool | apply cond_bit) <;> intro hb) | refine And.intro (by omega) ?_ | refine And.intro (fun hb => ?_) (fun hb => ?_) | refine Fin.pure ?_ ?_ ?_ | simp only [injs])
theorem idxSB_ev (s : List UInt8) (c : UInt8) (nm : Nat) : Ev cx 43 nm [.str s, .int .u8 c.toNat] Mem.nil (.int .i64 (indexByte s c)) [] := by
  refine ev_go rfl (fun cargs w => Tryz.call43 cargs w) Tryz.func43 rfl mixed (by kernel_rfl) rfl ?_; intro b0 hb0
  (repeat' first | simp only [fins,mems,Tryz.results43,Tryz.ntmps43,Kt,wks,vcs,Ka,Kb,Kc,Kd,Ke,Kf,Kg,Kh,Ki,Kj,Kk,Kl,Km,reduceCtorEq,reduceIte,Kn,Ko,Kp,Kq,Kr,Ks,tys] | exact rfl | refine call_off (v := .any) ?_ | (first | (refine call_fn ?_ (idxB_ev s c _) ?_) | (refine call_fn_g ?_ (fun _ => idxB_ev s c _) ?_)) | ((first | apply cond_bool | apply cond_bit) <;> intro hb) | refine And.intro (by omega) ?_ | refine And.intro (fun hb => ?_) (fun hb => ?_) | refine Fin.pure ?_ ?_ ?_ | simp only [injs])
theorem enc_last {z : Int} (h0 : 128 ≤ z) (hm : may z = true) : ∃ (l : List UInt8) (c : UInt8), (Utf8.encode z).data.toList = l ++ [c] ∧ 128 ≤ c.toNat ∧ 1 ≤ l.length ∧ l.length ≤ 3 := by
  have hz := (may_iff z).1 hm
  have hv : Utf8.valid z = true := by unfold Utf8.valid; simp; omega
  have mm : ∀ n : Nat, 128 ≤ (UInt8.ofNat (128 + n % 64)).toNat := fun n => by simp; omega
  unfold Utf8.encode
  simp only [hv,if_true]
  rw [if_neg (by omega)]
  split
  · exact ⟨[_], _, rfl, mm _, by simp, by simp⟩
  · split
    · exact ⟨[_, _], _, rfl, mm _, by simp, by simp⟩
    · exact ⟨[_, _, _], _, rfl, mm _, by simp, by simp⟩
theorem ascii4 {c : UInt8} (h : 128 ≤ c.toNat) : ∀ k, c ∉ blanks4.drop k := by
  intro k hc
  have h1 := List.mem_of_mem_drop hc
  unfold blanks4 at h1
  simp only [List.mem_cons,List.not_mem_nil,or_false] at h1
  rcases h1 with rfl | rfl | rfl | rfl <;> exact absurd h (by decide)
theorem idx_none {d : UInt8} {s : List UInt8} (h : d ∉ s) : indexByte s d = -1 := index1_none.2 (cut1_none.2 h)
def idxR (z : Int) : Int := if z < 128 then indexByte blanks4 (UInt8.ofNat z.toNat) else -1
theorem idxRune_ev (z : Int) (hm : may z = true) (nm : Nat) : Ev cx 103 nm [.str [32, 9, 10, 13], .int .i32 z] Mem.nil (.int .i64 (idxR z)) [] := by
  have hz := (may_iff z).1 hm
  have hr := may_range hm
  have d0 : decide (0 ≤ z) = true := decide_eq_true hr.1
  by_cases c1 : z < 128
  · have d1 : decide (z < 128) = true := decide_eq_true c1
    have hw : IntKind.u8.wrap z = ((UInt8.ofNat z.toNat).toNat : Int) := by rw [IntWalk.u8_in _ (by omega)]; simp; omega
    have hi := idxSB_ev blanks4 (UInt8.ofNat z.toNat)
    have hx : idxR z = indexByte blanks4 (UInt8.ofNat z.toNat) := if_pos c1
    rw [hx]
    unfold blanks4 at hi ⊢
    generalize UInt8.ofNat z.toNat = g at hw hi
    refine ev_go rfl (fun cargs w => Tryz.call103 cargs w) Tryz.func103 rfl mixed (by kernel_rfl) rfl ?_; intro b0 hb0
    (repeat' first | simp only [fins,mems,Tryz.results103,Tryz.ntmps103,Kt,wks,d0,d1,hw,vcs,Ka,Kb,Kc,Kd,Ke,Kf,Kg,Kh,Ki,Kj,Kk,Kl,Km,reduceCtorEq,reduceIte,Kn,Ko,Kp,Kq,Kr,Ks,tys] | exact rfl | refine call_off (v := .any) ?_ | (first | (refine call_fn ?_ (hi _) ?_) | (refine call_fn_g ?_ (fun _ => hi _) ?_)) | refine draw_end (by decide +kernel) ?_ | ((first | apply cond_bool | apply cond_bit) <;> intro hb) | refine And.intro (by omega) ?_ | refine And.intro (fun hb => ?_) (fun hb => ?_) | refine Fin.pure ?_ ?_ ?_ | simp only [injs])
  have d1 : decide (z < 128) = false := decide_eq_false c1
  have hx : idxR z = -1 := if_neg c1
  rw [hx]
  by_cases c2 : z = 65533
  · subst c2
    refine ev_go rfl (fun cargs w => Tryz.call103 cargs w) Tryz.func103 rfl mixed (by kernel_rfl) rfl ?_; intro b0 hb0
    repeat' first | simp only [fins,mems,Tryz.results103,Tryz.ntmps103,Kt,wks,d0,d1,vcs,Ka,Kb,Kc,Kd,Ke,Kf,Kg,Kh,Ki,Kj,Kk,Kl,Km,reduceCtorEq,reduceIte,Kn,Ko,Kp,Kq,Kr,Ks,tys] | exact rfl | refine call_off (v := .any) ?_ | (refine ext_range (s := ?_) ?_ ?_ ?_; rotate_left 1; (iterate 2 (focus (simp only [Tryz.results103,Tryz.ntmps103,Kt,wks,d0,d1,vcs,Ka,Kb,Kc,Kd,Ke,Kf,Kg,Kh,Ki,Kj,Kk,Kl,Km,reduceCtorEq,reduceIte,Kn,Ko,Kp,Kq,Kr,Ks,tys] <;> exact rfl)))) | (refine extG_true ?_) | (refine extG_false ?_) | refine draw_end (by decide +kernel) ?_ | ((first | apply cond_bool | apply cond_bit) <;> intro hb) | refine And.intro (by omega) ?_ | refine And.intro (fun hb => ?_) (fun hb => ?_)
    (refine loop_can2 cxG (fun x : Nat => 4 - x) (fun x => x ≤ 4) (b0 + 16) (fun x => [(175, .ptr b0 0 0)]) (fun x => [(b0, iterK [32, 9, 10, 13] x)]) (0) [some (b0 + 192)] ?_ ?_ ?_ ?_; rotate_left 1; (focus (show b0 ≤ _; omega)); (focus (refine ⟨?_, ?_⟩ <;> (try simp only [cans,ren_iter,renOk_iter,vcs,Ka,Kb,Kc,Kd,Ke,Kf,Kg,Kh,Ki,Kj,Kk,Kl,Km,reduceCtorEq,reduceIte,Kn,Ko,Kp,Kq,Kr,Ks,tys,injs]) <;> (try omega))); rotate_left 1)
    · exact Nat.zero_le _
    · intro p hp
      by_cases hlt : p < 4
      · have hd : p < ([32, 9, 10, 13] : List UInt8).length := hlt
        have hrn : runeAt [32, 9, 10, 13] p = ((([32, 9, 10, 13] : List UInt8)[p]?.getD 0).toNat, 1) ∧ ((([32, 9, 10, 13] : List UInt8)[p]?.getD 0).toNat : Int) ≠ 65533 := by
          rcases (show p = 0 ∨ p = 1 ∨ p = 2 ∨ p = 3 by omega) with rfl | rfl | rfl | rfl <;> decide +kernel
        obtain ⟨hr1, hr2⟩ := hrn
        have hr3 : (runeAt [32, 9, 10, 13] p).2 = 1 := by rw [hr1]
        have hq : (((runeAt [32, 9, 10, 13] p).1 : Int) == 65533) = false := by rw [hr1]; exact beq_false_of_ne hr2
        repeat' first | simp only [fins,mems,Tryz.results103,Tryz.ntmps103,Kt,wks,hd,hlt,hq,hr3,List.length_cons,List.length_nil,vcs,Ka,Kb,Kc,Kd,Ke,Kf,Kg,Kh,Ki,Kj,Kk,Kl,Km,reduceCtorEq,reduceIte,Kn,Ko,Kp,Kq,Kr,Ks,tys] | exact rfl | refine call_off (v := .any) ?_ | (refine ext_next (s := ?_) (y := ?_) (p := ?_) ?_ ?_ ?_ ?_; rotate_left 3; (iterate 2 (focus (simp only [Tryz.results103,Tryz.ntmps103,Kt,wks,hd,hlt,hq,hr3,List.length_cons,List.length_nil,vcs,Ka,Kb,Kc,Kd,Ke,Kf,Kg,Kh,Ki,Kj,Kk,Kl,Km,reduceCtorEq,reduceIte,Kn,Ko,Kp,Kq,Kr,Ks,tys] <;> exact rfl))); (focus (simp only [Tryz.results103,Tryz.ntmps103,Kt,wks,hd,hlt,hq,hr3,List.length_cons,List.length_nil,vcs,Ka,Kb,Kc,Kd,Ke,Kf,Kg,Kh,Ki,Kj,Kk,Kl,Km,reduceCtorEq,reduceIte,Kn,Ko,Kp,Kq,Kr,Ks,tys] <;> omega))) | (refine extG_true ?_) | (refine extG_false ?_) | refine draw_end (by decide +kernel) ?_ | refine And.intro (by omega) ?_
        all_goals ((refine again_can2 cxG (p + 1) [some b0] ?_ ?_ ?_ ?_; rotate_left 2; (focus (show b0 ≤ _; omega)); (focus (refine ⟨?_, ?_⟩ <;> (try simp only [cans,ren_iter,renOk_iter,hr3,vcs,Ka,Kb,Kc,Kd,Ke,Kf,Kg,Kh,Ki,Kj,Kk,Kl,Km,reduceCtorEq,reduceIte,Kn,Ko,Kp,Kq,Kr,Ks,tys,injs]) <;> (try omega)))))
        all_goals (first | (show 4 - (p + 1) < 4 - p; omega) | (show p + 1 ≤ 4; omega) | skip)
      · have hpe : p = 4 := by omega
        subst hpe
        (repeat' first | simp only [fins,mems,Tryz.results103,Tryz.ntmps103,Kt,wks,List.length_cons,List.length_nil,vcs,Ka,Kb,Kc,Kd,Ke,Kf,Kg,Kh,Ki,Kj,Kk,Kl,Km,reduceCtorEq,reduceIte,Kn,Ko,Kp,Kq,Kr,Ks,tys] | exact rfl | refine call_off (v := .any) ?_ | (refine ext_over (s := ?_) (y := ?_) (p := ?_) ?_ ?_ ?_ ?_; rotate_left 3; (iterate 2 (focus (simp only [Tryz.results103,Tryz.ntmps103,Kt,wks,List.length_cons,List.length_nil,vcs,Ka,Kb,Kc,Kd,Ke,Kf,Kg,Kh,Ki,Kj,Kk,Kl,Km,reduceCtorEq,reduceIte,Kn,Ko,Kp,Kq,Kr,Ks,tys] <;> exact rfl))); (focus (simp only [Tryz.results103,Tryz.ntmps103,Kt,wks,List.length_cons,List.length_nil,vcs,Ka,Kb,Kc,Kd,Ke,Kf,Kg,Kh,Ki,Kj,Kk,Kl,Km,reduceCtorEq,reduceIte,Kn,Ko,Kp,Kq,Kr,Ks,tys] <;> omega))) | (refine extG_true ?_) | (refine extG_false ?_) | refine draw_end (by decide +kernel) ?_ | ((first | apply cond_bool | apply cond_bit) <;> intro hb) | refine And.intro (by omega) ?_ | refine And.intro (fun hb => ?_) (fun hb => ?_) | refine Fin.pure ?_ ?_ ?_ | simp only [injs])
  · have d2 : (z == 65533) = false := beq_false_of_ne c2
    have hv : validB z = true := by
      unfold validB
      simp only [Bool.or_eq_true,Bool.and_eq_true,decide_eq_true_eq]; omega
    have hve := valid_ev z
    rw [hv] at hve
    obtain ⟨l, c, h1, h2, h3, h4⟩ := enc_last (by omega) hm
    have hll : (l ++ [c]).length = l.length + 1 := by simp
    have hgl : (l ++ [c])[l.length]? = some c := by simp
    have hw1 : IntKind.i64.wrap (((l.length + 1 : Nat) : Int) - 1) = (l.length : Int) := by rw [wrap_in (by omega) (by omega)]; omega
    have hw2 : IntKind.i64.wrap ((l.length : Int) + 1 - 1) = (l.length : Int) := by rw [wrap_in (by omega) (by omega)]; omega
    refine ev_go rfl (fun cargs w => Tryz.call103 cargs w) Tryz.func103 rfl mixed (by kernel_rfl) rfl ?_; intro b0 hb0
    repeat' first | simp only [fins,mems,Tryz.results103,Tryz.ntmps103,Kt,wks,d0,d1,d2,h1,hll,hw1,hw2,Bool.not_true,vcs,Ka,Kb,Kc,Kd,Ke,Kf,Kg,Kh,Ki,Kj,Kk,Kl,Km,reduceCtorEq,reduceIte,Kn,Ko,Kp,Kq,Kr,Ks,tys] | exact rfl | refine call_off (v := .any) ?_ | (first | (refine call_fn ?_ (hve _) ?_) | (refine call_fn_g ?_ (fun _ => hve _) ?_)) | refine draw_end (by decide +kernel) ?_ | ((first | apply cond_bool | apply cond_bit) <;> intro hb) | refine And.intro (by omega) ?_ | refine And.intro (fun hb => ?_) (fun hb => ?_)
    (refine loop_can2 cxG (fun x : Nat => x) (fun _ => True) (b0 + 16) (fun x => [(0, .str [32, 9, 10, 13]), (7, .str (l ++ [c])), (8, .int .i64 l.length), (9, .int .i64 l.length)]) (fun x => []) (0) [] ?_ ?_ ?_ ?_; rotate_left 1; (focus (show b0 ≤ _; omega)); (focus (refine ⟨?_, ?_⟩ <;> (try simp only [cans,h1,vcs,Ka,Kb,Kc,Kd,Ke,Kf,Kg,Kh,Ki,Kj,Kk,Kl,Km,reduceCtorEq,reduceIte,Kn,Ko,Kp,Kq,Kr,Ks,tys,injs]) <;> (try omega))); rotate_left 1)
    · trivial
    · intro x _
      have hlt4 : decide ((l.length : Int) < 4) = true := decide_eq_true (by omega)
      have hlt4' : decide (l.length < 4) = true := decide_eq_true (by omega)
      have hl4 : l.length < 4 := by omega
      obtain ⟨d, hd⟩ : ∃ d, ([32, 9, 10, 13] : List UInt8)[l.length]? = some d := ⟨_, List.getElem?_eq_getElem (by simp; omega)⟩
      have hdc : (!((d.toNat : Int) == (c.toNat : Int))) = true := by
        have hda : d.toNat < 128 := by
          have := List.mem_of_getElem? hd
          simp only [List.mem_cons,List.not_mem_nil,or_false] at this
          rcases this with rfl | rfl | rfl | rfl <;> decide
        rw [beq_false_of_ne (by omega)]; rfl
      have hdc' : ((d.toNat : Int) != (c.toNat : Int)) = true := hdc
      have hw3 : IntKind.i64.wrap ((l.length : Int) + 1) = ((l.length + 1 : Nat) : Int) := wrap_in (by omega) (by omega)
      have hs1 : ((l.length + 1 : Nat) : Int) ≤ 4 := by omega
      have hs2 : l.length + 1 ≤ 4 := by omega
      have hs3 : l.length < l.length + 1 := by omega
      have hix := idxSB_ev (([32, 9, 10, 13] : List UInt8).drop (l.length + 1)) c
      have hi0 : indexByte (([32, 9, 10, 13] : List UInt8).drop (l.length + 1)) c = -1 := idx_none (ascii4 h2 (l.length + 1))
      rw [hi0] at hix
      (repeat' first | simp only [fins,mems,Tryz.results103,Tryz.ntmps103,Kt,wks,hll,hgl,hlt4,hlt4',hl4,hd,hdc,hdc',hw3,hs1,hs2,hs3,List.length_cons,List.length_nil,vcs,Ka,Kb,Kc,Kd,Ke,Kf,Kg,Kh,Ki,Kj,Kk,Kl,Km,reduceCtorEq,reduceIte,Kn,Ko,Kp,Kq,Kr,Ks,tys] | exact rfl | refine call_off (v := .any) ?_ | (first | (refine call_fn ?_ (hix _) ?_) | (refine call_fn_g ?_ (fun _ => hix _) ?_)) | refine draw_end (by decide +kernel) ?_ | refine And.intro (by omega) ?_ | refine Fin.pure ?_ ?_ ?_ | simp only [injs])
def blankZ (z : Int) : Bool := decide (z = 32 ∨ z = 9 ∨ z = 10 ∨ z = 13)
theorem idxR_blank {z : Int} (hm : may z = true) : decide (0 ≤ idxR z) = blankZ z := by
  have hr := may_range hm
  unfold idxR blankZ
  by_cases c1 : z < 128
  · rw [if_pos c1]
    have key : ∀ n : Fin 128, decide (0 ≤ indexByte blanks4 (UInt8.ofNat n.val)) = decide (n.val = 32 ∨ n.val = 9 ∨ n.val = 10 ∨ n.val = 13) := by decide +kernel
    have := key ⟨z.toNat, by omega⟩
    rw [this]
    rw [decide_eq_decide]
    simp only; omega
  · rw [if_neg c1]
    rw [decide_eq_decide]; omega
theorem hasRune_ev (z : Int) (hm : may z = true) (nm : Nat) : Ev cx 80 nm [.str [32, 9, 10, 13], .int .i32 z] Mem.nil (.bool (blankZ z)) [] := by
  have h := idxR_blank hm
  refine ev_go rfl (fun cargs w => Tryz.call80 cargs w) Tryz.func80 rfl mixed (by kernel_rfl) rfl ?_; intro b0 hb0
  (repeat' first | simp only [fins,mems,Tryz.results80,Tryz.ntmps80,Kt,wks,h,vcs,Ka,Kb,Kc,Kd,Ke,Kf,Kg,Kh,Ki,Kj,Kk,Kl,Km,reduceCtorEq,reduceIte,Kn,Ko,Kp,Kq,Kr,Ks,tys] | exact rfl | refine call_off (v := .any) ?_ | (first | (refine call_fn ?_ (idxRune_ev z hm _) ?_) | (refine call_fn_g ?_ (fun _ => idxRune_ev z hm _) ?_)) | ((first | apply cond_bool | apply cond_bit) <;> intro hb) | refine And.intro (by omega) ?_ | refine And.intro (fun hb => ?_) (fun hb => ?_) | refine Fin.pure ?_ ?_ ?_ | simp only [injs])
def flatZ (z : Int) : Int := if blankZ z = true then 32 else z
theorem flat_ev (z : Int) (hm : may z = true) (nm : Nat) : Ev cx 79 nm [.int .i32 z] Mem.nil (.int .i32 (flatZ z)) [] := by
  have h := hasRune_ev z hm
  unfold flatZ
  generalize blankZ z = b at h ⊢
  cases b <;> (
    refine ev_go rfl (fun cargs w => Tryz.call79 cargs w) Tryz.func79 rfl mixed (by kernel_rfl) rfl ?_; intro b0 hb0
    (repeat' first | simp only [fins,mems,Tryz.results79,Tryz.ntmps79,Kt,wks,if_true,Bool.false_eq_true,if_false,vcs,Ka,Kb,Kc,Kd,Ke,Kf,Kg,Kh,Ki,Kj,Kk,Kl,Km,reduceCtorEq,reduceIte,Kn,Ko,Kp,Kq,Kr,Ks,tys] | exact rfl | refine call_off (v := .any) ?_ | (first | (refine call_fn ?_ (h _) ?_) | (refine call_fn_g ?_ (fun _ => h _) ?_)) | ((first | apply cond_bool | apply cond_bit) <;> intro hb) | refine And.intro (by omega) ?_ | refine And.intro (fun hb => ?_) (fun hb => ?_) | refine Fin.pure ?_ ?_ ?_ | simp only [injs]))
theorem of1_no (z : Int) (hm : may z = false) (q y : Nat) (bs : List UInt8) (M : Mem) (nm : Nat) (hqy : q ≠ y) (hq : M q = some ⟨1, [[.own y 0 bs.length]]⟩) (hy : M y = some (rK bs)) (ho : ∀ w, (M w).isSome = true → w ∈ [q, y]) (hqn : q < nm) (hyn : y < nm) : Ev cx 107 nm [.int .i64 z, .ptr q 0 0] M (.bool false) [(q, some ⟨1, [[.own y 0 bs.length]]⟩), (y, some (rK bs))] := by
  have hmay := tMay_ev z
  rw [hm] at hmay
  refine ev_go rfl (fun cargs w => Tryz.call107 cargs w) Tryz.func107 rfl mixed (by kernel_rfl) rfl ?_; intro b0 hb0
  have ly : y < b0 := below_of hb0 (by rw [hy]; rfl)
  have y0 := lt_ne ly; have y1 := lt_ne_add ly; have y2 := lt_ne' ly; have y3 := lt_ne_add' ly
  have lq : q < b0 := below_of hb0 (by rw [hq]; rfl)
  have z0 := lt_ne lq; have z1 := lt_ne_add lq; have z2 := lt_ne' lq; have z3 := lt_ne_add' lq
  have n1 := eq_false hqy; have n4 := eq_false (Ne.symm hqy)
  repeat' first | simp only [fins,mems,Tryz.results107,Tryz.ntmps107,Kt,wks,Bool.not_false,vcs,Ka,Kb,Kc,Kd,Ke,Kf,Kg,Kh,Ki,Kj,Kk,Kl,Km,reduceCtorEq,reduceIte,Kn,Ko,Kp,Kq,Kr,Ks,tys] | exact rfl | refine call_off (v := .any) ?_ | (first | (refine call_fn ?_ (hmay _) ?_) | (refine call_fn_g ?_ (fun _ => hmay _) ?_)) | ((first | apply cond_bool | apply cond_bit) <;> intro hb) | refine And.intro (by omega) ?_ | refine And.intro (fun hb => ?_) (fun hb => ?_)
  all_goals ((refine Fin.give [(q, none), (y, none)] [] ?_ ?_ ?_ ?_ ?_ (fun q hq => by have hqq := ho q hq; first | (simp only [gives,tgt,List.map_cons,List.map_nil,List.mem_cons,List.not_mem_nil,or_false] at hqq ⊢; omega) | (simp only [gives,tgt,List.map_cons,List.map_nil,List.mem_cons,List.not_mem_nil,or_false] at hqq)) <;> (try simp only [Tryz.results107,Tryz.ntmps107,wks,hq,hy,rK_def,ren_bytesI,renOk_bytesI,z0,z1,z2,z3,y0,y1,y2,y3,n1,n4,giv,vcs,Ka,Kb,Kc,Kd,Ke,Kf,Kg,Kh,Ki,Kj,Kk,Kl,Km,reduceCtorEq,reduceIte,Kn,Ko,Kp,Kq,Kr,Ks,tys]) <;> (try simp only [injs]) <;> (try omega)))
theorem of1_yes (z : Int) (hm : may z = true) (q y : Nat) (bs : List UInt8) (hbs : bs.length ≤ 1000000) (M : Mem) (nm : Nat) (hqy : q ≠ y) (hq : M q = some ⟨1, [[.own y 0 bs.length]]⟩) (hy : M y = some (rK bs)) (ho : ∀ w, (M w).isSome = true → w ∈ [q, y]) (hqn : q < nm) (hyn : y < nm) : Ev cx 107 nm [.int .i64 z, .ptr q 0 0] M (.bool true) [(y, none), (q, some ⟨1, [[.own nm 0 (bs.length + (encodeRune z).length)]]⟩), (nm, some (rK (bs ++ encodeRune z)))] := by
  have hmay := tMay_ev z
  rw [hm] at hmay
  have hmz := (may_iff z).1 hm
  have hw : IntKind.i32.wrap z = z := IntWalk.i32_in _ (by omega)
  refine ev_go rfl (fun cargs w => Tryz.call107 cargs w) Tryz.func107 rfl mixed (by kernel_rfl) rfl ?_; intro b0 hb0
  have ly : y < b0 := below_of hb0 (by rw [hy]; rfl)
  have y0 := lt_ne ly; have y1 := lt_ne_add ly; have y2 := lt_ne' ly; have y3 := lt_ne_add' ly
  have lq : q < b0 := below_of hb0 (by rw [hq]; rfl)
  have z0 := lt_ne lq; have z1 := lt_ne_add lq; have z2 := lt_ne' lq; have z3 := lt_ne_add' lq
  have n1 := eq_false hqy; have n4 := eq_false (Ne.symm hqy)
  repeat' first | simp only [fins,mems,Tryz.results107,Tryz.ntmps107,Kt,wks,hw,hq,hy,z0,z1,z2,z3,y0,y1,y2,y3,n1,n4,fresh_self,Bool.not_true,vcs,Ka,Kb,Kc,Kd,Ke,Kf,Kg,Kh,Ki,Kj,Kk,Kl,Km,reduceCtorEq,reduceIte,Kn,Ko,Kp,Kq,Kr,Ks,tys] | exact rfl | refine call_off (v := .any) ?_ | (first | (refine call_fn ?_ (hmay _) ?_) | (refine call_fn_g ?_ (fun _ => hmay _) ?_)) | (refine call_fn_full ?_ [y] (rune_ev z hm y bs hbs _ _ ?_ only_mem (by omega)) ?_ ?_) | ((first | apply cond_bool | apply cond_bit) <;> intro hb) | refine And.intro (by omega) ?_ | refine And.intro (fun hb => ?_) (fun hb => ?_)
  all_goals ((refine Fin.give [(q, none), (b0 + 112, some 0)] [y] ?_ ?_ ?_ ?_ ?_ (fun q hq => by have hqq := ho q hq; first | (simp only [gives,tgt,List.map_cons,List.map_nil,List.mem_cons,List.not_mem_nil,or_false] at hqq ⊢; omega) | (simp only [gives,tgt,List.map_cons,List.map_nil,List.mem_cons,List.not_mem_nil,or_false] at hqq)) <;> (try simp only [Tryz.results107,Tryz.ntmps107,wks,hq,hy,rK_def,ren_bytesI,renOk_bytesI,z0,z1,z2,z3,y0,y1,y2,y3,n1,n4,giv,vcs,Ka,Kb,Kc,Kd,Ke,Kf,Kg,Kh,Ki,Kj,Kk,Kl,Km,reduceCtorEq,reduceIte,Kn,Ko,Kp,Kq,Kr,Ks,tys]) <;> (try simp only [injs]) <;> (try omega)))
theorem enc_take_snoc {zs : List Int} {k : Nat} {z : Int} (h : zs[k]? = some z) : enc (zs.take (k + 1)) = enc (zs.take k) ++ encodeRune z := by
  obtain ⟨hk, rfl⟩ := List.getElem?_eq_some_iff.1 h
  rw [List.take_succ_eq_append_getElem hk, enc_snoc]
theorem of_ev (zs : List Int) (hl : zs.length ≤ 100000) (nm : Nat) : Ev cx 85 nm [.sl false 1 (zs.map intRow)] Mem.nil (.tup [.str (ofText zs), .int .i64 (ofErr zs)]) [] := by
  refine ev_go rfl (fun cargs w => Tryz.call85 cargs w) Tryz.func85 rfl mixed (by kernel_rfl) rfl ?_; intro b0 hb0
  repeat' first | simp only [fins,mems,Tryz.results85,Tryz.ntmps85,Kt,wks,plain_i,List.length_map,vcs,Ka,Kb,Kc,Kd,Ke,Kf,Kg,Kh,Ki,Kj,Kk,Kl,Km,reduceCtorEq,reduceIte,Kn,Ko,Kp,Kq,Kr,Ks,tys] | exact rfl | refine call_off (v := .any) ?_ | ((first | (refine call_val (g := ?_) ?_ ?_) | (refine call_valg (g := ?_) ?_ ?_)); rotate_left 1; (focus (simp only [Tryz.results85,Tryz.ntmps85,Kt,wks,plain_i,List.length_map,vcs,Ka,Kb,Kc,Kd,Ke,Kf,Kg,Kh,Ki,Kj,Kk,Kl,Km,reduceCtorEq,reduceIte,Kn,Ko,Kp,Kq,Kr,Ks,tys] <;> exact rfl))) | ((first | apply cond_bool | apply cond_bit) <;> intro hb) | refine And.intro (by omega) ?_ | refine And.intro (fun hb => ?_) (fun hb => ?_)
  (refine loop_can2 cxG (fun x : Nat => zs.length - x) (fun x => x ≤ zs.length ∧ (zs.take x).all may = true) (b0 + 16) (fun x => [(4, .ptr b0 0 0), (5, .fn 107 [.ptr b0 0 0]), (9, .sl false 1 (zs.map intRow)), (10, .int .i64 zs.length), (11, .int .i64 x)]) (fun x => [(b0, ⟨1, [[.own (b0 + 1) 0 (enc (zs.take x)).length]]⟩), (b0 + 1, rK (enc (zs.take x)))]) (0) [some (b0 + 32), none] ?_ ?_ ?_ ?_; rotate_left 1; (focus (show b0 ≤ _; omega)); (focus (refine ⟨?_, ?_⟩ <;> (try simp only [cans,plain_i,rK_def,ren_bytesI,renOk_bytesI,isRow_typed,isRow_inst,List.take_zero,List.map_nil,List.length_nil,List.length_map,show enc [] = [] from rfl,vcs,Ka,Kb,Kc,Kd,Ke,Kf,Kg,Kh,Ki,Kj,Kk,Kl,Km,reduceCtorEq,reduceIte,Kn,Ko,Kp,Kq,Kr,Ks,tys,injs]) <;> (try omega))); rotate_left 1)
  · exact ⟨Nat.zero_le _, rfl⟩
  · rintro k ⟨hk, hall⟩
    have hel := enc_length (zs.take k)
    have hkl : (zs.take k).length = k := by rw [List.length_take]; omega
    by_cases hlt : k < zs.length
    · obtain ⟨z, hz⟩ : ∃ z, zs[k]? = some z := ⟨_, List.getElem?_eq_getElem hlt⟩
      have hh : (zs.map intRow)[k]? = some (intRow z) := by rw [List.getElem?_map, hz]; rfl
      have hd : decide (k < zs.length) = true := decide_eq_true hlt
      have hwk : IntKind.i64.wrap ((k : Int) + 1) = ((k + 1 : Nat) : Int) := wrap_in (by omega) (by omega)
      have hgd : zs.getD k 0 = z := by rw [List.getD_eq_getElem?_getD, hz]; rfl
      cases hm : may z with
      | false =>
        have he : ofErr zs = 50 := ofErr_bad hlt (by rw [hgd]; exact hm)
        have ht : ofText zs = [] := by unfold ofText; rw [he]; rfl
        (repeat' first | simp only [fins,mems,Tryz.results85,Tryz.ntmps85,Kt,wks,hh,hd,hlt,he,ht,intRow,List.length_map,Bool.not_false,vcs,Ka,Kb,Kc,Kd,Ke,Kf,Kg,Kh,Ki,Kj,Kk,Kl,Km,reduceCtorEq,reduceIte,Kn,Ko,Kp,Kq,Kr,Ks,tys] | exact rfl | refine call_off (v := .any) ?_ | ((refine call_full (caps := ?_) ?_ ?_ [b0, b0 + 1] (of1_no z hm b0 (b0 + 1) (enc (zs.take k)) _ _ (by omega) ?_ ?_ only_mem (by omega) (by omega)) ?_ ?_); rotate_left 1) | ((first | (refine call_val (g := ?_) ?_ ?_) | (refine call_valg (g := ?_) ?_ ?_)); rotate_left 1; (focus (simp only [Tryz.results85,Tryz.ntmps85,Kt,wks,hh,hd,hlt,he,ht,intRow,List.length_map,Bool.not_false,vcs,Ka,Kb,Kc,Kd,Ke,Kf,Kg,Kh,Ki,Kj,Kk,Kl,Km,reduceCtorEq,reduceIte,Kn,Ko,Kp,Kq,Kr,Ks,tys] <;> exact rfl))) | ((first | apply cond_bool | apply cond_bit) <;> intro hb) | refine And.intro (by omega) ?_ | refine And.intro (fun hb => ?_) (fun hb => ?_) | refine Fin.pure ?_ ?_ ?_ | simp only [injs])
      | true =>
        have hnx := enc_take_snoc hz
        have hnl : (enc (zs.take k)).length + (encodeRune z).length = (enc (zs.take (k + 1))).length := by rw [hnx, List.length_append]
        have has := all_snoc hlt hall (by rw [hgd]; exact hm)
        repeat' first | simp only [fins,mems,Tryz.results85,Tryz.ntmps85,Kt,wks,hh,hd,hlt,intRow,fresh_self,List.length_map,Bool.not_true,vcs,Ka,Kb,Kc,Kd,Ke,Kf,Kg,Kh,Ki,Kj,Kk,Kl,Km,reduceCtorEq,reduceIte,Kn,Ko,Kp,Kq,Kr,Ks,tys] | exact rfl | refine call_off (v := .any) ?_ | ((refine call_full (caps := ?_) ?_ ?_ [b0, b0 + 1] (of1_yes z hm b0 (b0 + 1) (enc (zs.take k)) (by omega) _ _ (by omega) ?_ ?_ only_mem (by omega) (by omega)) ?_ ?_); rotate_left 1) | ((first | (refine call_val (g := ?_) ?_ ?_) | (refine call_valg (g := ?_) ?_ ?_)); rotate_left 1; (focus (simp only [Tryz.results85,Tryz.ntmps85,Kt,wks,hh,hd,hlt,intRow,fresh_self,List.length_map,Bool.not_true,vcs,Ka,Kb,Kc,Kd,Ke,Kf,Kg,Kh,Ki,Kj,Kk,Kl,Km,reduceCtorEq,reduceIte,Kn,Ko,Kp,Kq,Kr,Ks,tys] <;> exact rfl))) | ((first | apply cond_bool | apply cond_bit) <;> intro hb) | refine And.intro (by omega) ?_ | refine And.intro (fun hb => ?_) (fun hb => ?_)
        all_goals ((refine again_can2 cxG (k + 1) [some b0, some (b0 + 112)] ?_ ?_ ?_ ?_; rotate_left 2; (focus (show b0 ≤ _; omega)); (focus (refine ⟨?_, ?_⟩ <;> (try simp only [cans,plain_i,hwk,hnx.symm,hnl,rK_def,ren_bytesI,renOk_bytesI,isRow_typed,isRow_inst,List.length_map,vcs,Ka,Kb,Kc,Kd,Ke,Kf,Kg,Kh,Ki,Kj,Kk,Kl,Km,reduceCtorEq,reduceIte,Kn,Ko,Kp,Kq,Kr,Ks,tys,injs]) <;> (try omega)))))
        all_goals (first | (show zs.length - (k + 1) < zs.length - k; omega) | exact ⟨hlt, has⟩ | skip)
    · have hke : k = zs.length := by omega
      subst hke
      rw [List.take_length] at hall hel
      have hd : decide (zs.length < zs.length) = false := decide_eq_false (by omega)
      by_cases hb : 16384 < (enc zs).length
      · have he : ofErr zs = 4 := by unfold ofErr; rw [if_pos hall, if_pos hb]
        have ht : ofText zs = [] := by unfold ofText; rw [he]; rfl
        have hd2 : decide ((16384 : Int) < ((enc zs).length : Int)) = true := decide_eq_true (by omega)
        (repeat' first | simp only [fins,mems,Tryz.results85,Tryz.ntmps85,Kt,wks,hd,hd2,he,ht,List.take_length,List.length_map,vcs,Ka,Kb,Kc,Kd,Ke,Kf,Kg,Kh,Ki,Kj,Kk,Kl,Km,reduceCtorEq,reduceIte,Kn,Ko,Kp,Kq,Kr,Ks,tys] | exact rfl | refine call_off (v := .any) ?_ | ((first | (refine call_val (g := ?_) ?_ ?_) | (refine call_valg (g := ?_) ?_ ?_)); rotate_left 1; (focus (simp only [Tryz.results85,Tryz.ntmps85,Kt,wks,hd,hd2,he,ht,List.take_length,List.length_map,vcs,Ka,Kb,Kc,Kd,Ke,Kf,Kg,Kh,Ki,Kj,Kk,Kl,Km,reduceCtorEq,reduceIte,Kn,Ko,Kp,Kq,Kr,Ks,tys] <;> exact rfl))) | ((first | apply cond_bool | apply cond_bit) <;> intro hb) | refine And.intro (by omega) ?_ | refine And.intro (fun hb => ?_) (fun hb => ?_) | refine Fin.pure ?_ ?_ ?_ | simp only [injs])
      · have he : ofErr zs = 0 := by unfold ofErr; rw [if_pos hall, if_neg hb]
        have ht : ofText zs = enc zs := by unfold ofText; rw [he]; rfl
        have hd2 : decide ((16384 : Int) < ((enc zs).length : Int)) = false := decide_eq_false (by omega)
        have htk : ((enc zs).map byteRow).take (enc zs).length = (enc zs).map byteRow := List.take_of_length_le (by simp)
        (repeat' first | simp only [fins,mems,Tryz.results85,Tryz.ntmps85,Kt,wks,hd,hd2,he,ht,htk,rK_def,List.take_length,List.length_map,Nat.le_refl,vcs,Ka,Kb,Kc,Kd,Ke,Kf,Kg,Kh,Ki,Kj,Kk,Kl,Km,reduceCtorEq,reduceIte,Kn,Ko,Kp,Kq,Kr,Ks,tys] | exact rfl | refine call_off (v := .any) ?_ | (refine ext_toStr (v := ?_) (bs := enc zs) ?_ ?_ ?_ ?_ ?_ ?_ ?_; rotate_left 1; (iterate 2 (focus (simp only [Tryz.results85,Tryz.ntmps85,Kt,wks,hd,hd2,he,ht,htk,rK_def,List.take_length,List.length_map,Nat.le_refl,vcs,Ka,Kb,Kc,Kd,Ke,Kf,Kg,Kh,Ki,Kj,Kk,Kl,Km,reduceCtorEq,reduceIte,Kn,Ko,Kp,Kq,Kr,Ks,tys]; done))); (focus (simp only [Tryz.results85,Tryz.ntmps85,Kt,wks,hd,hd2,he,ht,htk,rK_def,List.take_length,List.length_map,Nat.le_refl,vcs,Ka,Kb,Kc,Kd,Ke,Kf,Kg,Kh,Ki,Kj,Kk,Kl,Km,reduceCtorEq,reduceIte,Kn,Ko,Kp,Kq,Kr,Ks,tys] <;> exact rfl)); (focus (exact rfl)); (focus (simp only [mems,Tryz.results85,Tryz.ntmps85,Kt,wks,hd,hd2,he,ht,htk,rK_def,List.take_length,List.length_map,Nat.le_refl,vcs,Ka,Kb,Kc,Kd,Ke,Kf,Kg,Kh,Ki,Kj,Kk,Kl,Km,reduceCtorEq,reduceIte,Kn,Ko,Kp,Kq,Kr,Ks,tys]; done)); (focus (simp only [Tryz.results85,Tryz.ntmps85,Kt,wks,hd,hd2,he,ht,htk,rK_def,List.take_length,List.length_map,Nat.le_refl,vcs,Ka,Kb,Kc,Kd,Ke,Kf,Kg,Kh,Ki,Kj,Kk,Kl,Km,reduceCtorEq,reduceIte,Kn,Ko,Kp,Kq,Kr,Ks,tys] <;> exact rfl))) | (refine extG_true ?_) | (refine extG_false ?_) | ((first | (refine call_val (g := ?_) ?_ ?_) | (refine call_valg (g := ?_) ?_ ?_)); rotate_left 1; (focus (simp only [Tryz.results85,Tryz.ntmps85,Kt,wks,hd,hd2,he,ht,htk,rK_def,List.take_length,List.length_map,Nat.le_refl,vcs,Ka,Kb,Kc,Kd,Ke,Kf,Kg,Kh,Ki,Kj,Kk,Kl,Km,reduceCtorEq,reduceIte,Kn,Ko,Kp,Kq,Kr,Ks,tys] <;> exact rfl))) | ((first | apply cond_bool | apply cond_bit) <;> intro hb) | refine And.intro (by omega) ?_ | refine And.intro (fun hb => ?_) (fun hb => ?_) | refine Fin.pure ?_ ?_ ?_ | simp only [injs])
end Go.Proofs.YtoaclokiggoeiaaGreatDoor
