/-
  Texts joined: XPh.
-/
import Derived.Test.YtoaclokiggoeiaaGreatDoorKw
namespace Go.Proofs.YtoaclokiggoeiaaGreatDoor
set_option maxRecDepth 100000
set_option maxHeartbeats 32000000
set_option linter.unusedSimpArgs false
set_option linter.unusedVariables false
open Nat renaming reduceAdd → Ka, reduceMul → Kb, reduceEqDiff → Kc, reduceLeDiff → Kd, reduceSub → Ke, reduceLT → Kf, reduceBEq → Kr, reduceBNe → Ks, reducePow → Kt
open Int renaming reduceToNat → Kg, reduceLE → Kh, reduceLT → Ki, reduceAdd → Kj, reduceSub → Kk, reduceMul → Kl, reduceNeg → Km, reduceBEq → Kn, reduceBNe → Ko, reduceEq → Kp, reduceNe → Kq
open Go Go.RowKit Go.Proofs.YtoaclokiggoeiaaGreatDoor.Vm Go.Lib
def blankOf (c : UInt8) : UInt8 := if c.toNat % 4 = 0 then 32 else if c.toNat % 4 = 1 then 9 else if c.toNat % 4 = 2 then 10 else 13
theorem blankOf_blank (c : UInt8) : blankB (blankOf c) = true := by
  unfold blankOf
  repeat' split
  all_goals decide
theorem blankOf_at (c : UInt8) : ([32, 9, 10, 13] : List UInt8)[c.toNat % 4]? = some (blankOf c) := by
  have h : c.toNat % 4 < 4 := Nat.mod_lt _ (by decide)
  unfold blankOf
  generalize c.toNat % 4 = k at h ⊢
  match k, h with
  | 0, _ => rfl
  | 1, _ => rfl
  | 2, _ => rfl
  | 3, _ => rfl
theorem blanks_all (gap : List UInt8) : (gap.map blankOf).all blankB = true := by
  rw [List.all_eq_true]
  intro x hx
  obtain ⟨c, _, rfl⟩ := List.mem_map.1 hx
  exact blankOf_blank c
theorem blank_may : ∀ c : UInt8, blankB c = true → c.toNat < 128 ∧ may (c.toNat : Int) = true := by
  have key : ∀ n : Fin 256, blankB (UInt8.ofNat n.val) = true → n.val < 128 ∧ may (n.val : Int) = true := by decide +kernel
  intro c hc
  have := key ⟨c.toNat, c.toNat_lt⟩ (by simpa using hc)
  exact this
theorem dec_blanks {s : List UInt8} (h : s.all blankB = true) : (dec s).isSome = true :=
  dec_low fun c hc => blank_may c (List.all_eq_true.1 h c hc)
theorem parts1 {n S : List UInt8} (hn : fullL n = true) (hS : S.all blankB = true) (h1 : n.length ≤ 100) (h2 : S.length ≤ 100) (T : List UInt8) (hT : T = 60 :: (n ++ (32 :: S) ++ n ++ S ++ 61 :: (S ++ 39 :: ([118] ++ 39 :: (S ++ endW 1))))) : areB T [⟨1, n, [⟨n, [118]⟩], []⟩] = true := by
  subst hT
  have hg := tag_with (k := 1) (.inl rfl) (gap := 32 :: S) (mid := S) (g2 := S) (q := 39) (v := [118]) hn hn (by simp [hS]; decide) (by simp) hS hS (.inl rfl) (by decide) (by unfold toldO; rw [readW_eq 1 _ (by decide)]; decide) S hS
  have hp : ptsErr (60 :: (n ++ (32 :: S) ++ n ++ S ++ 61 :: (S ++ 39 :: ([118] ++ 39 :: (S ++ endW 1))))) = 0 := by
    refine ptsErr_iff.2 ⟨by simp [endW]; omega, ?_⟩
    have e : (60 :: (n ++ (32 :: S) ++ n ++ S ++ 61 :: (S ++ 39 :: ([118] ++ 39 :: (S ++ endW 1))))) = [60] ++ (n ++ ([32] ++ (S ++ (n ++ (S ++ ([61] ++ (S ++ ([39, 118, 39] ++ (S ++ [62]))))))))) := by simp [endW]
    rw [e]
    have dn := dec_full hn
    have ds := dec_blanks hS
    exact dec_add rfl (dec_add dn (dec_add rfl (dec_add ds (dec_add dn (dec_add ds (dec_add rfl (dec_add ds (dec_add rfl (dec_add ds rfl)))))))))
  unfold areB lexA
  rw [if_neg (fun h => h hp), hg]
  exact decide_eq_true rfl
theorem parts2 {n S : List UInt8} (hn : fullL n = true) (hS : S.all blankB = true) (h1 : n.length ≤ 100) (h2 : S.length ≤ 100) (T : List UInt8) (hT : T = 60 :: (n ++ [10] ++ n ++ S ++ 61 :: ([] ++ 34 :: ([118] ++ 34 :: (S ++ endW 3))))) : areB T [⟨3, n, [⟨n, [118]⟩], []⟩] = true := by
  subst hT
  have hg := tag_with (k := 3) (.inr rfl) (gap := [10]) (mid := S) (g2 := []) (q := 34) (v := [118]) hn hn (by decide) (by simp) hS rfl (.inr rfl) (by decide) (by unfold toldO; rw [readW_eq 1 _ (by decide)]; decide) S hS
  have hp : ptsErr (60 :: (n ++ [10] ++ n ++ S ++ 61 :: ([] ++ 34 :: ([118] ++ 34 :: (S ++ endW 3))))) = 0 := by
    refine ptsErr_iff.2 ⟨by simp [endW]; omega, ?_⟩
    have e : (60 :: (n ++ [10] ++ n ++ S ++ 61 :: ([] ++ 34 :: ([118] ++ 34 :: (S ++ endW 3))))) = [60] ++ (n ++ ([10] ++ (n ++ (S ++ ([61, 34, 118, 34] ++ (S ++ [47, 62])))))) := by simp [endW]
    rw [e]
    have dn := dec_full hn
    have ds := dec_blanks hS
    exact dec_add rfl (dec_add dn (dec_add rfl (dec_add dn (dec_add ds (dec_add rfl (dec_add ds rfl))))))
  unfold areB lexA
  rw [if_neg (fun h => h hp), hg]
  exact decide_eq_true rfl
theorem parts3 {n S : List UInt8} (hn : fullL n = true) (hS : S.all blankB = true) (h1 : n.length ≤ 100) (h2 : S.length ≤ 100) (T : List UInt8) (hT : T = 60 :: 47 :: (n ++ S ++ [62])) : areB T [⟨2, n, [], []⟩] = true := by
  subst hT
  have hg := shut_with hn hS
  have hp : ptsErr (60 :: 47 :: (n ++ S ++ [62])) = 0 := by
    refine ptsErr_iff.2 ⟨by simp; omega, ?_⟩
    have e : (60 :: 47 :: (n ++ S ++ [62])) = [60, 47] ++ (n ++ (S ++ [62])) := by simp
    rw [e]
    exact dec_add rfl (dec_add (dec_full hn) (dec_add (dec_blanks hS) rfl))
  unfold areB lexA
  rw [if_neg (fun h => h hp), hg]
  exact decide_eq_true rfl
theorem parts_both {a b : List UInt8} (h1 : a.length ≤ 1000) (h2 : b.length ≤ 1000) (e1 : (lexA a).2.2 = 0) (e2 : (lexA b).2.2 = 0) (hn : (lexA a).1.length + (lexA b).1.length ≤ 512) (hk : ∀ t u, (lexA a).1.getLast? = some t → (lexA b).1.head? = some u → t.kind = 4 → u.kind ≠ 4) : areB (a ++ b) ((lexA a).1 ++ (lexA b).1) = true := by
  unfold areB
  rw [lex_both (x := (lexA a).1) (y := (lexA b).1) (i := (lexA a).2.1) (j := (lexA b).2.1) (by omega) (Prod.ext rfl (Prod.ext rfl e1)) (Prod.ext rfl (Prod.ext rfl e2)) hn hk]
  exact decide_eq_true rfl
theorem lexParts_main (a b name gap : List UInt8) (ha : a.length ≤ lim) (hb : b.length ≤ lim) (hn : name.length ≤ lim) (hg : gap.length ≤ lim) (nm : Nat) : Ev cx 4 nm [.str a, .str b, .str name, .sl false 1 (gap.map byteRow)] Mem.nil (.bool true) [] := by
  by_cases h1 : 1000 < a.length
  · have d1 : decide ((1000 : Int) < (a.length : Int)) = true := decide_eq_true (by omega)
    refine ev_go rfl (fun cargs w => Tryz.call4 cargs w) Tryz.func4 rfl mixed (by kernel_rfl) rfl ?_; intro b0 hb0
    (repeat' first | simp only [fins,mems,Tryz.results4,Tryz.ntmps4,Kt,wks,d1,vcs,Ka,Kb,Kc,Kd,Ke,Kf,Kg,Kh,Ki,Kj,Kk,Kl,Km,reduceCtorEq,reduceIte,Kn,Ko,Kp,Kq,Kr,Ks,tys] | exact rfl | refine call_off (v := .any) ?_ | (first | (refine call_fn ?_ (alive_ev _) ?_) | (refine call_fn_g ?_ (fun _ => alive_ev _) ?_)) | ((first | apply cond_bool | apply cond_bit) <;> intro hb) | refine And.intro (by omega) ?_ | refine And.intro (fun hb => ?_) (fun hb => ?_) | refine Fin.pure ?_ ?_ ?_ | simp only [injs])
  have d1 : decide ((1000 : Int) < (a.length : Int)) = false := decide_eq_false (by omega)
  by_cases h2 : 1000 < b.length
  · have d2 : decide ((1000 : Int) < (b.length : Int)) = true := decide_eq_true (by omega)
    refine ev_go rfl (fun cargs w => Tryz.call4 cargs w) Tryz.func4 rfl mixed (by kernel_rfl) rfl ?_; intro b0 hb0
    (repeat' first | simp only [fins,mems,Tryz.results4,Tryz.ntmps4,Kt,wks,d1,d2,vcs,Ka,Kb,Kc,Kd,Ke,Kf,Kg,Kh,Ki,Kj,Kk,Kl,Km,reduceCtorEq,reduceIte,Kn,Ko,Kp,Kq,Kr,Ks,tys] | exact rfl | refine call_off (v := .any) ?_ | (first | (refine call_fn ?_ (alive_ev _) ?_) | (refine call_fn_g ?_ (fun _ => alive_ev _) ?_)) | ((first | apply cond_bool | apply cond_bit) <;> intro hb) | refine And.intro (by omega) ?_ | refine And.intro (fun hb => ?_) (fun hb => ?_) | refine Fin.pure ?_ ?_ ?_ | simp only [injs])
  have d2 : decide ((1000 : Int) < (b.length : Int)) = false := decide_eq_false (by omega)
  by_cases h3 : 100 < name.length
  · have d3 : decide ((100 : Int) < (name.length : Int)) = true := decide_eq_true (by omega)
    refine ev_go rfl (fun cargs w => Tryz.call4 cargs w) Tryz.func4 rfl mixed (by kernel_rfl) rfl ?_; intro b0 hb0
    (repeat' first | simp only [fins,mems,Tryz.results4,Tryz.ntmps4,Kt,wks,d1,d2,d3,vcs,Ka,Kb,Kc,Kd,Ke,Kf,Kg,Kh,Ki,Kj,Kk,Kl,Km,reduceCtorEq,reduceIte,Kn,Ko,Kp,Kq,Kr,Ks,tys] | exact rfl | refine call_off (v := .any) ?_ | (first | (refine call_fn ?_ (alive_ev _) ?_) | (refine call_fn_g ?_ (fun _ => alive_ev _) ?_)) | ((first | apply cond_bool | apply cond_bit) <;> intro hb) | refine And.intro (by omega) ?_ | refine And.intro (fun hb => ?_) (fun hb => ?_) | refine Fin.pure ?_ ?_ ?_ | simp only [injs])
  have d3 : decide ((100 : Int) < (name.length : Int)) = false := decide_eq_false (by omega)
  by_cases h4 : 100 < gap.length
  · have d4 : decide ((100 : Int) < (gap.length : Int)) = true := decide_eq_true (by omega)
    refine ev_go rfl (fun cargs w => Tryz.call4 cargs w) Tryz.func4 rfl mixed (by kernel_rfl) rfl ?_; intro b0 hb0
    (repeat' first | simp only [fins,mems,Tryz.results4,Tryz.ntmps4,Kt,wks,d1,d2,d3,d4,List.length_map,vcs,Ka,Kb,Kc,Kd,Ke,Kf,Kg,Kh,Ki,Kj,Kk,Kl,Km,reduceCtorEq,reduceIte,Kn,Ko,Kp,Kq,Kr,Ks,tys] | exact rfl | refine call_off (v := .any) ?_ | (first | (refine call_fn ?_ (alive_ev _) ?_) | (refine call_fn_g ?_ (fun _ => alive_ev _) ?_)) | ((first | apply cond_bool | apply cond_bit) <;> intro hb) | refine And.intro (by omega) ?_ | refine And.intro (fun hb => ?_) (fun hb => ?_) | refine Fin.pure ?_ ?_ ?_ | simp only [injs])
  have d4 : decide ((100 : Int) < (gap.length : Int)) = false := decide_eq_false (by omega)
  have hfu := full_ev name hn
  refine ev_go rfl (fun cargs w => Tryz.call4 cargs w) Tryz.func4 rfl mixed (by kernel_rfl) rfl ?_; intro b0 hb0
  repeat' first | simp only [fins,mems,Tryz.results4,Tryz.ntmps4,Kt,wks,d1,d2,d3,d4,Bool.not_true,List.length_map,vcs,Ka,Kb,Kc,Kd,Ke,Kf,Kg,Kh,Ki,Kj,Kk,Kl,Km,reduceCtorEq,reduceIte,Kn,Ko,Kp,Kq,Kr,Ks,tys] | exact rfl | refine call_off (v := .any) ?_ | (first | (refine call_fn ?_ (alive_ev _) ?_) | (refine call_fn_g ?_ (fun _ => alive_ev _) ?_) | (refine call_fn ?_ (hfu _) ?_) | (refine call_fn_g ?_ (fun _ => hfu _) ?_)) | refine And.intro (by omega) ?_ | fail
  refine cond_cut (fun N e M => e 0 = .str a ∧ e 1 = .str b ∧ e 9 = .bool true) ?_ (fun N e M hJ => ?_)
  · cases hfn : fullL name with
    | false =>
      repeat' first | simp only [fins,mems,Tryz.results4,Tryz.ntmps4,Kt,wks,hfn,vcs,Ka,Kb,Kc,Kd,Ke,Kf,Kg,Kh,Ki,Kj,Kk,Kl,Km,reduceCtorEq,reduceIte,Kn,Ko,Kp,Kq,Kr,Ks,tys] | exact rfl | refine call_off (v := .any) ?_ | refine And.intro (by omega) ?_ | fail
      refine cut_end ⟨?_, ?_, ?_⟩ <;> simp only [vcs,Ka,Kb,Kc,Kd,Ke,Kf,Kg,Kh,Ki,Kj,Kk,Kl,Km,reduceCtorEq,reduceIte,Kn,Ko,Kp,Kq,Kr,Ks,tys]
    | true =>
      repeat' first | simp only [fins,mems,Tryz.results4,Tryz.ntmps4,Kt,wks,hfn,vcs,Ka,Kb,Kc,Kd,Ke,Kf,Kg,Kh,Ki,Kj,Kk,Kl,Km,reduceCtorEq,reduceIte,Kn,Ko,Kp,Kq,Kr,Ks,tys] | exact rfl | refine call_off (v := .any) ?_ | refine And.intro (by omega) ?_ | fail
      (refine loop_can2 cxG (fun x : Nat => gap.length - x) (fun x => x ≤ gap.length) (b0 + 16) (fun x => [(0, .str a), (1, .str b), (2, .str name), (3, .sl false 1 (gap.map byteRow)), (9, .bool true), (10, .str ((gap.take x).map blankOf)), (11, .int .i64 x)]) (fun x => []) (0) [] ?_ ?_ ?_ ?_; rotate_left 1; (focus (show b0 ≤ _; omega)); (focus (refine ⟨?_, ?_⟩ <;> (try simp only [cans,plain_bsI,vcs,Ka,Kb,Kc,Kd,Ke,Kf,Kg,Kh,Ki,Kj,Kk,Kl,Km,reduceCtorEq,reduceIte,Kn,Ko,Kp,Kq,Kr,Ks,tys,injs]) <;> (try omega))); rotate_left 1)
      · exact Nat.zero_le _
      · intro i hi
        by_cases hlt : i < gap.length
        · obtain ⟨c, hc⟩ : ∃ c, gap[i]? = some c := ⟨_, List.getElem?_eq_getElem hlt⟩
          have hd : decide (i < gap.length) = true := decide_eq_true hlt
          have hwk : IntKind.i64.wrap ((i : Int) + 1) = ((i + 1 : Nat) : Int) := wrap_in (by omega) (by omega)
          have hrow : (gap.map byteRow)[i]? = some (byteRow c) := by rw [List.getElem?_map, hc]; rfl
          have hnx : (gap.take (i + 1)).map blankOf = (gap.take i).map blankOf ++ [blankOf c] := by
            obtain ⟨hk, rfl⟩ := List.getElem?_eq_some_iff.1 hc
            rw [List.take_succ_eq_append_getElem hk, List.map_append]; rfl
          have hat := blankOf_at c
          have hc4 := Nat.mod_lt c.toNat (show 0 < 4 by decide)
          have htm : (c.toNat : Int).tmod 4 = ((c.toNat % 4 : Nat) : Int) := by rw [Int.tmod_eq_emod_of_nonneg (by omega)]; omega
          have hz0 : (0 : Int) ≤ ((c.toNat % 4 : Nat) : Int) := by omega
          have htl : (gap.take i).length ≤ 100 := by simp; omega
          have hll : ((gap.take i).map blankOf).length ≤ 100 := by simp; omega
          have hl1 : ((gap.take i).map blankOf ++ [blankOf c]).length ≤ 101 := by rw [List.length_append]; simp only [List.length_cons,List.length_nil]; omega
          repeat' first | simp only [fins,mems,Tryz.results4,Tryz.ntmps4,Kt,wks,plain_bsI,hd,hlt,hrow,byteRow,hwk,htm,hz0,hc4,hat,Int.toNat_natCast,List.length_map,vcs,Ka,Kb,Kc,Kd,Ke,Kf,Kg,Kh,Ki,Kj,Kk,Kl,Km,reduceCtorEq,reduceIte,Kn,Ko,Kp,Kq,Kr,Ks,tys] | exact rfl | refine call_off (v := .any) ?_ | (refine ext_toStr (v := ?_) (bs := [blankOf c]) ?_ ?_ ?_ ?_ ?_ ?_ ?_; rotate_left 1; (iterate 2 (focus (simp only [Tryz.results4,Tryz.ntmps4,Kt,wks,plain_bsI,hd,hlt,hrow,byteRow,hwk,htm,hz0,hc4,hat,Int.toNat_natCast,List.length_map,vcs,Ka,Kb,Kc,Kd,Ke,Kf,Kg,Kh,Ki,Kj,Kk,Kl,Km,reduceCtorEq,reduceIte,Kn,Ko,Kp,Kq,Kr,Ks,tys]; done))); (focus (simp only [Tryz.results4,Tryz.ntmps4,Kt,wks,plain_bsI,hd,hlt,hrow,byteRow,hwk,htm,hz0,hc4,hat,Int.toNat_natCast,List.length_map,vcs,Ka,Kb,Kc,Kd,Ke,Kf,Kg,Kh,Ki,Kj,Kk,Kl,Km,reduceCtorEq,reduceIte,Kn,Ko,Kp,Kq,Kr,Ks,tys] <;> exact rfl)); (focus (exact rfl)); (focus (simp only [mems,Tryz.results4,Tryz.ntmps4,Kt,wks,plain_bsI,hd,hlt,hrow,byteRow,hwk,htm,hz0,hc4,hat,Int.toNat_natCast,List.length_map,vcs,Ka,Kb,Kc,Kd,Ke,Kf,Kg,Kh,Ki,Kj,Kk,Kl,Km,reduceCtorEq,reduceIte,Kn,Ko,Kp,Kq,Kr,Ks,tys]; done)); (focus (simp only [Tryz.results4,Tryz.ntmps4,Kt,wks,plain_bsI,hd,hlt,hrow,byteRow,hwk,htm,hz0,hc4,hat,Int.toNat_natCast,List.length_map,vcs,Ka,Kb,Kc,Kd,Ke,Kf,Kg,Kh,Ki,Kj,Kk,Kl,Km,reduceCtorEq,reduceIte,Kn,Ko,Kp,Kq,Kr,Ks,tys] <;> exact rfl))) | (refine extG_true ?_) | (refine extG_false ?_) | ((first | apply cond_bool | apply cond_bit) <;> intro hb) | refine And.intro (by omega) ?_ | refine And.intro (fun hb => ?_) (fun hb => ?_) | fail
          all_goals ((refine again_can2 cxG (i + 1) [] ?_ ?_ ?_ ?_; rotate_left 2; (focus (show b0 ≤ _; omega)); (focus (refine ⟨?_, ?_⟩ <;> (try simp only [cans,plain_bsI,hwk,hnx,vcs,Ka,Kb,Kc,Kd,Ke,Kf,Kg,Kh,Ki,Kj,Kk,Kl,Km,reduceCtorEq,reduceIte,Kn,Ko,Kp,Kq,Kr,Ks,tys,injs]) <;> (try omega)))))
          all_goals (first | (show gap.length - (i + 1) < gap.length - i; omega) | (show i + 1 ≤ gap.length; omega) | skip)
        · have hie : i = gap.length := by omega
          subst hie
          rw [List.take_length]
          have hd : decide (gap.length < gap.length) = false := decide_eq_false (by omega)
          have hS := blanks_all gap
          have hSl : (gap.map blankOf).length ≤ 100 := by simp; omega
          generalize gap.map blankOf = S at hS hSl
          have hop := open_ev name [⟨name, [118]⟩]
          have r1 := are_ev (60 :: (name ++ [32] ++ S ++ name ++ S ++ [61] ++ S ++ [39, 118, 39] ++ S ++ [62])) [⟨1, name, [⟨name, [118]⟩], []⟩] (by simp [lim]; omega) (by simp [lim]) (by simp [lim])
          rw [parts1 hfn hS (by omega) (by omega) _ (by simp [endW])] at r1
          have r2 := are_ev (60 :: (name ++ [10] ++ name ++ S ++ [61, 34, 118, 34] ++ S ++ [47, 62])) [⟨3, name, [⟨name, [118]⟩], []⟩] (by simp [lim]; omega) (by simp [lim]) (by simp [lim])
          rw [parts2 hfn hS (by omega) (by omega) _ (by simp [endW])] at r2
          have r3 := are_ev (60 :: 47 :: (name ++ S ++ [62])) [⟨2, name, [], []⟩] (by simp [lim]; omega) (by simp [lim]) (by simp [lim])
          rw [parts3 hfn hS (by omega) (by omega) _ (by simp)] at r3
          repeat' first | simp only [fins,mems,Tryz.results4,Tryz.ntmps4,Kt,wks,plain_bsI,hd,fresh_self,List.length_map,List.length_cons,List.length_nil,List.length_append,vcs,Ka,Kb,Kc,Kd,Ke,Kf,Kg,Kh,Ki,Kj,Kk,Kl,Km,reduceCtorEq,reduceIte,Kn,Ko,Kp,Kq,Kr,Ks,tys] | exact rfl | refine call_off (v := .any) ?_ | (refine call_fn_full ?_ [b0 + 432] (hop (b0 + 432) _ _ ?_ only_mem (by omega)) ?_ ?_) | ((first | apply cond_bool | apply cond_bit) <;> intro hb) | refine And.intro (by omega) ?_ | refine And.intro (fun hb => ?_) (fun hb => ?_) | fail
          refine call_fn_vd (xs := ?_) [b0 + 464, b0 + 432] ?_ (r1 _) ?_ ?_ rfl ?_
          rotate_left 1
          · simp only [mems,wks,vcs,Ka,Kb,Kc,Kd,Ke,Kf,Kg,Kh,Ki,Kj,Kk,Kl,Km,reduceCtorEq,reduceIte,Kn,Ko,Kp,Kq,Kr,Ks,tys] <;> exact rfl
          · simp only [dps,fins,mems,wks,finLL_cons,finLL_nil,finLLOk_cons,finLLOk_nil,leLL_cons,tkC,prC,plainL,V.plain,List.map_cons,List.map_nil,Bool.and_self,Bool.true_and,vcs,Ka,Kb,Kc,Kd,Ke,Kf,Kg,Kh,Ki,Kj,Kk,Kl,Km,reduceCtorEq,reduceIte,Kn,Ko,Kp,Kq,Kr,Ks,tys]
          · simp only [dps,fins,mems,wks,finLL_cons,finLL_nil,finLLOk_cons,finLLOk_nil,leLL_cons,tkC,prC,plainL,V.plain,List.map_cons,List.map_nil,Bool.and_self,Bool.true_and,vcs,Ka,Kb,Kc,Kd,Ke,Kf,Kg,Kh,Ki,Kj,Kk,Kl,Km,reduceCtorEq,reduceIte,Kn,Ko,Kp,Kq,Kr,Ks,tys]
          repeat' first | simp only [fins,mems,Tryz.results4,Tryz.ntmps4,Kt,wks,plain_bsI,hd,fresh_self,Bool.not_true,Bool.not_false,List.length_map,List.length_cons,List.length_nil,List.length_append,vcs,Ka,Kb,Kc,Kd,Ke,Kf,Kg,Kh,Ki,Kj,Kk,Kl,Km,reduceCtorEq,reduceIte,Kn,Ko,Kp,Kq,Kr,Ks,tys] | exact rfl | refine call_off (v := .any) ?_ | ((first | apply cond_bool | apply cond_bit) <;> intro hb) | refine And.intro (by omega) ?_ | refine And.intro (fun hb => ?_) (fun hb => ?_) | fail
          refine call_fn_gvd (xs := ?_) [b0 + 768, b0 + 736] ?_ (fun _ => r2 _) (fun _ => ?_) (fun _ => ?_) rfl ?_
          rotate_left 1
          · simp only [mems,wks,vcs,Ka,Kb,Kc,Kd,Ke,Kf,Kg,Kh,Ki,Kj,Kk,Kl,Km,reduceCtorEq,reduceIte,Kn,Ko,Kp,Kq,Kr,Ks,tys] <;> exact rfl
          · simp only [dps,fins,mems,wks,finLL_cons,finLL_nil,finLLOk_cons,finLLOk_nil,leLL_cons,tkC,prC,plainL,V.plain,List.map_cons,List.map_nil,Bool.and_self,Bool.true_and,vcs,Ka,Kb,Kc,Kd,Ke,Kf,Kg,Kh,Ki,Kj,Kk,Kl,Km,reduceCtorEq,reduceIte,Kn,Ko,Kp,Kq,Kr,Ks,tys]
          · simp only [dps,fins,mems,wks,finLL_cons,finLL_nil,finLLOk_cons,finLLOk_nil,leLL_cons,tkC,prC,plainL,V.plain,List.map_cons,List.map_nil,Bool.and_self,Bool.true_and,vcs,Ka,Kb,Kc,Kd,Ke,Kf,Kg,Kh,Ki,Kj,Kk,Kl,Km,reduceCtorEq,reduceIte,Kn,Ko,Kp,Kq,Kr,Ks,tys]
          repeat' first | simp only [fins,mems,Tryz.results4,Tryz.ntmps4,Kt,wks,plain_bsI,hd,fresh_self,Bool.not_true,Bool.not_false,List.length_map,List.length_cons,List.length_nil,List.length_append,vcs,Ka,Kb,Kc,Kd,Ke,Kf,Kg,Kh,Ki,Kj,Kk,Kl,Km,reduceCtorEq,reduceIte,Kn,Ko,Kp,Kq,Kr,Ks,tys] | exact rfl | refine call_off (v := .any) ?_ | ((first | apply cond_bool | apply cond_bit) <;> intro hb) | refine And.intro (by omega) ?_ | refine And.intro (fun hb => ?_) (fun hb => ?_) | fail
          refine call_fn_gvd (xs := ?_) [b0 + 960] ?_ (fun _ => r3 _) (fun _ => ?_) (fun _ => ?_) rfl ?_
          rotate_left 1
          · simp only [mems,wks,vcs,Ka,Kb,Kc,Kd,Ke,Kf,Kg,Kh,Ki,Kj,Kk,Kl,Km,reduceCtorEq,reduceIte,Kn,Ko,Kp,Kq,Kr,Ks,tys] <;> exact rfl
          · simp only [dps,fins,mems,wks,finLL_cons,finLL_nil,finLLOk_cons,finLLOk_nil,leLL_cons,tkC,prC,plainL,V.plain,List.map_cons,List.map_nil,Bool.and_self,Bool.true_and,vcs,Ka,Kb,Kc,Kd,Ke,Kf,Kg,Kh,Ki,Kj,Kk,Kl,Km,reduceCtorEq,reduceIte,Kn,Ko,Kp,Kq,Kr,Ks,tys]
          · simp only [dps,fins,mems,wks,finLL_cons,finLL_nil,finLLOk_cons,finLLOk_nil,leLL_cons,tkC,prC,plainL,V.plain,List.map_cons,List.map_nil,Bool.and_self,Bool.true_and,vcs,Ka,Kb,Kc,Kd,Ke,Kf,Kg,Kh,Ki,Kj,Kk,Kl,Km,reduceCtorEq,reduceIte,Kn,Ko,Kp,Kq,Kr,Ks,tys]
          repeat' first | simp only [fins,mems,Tryz.results4,Tryz.ntmps4,Kt,wks,plain_bsI,hd,fresh_self,Bool.not_true,Bool.not_false,List.length_map,List.length_cons,List.length_nil,List.length_append,vcs,Ka,Kb,Kc,Kd,Ke,Kf,Kg,Kh,Ki,Kj,Kk,Kl,Km,reduceCtorEq,reduceIte,Kn,Ko,Kp,Kq,Kr,Ks,tys] | exact rfl | refine call_off (v := .any) ?_ | refine And.intro (by omega) ?_ | fail
          refine cut_end ⟨?_, ?_, ?_⟩ <;> simp only [wks,vcs,Ka,Kb,Kc,Kd,Ke,Kf,Kg,Kh,Ki,Kj,Kk,Kl,Km,reduceCtorEq,reduceIte,Kn,Ko,Kp,Kq,Kr,Ks,tys]
  · obtain ⟨j0, j1, j9⟩ := hJ
    have hlx1 := lex_ev a ha
    have hlx2 := lex_ev b hb
    unfold lexV at hlx1 hlx2
    have hbo := parts_both (a := a) (b := b) (by omega) (by omega)
    obtain ⟨hlx1a, hlx1b⟩ := lex_le a
    obtain ⟨hlx2a, hlx2b⟩ := lex_le b
    have har := are_ev (a ++ b) ((lexA a).1 ++ (lexA b).1) (by rw [List.length_append]; unfold lim; omega)
    have hab : (a ++ b).length ≤ 2000 := by rw [List.length_append]; omega
    have hx5 := (lex_may a).1
    have hy5 := (lex_may b).1
    have hxm := (lex_may a).2
    have hym := (lex_may b).2
    generalize (lexA a).1 = X at hlx1 hbo hlx1a hlx1b har hx5 hxm
    generalize (lexA a).2.1 = XA at hlx1 hx5 hxm
    generalize (lexA a).2.2 = XE at hlx1 hbo hx5 hxm
    generalize (lexA b).1 = Y at hlx2 hbo hlx2a hlx2b har hy5 hym
    generalize (lexA b).2.1 = YA at hlx2 hy5 hym
    generalize (lexA b).2.2 = YE at hlx2 hbo hy5 hym
    have one_tk : ∀ l : List Tk, ((l.map tkC).all fun r => r.all V.one) = true := fun l => by
      rw [List.all_eq_true]
      intro r hr
      obtain ⟨c, _, rfl⟩ := List.mem_map.1 hr
      rfl
    have hmap : X.map tkC ++ Y.map tkC = (X ++ Y).map tkC := (List.map_append).symm
    have tk1 : (X.map tkC).take X.length = X.map tkC := List.take_of_length_le (by simp)
    have tk2 : ((X ++ Y).map tkC).take (X.length + Y.length) = (X ++ Y).map tkC := List.take_of_length_le (by simp)
    have tk3 : (Y.map tkC).take Y.length = Y.map tkC := List.take_of_length_le (by simp)
    have nm3 : ((X ++ Y).map tkC).length = X.length + Y.length := by simp
    by_cases hXE : XE = 0
    · have x1 : (XE != 0) = false := by simpa using hXE
      have hX5 : X.length ≤ 512 := (hx5 hXE).2.2.1
      by_cases hYE : YE = 0
      · have y1 : (YE != 0) = false := by simpa using hYE
        have hY5 : Y.length ≤ 512 := (hy5 hYE).2.2.1
        have ws : IntKind.i64.wrap ((X.length : Int) + (Y.length : Int)) = ((X.length + Y.length : Nat) : Int) := by rw [wrap_in (by omega) (by omega)]; omega
        have wy : IntKind.i64.wrap (0 + (Y.length : Int)) = (Y.length : Int) := by rw [wrap_in (by omega) (by omega)]; omega
        have wx : IntKind.i64.wrap ((X.length : Int) + 0) = (X.length : Int) := by rw [wrap_in (by omega) (by omega)]; omega
        by_cases hlen : X.length + Y.length ≤ 512
        · have l1 : decide ((512 : Int) < ((X.length + Y.length : Nat) : Int)) = false := decide_eq_false (by omega)
          have l1' : decide (512 < X.length + Y.length) = false := decide_eq_false (by omega)
          have ly : decide ((512 : Int) < (Y.length : Int)) = false := decide_eq_false (by omega)
          have lx : decide ((512 : Int) < (X.length : Int)) = false := decide_eq_false (by omega)
          have har := har (by rw [List.length_append]; unfold lim; omega) (fun t ht => by
            rcases List.mem_append.1 ht with ht | ht
            · exact hlx1b t ht
            · exact hlx2b t ht)
          have hbo := hbo hXE hYE hlen
          cases hXn : X with
          | nil =>
            subst hXn
            have hb1 := hbo (fun t u ht => by cases ht)
            rw [hb1] at har
            rw [List.nil_append] at har
            clear hmap tk1 tk2 nm3 ws l1 l1'
            (repeat' first | simp only [Tryz.results4,Tryz.ntmps4,Kt,wks,j0,j1,j9,plain_tk,one_tk,List.length_map,x1,y1,wy,ly,tk3,List.length_nil,List.map_nil,List.nil_append,Nat.zero_add,vcs,Ka,Kb,Kc,Kd,Ke,Kf,Kg,Kh,Ki,Kj,Kk,Kl,Km,reduceCtorEq,reduceIte,Kn,Ko,Kp,Kq,Kr,Ks,tys] | exact rfl | ((first | (refine call_fn ?_ (hlx1 _) ?_) | (refine call_fn_g ?_ (fun _ => hlx1 _) ?_)); (focus (simp only [Tryz.results4,Tryz.ntmps4,Kt,wks,j0,j1,j9,plain_tk,one_tk,List.length_map,x1,y1,wy,ly,tk3,List.length_nil,List.map_nil,List.nil_append,Nat.zero_add,vcs,Ka,Kb,Kc,Kd,Ke,Kf,Kg,Kh,Ki,Kj,Kk,Kl,Km,reduceCtorEq,reduceIte,Kn,Ko,Kp,Kq,Kr,Ks,tys] <;> exact rfl))) | ((first | (refine call_fn ?_ (hlx2 _) ?_) | (refine call_fn_g ?_ (fun _ => hlx2 _) ?_)); (focus (simp only [Tryz.results4,Tryz.ntmps4,Kt,wks,j0,j1,j9,plain_tk,one_tk,List.length_map,x1,y1,wy,ly,tk3,List.length_nil,List.map_nil,List.nil_append,Nat.zero_add,vcs,Ka,Kb,Kc,Kd,Ke,Kf,Kg,Kh,Ki,Kj,Kk,Kl,Km,reduceCtorEq,reduceIte,Kn,Ko,Kp,Kq,Kr,Ks,tys] <;> exact rfl))) | ((refine call_fn_gvx (xs := ?_) [N + 1088] ?_ (fun _ => ?_) (fun _ => ?_) rfl ((fun _ => har _)) ?_); rotate_left 1; iterate 3 (focus (simp only [fins,mems,Tryz.results4,Tryz.ntmps4,Kt,wks,j0,j1,j9,plain_tk,one_tk,List.length_map,x1,y1,wy,ly,tk3,List.length_nil,List.map_nil,List.nil_append,Nat.zero_add,vcs,Ka,Kb,Kc,Kd,Ke,Kf,Kg,Kh,Ki,Kj,Kk,Kl,Km,reduceCtorEq,reduceIte,Kn,Ko,Kp,Kq,Kr,Ks,tys] <;> (first | exact rfl | omega)))) | ((first | apply cond_bool | apply cond_bit) <;> intro hb) | refine And.intro (by omega) ?_ | refine And.intro (fun hb => ?_) (fun hb => ?_) | fail | refine Fin.pure ?_ ?_ ?_ | simp only [injs])
          | cons x0 X0 =>
            have hXne : X ≠ [] := by rw [hXn]; simp
            obtain ⟨t, ht⟩ : ∃ t, X.getLast? = some t := ⟨_, List.getLast?_eq_some_getLast hXne⟩
            have hpos := List.length_pos_iff.2 hXne
            have hg1 : X[X.length - 1]? = some t := by rw [← List.getLast?_eq_getElem?]; exact ht
            have hXg := tk_at hg1
            have p0 : decide ((0 : Int) < (X.length : Int)) = true := decide_eq_true (by omega)
            have p0' : decide (0 < X.length) = true := decide_eq_true hpos
            have w1 : IntKind.i64.wrap ((X.length : Int) - 1) = ((X.length - 1 : Nat) : Int) := by rw [wrap_in (by omega) (by omega)]; omega
            have hl1 : X.length - 1 < X.length := by omega
            have z1 : (0 : Int) ≤ ((X.length - 1 : Nat) : Int) := by omega
            have t4 : ((t.kind : Int) == 4) = decide (t.kind = 4) := by by_cases h : t.kind = 4 <;> simp [h]; omega
            cases hYn : Y with
            | nil =>
              subst hYn
              have hb1 := hbo (fun t u _ hu => by cases hu)
              rw [hb1] at har
              rw [List.append_nil] at har
              clear hmap tk2 nm3 ws l1 l1'
              cases hk4 : decide (t.kind = 4) <;> rw [hk4] at t4
              all_goals ((repeat' first | simp only [Tryz.results4,Tryz.ntmps4,Kt,wks,j0,j1,j9,plain_tk,one_tk,List.length_map,x1,y1,wx,lx,tk1,p0,p0',w1,hl1,z1,hXg,tkC,t4,Int.toNat_natCast,List.length_nil,List.map_nil,List.append_nil,Nat.add_zero,vcs,Ka,Kb,Kc,Kd,Ke,Kf,Kg,Kh,Ki,Kj,Kk,Kl,Km,reduceCtorEq,reduceIte,Kn,Ko,Kp,Kq,Kr,Ks,tys] | exact rfl | ((first | (refine call_fn ?_ (hlx1 _) ?_) | (refine call_fn_g ?_ (fun _ => hlx1 _) ?_)); (focus (simp only [Tryz.results4,Tryz.ntmps4,Kt,wks,j0,j1,j9,plain_tk,one_tk,List.length_map,x1,y1,wx,lx,tk1,p0,p0',w1,hl1,z1,hXg,tkC,t4,Int.toNat_natCast,List.length_nil,List.map_nil,List.append_nil,Nat.add_zero,vcs,Ka,Kb,Kc,Kd,Ke,Kf,Kg,Kh,Ki,Kj,Kk,Kl,Km,reduceCtorEq,reduceIte,Kn,Ko,Kp,Kq,Kr,Ks,tys] <;> exact rfl))) | ((first | (refine call_fn ?_ (hlx2 _) ?_) | (refine call_fn_g ?_ (fun _ => hlx2 _) ?_)); (focus (simp only [Tryz.results4,Tryz.ntmps4,Kt,wks,j0,j1,j9,plain_tk,one_tk,List.length_map,x1,y1,wx,lx,tk1,p0,p0',w1,hl1,z1,hXg,tkC,t4,Int.toNat_natCast,List.length_nil,List.map_nil,List.append_nil,Nat.add_zero,vcs,Ka,Kb,Kc,Kd,Ke,Kf,Kg,Kh,Ki,Kj,Kk,Kl,Km,reduceCtorEq,reduceIte,Kn,Ko,Kp,Kq,Kr,Ks,tys] <;> exact rfl))) | ((refine call_fn_gvx (xs := ?_) [N + 1088] ?_ (fun _ => ?_) (fun _ => ?_) rfl ((fun _ => har _)) ?_); rotate_left 1; iterate 3 (focus (simp only [fins,mems,Tryz.results4,Tryz.ntmps4,Kt,wks,j0,j1,j9,plain_tk,one_tk,List.length_map,x1,y1,wx,lx,tk1,p0,p0',w1,hl1,z1,hXg,tkC,t4,Int.toNat_natCast,List.length_nil,List.map_nil,List.append_nil,Nat.add_zero,vcs,Ka,Kb,Kc,Kd,Ke,Kf,Kg,Kh,Ki,Kj,Kk,Kl,Km,reduceCtorEq,reduceIte,Kn,Ko,Kp,Kq,Kr,Ks,tys] <;> (first | exact rfl | omega)))) | ((first | apply cond_bool | apply cond_bit) <;> intro hb) | refine And.intro (by omega) ?_ | refine And.intro (fun hb => ?_) (fun hb => ?_) | fail | refine Fin.pure ?_ ?_ ?_ | simp only [injs]))
            | cons u Y0 =>
              have hYg : (Y.map tkC)[0]? = some (tkC u) := by rw [hYn]; rfl
              have hYh : Y.head? = some u := by rw [hYn]; rfl
              have hposY : 0 < Y.length := by rw [hYn]; simp
              have q0 : decide ((0 : Int) < (Y.length : Int)) = true := decide_eq_true (by omega)
              have q0' : decide (0 < Y.length) = true := decide_eq_true hposY
              have u4 : ((u.kind : Int) == 4) = decide (u.kind = 4) := by by_cases h : u.kind = 4 <;> simp [h]; omega
              by_cases hk : t.kind = 4 ∧ u.kind = 4
              · rw [decide_eq_true hk.1] at t4
                rw [decide_eq_true hk.2] at u4
                (repeat' first | simp only [Tryz.results4,Tryz.ntmps4,Kt,wks,j0,j1,j9,plain_tk,one_tk,List.length_map,x1,y1,ws,l1,l1',p0,p0',q0,q0',w1,hl1,hposY,z1,hXg,hYg,tkC,t4,u4,Int.toNat_natCast,vcs,Ka,Kb,Kc,Kd,Ke,Kf,Kg,Kh,Ki,Kj,Kk,Kl,Km,reduceCtorEq,reduceIte,Kn,Ko,Kp,Kq,Kr,Ks,tys] | exact rfl | ((first | (refine call_fn ?_ (hlx1 _) ?_) | (refine call_fn_g ?_ (fun _ => hlx1 _) ?_)); (focus (simp only [Tryz.results4,Tryz.ntmps4,Kt,wks,j0,j1,j9,plain_tk,one_tk,List.length_map,x1,y1,ws,l1,l1',p0,p0',q0,q0',w1,hl1,hposY,z1,hXg,hYg,tkC,t4,u4,Int.toNat_natCast,vcs,Ka,Kb,Kc,Kd,Ke,Kf,Kg,Kh,Ki,Kj,Kk,Kl,Km,reduceCtorEq,reduceIte,Kn,Ko,Kp,Kq,Kr,Ks,tys] <;> exact rfl))) | ((first | (refine call_fn ?_ (hlx2 _) ?_) | (refine call_fn_g ?_ (fun _ => hlx2 _) ?_)); (focus (simp only [Tryz.results4,Tryz.ntmps4,Kt,wks,j0,j1,j9,plain_tk,one_tk,List.length_map,x1,y1,ws,l1,l1',p0,p0',q0,q0',w1,hl1,hposY,z1,hXg,hYg,tkC,t4,u4,Int.toNat_natCast,vcs,Ka,Kb,Kc,Kd,Ke,Kf,Kg,Kh,Ki,Kj,Kk,Kl,Km,reduceCtorEq,reduceIte,Kn,Ko,Kp,Kq,Kr,Ks,tys] <;> exact rfl))) | ((first | apply cond_bool | apply cond_bit) <;> intro hb) | refine And.intro (by omega) ?_ | refine And.intro (fun hb => ?_) (fun hb => ?_) | fail | refine Fin.pure ?_ ?_ ?_ | simp only [injs])
              · have hb1 := hbo (fun t' u' h1 h2 h3 h4 => by
                  rw [ht] at h1; rw [hYh] at h2
                  cases h1; cases h2
                  exact hk ⟨h3, h4⟩)
                rw [hb1] at har
                by_cases hk4 : t.kind = 4
                · have hu4 : ¬ u.kind = 4 := fun h => hk ⟨hk4, h⟩
                  rw [decide_eq_true hk4] at t4
                  rw [decide_eq_false hu4] at u4
                  (repeat' first | simp only [Tryz.results4,Tryz.ntmps4,Kt,wks,j0,j1,j9,plain_tk,one_tk,List.length_map,x1,y1,ws,l1,l1',p0,p0',q0,q0',w1,hl1,hposY,z1,hXg,hYg,tkC,t4,u4,hmap,tk1,tk2,nm3,Int.toNat_natCast,vcs,Ka,Kb,Kc,Kd,Ke,Kf,Kg,Kh,Ki,Kj,Kk,Kl,Km,reduceCtorEq,reduceIte,Kn,Ko,Kp,Kq,Kr,Ks,tys] | exact rfl | ((first | (refine call_fn ?_ (hlx1 _) ?_) | (refine call_fn_g ?_ (fun _ => hlx1 _) ?_)); (focus (simp only [Tryz.results4,Tryz.ntmps4,Kt,wks,j0,j1,j9,plain_tk,one_tk,List.length_map,x1,y1,ws,l1,l1',p0,p0',q0,q0',w1,hl1,hposY,z1,hXg,hYg,tkC,t4,u4,hmap,tk1,tk2,nm3,Int.toNat_natCast,vcs,Ka,Kb,Kc,Kd,Ke,Kf,Kg,Kh,Ki,Kj,Kk,Kl,Km,reduceCtorEq,reduceIte,Kn,Ko,Kp,Kq,Kr,Ks,tys] <;> exact rfl))) | ((first | (refine call_fn ?_ (hlx2 _) ?_) | (refine call_fn_g ?_ (fun _ => hlx2 _) ?_)); (focus (simp only [Tryz.results4,Tryz.ntmps4,Kt,wks,j0,j1,j9,plain_tk,one_tk,List.length_map,x1,y1,ws,l1,l1',p0,p0',q0,q0',w1,hl1,hposY,z1,hXg,hYg,tkC,t4,u4,hmap,tk1,tk2,nm3,Int.toNat_natCast,vcs,Ka,Kb,Kc,Kd,Ke,Kf,Kg,Kh,Ki,Kj,Kk,Kl,Km,reduceCtorEq,reduceIte,Kn,Ko,Kp,Kq,Kr,Ks,tys] <;> exact rfl))) | ((refine call_fn_gvx (xs := ?_) [N + 1088] ?_ (fun _ => ?_) (fun _ => ?_) rfl ((fun _ => har _)) ?_); rotate_left 1; iterate 3 (focus (simp only [fins,mems,Tryz.results4,Tryz.ntmps4,Kt,wks,j0,j1,j9,plain_tk,one_tk,List.length_map,x1,y1,ws,l1,l1',p0,p0',q0,q0',w1,hl1,hposY,z1,hXg,hYg,tkC,t4,u4,hmap,tk1,tk2,nm3,Int.toNat_natCast,vcs,Ka,Kb,Kc,Kd,Ke,Kf,Kg,Kh,Ki,Kj,Kk,Kl,Km,reduceCtorEq,reduceIte,Kn,Ko,Kp,Kq,Kr,Ks,tys] <;> (first | exact rfl | omega)))) | ((first | apply cond_bool | apply cond_bit) <;> intro hb) | refine And.intro (by omega) ?_ | refine And.intro (fun hb => ?_) (fun hb => ?_) | fail | refine Fin.pure ?_ ?_ ?_ | simp only [injs])
                · rw [decide_eq_false hk4] at t4
                  cases hu4 : decide (u.kind = 4) <;> rw [hu4] at u4
                  all_goals ((repeat' first | simp only [Tryz.results4,Tryz.ntmps4,Kt,wks,j0,j1,j9,plain_tk,one_tk,List.length_map,x1,y1,ws,l1,l1',p0,p0',q0,q0',w1,hl1,hposY,z1,hXg,hYg,tkC,t4,u4,hmap,tk1,tk2,nm3,Int.toNat_natCast,vcs,Ka,Kb,Kc,Kd,Ke,Kf,Kg,Kh,Ki,Kj,Kk,Kl,Km,reduceCtorEq,reduceIte,Kn,Ko,Kp,Kq,Kr,Ks,tys] | exact rfl | ((first | (refine call_fn ?_ (hlx1 _) ?_) | (refine call_fn_g ?_ (fun _ => hlx1 _) ?_)); (focus (simp only [Tryz.results4,Tryz.ntmps4,Kt,wks,j0,j1,j9,plain_tk,one_tk,List.length_map,x1,y1,ws,l1,l1',p0,p0',q0,q0',w1,hl1,hposY,z1,hXg,hYg,tkC,t4,u4,hmap,tk1,tk2,nm3,Int.toNat_natCast,vcs,Ka,Kb,Kc,Kd,Ke,Kf,Kg,Kh,Ki,Kj,Kk,Kl,Km,reduceCtorEq,reduceIte,Kn,Ko,Kp,Kq,Kr,Ks,tys] <;> exact rfl))) | ((first | (refine call_fn ?_ (hlx2 _) ?_) | (refine call_fn_g ?_ (fun _ => hlx2 _) ?_)); (focus (simp only [Tryz.results4,Tryz.ntmps4,Kt,wks,j0,j1,j9,plain_tk,one_tk,List.length_map,x1,y1,ws,l1,l1',p0,p0',q0,q0',w1,hl1,hposY,z1,hXg,hYg,tkC,t4,u4,hmap,tk1,tk2,nm3,Int.toNat_natCast,vcs,Ka,Kb,Kc,Kd,Ke,Kf,Kg,Kh,Ki,Kj,Kk,Kl,Km,reduceCtorEq,reduceIte,Kn,Ko,Kp,Kq,Kr,Ks,tys] <;> exact rfl))) | ((refine call_fn_gvx (xs := ?_) [N + 1088] ?_ (fun _ => ?_) (fun _ => ?_) rfl ((fun _ => har _)) ?_); rotate_left 1; iterate 3 (focus (simp only [fins,mems,Tryz.results4,Tryz.ntmps4,Kt,wks,j0,j1,j9,plain_tk,one_tk,List.length_map,x1,y1,ws,l1,l1',p0,p0',q0,q0',w1,hl1,hposY,z1,hXg,hYg,tkC,t4,u4,hmap,tk1,tk2,nm3,Int.toNat_natCast,vcs,Ka,Kb,Kc,Kd,Ke,Kf,Kg,Kh,Ki,Kj,Kk,Kl,Km,reduceCtorEq,reduceIte,Kn,Ko,Kp,Kq,Kr,Ks,tys] <;> (first | exact rfl | omega)))) | ((first | apply cond_bool | apply cond_bit) <;> intro hb) | refine And.intro (by omega) ?_ | refine And.intro (fun hb => ?_) (fun hb => ?_) | fail | refine Fin.pure ?_ ?_ ?_ | simp only [injs]))
        · have l1 : decide ((512 : Int) < ((X.length + Y.length : Nat) : Int)) = true := decide_eq_true (by omega)
          have l1' : decide (512 < X.length + Y.length) = true := decide_eq_true (by omega)
          have hXne : X ≠ [] := fun h => by rw [h] at hlen; simp only [List.length_nil] at hlen; omega
          obtain ⟨t, ht⟩ : ∃ t, X.getLast? = some t := ⟨_, List.getLast?_eq_some_getLast hXne⟩
          have hpos := List.length_pos_iff.2 hXne
          have hg1 : X[X.length - 1]? = some t := by rw [← List.getLast?_eq_getElem?]; exact ht
          have hXg := tk_at hg1
          have p0 : decide ((0 : Int) < (X.length : Int)) = true := decide_eq_true (by omega)
          have p0' : decide (0 < X.length) = true := decide_eq_true hpos
          have w1 : IntKind.i64.wrap ((X.length : Int) - 1) = ((X.length - 1 : Nat) : Int) := by rw [wrap_in (by omega) (by omega)]; omega
          have hl1 : X.length - 1 < X.length := by omega
          have z1 : (0 : Int) ≤ ((X.length - 1 : Nat) : Int) := by omega
          have t4 : ((t.kind : Int) == 4) = decide (t.kind = 4) := by by_cases h : t.kind = 4 <;> simp [h]; omega
          have hYne : Y ≠ [] := fun h => by rw [h] at hlen; simp only [List.length_nil] at hlen; omega
          obtain ⟨u, Y0, hYn⟩ : ∃ u Y0, Y = u :: Y0 := List.exists_cons_of_ne_nil hYne
          have hYg : (Y.map tkC)[0]? = some (tkC u) := by rw [hYn]; rfl
          have hposY : 0 < Y.length := List.length_pos_iff.2 hYne
          have q0 : decide ((0 : Int) < (Y.length : Int)) = true := decide_eq_true (by omega)
          have q0' : decide (0 < Y.length) = true := decide_eq_true hposY
          have u4 : ((u.kind : Int) == 4) = decide (u.kind = 4) := by by_cases h : u.kind = 4 <;> simp [h]; omega
          cases hk4 : decide (t.kind = 4) <;> rw [hk4] at t4
          all_goals cases hu4 : decide (u.kind = 4) <;> rw [hu4] at u4
          all_goals ((repeat' first | simp only [Tryz.results4,Tryz.ntmps4,Kt,wks,j0,j1,j9,plain_tk,one_tk,List.length_map,x1,y1,ws,l1,l1',p0,p0',q0,q0',w1,hl1,hposY,z1,hXg,hYg,tkC,t4,u4,Int.toNat_natCast,vcs,Ka,Kb,Kc,Kd,Ke,Kf,Kg,Kh,Ki,Kj,Kk,Kl,Km,reduceCtorEq,reduceIte,Kn,Ko,Kp,Kq,Kr,Ks,tys] | exact rfl | ((first | (refine call_fn ?_ (hlx1 _) ?_) | (refine call_fn_g ?_ (fun _ => hlx1 _) ?_)); (focus (simp only [Tryz.results4,Tryz.ntmps4,Kt,wks,j0,j1,j9,plain_tk,one_tk,List.length_map,x1,y1,ws,l1,l1',p0,p0',q0,q0',w1,hl1,hposY,z1,hXg,hYg,tkC,t4,u4,Int.toNat_natCast,vcs,Ka,Kb,Kc,Kd,Ke,Kf,Kg,Kh,Ki,Kj,Kk,Kl,Km,reduceCtorEq,reduceIte,Kn,Ko,Kp,Kq,Kr,Ks,tys] <;> exact rfl))) | ((first | (refine call_fn ?_ (hlx2 _) ?_) | (refine call_fn_g ?_ (fun _ => hlx2 _) ?_)); (focus (simp only [Tryz.results4,Tryz.ntmps4,Kt,wks,j0,j1,j9,plain_tk,one_tk,List.length_map,x1,y1,ws,l1,l1',p0,p0',q0,q0',w1,hl1,hposY,z1,hXg,hYg,tkC,t4,u4,Int.toNat_natCast,vcs,Ka,Kb,Kc,Kd,Ke,Kf,Kg,Kh,Ki,Kj,Kk,Kl,Km,reduceCtorEq,reduceIte,Kn,Ko,Kp,Kq,Kr,Ks,tys] <;> exact rfl))) | ((first | apply cond_bool | apply cond_bit) <;> intro hb) | refine And.intro (by omega) ?_ | refine And.intro (fun hb => ?_) (fun hb => ?_) | fail | refine Fin.pure ?_ ?_ ?_ | simp only [injs]))
      · have y1 : (YE != 0) = true := by simpa using hYE
        have hYn := (hym hYE).1
        subst hYn
        clear hbo har
        have wx : IntKind.i64.wrap ((X.length : Int) + 0) = (X.length : Int) := by rw [wrap_in (by omega) (by omega)]; omega
        cases hXn : X with
        | nil =>
          subst hXn
          (repeat' first | simp only [Tryz.results4,Tryz.ntmps4,Kt,wks,j0,j1,j9,plain_tk,one_tk,List.length_map,x1,y1,List.length_nil,List.map_nil,vcs,Ka,Kb,Kc,Kd,Ke,Kf,Kg,Kh,Ki,Kj,Kk,Kl,Km,reduceCtorEq,reduceIte,Kn,Ko,Kp,Kq,Kr,Ks,tys] | exact rfl | ((first | (refine call_fn ?_ (hlx1 _) ?_) | (refine call_fn_g ?_ (fun _ => hlx1 _) ?_)); (focus (simp only [Tryz.results4,Tryz.ntmps4,Kt,wks,j0,j1,j9,plain_tk,one_tk,List.length_map,x1,y1,List.length_nil,List.map_nil,vcs,Ka,Kb,Kc,Kd,Ke,Kf,Kg,Kh,Ki,Kj,Kk,Kl,Km,reduceCtorEq,reduceIte,Kn,Ko,Kp,Kq,Kr,Ks,tys] <;> exact rfl))) | ((first | (refine call_fn ?_ (hlx2 _) ?_) | (refine call_fn_g ?_ (fun _ => hlx2 _) ?_)); (focus (simp only [Tryz.results4,Tryz.ntmps4,Kt,wks,j0,j1,j9,plain_tk,one_tk,List.length_map,x1,y1,List.length_nil,List.map_nil,vcs,Ka,Kb,Kc,Kd,Ke,Kf,Kg,Kh,Ki,Kj,Kk,Kl,Km,reduceCtorEq,reduceIte,Kn,Ko,Kp,Kq,Kr,Ks,tys] <;> exact rfl))) | ((first | apply cond_bool | apply cond_bit) <;> intro hb) | refine And.intro (by omega) ?_ | refine And.intro (fun hb => ?_) (fun hb => ?_) | fail | refine Fin.pure ?_ ?_ ?_ | simp only [injs])
        | cons x0 X0 =>
          have hXne : X ≠ [] := by rw [hXn]; simp
          obtain ⟨t, ht⟩ : ∃ t, X.getLast? = some t := ⟨_, List.getLast?_eq_some_getLast hXne⟩
          have hpos := List.length_pos_iff.2 hXne
          have hg1 : X[X.length - 1]? = some t := by rw [← List.getLast?_eq_getElem?]; exact ht
          have hXg := tk_at hg1
          have p0 : decide ((0 : Int) < (X.length : Int)) = true := decide_eq_true (by omega)
          have p0' : decide (0 < X.length) = true := decide_eq_true hpos
          have w1 : IntKind.i64.wrap ((X.length : Int) - 1) = ((X.length - 1 : Nat) : Int) := by rw [wrap_in (by omega) (by omega)]; omega
          have hl1 : X.length - 1 < X.length := by omega
          have z1 : (0 : Int) ≤ ((X.length - 1 : Nat) : Int) := by omega
          have t4 : ((t.kind : Int) == 4) = decide (t.kind = 4) := by by_cases h : t.kind = 4 <;> simp [h]; omega
          have lx : decide ((512 : Int) < (X.length : Int)) = false := decide_eq_false (by omega)
          cases hk4 : decide (t.kind = 4) <;> rw [hk4] at t4
          all_goals ((repeat' first | simp only [Tryz.results4,Tryz.ntmps4,Kt,wks,j0,j1,j9,plain_tk,one_tk,List.length_map,x1,y1,wx,lx,p0,p0',w1,hl1,z1,hXg,tkC,t4,Int.toNat_natCast,List.length_nil,List.map_nil,vcs,Ka,Kb,Kc,Kd,Ke,Kf,Kg,Kh,Ki,Kj,Kk,Kl,Km,reduceCtorEq,reduceIte,Kn,Ko,Kp,Kq,Kr,Ks,tys] | exact rfl | ((first | (refine call_fn ?_ (hlx1 _) ?_) | (refine call_fn_g ?_ (fun _ => hlx1 _) ?_)); (focus (simp only [Tryz.results4,Tryz.ntmps4,Kt,wks,j0,j1,j9,plain_tk,one_tk,List.length_map,x1,y1,wx,lx,p0,p0',w1,hl1,z1,hXg,tkC,t4,Int.toNat_natCast,List.length_nil,List.map_nil,vcs,Ka,Kb,Kc,Kd,Ke,Kf,Kg,Kh,Ki,Kj,Kk,Kl,Km,reduceCtorEq,reduceIte,Kn,Ko,Kp,Kq,Kr,Ks,tys] <;> exact rfl))) | ((first | (refine call_fn ?_ (hlx2 _) ?_) | (refine call_fn_g ?_ (fun _ => hlx2 _) ?_)); (focus (simp only [Tryz.results4,Tryz.ntmps4,Kt,wks,j0,j1,j9,plain_tk,one_tk,List.length_map,x1,y1,wx,lx,p0,p0',w1,hl1,z1,hXg,tkC,t4,Int.toNat_natCast,List.length_nil,List.map_nil,vcs,Ka,Kb,Kc,Kd,Ke,Kf,Kg,Kh,Ki,Kj,Kk,Kl,Km,reduceCtorEq,reduceIte,Kn,Ko,Kp,Kq,Kr,Ks,tys] <;> exact rfl))) | ((first | apply cond_bool | apply cond_bit) <;> intro hb) | refine And.intro (by omega) ?_ | refine And.intro (fun hb => ?_) (fun hb => ?_) | fail | refine Fin.pure ?_ ?_ ?_ | simp only [injs]))
    · have x1 : (XE != 0) = true := by simpa using hXE
      have hXn := (hxm hXE).1
      subst hXn
      clear hbo har
      (repeat' first | simp only [Tryz.results4,Tryz.ntmps4,Kt,wks,j0,j1,j9,plain_tk,one_tk,List.length_map,x1,List.length_nil,List.map_nil,vcs,Ka,Kb,Kc,Kd,Ke,Kf,Kg,Kh,Ki,Kj,Kk,Kl,Km,reduceCtorEq,reduceIte,Kn,Ko,Kp,Kq,Kr,Ks,tys] | exact rfl | ((first | (refine call_fn ?_ (hlx1 _) ?_) | (refine call_fn_g ?_ (fun _ => hlx1 _) ?_)); (focus (simp only [Tryz.results4,Tryz.ntmps4,Kt,wks,j0,j1,j9,plain_tk,one_tk,List.length_map,x1,List.length_nil,List.map_nil,vcs,Ka,Kb,Kc,Kd,Ke,Kf,Kg,Kh,Ki,Kj,Kk,Kl,Km,reduceCtorEq,reduceIte,Kn,Ko,Kp,Kq,Kr,Ks,tys] <;> exact rfl))) | ((first | (refine call_fn ?_ (hlx2 _) ?_) | (refine call_fn_g ?_ (fun _ => hlx2 _) ?_)); (focus (simp only [Tryz.results4,Tryz.ntmps4,Kt,wks,j0,j1,j9,plain_tk,one_tk,List.length_map,x1,List.length_nil,List.map_nil,vcs,Ka,Kb,Kc,Kd,Ke,Kf,Kg,Kh,Ki,Kj,Kk,Kl,Km,reduceCtorEq,reduceIte,Kn,Ko,Kp,Kq,Kr,Ks,tys] <;> exact rfl))) | ((first | apply cond_bool | apply cond_bit) <;> intro hb) | refine And.intro (by omega) ?_ | refine And.intro (fun hb => ?_) (fun hb => ?_) | fail | refine Fin.pure ?_ ?_ ?_ | simp only [injs])
theorem bytes_shape {n : Nat} {vs : List V} (h : Shape cx.P n 30 vs) : ∃ l : List UInt8, vs = [.sl false 1 (l.map byteRow)] ∧ l.length ≤ lim := by
  obtain ⟨_, rs, rfl, l1, m1, g1⟩ := shape_slice kind_30 h
  obtain ⟨x1, rfl, f1⟩ := rows_map byteRow (fun _ => True) (fun r hr => by
    obtain ⟨m, rfl, h1, h2⟩ := shape_int kind_5 (g1 r hr)
    have h1 : 0 ≤ m := h1
    have h2 : m ≤ 255 := h2
    refine ⟨UInt8.ofNat m.toNat, ?_, trivial⟩
    have e : (UInt8.ofNat m.toNat).toNat = m.toNat := UInt8.toNat_ofNat_of_lt' (by show m.toNat < 256; omega)
    unfold byteRow
    rw [e, Int.toNat_of_nonneg h1])
  exact ⟨x1, rfl, by rw [List.length_map] at m1; unfold lim; omega⟩
theorem lexParts_args (xs : List V) (h : ShapeArgs cx.P Tryz.f4.params.toList xs) : Ev cx 4 0 xs Mem.nil (.bool true) [] := by
  rw [Tryz.params4] at h
  obtain ⟨_, v1, _, rfl, h1, _, v2, _, rfl, h2, _, v3, _, rfl, h3, _, v4, _, rfl, h4, h5⟩ := h
  obtain rfl := args_nil h5
  obtain ⟨s1, rfl, hs1⟩ := shape_str kind_9 h1
  obtain ⟨s2, rfl, hs2⟩ := shape_str kind_9 h2
  obtain ⟨s3, rfl, hs3⟩ := shape_str kind_9 h3
  obtain ⟨l, rfl, hl⟩ := bytes_shape h4
  rw [argV_one kind_9 (by simp), argV_one kind_9 (by simp), argV_one kind_9 (by simp), argV_one kind_30 (by simp)]
  exact lexParts_main s1 s2 s3 l (by unfold lim; omega) (by unfold lim; omega) (by unfold lim; omega) hl 0
end Go.Proofs.YtoaclokiggoeiaaGreatDoor
