/-
  Texts joined: XPf.
-/
import Derived.Test.YtoaclokiggoeiaaGreatDoorQw
import Derived.Test.YtoaclokiggoeiaaGreatDoorQy
namespace Go.Proofs.YtoaclokiggoeiaaGreatDoor
set_option maxRecDepth 100000
set_option maxHeartbeats 32000000
set_option linter.unusedSimpArgs false
set_option linter.unusedVariables false
open Nat renaming reduceAdd → Ka, reduceMul → Kb, reduceEqDiff → Kc, reduceLeDiff → Kd, reduceSub → Ke, reduceLT → Kf, reduceBEq → Kr, reduceBNe → Ks, reducePow → Kt
open Int renaming reduceToNat → Kg, reduceLE → Kh, reduceLT → Ki, reduceAdd → Kj, reduceSub → Kk, reduceMul → Kl, reduceNeg → Km, reduceBEq → Kn, reduceBNe → Ko, reduceEq → Kp, reduceNe → Kq
open Go Go.RowKit Go.Proofs.YtoaclokiggoeiaaGreatDoor.Vm Go.Lib
theorem attrsW_get {l : List Pr} {a : Pr} (h : a ∈ l) : (attrW a).length ≤ (attrsW l).length := by
  unfold attrsW
  rw [List.length_flatMap]
  exact sum_map_le (f := fun x => (attrW x).length) h
theorem toksW_get {l : List Tk} {t : Tk} (h : t ∈ l) : (tokW t).length ≤ (toksW l).length := by
  unfold toksW
  rw [List.length_flatMap]
  exact sum_map_le (f := fun x => (tokW x).length) h
theorem tok_okTo {t : Tk} (ht : tokL t = true) {n : Nat} (hn : (tokW t).length ≤ n) : t.okTo (n + 16) := by
  obtain ⟨k, m, l, x⟩ := t
  unfold tokL at ht
  dsimp only at ht
  unfold tokW at hn
  dsimp only at hn
  have hx := (escW_length false x).1
  split at ht
  · rename_i hk
    rw [if_neg (show ¬ k = 4 by omega), if_neg (show ¬ k = 2 by omega)] at hn
    simp only [Bool.and_eq_true,List.isEmpty_iff] at ht
    obtain ⟨⟨_, h2⟩, rfl⟩ := ht
    have h16 := (attrs_iff.1 h2).1
    simp only [List.length_append,List.length_cons,List.length_nil] at hn
    refine ⟨by show l.length ≤ n + 16; omega, by show m.length ≤ n + 16; omega, by simp, fun a ha => ?_⟩
    have h3 := attrsW_get ha
    have h4 := (escW_length true a.value).1
    simp only [attrW,List.length_append,List.length_cons,List.length_nil] at h3
    omega
  · split at ht
    · rename_i hk
      subst hk
      rw [if_neg (by decide), if_pos rfl] at hn
      simp only [Bool.and_eq_true,List.isEmpty_iff] at ht
      obtain ⟨⟨_, rfl⟩, rfl⟩ := ht
      simp only [List.length_append,List.length_cons,List.length_nil] at hn
      exact ⟨by simp, by show m.length ≤ n + 16; omega, by simp, fun a ha => by simp at ha⟩
    · split at ht
      · rename_i hk
        subst hk
        rw [if_pos rfl] at hn
        simp only [Bool.and_eq_true,List.isEmpty_iff] at ht
        obtain ⟨⟨⟨rfl, rfl⟩, _⟩, _⟩ := ht
        exact ⟨by simp, by simp, by show x.length ≤ n + 16; omega, fun a ha => by simp at ha⟩
      · cases ht
theorem okTo_le {t : Tk} {a b : Nat} (h : t.okTo a) (hab : a ≤ b) : t.okTo b := by
  obtain ⟨h1, h2, h3, h4⟩ := h
  exact ⟨by omega, by omega, by omega, fun x hx => by have := h4 x hx; omega⟩
theorem lex_okTo {s : List UInt8} (h : (lexA s).2.2 = 0) : ∀ t ∈ (lexA s).1, t.okTo (6 * s.length + 16) := by
  obtain ⟨h1, _, _, _, _, h6⟩ := (lex_may s).1 h
  intro t ht
  exact tok_okTo (h1 t ht) (Nat.le_trans (toksW_get ht) h6)
theorem tok_attrs16 {t : Tk} (ht : tokL t = true) : t.attrs.length ≤ 16 := by
  unfold tokL at ht
  split at ht
  · simp only [Bool.and_eq_true] at ht
    exact (attrs_iff.1 ht.1.2).1
  · split at ht
    · simp only [Bool.and_eq_true,List.isEmpty_iff] at ht
      rw [ht.1.2]; simp
    · split at ht
      · simp only [Bool.and_eq_true,List.isEmpty_iff] at ht
        rw [ht.1.1.2]; simp
      · cases ht
theorem lexMay_main (s : List UInt8) (hs : s.length ≤ lim) (nm : Nat) : Ev cx 5 nm [.str s] Mem.nil (.bool true) [] := by
  by_cases h1 : 2000 < s.length
  · have d1 : decide ((2000 : Int) < (s.length : Int)) = true := decide_eq_true (by omega)
    refine ev_go rfl (fun cargs w => Tryz.call5 cargs w) Tryz.func5 rfl mixed (by kernel_rfl) rfl ?_; intro b0 hb0
    (repeat' first | simp only [fins,mems,Tryz.results5,Tryz.ntmps5,Kt,wks,d1,vcs,Ka,Kb,Kc,Kd,Ke,Kf,Kg,Kh,Ki,Kj,Kk,Kl,Km,reduceCtorEq,reduceIte,Kn,Ko,Kp,Kq,Kr,Ks,tys] | exact rfl | refine call_off (v := .any) ?_ | (first | (refine call_fn ?_ (alive_ev _) ?_) | (refine call_fn_g ?_ (fun _ => alive_ev _) ?_)) | ((first | apply cond_bool | apply cond_bit) <;> intro hb) | refine And.intro (by omega) ?_ | refine And.intro (fun hb => ?_) (fun hb => ?_) | refine Fin.pure ?_ ?_ ?_ | simp only [injs])
  have d1 : decide ((2000 : Int) < (s.length : Int)) = false := decide_eq_false (by omega)
  have hp := lex_ev s hs
  unfold lexV at hp
  obtain ⟨m1, m2⟩ := lex_may s
  have m3 := fun h => lex_okTo (s := s) h
  generalize (lexA s).1 = L at hp m1 m2 m3
  generalize (lexA s).2.1 = A at hp m1 m2
  generalize (lexA s).2.2 = E at hp m1 m2 m3
  by_cases hE : E = 0
  · obtain ⟨e1, e2, e3, e4, _, _⟩ := m1 hE
    have e5 := m3 hE
    have adj := adj_false.1 e2
    have qe : (E != 0) = false := by simpa using hE
    have f1 : decide ((L.length : Int) ≤ 512) = true := decide_eq_true (by omega)
    have f2 : decide ((L.length : Int) ≤ (s.length : Int)) = true := decide_eq_true (by omega)
    have f3 : decide (L.length ≤ s.length) = true := decide_eq_true e4
    refine ev_go rfl (fun cargs w => Tryz.call5 cargs w) Tryz.func5 rfl mixed (by kernel_rfl) rfl ?_; intro b0 hb0
    repeat' first | simp only [fins,mems,Tryz.results5,Tryz.ntmps5,Kt,wks,plain_tk,d1,qe,Bool.not_true,vcs,Ka,Kb,Kc,Kd,Ke,Kf,Kg,Kh,Ki,Kj,Kk,Kl,Km,reduceCtorEq,reduceIte,Kn,Ko,Kp,Kq,Kr,Ks,tys] | exact rfl | refine call_off (v := .any) ?_ | (first | (refine call_fn ?_ (alive_ev _) ?_) | (refine call_fn_g ?_ (fun _ => alive_ev _) ?_) | (refine call_fn ?_ (hp _) ?_) | (refine call_fn_g ?_ (fun _ => hp _) ?_)) | ((first | apply cond_bool | apply cond_bit) <;> intro hb) | refine And.intro (by omega) ?_ | refine And.intro (fun hb => ?_) (fun hb => ?_)
    (refine loop_can2 cxG (fun x : Nat => L.length - x) (fun x => x ≤ L.length) (b0 + 16) (fun x => [(0, .str s), (3, .bool true), (4, .sl false 4 (L.map tkC)), (7, .int .i64 x)]) (fun x => []) (0) [] ?_ ?_ ?_ ?_; rotate_left 1; (focus (show b0 ≤ _; omega)); (focus (refine ⟨?_, ?_⟩ <;> (try simp only [cans,plain_tk,vcs,Ka,Kb,Kc,Kd,Ke,Kf,Kg,Kh,Ki,Kj,Kk,Kl,Km,reduceCtorEq,reduceIte,Kn,Ko,Kp,Kq,Kr,Ks,tys,injs]) <;> (try omega))); rotate_left 1)
    · exact Nat.zero_le _
    · intro i hi
      by_cases hlt : i < L.length
      · obtain ⟨t, ht⟩ : ∃ t, L[i]? = some t := ⟨_, List.getElem?_eq_getElem hlt⟩
        have hat := tk_at ht
        have hd : decide (i < L.length) = true := decide_eq_true hlt
        have hwk : IntKind.i64.wrap ((i : Int) + 1) = ((i + 1 : Nat) : Int) := wrap_in (by omega) (by omega)
        have htm := List.mem_of_getElem? ht
        have hck := check_ev t (okTo_le (e5 t htm) (by unfold lim; omega))
        have hte : tokE t = 0 := by unfold tokE; rw [if_pos (e1 t htm)]
        rw [hte] at hck
        by_cases h0 : i = 0
        · subst h0
          have hd0 : decide ((0 : Int) < (L.length : Int)) = true := decide_eq_true (by omega)
          have hwo : IntKind.i64.wrap 1 = 1 := wrap_in (by omega) (by omega)
          repeat' first | simp only [fins,mems,Tryz.results5,Tryz.ntmps5,Kt,wks,plain_pr,plain_tk,hat,tkC,hd0,hwo,hd,hlt,hwk,Int.ofNat_zero,List.length_map,vcs,Ka,Kb,Kc,Kd,Ke,Kf,Kg,Kh,Ki,Kj,Kk,Kl,Km,reduceCtorEq,reduceIte,Kn,Ko,Kp,Kq,Kr,Ks,tys] | exact rfl | refine call_off (v := .any) ?_ | (first | (refine call_fn ?_ (hck _) ?_) | (refine call_fn_g ?_ (fun _ => hck _) ?_)) | ((first | apply cond_bool | apply cond_bit) <;> intro hb) | refine And.intro (by omega) ?_ | refine And.intro (fun hb => ?_) (fun hb => ?_)
          all_goals ((refine again_can2 cxG (0 + 1) [] ?_ ?_ ?_ ?_; rotate_left 2; (focus (show b0 ≤ _; omega)); (focus (refine ⟨?_, ?_⟩ <;> (try simp only [cans,plain_tk,hwk,hwo,vcs,Ka,Kb,Kc,Kd,Ke,Kf,Kg,Kh,Ki,Kj,Kk,Kl,Km,reduceCtorEq,reduceIte,Kn,Ko,Kp,Kq,Kr,Ks,tys,injs]) <;> (try omega)))))
          all_goals (first | (show L.length - (0 + 1) < L.length - 0; omega) | (show 0 + 1 ≤ L.length; omega) | skip)
        · have hi0 : decide ((0 : Int) < (i : Int)) = true := decide_eq_true (by omega)
          have hi0' : decide (0 < i) = true := decide_eq_true (by omega)
          have q4 : ((t.kind : Int) == 4) = decide (t.kind = 4) := by by_cases h : t.kind = 4 <;> simp [h]; omega
          have q4' : (t.kind == 4) = decide (t.kind = 4) := by by_cases h : t.kind = 4 <;> simp [h]
          obtain ⟨u, hu⟩ : ∃ u, L[i - 1]? = some u := ⟨_, List.getElem?_eq_getElem (by omega)⟩
          have hau := tk_at hu
          have hw1 : IntKind.i64.wrap ((i : Int) - 1) = ((i - 1 : Nat) : Int) := by rw [wrap_in (by omega) (by omega)]; omega
          have hl1 : i - 1 < L.length := by omega
          have u4 : ((u.kind : Int) == 4) = decide (u.kind = 4) := by by_cases h : u.kind = 4 <;> simp [h]; omega
          have u4' : (u.kind == 4) = decide (u.kind = 4) := by by_cases h : u.kind = 4 <;> simp [h]
          by_cases hk : t.kind = 4
          · have hku : ¬ u.kind = 4 := fun h => adj (i - 1) u t (by omega) hu (by rw [Nat.sub_add_cancel (by omega)]; exact ht) ⟨h, hk⟩
            rw [decide_eq_true hk] at q4 q4'
            rw [decide_eq_false hku] at u4 u4'
            repeat' first | simp only [fins,mems,Tryz.results5,Tryz.ntmps5,Kt,wks,plain_pr,plain_tk,hat,hau,hw1,hl1,tkC,hd,hlt,hwk,hi0,hi0',q4,q4',u4,u4',Int.toNat_natCast,List.length_map,vcs,Ka,Kb,Kc,Kd,Ke,Kf,Kg,Kh,Ki,Kj,Kk,Kl,Km,reduceCtorEq,reduceIte,Kn,Ko,Kp,Kq,Kr,Ks,tys] | exact rfl | refine call_off (v := .any) ?_ | (first | (refine call_fn ?_ (hck _) ?_) | (refine call_fn_g ?_ (fun _ => hck _) ?_)) | ((first | apply cond_bool | apply cond_bit) <;> intro hb) | refine And.intro (by omega) ?_ | refine And.intro (fun hb => ?_) (fun hb => ?_)
            all_goals ((refine again_can2 cxG (i + 1) [] ?_ ?_ ?_ ?_; rotate_left 2; (focus (show b0 ≤ _; omega)); (focus (refine ⟨?_, ?_⟩ <;> (try simp only [cans,plain_tk,hwk,vcs,Ka,Kb,Kc,Kd,Ke,Kf,Kg,Kh,Ki,Kj,Kk,Kl,Km,reduceCtorEq,reduceIte,Kn,Ko,Kp,Kq,Kr,Ks,tys,injs]) <;> (try omega)))))
            all_goals (first | (show L.length - (i + 1) < L.length - i; omega) | (show i + 1 ≤ L.length; omega) | skip)
          · rw [decide_eq_false hk] at q4 q4'
            repeat' first | simp only [fins,mems,Tryz.results5,Tryz.ntmps5,Kt,wks,plain_pr,plain_tk,hat,tkC,hd,hlt,hwk,hi0,hi0',q4,q4',List.length_map,vcs,Ka,Kb,Kc,Kd,Ke,Kf,Kg,Kh,Ki,Kj,Kk,Kl,Km,reduceCtorEq,reduceIte,Kn,Ko,Kp,Kq,Kr,Ks,tys] | exact rfl | refine call_off (v := .any) ?_ | (first | (refine call_fn ?_ (hck _) ?_) | (refine call_fn_g ?_ (fun _ => hck _) ?_)) | ((first | apply cond_bool | apply cond_bit) <;> intro hb) | refine And.intro (by omega) ?_ | refine And.intro (fun hb => ?_) (fun hb => ?_)
            all_goals ((refine again_can2 cxG (i + 1) [] ?_ ?_ ?_ ?_; rotate_left 2; (focus (show b0 ≤ _; omega)); (focus (refine ⟨?_, ?_⟩ <;> (try simp only [cans,plain_tk,hwk,vcs,Ka,Kb,Kc,Kd,Ke,Kf,Kg,Kh,Ki,Kj,Kk,Kl,Km,reduceCtorEq,reduceIte,Kn,Ko,Kp,Kq,Kr,Ks,tys,injs]) <;> (try omega)))))
            all_goals (first | (show L.length - (i + 1) < L.length - i; omega) | (show i + 1 ≤ L.length; omega) | skip)
      · have hke : i = L.length := by omega
        subst hke
        have hd : decide (L.length < L.length) = false := decide_eq_false (by omega)
        (repeat' first | simp only [fins,mems,Tryz.results5,Tryz.ntmps5,Kt,wks,plain_tk,hd,f1,f2,f3,List.length_map,vcs,Ka,Kb,Kc,Kd,Ke,Kf,Kg,Kh,Ki,Kj,Kk,Kl,Km,reduceCtorEq,reduceIte,Kn,Ko,Kp,Kq,Kr,Ks,tys] | exact rfl | refine call_off (v := .any) ?_ | ((first | apply cond_bool | apply cond_bit) <;> intro hb) | refine And.intro (by omega) ?_ | refine And.intro (fun hb => ?_) (fun hb => ?_) | refine Fin.pure ?_ ?_ ?_ | simp only [injs])
  · obtain ⟨e1, e2, e3⟩ := m2 hE
    subst e1
    have qe : (E != 0) = true := by simpa using hE
    have g1 : decide ((A : Int) ≤ (s.length : Int)) = true := decide_eq_true (by omega)
    have g1' : decide (A ≤ s.length) = true := decide_eq_true e2
    by_cases h80 : E = 80
    · have q80 : (E != 80) = false := by simpa using h80
      have g2 : decide ((A : Int) < (s.length : Int)) = true := decide_eq_true (by have := e3 h80; omega)
      have g2' : decide (A < s.length) = true := decide_eq_true (e3 h80)
      refine ev_go rfl (fun cargs w => Tryz.call5 cargs w) Tryz.func5 rfl mixed (by kernel_rfl) rfl ?_; intro b0 hb0
      (repeat' first | simp only [fins,mems,Tryz.results5,Tryz.ntmps5,Kt,wks,plain_tk,d1,qe,g1,g1',q80,g2,g2',List.map_nil,List.length_nil,Bool.not_true,vcs,Ka,Kb,Kc,Kd,Ke,Kf,Kg,Kh,Ki,Kj,Kk,Kl,Km,reduceCtorEq,reduceIte,Kn,Ko,Kp,Kq,Kr,Ks,tys] | exact rfl | refine call_off (v := .any) ?_ | (first | (refine call_fn ?_ (alive_ev _) ?_) | (refine call_fn_g ?_ (fun _ => alive_ev _) ?_) | (refine call_fn ?_ (hp _) ?_) | (refine call_fn_g ?_ (fun _ => hp _) ?_)) | ((first | apply cond_bool | apply cond_bit) <;> intro hb) | refine And.intro (by omega) ?_ | refine And.intro (fun hb => ?_) (fun hb => ?_) | refine Fin.pure ?_ ?_ ?_ | simp only [injs])
    · have q80 : (E != 80) = true := by simpa using h80
      refine ev_go rfl (fun cargs w => Tryz.call5 cargs w) Tryz.func5 rfl mixed (by kernel_rfl) rfl ?_; intro b0 hb0
      (repeat' first | simp only [fins,mems,Tryz.results5,Tryz.ntmps5,Kt,wks,plain_tk,d1,qe,g1,g1',q80,List.map_nil,List.length_nil,Bool.not_true,vcs,Ka,Kb,Kc,Kd,Ke,Kf,Kg,Kh,Ki,Kj,Kk,Kl,Km,reduceCtorEq,reduceIte,Kn,Ko,Kp,Kq,Kr,Ks,tys] | exact rfl | refine call_off (v := .any) ?_ | (first | (refine call_fn ?_ (alive_ev _) ?_) | (refine call_fn_g ?_ (fun _ => alive_ev _) ?_) | (refine call_fn ?_ (hp _) ?_) | (refine call_fn_g ?_ (fun _ => hp _) ?_)) | ((first | apply cond_bool | apply cond_bit) <;> intro hb) | refine And.intro (by omega) ?_ | refine And.intro (fun hb => ?_) (fun hb => ?_) | refine Fin.pure ?_ ?_ ?_ | simp only [injs])
theorem lexMay_args (xs : List V) (h : ShapeArgs cx.P Tryz.f5.params.toList xs) : Ev cx 5 0 xs Mem.nil (.bool true) [] := by
  rw [Tryz.params5] at h
  obtain ⟨_, v1, _, rfl, h1, h3⟩ := h
  obtain rfl := args_nil h3
  obtain ⟨s, rfl, hs⟩ := shape_str kind_9 h1
  rw [argV_one kind_9 (by simp)]
  exact lexMay_main s (by unfold lim; omega) 0
end Go.Proofs.YtoaclokiggoeiaaGreatDoor
