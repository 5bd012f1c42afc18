/-
  Texts joined: XPe, XLo, XLj, XPd.
-/
import Derived.Test.YtoaclokiggoeiaaGreatDoorJt
import Derived.Test.YtoaclokiggoeiaaGreatDoorJp
import Derived.Test.YtoaclokiggoeiaaGreatDoorJv
import Derived.Test.YtoaclokiggoeiaaGreatDoorJe
namespace Go.Proofs.YtoaclokiggoeiaaGreatDoor
set_option maxRecDepth 100000
set_option maxHeartbeats 32000000
set_option linter.unusedSimpArgs false
set_option linter.unusedVariables false
open Go Go.RowKit Go.Lib
def readW : Nat → List UInt8 → Option (List UInt8)
  | _, [] => some []
  | 0, _ :: _ => none
  | n + 1, c :: r => if c = 60 then none else if c = 38 then (match cut1 59 r with | none => none | some p => match meantL p.1 with | none => none | some x => (readW n p.2).map (x ++ ·)) else (readW n r).map (c :: ·)
theorem readW_eq : ∀ (n : Nat) (s : List UInt8), s.length ≤ n → readL s = readW n s
  | n, [], _ => by rw [readL_nil]; cases n <;> rfl
  | 0, c :: r, h => by simp at h
  | n + 1, c :: r, h => by
    have hl : r.length ≤ n := by simpa using h
    by_cases h1 : c = 60
    · subst h1; rw [readL_lt]; rfl
    by_cases h2 : c = 38
    · subst h2
      cases hc : cut1 59 r with
      | none => rw [readL_none hc]; simp [readW,hc]
      | some p =>
        obtain ⟨a, b⟩ := p
        have := cut1_len hc
        cases hm : meantL a with
        | none => rw [readL_bad hc hm]; simp [readW,hc,hm]
        | some x => rw [readL_ref hc hm, readW_eq n b (by omega)]; simp [readW,hc,hm]
    · rw [readL_other h1 h2, readW_eq n r hl]; simp [readW,h1,h2]
def valueW (s : List UInt8) : Option (List UInt8 × List UInt8) := (quoteO s).bind fun p => (readW p.1.length (p.1.map flatB)).map fun v => (v, p.2)
theorem valueW_eq (s : List UInt8) : valueO s = valueW s := by
  unfold valueO valueW toldO
  congr 1
  funext p
  rw [readW_eq p.1.length _ (by simp)]
def attrF (s : List UInt8) : Option (Pr × List UInt8) := (nameO s).bind fun p => (afterO 61 (skipL p.2)).bind fun t => (valueW (skipL t)).map fun q => (⟨p.1, q.1⟩, q.2)
theorem attrF_eq (s : List UInt8) : attrO s = attrF s := by
  unfold attrO attrF
  congr 1
  funext p
  congr 1
  funext t
  rw [valueW_eq]
def tagF : Nat → List UInt8 → List Pr → List UInt8 → Option (Tk × List UInt8)
  | 0, _, _, _ => none
  | k + 1, n, l, s => match endO (skipL s) with
    | some p => some (⟨p.1, n, l, []⟩, p.2)
    | none => if (skipL s).length < s.length then (match attrF (skipL s) with
      | none => none
      | some p => if (l.any fun b => p.1.name == b.name) = true then none else tagF k n (l ++ [p.1]) p.2) else none
theorem tagF_eq : ∀ (k : Nat) (n : List UInt8) (l : List Pr) (s : List UInt8), s.length ≤ k → tagL n l s = tagF (k + 1) n l s := by
  intro k
  induction k with
  | zero =>
    intro n l s h
    obtain rfl := List.length_eq_zero_iff.1 (Nat.le_zero.1 h)
    rw [tag_gap (by rfl) (by simp [skipL])]
    rfl
  | succ k ih =>
    intro n l s h
    have hs := skip_le s
    cases he : endO (skipL s) with
    | some p =>
      obtain ⟨m, t⟩ := p
      rw [tag_end he]
      conv => rhs; unfold tagF
      simp only [he]
    | none =>
      by_cases hg : (skipL s).length < s.length
      · cases ha : attrO (skipL s) with
        | none =>
          rw [tag_bad he ha]
          conv => rhs; unfold tagF
          rw [attrF_eq] at ha
          simp only [he,if_pos hg,ha]
        | some p =>
          obtain ⟨a, r⟩ := p
          have hl := attr_lt ha
          have ha' := ha
          rw [attrF_eq] at ha'
          cases hd : l.any fun b => a.name == b.name with
          | true =>
            rw [tag_twice he ha hd]
            conv => rhs; unfold tagF
            simp only [he,if_pos hg,ha',hd,if_true]
          | false =>
            rw [tag_attr he hg ha hd, ih _ _ r (by omega)]
            conv => rhs; unfold tagF
            simp only [he,if_pos hg,ha',hd,Bool.false_eq_true,if_false]
      · rw [tag_gap he hg]
        conv => rhs; unfold tagF
        simp only [he,if_neg hg]
def tagW (s : List UInt8) : Option (Tk × List UInt8) :=
  match afterO 47 s with
  | some t => (nameO t).bind fun p => (afterO 62 (skipL p.2)).map fun r => (⟨2, p.1, [], []⟩, r)
  | none => (nameO s).bind fun p => tagF (p.2.length + 1) p.1 [] p.2
theorem tagW_eq (s : List UInt8) : tagO s = tagW s := by
  unfold tagO tagW
  cases afterO 47 s with
  | some t => rfl
  | none =>
    simp only
    congr 1
    funext p
    rw [tagF_eq p.2.length _ _ _ (Nat.le_refl _)]
def oneW (s : List UInt8) : Option (Tk × List UInt8) :=
  match afterO 60 s with
  | some t => tagW t
  | none => (readW (textT s).length (textT s)).map fun x => (⟨4, [], [], x⟩, textR s)
theorem oneW_eq (s : List UInt8) : oneO s = oneW s := by
  unfold oneO oneW
  cases afterO 60 s with
  | some t => exact tagW_eq t
  | none =>
    simp only
    rw [readW_eq _ _ (Nat.le_refl _)]
def lexF : Nat → Nat → List Tk → List UInt8 → List Tk × Nat × Int
  | 0, _, l, _ => (l, 0, 0)
  | k + 1, n, l, s => if s = [] then (l, 0, 0) else if 512 ≤ l.length then ([], n - s.length, 4) else match oneW s with
    | none => ([], n - s.length, 80)
    | some p => if 16 < p.1.attrs.length then ([], n - s.length, 4) else lexF k n (l ++ [p.1]) p.2
theorem lexF_eq : ∀ (k n : Nat) (l : List Tk) (s : List UInt8), s.length ≤ k → lexG n l s = lexF (k + 1) n l s := by
  intro k
  induction k with
  | zero =>
    intro n l s h
    obtain rfl := List.length_eq_zero_iff.1 (Nat.le_zero.1 h)
    rw [lexG_nil]; rfl
  | succ k ih =>
    intro n l s h
    by_cases hs : s = []
    · subst hs; rw [lexG_nil]; rfl
    · by_cases hm : 512 ≤ l.length
      · rw [lexG_many hs hm]
        conv => rhs; unfold lexF
        rw [if_neg hs, if_pos hm]
      · cases ho : oneO s with
        | none =>
          rw [lexG_bad hs (by omega) ho]
          rw [oneW_eq] at ho
          conv => rhs; unfold lexF
          simp only [if_neg hs,if_neg hm,ho]
        | some p =>
          obtain ⟨t, r⟩ := p
          have hl := one_lt hs ho
          have ho' := ho
          rw [oneW_eq] at ho'
          by_cases ha : 16 < t.attrs.length
          · rw [lexG_great hs (by omega) ho ha]
            conv => rhs; unfold lexF
            simp only [if_neg hs,if_neg hm,ho',if_pos ha]
          · rw [lexG_go hs (by omega) ho (by omega), ih _ _ r (by omega)]
            conv => rhs; unfold lexF
            simp only [if_neg hs,if_neg hm,ho',if_neg ha]
def lexW (s : List UInt8) : List Tk × Nat × Int := if ptsErr s ≠ 0 then ([], 0, ptsErr s) else lexF (s.length + 1) s.length [] s
theorem lexW_eq (s : List UInt8) : lexA s = lexW s := by
  unfold lexA lexW
  rw [lexF_eq s.length _ _ _ (Nat.le_refl _)]
def areB (s : List UInt8) (want : List Tk) : Bool := decide (lexA s = (want, 0, 0))
def oddB (s : List UInt8) (w : Nat) : Bool := decide ((lexA s).1 = [] ∧ (lexA s).2.1 = w ∧ (lexA s).2.2 = 80)
theorem areB_W (s : List UInt8) (want : List Tk) : areB s want = decide (lexW s = (want, 0, 0)) := by unfold areB; rw [lexW_eq]
theorem oddB_W (s : List UInt8) (w : Nat) : oddB s w = decide ((lexW s).1 = [] ∧ (lexW s).2.1 = w ∧ (lexW s).2.2 = 80) := by unfold oddB; rw [lexW_eq]
def ex1 : List UInt8 := [60, 97, 32, 98, 61, 39, 49, 39, 32, 99, 32, 61, 32, 34, 120, 34, 62]
def ex2 : List UInt8 := [60, 120, 58, 97, 47, 62, 116, 38, 108, 116, 59, 60, 47, 98, 32, 62]
theorem ex1_are : areB ex1 [⟨1, [97], [⟨[98], [49]⟩, ⟨[99], [120]⟩], []⟩] = true := by rw [areB_W]; decide +kernel
theorem ex2_are : areB ex2 [⟨3, [120, 58, 97], [], []⟩, ⟨4, [], [], [116, 60]⟩, ⟨2, [98], [], []⟩] = true := by rw [areB_W]; decide +kernel
end Go.Proofs.YtoaclokiggoeiaaGreatDoor
namespace Go.Proofs.YtoaclokiggoeiaaGreatDoor
set_option maxRecDepth 100000
set_option maxHeartbeats 32000000
set_option linter.unusedSimpArgs false
set_option linter.unusedVariables false
open Nat renaming reduceAdd → Ka, reduceMul → Kb, reduceEqDiff → Kc, reduceLeDiff → Kd, reduceSub → Ke, reduceLT → Kf, reduceBEq → Kr, reduceBNe → Ks, reducePow → Kt
open Int renaming reduceToNat → Kg, reduceLE → Kh, reduceLT → Ki, reduceAdd → Kj, reduceSub → Kk, reduceMul → Kl, reduceNeg → Km, reduceBEq → Kn, reduceBNe → Ko, reduceEq → Kp, reduceNe → Kq
open Go Go.RowKit Go.Proofs.YtoaclokiggoeiaaGreatDoor.Vm Go.Lib
def sameTo {α : Type} (a b : List α) (k : Nat) : Prop := ∀ i, i < k → a[i]? = b[i]?
theorem same_all {α : Type} {a b : List α} (hl : a.length = b.length) (h : sameTo a b a.length) : a = b := by
  refine List.ext_getElem? fun i => ?_
  by_cases hi : i < a.length
  · exact h i hi
  · rw [List.getElem?_eq_none (by omega), List.getElem?_eq_none (by omega)]
theorem sameTo_succ {α : Type} {a b : List α} {k : Nat} {x : α} (h : sameTo a b k) (ha : a[k]? = some x) (hb : b[k]? = some x) : sameTo a b (k + 1) := by
  intro i hi
  by_cases e : i = k
  · subst e; rw [ha, hb]
  · exact h i (by omega)
theorem same_no {α : Type} {a b : List α} {k : Nat} {x y : α} (ha : a[k]? = some x) (hb : b[k]? = some y) (h : x ≠ y) : a ≠ b := by
  rintro rfl
  rw [ha] at hb; cases hb; exact h rfl
theorem len_bne_eq {n m : Nat} (h : n = m) : ((n : Int) != (m : Int)) = false := by subst h; simp
theorem len_bne_ne {n m : Nat} (h : n ≠ m) : ((n : Int) != (m : Int)) = true := by rw [bne_iff_ne]; omega
theorem samePr_ev (a b : List Pr) (ha : a.length ≤ lim) (hb : b.length ≤ lim) (nm : Nat) : Ev cx 26 nm [.sl false 2 (a.map prC), .sl false 2 (b.map prC)] Mem.nil (.bool (decide (a = b))) [] := by
  unfold lim at ha hb
  by_cases hl : a.length = b.length
  · have e1 : (((a.length : Nat) : Int) != ((b.length : Nat) : Int)) = false := len_bne_eq hl
    refine ev_go rfl (fun cargs w => Tryz.call26 cargs w) Tryz.func26 rfl mixed (by kernel_rfl) rfl ?_; intro b0 hb0
    repeat' first | simp only [fins,mems,Tryz.results26,Tryz.ntmps26,Kt,wks,e1,Bool.not_true,List.length_map,vcs,Ka,Kb,Kc,Kd,Ke,Kf,Kg,Kh,Ki,Kj,Kk,Kl,Km,reduceCtorEq,reduceIte,Kn,Ko,Kp,Kq,Kr,Ks,tys] | exact rfl | refine call_off (v := .any) ?_ | refine draw_end (by decide +kernel) ?_ | ((first | apply cond_bool | apply cond_bit) <;> intro hb) | refine And.intro (by omega) ?_ | refine And.intro (fun hb => ?_) (fun hb => ?_)
    (refine loop_can2 cxG (fun x : Nat => a.length - x) (fun x => x ≤ a.length ∧ sameTo a b x) (b0 + 16) (fun x => [(0, .sl false 2 (a.map prC)), (1, .sl false 2 (b.map prC)), (5, .int .i64 x)]) (fun x => []) (0) [] ?_ ?_ ?_ ?_; rotate_left 1; (focus (show b0 ≤ _; omega)); (focus (refine ⟨?_, ?_⟩ <;> (try simp only [cans,plain_pr,List.length_map,vcs,Ka,Kb,Kc,Kd,Ke,Kf,Kg,Kh,Ki,Kj,Kk,Kl,Km,reduceCtorEq,reduceIte,Kn,Ko,Kp,Kq,Kr,Ks,tys,injs]) <;> (try omega))); rotate_left 1)
    · exact ⟨Nat.zero_le _, fun i hi => by omega⟩
    · rintro k ⟨hk, hsm⟩
      by_cases hlt : k < a.length
      · obtain ⟨x, hx⟩ : ∃ x, a[k]? = some x := ⟨_, List.getElem?_eq_getElem hlt⟩
        obtain ⟨y, hy⟩ : ∃ y, b[k]? = some y := ⟨_, List.getElem?_eq_getElem (hl ▸ hlt)⟩
        have hax := pr_at hx
        have hby := pr_at hy
        have hd : decide (k < a.length) = true := decide_eq_true hlt
        have hlt2 : k < b.length := hl ▸ hlt
        have hwk : IntKind.i64.wrap ((k : Int) + 1) = ((k + 1 : Nat) : Int) := wrap_in (by omega) (by omega)
        by_cases hxy : x = y
        · subst hxy
          have hsm' := sameTo_succ hsm hx hy
          repeat' first | simp only [fins,mems,Tryz.results26,Tryz.ntmps26,Kt,wks,plain_pr,hax,hby,prC,hd,hlt,hlt2,beq_self_eq_true,Bool.and_self,Bool.not_true,List.length_map,vcs,Ka,Kb,Kc,Kd,Ke,Kf,Kg,Kh,Ki,Kj,Kk,Kl,Km,reduceCtorEq,reduceIte,Kn,Ko,Kp,Kq,Kr,Ks,tys] | exact rfl | refine call_off (v := .any) ?_ | refine draw_end (by decide +kernel) ?_ | ((first | apply cond_bool | apply cond_bit) <;> intro hb) | refine And.intro (by omega) ?_ | refine And.intro (fun hb => ?_) (fun hb => ?_)
          all_goals ((refine again_can2 cxG (k + 1) [] ?_ ?_ ?_ ?_; rotate_left 2; (focus (show b0 ≤ _; omega)); (focus (refine ⟨?_, ?_⟩ <;> (try simp only [cans,plain_pr,hwk,List.length_map,vcs,Ka,Kb,Kc,Kd,Ke,Kf,Kg,Kh,Ki,Kj,Kk,Kl,Km,reduceCtorEq,reduceIte,Kn,Ko,Kp,Kq,Kr,Ks,tys,injs]) <;> (try omega)))))
          all_goals (first | (show a.length - (k + 1) < a.length - k; omega) | exact ⟨hlt, hsm'⟩ | skip)
        · have hr : decide (a = b) = false := decide_eq_false (same_no hx hy hxy)
          have e2 : ((x.name == y.name) && (x.value == y.value)) = false := by
            cases x with | mk xn xv => cases y with | mk yn yv =>
            simp only [Pr.mk.injEq,not_and] at hxy
            by_cases h1 : xn = yn
            · have := hxy h1
              simp [this]
            · simp [h1]
          (repeat' first | simp only [fins,mems,Tryz.results26,Tryz.ntmps26,Kt,wks,plain_pr,hax,hby,prC,hd,hlt,hlt2,hr,e2,Bool.and_true,Bool.not_false,List.length_map,vcs,Ka,Kb,Kc,Kd,Ke,Kf,Kg,Kh,Ki,Kj,Kk,Kl,Km,reduceCtorEq,reduceIte,Kn,Ko,Kp,Kq,Kr,Ks,tys] | exact rfl | refine call_off (v := .any) ?_ | refine draw_end (by decide +kernel) ?_ | ((first | apply cond_bool | apply cond_bit) <;> intro hb) | refine And.intro (by omega) ?_ | refine And.intro (fun hb => ?_) (fun hb => ?_) | refine Fin.pure ?_ ?_ ?_ | simp only [injs])
      · have hke : k = a.length := by omega
        subst hke
        have hr : decide (a = b) = true := decide_eq_true (same_all hl hsm)
        have hd : decide (a.length < a.length) = false := decide_eq_false (by omega)
        (repeat' first | simp only [fins,mems,Tryz.results26,Tryz.ntmps26,Kt,wks,hd,hr,List.length_map,vcs,Ka,Kb,Kc,Kd,Ke,Kf,Kg,Kh,Ki,Kj,Kk,Kl,Km,reduceCtorEq,reduceIte,Kn,Ko,Kp,Kq,Kr,Ks,tys] | exact rfl | refine call_off (v := .any) ?_ | refine draw_end (by decide +kernel) ?_ | ((first | apply cond_bool | apply cond_bit) <;> intro hb) | refine And.intro (by omega) ?_ | refine And.intro (fun hb => ?_) (fun hb => ?_) | refine Fin.pure ?_ ?_ ?_ | simp only [injs])
  · have e1 : (((a.length : Nat) : Int) != ((b.length : Nat) : Int)) = true := len_bne_ne hl
    have hr : decide (a = b) = false := decide_eq_false (fun e => hl (congrArg List.length e))
    refine ev_go rfl (fun cargs w => Tryz.call26 cargs w) Tryz.func26 rfl mixed (by kernel_rfl) rfl ?_; intro b0 hb0
    (repeat' first | simp only [fins,mems,Tryz.results26,Tryz.ntmps26,Kt,wks,e1,hr,Bool.not_false,List.length_map,vcs,Ka,Kb,Kc,Kd,Ke,Kf,Kg,Kh,Ki,Kj,Kk,Kl,Km,reduceCtorEq,reduceIte,Kn,Ko,Kp,Kq,Kr,Ks,tys] | exact rfl | refine call_off (v := .any) ?_ | refine draw_end (by decide +kernel) ?_ | ((first | apply cond_bool | apply cond_bit) <;> intro hb) | refine And.intro (by omega) ?_ | refine And.intro (fun hb => ?_) (fun hb => ?_) | refine Fin.pure ?_ ?_ ?_ | simp only [injs])
theorem tk_eq {x y : Tk} : x = y ↔ x.kind = y.kind ∧ x.name = y.name ∧ x.text = y.text ∧ x.attrs = y.attrs := by
  cases x; cases y; simp only [Tk.mk.injEq]; constructor
  · rintro ⟨h1, h2, h3, h4⟩; exact ⟨h1, h2, h4, h3⟩
  · rintro ⟨h1, h2, h3, h4⟩; exact ⟨h1, h2, h4, h3⟩
theorem sameTk_ev (a b : List Tk) (ha : a.length ≤ lim) (hb : b.length ≤ lim) (ha2 : ∀ t ∈ a, t.attrs.length ≤ lim) (hb2 : ∀ t ∈ b, t.attrs.length ≤ lim) (nm : Nat) : Ev cx 10 nm [.sl false 4 (a.map tkC), .sl false 4 (b.map tkC)] Mem.nil (.bool (decide (a = b))) [] := by
  unfold lim at ha hb
  by_cases hl : a.length = b.length
  · have e1 : (((a.length : Nat) : Int) != ((b.length : Nat) : Int)) = false := len_bne_eq hl
    refine ev_go rfl (fun cargs w => Tryz.call10 cargs w) Tryz.func10 rfl mixed (by kernel_rfl) rfl ?_; intro b0 hb0
    repeat' first | simp only [fins,mems,Tryz.results10,Tryz.ntmps10,Kt,wks,e1,List.length_map,vcs,Ka,Kb,Kc,Kd,Ke,Kf,Kg,Kh,Ki,Kj,Kk,Kl,Km,reduceCtorEq,reduceIte,Kn,Ko,Kp,Kq,Kr,Ks,tys] | exact rfl | refine call_off (v := .any) ?_ | refine draw_end (by decide +kernel) ?_ | ((first | apply cond_bool | apply cond_bit) <;> intro hb) | refine And.intro (by omega) ?_ | refine And.intro (fun hb => ?_) (fun hb => ?_)
    (refine loop_can2 cxG (fun x : Nat => a.length - x) (fun x => x ≤ a.length ∧ sameTo a b x) (b0 + 16) (fun x => [(0, .sl false 4 (a.map tkC)), (1, .sl false 4 (b.map tkC)), (5, .int .i64 x)]) (fun x => []) (0) [] ?_ ?_ ?_ ?_; rotate_left 1; (focus (show b0 ≤ _; omega)); (focus (refine ⟨?_, ?_⟩ <;> (try simp only [cans,plain_tk,List.length_map,vcs,Ka,Kb,Kc,Kd,Ke,Kf,Kg,Kh,Ki,Kj,Kk,Kl,Km,reduceCtorEq,reduceIte,Kn,Ko,Kp,Kq,Kr,Ks,tys,injs]) <;> (try omega))); rotate_left 1)
    · exact ⟨Nat.zero_le _, fun i hi => by omega⟩
    · rintro k ⟨hk, hsm⟩
      by_cases hlt : k < a.length
      · obtain ⟨x, hx⟩ : ∃ x, a[k]? = some x := ⟨_, List.getElem?_eq_getElem hlt⟩
        obtain ⟨y, hy⟩ : ∃ y, b[k]? = some y := ⟨_, List.getElem?_eq_getElem (hl ▸ hlt)⟩
        have hax := tk_at hx
        have hby := tk_at hy
        have hd : decide (k < a.length) = true := decide_eq_true hlt
        have hlt2 : k < b.length := hl ▸ hlt
        have hwk : IntKind.i64.wrap ((k : Int) + 1) = ((k + 1 : Nat) : Int) := wrap_in (by omega) (by omega)
        have hsp := samePr_ev x.attrs y.attrs (ha2 x (List.mem_of_getElem? hx)) (hb2 y (List.mem_of_getElem? hy))
        by_cases hxy : x = y
        · subst hxy
          have hsm' := sameTo_succ hsm hx hy
          have hz : decide (x.attrs = x.attrs) = true := decide_eq_true rfl
          rw [hz] at hsp
          repeat' first | simp only [fins,mems,Tryz.results10,Tryz.ntmps10,Kt,wks,plain_pr,hax,hby,tkC,hd,hlt,hlt2,beq_self_eq_true,bne_self_eq_false,Bool.and_self,Bool.not_true,List.length_map,vcs,Ka,Kb,Kc,Kd,Ke,Kf,Kg,Kh,Ki,Kj,Kk,Kl,Km,reduceCtorEq,reduceIte,Kn,Ko,Kp,Kq,Kr,Ks,tys] | exact rfl | refine call_off (v := .any) ?_ | (first | (refine call_fn ?_ (hsp _) ?_) | (refine call_fn_g ?_ (fun _ => hsp _) ?_)) | refine draw_end (by decide +kernel) ?_ | ((first | apply cond_bool | apply cond_bit) <;> intro hb) | refine And.intro (by omega) ?_ | refine And.intro (fun hb => ?_) (fun hb => ?_)
          all_goals ((refine again_can2 cxG (k + 1) [] ?_ ?_ ?_ ?_; rotate_left 2; (focus (show b0 ≤ _; omega)); (focus (refine ⟨?_, ?_⟩ <;> (try simp only [cans,plain_tk,hwk,List.length_map,vcs,Ka,Kb,Kc,Kd,Ke,Kf,Kg,Kh,Ki,Kj,Kk,Kl,Km,reduceCtorEq,reduceIte,Kn,Ko,Kp,Kq,Kr,Ks,tys,injs]) <;> (try omega)))))
          all_goals (first | (show a.length - (k + 1) < a.length - k; omega) | exact ⟨hlt, hsm'⟩ | skip)
        · have hr : decide (a = b) = false := decide_eq_false (same_no hx hy hxy)
          have hcs : ((x.kind : Int) != (y.kind : Int)) = true ∨ (((x.kind : Int) != (y.kind : Int)) = false ∧ (x.name == y.name) = false) ∨ (((x.kind : Int) != (y.kind : Int)) = false ∧ (x.name == y.name) = true ∧ (x.text == y.text) = false) ∨ (((x.kind : Int) != (y.kind : Int)) = false ∧ (x.name == y.name) = true ∧ (x.text == y.text) = true ∧ decide (x.attrs = y.attrs) = false) := by
            by_cases h1 : x.kind = y.kind
            · have k1 := len_bne_eq h1
              by_cases h2 : x.name = y.name
              · have k2 : (x.name == y.name) = true := by rw [h2]; simp
                by_cases h3 : x.text = y.text
                · have k3 : (x.text == y.text) = true := by rw [h3]; simp
                  right; right; right
                  exact ⟨k1, k2, k3, decide_eq_false (fun h4 => hxy (tk_eq.2 ⟨h1, h2, h3, h4⟩))⟩
                · right; right; left; exact ⟨k1, k2, beq_false_of_ne h3⟩
              · right; left; exact ⟨k1, beq_false_of_ne h2⟩
            · left; exact len_bne_ne h1
          generalize hg1 : ((x.kind : Int) != (y.kind : Int)) = g1 at hcs
          generalize hg2 : (x.name == y.name) = g2 at hcs
          generalize hg3 : (x.text == y.text) = g3 at hcs
          generalize hg4 : decide (x.attrs = y.attrs) = g4 at hcs hsp
          rcases hcs with rfl | ⟨rfl, rfl⟩ | ⟨rfl, rfl, rfl⟩ | ⟨rfl, rfl, rfl, rfl⟩
          all_goals ((repeat' first | simp only [fins,mems,Tryz.results10,Tryz.ntmps10,Kt,wks,plain_pr,hax,hby,tkC,hd,hlt,hlt2,hr,hg1,hg2,hg3,Bool.not_true,Bool.not_false,List.length_map,vcs,Ka,Kb,Kc,Kd,Ke,Kf,Kg,Kh,Ki,Kj,Kk,Kl,Km,reduceCtorEq,reduceIte,Kn,Ko,Kp,Kq,Kr,Ks,tys] | exact rfl | refine call_off (v := .any) ?_ | (first | (refine call_fn ?_ (hsp _) ?_) | (refine call_fn_g ?_ (fun _ => hsp _) ?_)) | (refine call_off (v := .any) ?_) | refine draw_end (by decide +kernel) ?_ | ((first | apply cond_bool | apply cond_bit) <;> intro hb) | refine And.intro (by omega) ?_ | refine And.intro (fun hb => ?_) (fun hb => ?_) | refine Fin.pure ?_ ?_ ?_ | simp only [injs]))
      · have hke : k = a.length := by omega
        subst hke
        have hr : decide (a = b) = true := decide_eq_true (same_all hl hsm)
        have hd : decide (a.length < a.length) = false := decide_eq_false (by omega)
        (repeat' first | simp only [fins,mems,Tryz.results10,Tryz.ntmps10,Kt,wks,hd,hr,List.length_map,vcs,Ka,Kb,Kc,Kd,Ke,Kf,Kg,Kh,Ki,Kj,Kk,Kl,Km,reduceCtorEq,reduceIte,Kn,Ko,Kp,Kq,Kr,Ks,tys] | exact rfl | refine call_off (v := .any) ?_ | refine draw_end (by decide +kernel) ?_ | ((first | apply cond_bool | apply cond_bit) <;> intro hb) | refine And.intro (by omega) ?_ | refine And.intro (fun hb => ?_) (fun hb => ?_) | refine Fin.pure ?_ ?_ ?_ | simp only [injs])
  · have e1 : (((a.length : Nat) : Int) != ((b.length : Nat) : Int)) = true := len_bne_ne hl
    have hr : decide (a = b) = false := decide_eq_false (fun e => hl (congrArg List.length e))
    refine ev_go rfl (fun cargs w => Tryz.call10 cargs w) Tryz.func10 rfl mixed (by kernel_rfl) rfl ?_; intro b0 hb0
    (repeat' first | simp only [fins,mems,Tryz.results10,Tryz.ntmps10,Kt,wks,e1,hr,List.length_map,vcs,Ka,Kb,Kc,Kd,Ke,Kf,Kg,Kh,Ki,Kj,Kk,Kl,Km,reduceCtorEq,reduceIte,Kn,Ko,Kp,Kq,Kr,Ks,tys] | exact rfl | refine call_off (v := .any) ?_ | refine draw_end (by decide +kernel) ?_ | ((first | apply cond_bool | apply cond_bit) <;> intro hb) | refine And.intro (by omega) ?_ | refine And.intro (fun hb => ?_) (fun hb => ?_) | refine Fin.pure ?_ ?_ ?_ | simp only [injs])
theorem dps : (∀ M, dpLeL M [] [] = True) ∧ (∀ M u v l r, dpLeL M (u :: l) (v :: r) = (dpLe M u v ∧ dpLeL M l r)) ∧ (∀ M, dpOkL M [] = True) ∧ (∀ M u l, dpOkL M (u :: l) = (dpOk M u ∧ dpOkL M l)) ∧
    (∀ M nm lo n sz rows, dpLe M (.own nm lo n) (.sl false sz rows) = (sz = szOf M nm ∧ leLL (finLL [] M (((rowsOf M nm).drop lo).take n)) rows)) ∧ (∀ M nm lo n, dpOk M (.own nm lo n) = ((M nm).isSome = true ∧ lo + n ≤ (rowsOf M nm).length ∧ finLLOk [] M (((rowsOf M nm).drop lo).take n))) ∧
    (∀ M s t, dpLe M (.str s) (.str t) = (s = t)) ∧ (∀ M s, dpOk M (.str s) = True) ∧ (leLL [] [] = True) :=
  ⟨dpLeL_nil, dpLeL_cons, dpOkL_nil, dpOkL_cons, dpLe_own, dpOk_own, dpLe_str, dpOk_str, eq_true trivial⟩
theorem lex_le (s : List UInt8) : (lexA s).1.length ≤ lim ∧ ∀ t ∈ (lexA s).1, t.attrs.length ≤ lim := by
  have key : (lexA s).1.length ≤ 512 ∧ ∀ t ∈ (lexA s).1, tokL t = true := by
    by_cases h : (lexA s).2.2 = 0
    · obtain ⟨h1, _, h3, _⟩ := (lex_may s).1 h
      exact ⟨h3, h1⟩
    · obtain ⟨h1, _⟩ := (lex_may s).2 h
      rw [h1]
      exact ⟨by simp, fun t ht => by simp at ht⟩
  refine ⟨by unfold lim; omega, fun t ht => ?_⟩
  have ht := key.2 t ht
  have : t.attrs.length ≤ 16 := by
    unfold tokL at ht
    split at ht
    · simp only [Bool.and_eq_true] at ht
      exact (attrs_iff.1 ht.1.2).1
    · split at ht
      · simp only [Bool.and_eq_true,List.isEmpty_iff] at ht
        rw [ht.1.2]; simp
      · split at ht
        · simp only [Bool.and_eq_true,List.isEmpty_iff] at ht
          rw [ht.1.1.2]; simp
        · cases ht
  unfold lim; omega
theorem are_ev (s : List UInt8) (want : List Tk) (hs : s.length ≤ lim) (hw : want.length ≤ lim) (ha : ∀ t ∈ want, t.attrs.length ≤ lim) (nm : Nat) : Ev cx 16 nm [.str s, .sl false 4 (want.map tkC)] Mem.nil (.bool (areB s want)) [] := by
  have hp := lex_ev s hs
  obtain ⟨b1, b2⟩ := lex_le s
  have hsm := sameTk_ev (lexA s).1 want b1 hw b2 ha
  unfold lexV at hp
  have hb : areB s want = (decide ((lexA s).2.2 = 0) && decide ((lexA s).2.1 = 0) && decide ((lexA s).1 = want)) := by
    unfold areB
    rw [Bool.eq_iff_iff]
    simp only [decide_eq_true_eq,Bool.and_eq_true]
    constructor
    · intro h; rw [h]; exact ⟨⟨rfl, rfl⟩, rfl⟩
    · rintro ⟨⟨h1, h2⟩, h3⟩
      exact Prod.ext h3 (Prod.ext h2 h1)
  rw [hb]
  clear hb b1 b2
  generalize (lexA s).1 = L at hp hsm ⊢
  generalize (lexA s).2.1 = A at hp ⊢
  generalize (lexA s).2.2 = E at hp ⊢
  have q1 : (E == 0) = decide (E = 0) := by by_cases h : E = 0 <;> simp [h]
  have q2 : ((A : Int) == 0) = decide (A = 0) := by by_cases h : A = 0 <;> simp [h]
  have q2' : (A == 0) = decide (A = 0) := by by_cases h : A = 0 <;> simp [h]
  cases h1 : decide (E = 0) <;> rw [h1] at q1
  · refine ev_go rfl (fun cargs w => Tryz.call16 cargs w) Tryz.func16 rfl mixed (by kernel_rfl) rfl ?_; intro b0 hb0
    (repeat' first | simp only [fins,mems,Tryz.results16,Tryz.ntmps16,Kt,wks,plain_tk,q1,Bool.false_and,vcs,Ka,Kb,Kc,Kd,Ke,Kf,Kg,Kh,Ki,Kj,Kk,Kl,Km,reduceCtorEq,reduceIte,Kn,Ko,Kp,Kq,Kr,Ks,tys] | exact rfl | refine call_off (v := .any) ?_ | (first | (refine call_fn ?_ (hp _) ?_) | (refine call_fn_g ?_ (fun _ => hp _) ?_)) | ((first | apply cond_bool | apply cond_bit) <;> intro hb) | refine And.intro (by omega) ?_ | refine And.intro (fun hb => ?_) (fun hb => ?_) | refine Fin.pure ?_ ?_ ?_ | simp only [injs])
  · cases h2 : decide (A = 0) <;> rw [h2] at q2 q2'
    · refine ev_go rfl (fun cargs w => Tryz.call16 cargs w) Tryz.func16 rfl mixed (by kernel_rfl) rfl ?_; intro b0 hb0
      (repeat' first | simp only [fins,mems,Tryz.results16,Tryz.ntmps16,Kt,wks,plain_tk,q1,q2,q2',Bool.false_and,Bool.true_and,vcs,Ka,Kb,Kc,Kd,Ke,Kf,Kg,Kh,Ki,Kj,Kk,Kl,Km,reduceCtorEq,reduceIte,Kn,Ko,Kp,Kq,Kr,Ks,tys] | exact rfl | refine call_off (v := .any) ?_ | (first | (refine call_fn ?_ (hp _) ?_) | (refine call_fn_g ?_ (fun _ => hp _) ?_)) | ((first | apply cond_bool | apply cond_bit) <;> intro hb) | refine And.intro (by omega) ?_ | refine And.intro (fun hb => ?_) (fun hb => ?_) | refine Fin.pure ?_ ?_ ?_ | simp only [injs])
    · cases h3 : decide (L = want) <;> rw [h3] at hsm
      all_goals (
        refine ev_go rfl (fun cargs w => Tryz.call16 cargs w) Tryz.func16 rfl mixed (by kernel_rfl) rfl ?_; intro b0 hb0
        (repeat' first | simp only [fins,mems,Tryz.results16,Tryz.ntmps16,Kt,wks,plain_tk,q1,q2,q2',Bool.true_and,Bool.and_true,vcs,Ka,Kb,Kc,Kd,Ke,Kf,Kg,Kh,Ki,Kj,Kk,Kl,Km,reduceCtorEq,reduceIte,Kn,Ko,Kp,Kq,Kr,Ks,tys] | exact rfl | refine call_off (v := .any) ?_ | (first | (refine call_fn ?_ (hp _) ?_) | (refine call_fn_g ?_ (fun _ => hp _) ?_) | (refine call_fn ?_ (hsm _) ?_) | (refine call_fn_g ?_ (fun _ => hsm _) ?_)) | ((first | apply cond_bool | apply cond_bit) <;> intro hb) | refine And.intro (by omega) ?_ | refine And.intro (fun hb => ?_) (fun hb => ?_) | refine Fin.pure ?_ ?_ ?_ | simp only [injs]))
theorem odd_ev (s : List UInt8) (w : Nat) (hs : s.length ≤ lim) (nm : Nat) : Ev cx 19 nm [.str s, .int .i64 w] Mem.nil (.bool (oddB s w)) [] := by
  have hp := lex_ev s hs
  unfold lexV at hp
  have hb : oddB s w = (decide ((lexA s).2.2 = 80) && decide ((lexA s).2.1 = w) && decide ((lexA s).1 = [])) := by
    unfold oddB
    rw [Bool.eq_iff_iff]
    simp only [decide_eq_true_eq,Bool.and_eq_true]
    exact ⟨fun ⟨h1, h2, h3⟩ => ⟨⟨h3, h2⟩, h1⟩, fun ⟨⟨h1, h2⟩, h3⟩ => ⟨h3, h2, h1⟩⟩
  rw [hb]
  clear hb
  generalize (lexA s).1 = L at hp ⊢
  generalize (lexA s).2.1 = A at hp ⊢
  generalize (lexA s).2.2 = E at hp ⊢
  have q1 : (E == 80) = decide (E = 80) := by by_cases h : E = 80 <;> simp [h]
  have q2 : ((A : Int) == (w : Int)) = decide (A = w) := by by_cases h : A = w <;> simp [h]; omega
  have q2' : (A == w) = decide (A = w) := by by_cases h : A = w <;> simp [h]
  have q3 : ((L.length : Int) == 0) = decide (L = []) := by cases L <;> simp; omega
  have q3' : (L.length == 0) = decide (L = []) := by cases L <;> simp
  cases h1 : decide (E = 80) <;> rw [h1] at q1
  · refine ev_go rfl (fun cargs w => Tryz.call19 cargs w) Tryz.func19 rfl mixed (by kernel_rfl) rfl ?_; intro b0 hb0
    (repeat' first | simp only [fins,mems,Tryz.results19,Tryz.ntmps19,Kt,wks,plain_tk,q1,Bool.false_and,vcs,Ka,Kb,Kc,Kd,Ke,Kf,Kg,Kh,Ki,Kj,Kk,Kl,Km,reduceCtorEq,reduceIte,Kn,Ko,Kp,Kq,Kr,Ks,tys] | exact rfl | refine call_off (v := .any) ?_ | (first | (refine call_fn ?_ (hp _) ?_) | (refine call_fn_g ?_ (fun _ => hp _) ?_)) | ((first | apply cond_bool | apply cond_bit) <;> intro hb) | refine And.intro (by omega) ?_ | refine And.intro (fun hb => ?_) (fun hb => ?_) | refine Fin.pure ?_ ?_ ?_ | simp only [injs])
  · cases h2 : decide (A = w) <;> rw [h2] at q2 q2'
    · refine ev_go rfl (fun cargs w => Tryz.call19 cargs w) Tryz.func19 rfl mixed (by kernel_rfl) rfl ?_; intro b0 hb0
      (repeat' first | simp only [fins,mems,Tryz.results19,Tryz.ntmps19,Kt,wks,plain_tk,q1,q2,q2',Bool.false_and,Bool.true_and,vcs,Ka,Kb,Kc,Kd,Ke,Kf,Kg,Kh,Ki,Kj,Kk,Kl,Km,reduceCtorEq,reduceIte,Kn,Ko,Kp,Kq,Kr,Ks,tys] | exact rfl | refine call_off (v := .any) ?_ | (first | (refine call_fn ?_ (hp _) ?_) | (refine call_fn_g ?_ (fun _ => hp _) ?_)) | ((first | apply cond_bool | apply cond_bit) <;> intro hb) | refine And.intro (by omega) ?_ | refine And.intro (fun hb => ?_) (fun hb => ?_) | refine Fin.pure ?_ ?_ ?_ | simp only [injs])
    · cases h3 : decide (L = []) <;> rw [h3] at q3 q3'
      all_goals (
        refine ev_go rfl (fun cargs w => Tryz.call19 cargs w) Tryz.func19 rfl mixed (by kernel_rfl) rfl ?_; intro b0 hb0
        (repeat' first | simp only [fins,mems,Tryz.results19,Tryz.ntmps19,Kt,wks,plain_tk,q1,q2,q2',q3,q3',Bool.true_and,Bool.and_true,List.length_map,vcs,Ka,Kb,Kc,Kd,Ke,Kf,Kg,Kh,Ki,Kj,Kk,Kl,Km,reduceCtorEq,reduceIte,Kn,Ko,Kp,Kq,Kr,Ks,tys] | exact rfl | refine call_off (v := .any) ?_ | (first | (refine call_fn ?_ (hp _) ?_) | (refine call_fn_g ?_ (fun _ => hp _) ?_)) | ((first | apply cond_bool | apply cond_bit) <;> intro hb) | refine And.intro (by omega) ?_ | refine And.intro (fun hb => ?_) (fun hb => ?_) | refine Fin.pure ?_ ?_ ?_ | simp only [injs]))
theorem open_ev (n : List UInt8) (l : List Pr) (y : Nat) (M : Mem) (nm : Nat) (hy : M y = some ⟨2, l.map prC⟩) (ho : ∀ z, (M z).isSome = true → z ∈ [y]) (hyn : y < nm) : Ev cx 17 nm [.str n, .own y 0 l.length] M (.agg [.int .u8 1, .str n, .own y 0 l.length, .str []]) [(y, some ⟨2, l.map prC⟩)] := by
  refine ev_go rfl (fun cargs w => Tryz.call17 cargs w) Tryz.func17 rfl mixed (by kernel_rfl) rfl ?_; intro b0 hb0
  have lq : y < b0 := below_of hb0 (by rw [hy]; rfl)
  have z0 := lt_ne lq; have z1 := lt_ne_add lq; have z2 := lt_ne' lq; have z3 := lt_ne_add' lq
  repeat' first | simp only [fins,mems,Tryz.results17,Tryz.ntmps17,Kt,wks,hy,z0,z1,z2,z3,vcs,Ka,Kb,Kc,Kd,Ke,Kf,Kg,Kh,Ki,Kj,Kk,Kl,Km,reduceCtorEq,reduceIte,Kn,Ko,Kp,Kq,Kr,Ks,tys] | exact rfl | refine call_off (v := .any) ?_ | ((first | apply cond_bool | apply cond_bit) <;> intro hb) | refine And.intro (by omega) ?_ | refine And.intro (fun hb => ?_) (fun hb => ?_)
  (refine Fin.give [(y, none)] [] ?_ ?_ ?_ ?_ ?_ (fun q hq => by have hqq := ho q hq; first | (simp only [gives,tgt,List.map_cons,List.map_nil,List.mem_cons,List.not_mem_nil,or_false] at hqq ⊢; omega) | (simp only [gives,tgt,List.map_cons,List.map_nil,List.mem_cons,List.not_mem_nil,or_false] at hqq)) <;> (try simp only [Tryz.results17,Tryz.ntmps17,wks,hy,plain_pr,z0,z1,z2,z3,giv,vcs,Ka,Kb,Kc,Kd,Ke,Kf,Kg,Kh,Ki,Kj,Kk,Kl,Km,reduceCtorEq,reduceIte,Kn,Ko,Kp,Kq,Kr,Ks,tys]) <;> (try simp only [injs]) <;> (try omega))
theorem openN_ev (n : List UInt8) (nm : Nat) : Ev cx 17 nm [.str n, .nils] Mem.nil (.agg [.int .u8 1, .str n, .nils, .str []]) [] := by
  refine ev_go rfl (fun cargs w => Tryz.call17 cargs w) Tryz.func17 rfl mixed (by kernel_rfl) rfl ?_; intro b0 hb0
  (repeat' first | simp only [fins,mems,Tryz.results17,Tryz.ntmps17,Kt,wks,vcs,Ka,Kb,Kc,Kd,Ke,Kf,Kg,Kh,Ki,Kj,Kk,Kl,Km,reduceCtorEq,reduceIte,Kn,Ko,Kp,Kq,Kr,Ks,tys] | exact rfl | refine call_off (v := .any) ?_ | ((first | apply cond_bool | apply cond_bit) <;> intro hb) | refine And.intro (by omega) ?_ | refine And.intro (fun hb => ?_) (fun hb => ?_) | refine Fin.pure ?_ ?_ ?_ | simp only [injs])
theorem alive_ev (nm : Nat) : Ev cx 15 nm [] Mem.nil (.bool true) [] := by
  have h1 := are_ev ex1 [⟨1, [97], [⟨[98], [49]⟩, ⟨[99], [120]⟩], []⟩] (by decide) (by decide) (by simp [lim])
  have h2 := are_ev ex2 [⟨3, [120, 58, 97], [], []⟩, ⟨4, [], [], [116, 60]⟩, ⟨2, [98], [], []⟩] (by decide) (by decide) (by simp [lim])
  rw [ex1_are] at h1
  rw [ex2_are] at h2
  have hop := open_ev [97] [⟨[98], [49]⟩, ⟨[99], [120]⟩]
  unfold ex1 at h1
  unfold ex2 at h2
  refine ev_go rfl (fun cargs w => Tryz.call15 cargs w) Tryz.func15 rfl mixed (by kernel_rfl) rfl ?_; intro b0 hb0
  repeat' first | simp only [fins,mems,Tryz.results15,Tryz.ntmps15,Kt,wks,fresh_self,List.length_cons,List.length_nil,vcs,Ka,Kb,Kc,Kd,Ke,Kf,Kg,Kh,Ki,Kj,Kk,Kl,Km,reduceCtorEq,reduceIte,Kn,Ko,Kp,Kq,Kr,Ks,tys] | exact rfl | refine call_off (v := .any) ?_ | (refine call_fn_full ?_ [b0 + 48] (hop (b0 + 48) _ _ ?_ only_mem (by omega)) ?_ ?_) | ((first | apply cond_bool | apply cond_bit) <;> intro hb) | refine And.intro (by omega) ?_ | refine And.intro (fun hb => ?_) (fun hb => ?_)
  refine call_fn_vd (xs := ?_) [b0 + 80, b0 + 48] ?_ (h1 _) ?_ ?_ rfl ?_
  rotate_left 1
  · simp only [mems,wks,vcs,Ka,Kb,Kc,Kd,Ke,Kf,Kg,Kh,Ki,Kj,Kk,Kl,Km,reduceCtorEq,reduceIte,Kn,Ko,Kp,Kq,Kr,Ks,tys] <;> exact rfl
  · simp only [dps,fins,mems,wks,finLL_cons,finLL_nil,finLLOk_cons,finLLOk_nil,leLL_cons,tkC,prC,plainL,V.plain,List.map_cons,List.map_nil,Bool.and_self,Bool.true_and,vcs,Ka,Kb,Kc,Kd,Ke,Kf,Kg,Kh,Ki,Kj,Kk,Kl,Km,reduceCtorEq,reduceIte,Kn,Ko,Kp,Kq,Kr,Ks,tys]
  · simp only [dps,fins,mems,wks,finLL_cons,finLL_nil,finLLOk_cons,finLLOk_nil,leLL_cons,tkC,prC,plainL,V.plain,List.map_cons,List.map_nil,Bool.and_self,Bool.true_and,vcs,Ka,Kb,Kc,Kd,Ke,Kf,Kg,Kh,Ki,Kj,Kk,Kl,Km,reduceCtorEq,reduceIte,Kn,Ko,Kp,Kq,Kr,Ks,tys]
  repeat' first | simp only [fins,mems,Tryz.results15,Tryz.ntmps15,Kt,wks,fresh_self,List.length_cons,List.length_nil,vcs,Ka,Kb,Kc,Kd,Ke,Kf,Kg,Kh,Ki,Kj,Kk,Kl,Km,reduceCtorEq,reduceIte,Kn,Ko,Kp,Kq,Kr,Ks,tys] | exact rfl | refine call_off (v := .any) ?_ | ((first | apply cond_bool | apply cond_bit) <;> intro hb) | refine And.intro (by omega) ?_ | refine And.intro (fun hb => ?_) (fun hb => ?_)
  refine call_fn_gvd (xs := ?_) [b0 + 176] ?_ (fun _ => h2 _) (fun _ => ?_) (fun _ => ?_) rfl ?_
  rotate_left 1
  · simp only [mems,wks,vcs,Ka,Kb,Kc,Kd,Ke,Kf,Kg,Kh,Ki,Kj,Kk,Kl,Km,reduceCtorEq,reduceIte,Kn,Ko,Kp,Kq,Kr,Ks,tys] <;> exact rfl
  · simp only [dps,fins,mems,wks,finLL_cons,finLL_nil,finLLOk_cons,finLLOk_nil,leLL_cons,tkC,prC,plainL,V.plain,List.map_cons,List.map_nil,Bool.and_self,Bool.true_and,vcs,Ka,Kb,Kc,Kd,Ke,Kf,Kg,Kh,Ki,Kj,Kk,Kl,Km,reduceCtorEq,reduceIte,Kn,Ko,Kp,Kq,Kr,Ks,tys]
  · simp only [dps,fins,mems,wks,finLL_cons,finLL_nil,finLLOk_cons,finLLOk_nil,leLL_cons,tkC,prC,plainL,V.plain,List.map_cons,List.map_nil,Bool.and_self,Bool.true_and,vcs,Ka,Kb,Kc,Kd,Ke,Kf,Kg,Kh,Ki,Kj,Kk,Kl,Km,reduceCtorEq,reduceIte,Kn,Ko,Kp,Kq,Kr,Ks,tys]
  (repeat' first | simp only [fins,mems,Tryz.results15,Tryz.ntmps15,Kt,wks,fresh_self,List.length_cons,List.length_nil,vcs,Ka,Kb,Kc,Kd,Ke,Kf,Kg,Kh,Ki,Kj,Kk,Kl,Km,reduceCtorEq,reduceIte,Kn,Ko,Kp,Kq,Kr,Ks,tys] | exact rfl | refine call_off (v := .any) ?_ | ((first | apply cond_bool | apply cond_bit) <;> intro hb) | refine And.intro (by omega) ?_ | refine And.intro (fun hb => ?_) (fun hb => ?_) | refine Fin.pure ?_ ?_ ?_ | simp only [injs])
end Go.Proofs.YtoaclokiggoeiaaGreatDoor
