/-
  The machine of plain values: every order of a region that draws it. No program in sight.
-/
import Derived.Test.YtdbbnhmnlgfjoaaVw
namespace Go.Proofs.Ytdbbnhmnlgfjoaa.Vm
set_option linter.unusedSimpArgs false
set_option linter.unusedVariables false
open Go Go.RowKit

section
variable {cx : Cx} {N : Nat} {X : Nat → Prop} {w0 : World} {I : Nat → Prop} {ρ0 : Names} {b0 : Nat}
/-- What has been carried out is closed. -/
def Closed (ops : List Oper) (D : Nat → Bool) : Prop := ∀ k o, ops[k]? = some o → D k = true → ∀ e ∈ o.after.toList, Region.binds .any e = true → D e.on = true
theorem ob_closed {ops : List Oper} {D : Nat → Bool} (hc : Closed ops D) : ∀ (k j : Nat) (o : Oper), ops[k]? = some o → (∀ e ∈ o.after.toList, Region.binds .any e = true → D e.on = true) → ob (masks ops []) j k = true → D j = true := by
  intro k
  induction k using Nat.strongRecOn with
  | _ k ih =>
    intro j o ho hd hob
    obtain ⟨e, h1, h2, h3⟩ := ob_spec ho hob
    rcases h3 with rfl | ⟨h3, h4⟩
    · exact hd e h1 h2
    · have he := hd e h1 h2
      cases hoe : ops[e.on]? with
      | none =>
        exfalso
        have hk := (List.getElem?_eq_some_iff.1 ho).1
        rw [List.getElem?_eq_none_iff] at hoe
        omega
      | some oe => exact ih e.on h3 j oe hoe (hc e.on oe hoe he) h4
structure St (cx : Cx) (N : Nat) (X : Nat → Prop) (w0 : World) (I : Nat → Prop) (ρ0 : Names) (b0 : Nat) (ops : List Oper) (nm : Nat) (e0 : Env) (M0 : Mem) (ts : List T) (D : Nat → Bool) (ρ : Names) (a : Act) (w : World) : Prop where
  rel : Rel cx.G X w0 I ρ (doneM D ts 0 M0) w
  env : EnvAt ρ (Dom X ρ (doneM D ts 0 M0)) w N (doneE D ops ts 0 e0) a
  fresh : ∀ i, i < ops.length → D i = false → ∀ x, Fresh (nm + 16 * i) x → ρ x = none
  high : ∀ x, nm + 16 * ops.length ≤ x → ρ x = none
  names : ∀ x l, ρ0 x = some l → ρ x = some l
  low : ∀ x, x < b0 → ρ x = ρ0 x
theorem any_sound {ops : List Oper} (hin : ∀ o ∈ ops, opIn N o = true) (hok : drawOk ops = true) {nm : Nat} (hb0 : b0 ≤ nm) {e0 : Env} {M0 : Mem} {ts : List T} (hTr : Tr cx N ops nm ops ts 0 e0 M0) (hlen : ts.length = ops.length) (hfree : ∀ x, nm ≤ x → M0 x = none)
    (hpairs : pairsOk ops (ts.map (·.ft))) {Q : Exit → Act → World → Prop} (hQ : ∀ ρ a w, St cx N X w0 I ρ0 b0 ops nm e0 M0 ts (fun _ => true) ρ a w → Q .normal a w) :
    ∀ (fuel : Nat) (listed : Array Bool) (ρ : Names) (a : Act) (w : World), listed.size = ops.length → ((List.range ops.length).filter fun i => !listed.getD i false).length ≤ fuel → Closed ops (fun k => listed.getD k false) →
      St cx N X w0 I ρ0 b0 ops nm e0 M0 ts (fun k => listed.getD k false) ρ a w → wpAny cx.P .any ops.toArray Q fuel listed a w := by
  -- what the check says
  have hchk : ∀ k o, ops[k]? = some o → edgesOk k o = true ∧ ∀ i, i < k → clashAt ops (masks ops []) i k = true := fun k o ho => by
    have hk := (List.getElem?_eq_some_iff.1 ho).1
    unfold drawOk drawOkWith at hok
    rw [List.all_eq_true] at hok
    have h1 := hok k (by simpa using hk)
    rw [Bool.and_eq_true, ho] at h1
    refine ⟨h1.1, fun i hi => ?_⟩
    have h2 := h1.2
    rw [List.all_eq_true] at h2
    exact h2 i (by simpa using hi)
  have hts : ∀ k o, ops[k]? = some o → ∃ t, ts[k]? = some t := fun k o ho => by
    have hk := (List.getElem?_eq_some_iff.1 ho).1
    exact ⟨ts[k], List.getElem?_eq_getElem (by omega)⟩
  have hos : ∀ (k : Nat) (t : T), ts[k]? = some t → ∃ o, ops[k]? = some o := fun k t ht => by
    have hk := (List.getElem?_eq_some_iff.1 ht).1
    exact ⟨ops[k], List.getElem?_eq_getElem (by omega)⟩
  have hdo : ∀ k o t, ops[k]? = some o → ts[k]? = some t → OpDoes cx N ops o (nm + 16 * k) (doneE (fun j => decide (j < k)) ops ts 0 e0) (doneM (fun j => decide (j < k)) ts 0 M0) t.v t.eff t.ft := fun k o t ho ht => by
    have := hTr.at ho ht
    simpa using this
  have ftAt : ∀ k t, ts[k]? = some t → (ts.map (·.ft)).getD k [] = t.ft := fun k t ht => by
    rw [List.getD_eq_getElem?_getD, List.getElem?_map, ht]; rfl
  -- two that touch one name, one writing: the later waits for the earlier
  have memOrd : ∀ i k oi ok ti tk x, i < k → ops[i]? = some oi → ops[k]? = some ok → ts[i]? = some ti → ts[k]? = some tk → x ∈ ti.ft → x ∈ tk.ft → (x ∈ effNames ti.eff ∨ x ∈ effNames tk.eff) → ob (masks ops []) i k = true := by
    intro i k oi ok ti tk x hik hoi hok' hti htk hxi hxk hw
    cases hob : ob (masks ops []) i k with
    | true => rfl
    | false =>
      exfalso
      have di := hdo i oi ti hoi hti
      have dk := hdo k ok tk hok' htk
      have hp : (i, k) ∈ pairs ops := by
        unfold pairs pairsWith
        rw [List.mem_flatMap]
        refine ⟨k, by simpa using (List.getElem?_eq_some_iff.1 hok').1, ?_⟩
        rw [List.mem_filterMap]
        refine ⟨i, by simpa using hik, ?_⟩
        have hm1 := di.mem (fun h => by rw [h] at hxi; cases hxi)
        have hm2 := dk.mem (fun h => by rw [h] at hxk; cases hxk)
        have : pairAt ops (masks ops []) i k = true := by
          unfold pairAt
          rw [hoi, hok']
          simp only [hob, Bool.not_false, Bool.and_true]
          rcases hw with hw | hw
          · have := di.writer (fun h => by rw [h] at hw; simp [effNames] at hw)
            simp [this, hm2]
          · have := dk.writer (fun h => by rw [h] at hw; simp [effNames] at hw)
            simp [this, hm1]
        rw [if_pos this]
      have := hpairs (i, k) hp x (by simp only [ftAt i ti hti]; exact hxi)
      exact this (by simp only [ftAt k tk htk]; exact hxk)
  -- a fresh name of an operation is first laid by it
  have freshFirst : ∀ k t i oi ti x, ts[k]? = some t → ops[i]? = some oi → ts[i]? = some ti → x ∈ effNames t.eff → Fresh (nm + 16 * i) x → i ≠ k → i < k ∧ x ∈ effNames ti.eff := by
    intro k
    induction k using Nat.strongRecOn with
    | _ k ih =>
      intro t i oi ti x ht hoi hti hx hfr hik
      obtain ⟨o, ho⟩ := hos k t ht
      rcases (hdo k o t ho ht).live x hx with h1 | h1
      · rcases doneM_some ts 0 M0 h1 with h2 | ⟨j, tj, h2, h3, h4⟩
        · rw [hfree x (by have := hfr.1; omega)] at h2; cases h2
        · have hj : j < k := by simpa using h3
          by_cases e : i = j
          · subst e
            rw [hti] at h2; cases h2
            exact ⟨hj, h4⟩
          · obtain ⟨g1, g2⟩ := ih j hj tj i oi ti x h2 hoi hti h4 hfr e
            exact ⟨by omega, g2⟩
      · exfalso
        have := hfr.1; have := hfr.2; have := h1.1; have := h1.2
        omega
  intro fuel
  induction fuel with
  | zero =>
    intro listed ρ a w hsz hcnt hcl hst
    have hall : ∀ i, i < ops.length → listed.getD i false = true := fun i hi => by
      have h0 : ((List.range ops.length).filter fun i => !listed.getD i false) = [] := List.eq_nil_of_length_eq_zero (by omega)
      rw [List.filter_eq_nil_iff] at h0
      have := h0 i (by simpa using hi)
      simpa using this
    refine ⟨?_, ?_⟩
    · unfold Region.ready
      rw [List.filter_eq_nil_iff]
      intro i hi
      have hi' : i < ops.length := by simpa using hi
      have hl := hall i hi'
      have hl2 : listed.getD i true = true := by
        simp only [Array.getD_eq_getD_getElem?, Array.getElem?_eq_getElem (show i < listed.size by omega), Option.getD_some] at hl ⊢
        exact hl
      simp [hl2]
    · refine hQ ρ a w ?_
      have eE : doneE (fun k => listed.getD k false) ops ts 0 e0 = doneE (fun _ => true) ops ts 0 e0 := funext fun t => doneE_agree ops ts 0 e0 e0 rfl (fun j o hj _ => by simpa using hall j (List.getElem?_eq_some_iff.1 hj).1)
      have eM : doneM (fun k => listed.getD k false) ts 0 M0 = doneM (fun _ => true) ts 0 M0 := funext fun x => doneM_agree ts 0 M0 M0 rfl (fun j t hj _ => by simpa using hall j (by have := (List.getElem?_eq_some_iff.1 hj).1; omega))
      obtain ⟨h1, h2, h3, h4, h5, h6⟩ := hst
      rw [eM] at h1 h2
      rw [eE] at h2
      exact ⟨h1, h2, (fun i _ h => by cases h), h4, h5, h6⟩
  | succ fuel ih =>
    intro listed ρ a w hsz hcnt hcl hst
    refine ⟨?_, ?_⟩
    · -- nothing is ready: all are done
      intro hr
      have hall : ∀ i, i < ops.length → listed.getD i false = true := by
        intro i
        induction i using Nat.strongRecOn with
        | _ i ih2 =>
          intro hi
          cases hl : listed.getD i false with
          | true => rfl
          | false =>
            exfalso
            have hl2 : listed.getD i true = false := by
              simp only [Array.getD_eq_getD_getElem?, Array.getElem?_eq_getElem (show i < listed.size by omega), Option.getD_some] at hl ⊢
              exact hl
            have hmem : i ∈ Region.ready .any ops.toArray listed := by
              unfold Region.ready
              rw [List.mem_filter]
              refine ⟨by simpa using hi, ?_⟩
              have ho : ops[i]? = some ops[i] := List.getElem?_eq_getElem hi
              simp only [hl2, Bool.not_false, Bool.true_and, List.getElem?_toArray, ho, Option.map_some, Option.getD_some]
              rw [← Array.all_toList, List.all_eq_true]
              intro e he
              have h1 := (hchk i _ ho).1
              unfold edgesOk at h1
              rw [List.all_eq_true] at h1
              have h2 := h1 e he
              cases hb : Region.binds .any e with
              | false => rfl
              | true =>
                rw [hb] at h2
                have h3 : e.on < i := by simpa using h2
                rw [ih2 e.on h3 (by omega)]
                rfl
            rw [hr] at hmem
            cases hmem
      refine hQ ρ a w ?_
      have eE : doneE (fun k => listed.getD k false) ops ts 0 e0 = doneE (fun _ => true) ops ts 0 e0 := funext fun t => doneE_agree ops ts 0 e0 e0 rfl (fun j o hj _ => by simpa using hall j (List.getElem?_eq_some_iff.1 hj).1)
      have eM : doneM (fun k => listed.getD k false) ts 0 M0 = doneM (fun _ => true) ts 0 M0 := funext fun x => doneM_agree ts 0 M0 M0 rfl (fun j t hj _ => by simpa using hall j (by have := (List.getElem?_eq_some_iff.1 hj).1; omega))
      obtain ⟨h1, h2, h3, h4, h5, h6⟩ := hst
      rw [eM] at h1 h2
      rw [eE] at h2
      exact ⟨h1, h2, (fun i _ h => by cases h), h4, h5, h6⟩
    · intro i hi
      unfold Region.ready at hi
      rw [List.mem_filter] at hi
      obtain ⟨hi1, hi2⟩ := hi
      have hi' : i < ops.length := by simpa using hi1
      have ho : ops[i]? = some ops[i] := List.getElem?_eq_getElem hi'
      generalize hoo : ops[i] = o at ho
      simp only [List.getElem?_toArray, ho, Option.map_some, Option.getD_some, Bool.and_eq_true] at hi2
      obtain ⟨hnl, hedges⟩ := hi2
      have hnl' : listed.getD i false = false := by
        simp only [Array.getD_eq_getD_getElem?, Array.getElem?_eq_getElem (show i < listed.size by omega), Option.getD_some] at hnl ⊢
        simpa using hnl
      have hdirect : ∀ e ∈ o.after.toList, Region.binds .any e = true → listed.getD e.on false = true := fun e he hb => by
        rw [← Array.all_toList, List.all_eq_true] at hedges
        have := hedges e he
        rw [hb] at this
        simpa using this
      obtain ⟨t, ht⟩ := hts i o ho
      have hd := hdo i o t ho ht
      -- those that it has to wait for are done; those that wait for it are not
      have before : ∀ j, ob (masks ops []) j i = true → listed.getD j false = true := fun j hj => ob_closed (D := fun k => listed.getD k false) hcl i j o ho hdirect hj
      have behind : ∀ k ok, ops[k]? = some ok → ob (masks ops []) i k = true → listed.getD k false = false := fun k ok hk hob => by
        cases hl : listed.getD k false with
        | false => rfl
        | true =>
          have := ob_closed (D := fun k => listed.getD k false) hcl k i ok hk (hcl k ok hk hl) hob
          rw [hnl'] at this; cases this
      -- a temporary that it names: just those ahead of it in the text have been written
      have tmpD : ∀ t', t' ∈ looksAt ops o ∨ o.dst = some t' → ∀ j oj, ops[j]? = some oj → oj.dst = some t' → j ≠ i → listed.getD j false = decide (j < i) := by
        intro t' ht' j oj hj hdj hji
        rcases Nat.lt_or_gt_of_ne hji with hlt | hgt
        · rw [decide_eq_true hlt]
          have hc := (hchk i o ho).2 j hlt
          unfold clashAt at hc
          rw [hj, ho] at hc
          have hcl2 : tmpClash ops oj o = true := by
            unfold tmpClash
            rw [hdj]
            rcases ht' with h1 | h1
            · simp [h1]
            · simp [h1]
          simp only [hcl2, Bool.not_true, Bool.false_or] at hc
          exact before j hc
        · rw [decide_eq_false (by omega)]
          have hc := (hchk j oj hj).2 i hgt
          unfold clashAt at hc
          rw [hj, ho] at hc
          have hcl2 : tmpClash ops o oj = true := by
            unfold tmpClash
            rw [hdj]
            rcases ht' with h1 | h1
            · simp [h1]
            · simp [h1]
          simp only [hcl2, Bool.not_true, Bool.false_or] at hc
          exact behind j oj hj hc
      have memD : ∀ x, x ∈ t.ft → ∀ j tj, ts[j]? = some tj → x ∈ effNames tj.eff → j ≠ i → listed.getD j false = decide (j < i) := by
        intro x hx j tj hj hxj hji
        obtain ⟨oj, hoj⟩ := hos j tj hj
        have hxf := (hdo j oj tj hoj hj).names x hxj
        rcases Nat.lt_or_gt_of_ne hji with hlt | hgt
        · rw [decide_eq_true hlt]
          exact before j (memOrd j i oj o tj t x hlt hoj ho hj ht hxf hx (.inl hxj))
        · rw [decide_eq_false (by omega)]
          exact behind j oj hoj (memOrd i j o oj t tj x hgt ho hoj ht hj hx hxf (.inr hxj))
      have freshM : ∀ k ok, ops[k]? = some ok → listed.getD k false = false → ∀ x, Fresh (nm + 16 * k) x → doneM (fun k => listed.getD k false) ts 0 M0 x = none := by
        intro k ok hk hlk x hx
        cases hs : doneM (fun k => listed.getD k false) ts 0 M0 x with
        | none => rfl
        | some b =>
          exfalso
          rcases doneM_some ts 0 M0 (x := x) (D := fun k => listed.getD k false) (by rw [hs]; rfl) with h1 | ⟨j, tj, h1, h2, h3⟩
          · rw [hfree x (by have := hx.1; omega)] at h1; cases h1
          · simp only [Nat.zero_add] at h2
            obtain ⟨tk, htk⟩ := hts k ok hk
            have hkj : k ≠ j := fun e => by subst e; rw [hlk] at h2; cases h2
            obtain ⟨g1, g2⟩ := freshFirst j tj k ok tk x h1 hk htk h3 hx hkj
            obtain ⟨oj, hoj⟩ := hos j tj h1
            have hob := memOrd k j ok oj tk tj x g1 hk hoj htk h1 ((hdo k ok tk hk htk).names x g2) ((hdo j oj tj hoj h1).names x h3) (.inl g2)
            have := ob_closed (D := fun k => listed.getD k false) hcl j k oj hoj (hcl j oj hoj h2) hob
            rw [hlk] at this; cases this
      have highM : ∀ x, nm + 16 * ops.length ≤ x → doneM (fun k => listed.getD k false) ts 0 M0 x = none := by
        have gen : ∀ x, nm + 16 * ops.length ≤ x → ∀ (j : Nat) (tj : T), ts[j]? = some tj → x ∉ effNames tj.eff := by
          intro x hx j
          induction j using Nat.strongRecOn with
          | _ j ihj =>
            intro tj hj hxe
            obtain ⟨oj, hoj⟩ := hos j tj hj
            have hjl := (List.getElem?_eq_some_iff.1 hoj).1
            rcases (hdo j oj tj hoj hj).live x hxe with h1 | h1
            · rcases doneM_some ts 0 M0 h1 with h2 | ⟨q, tq, h2, h3, h4⟩
              · rw [hfree x (by omega)] at h2; cases h2
              · exact ihj q (by simpa using h3) tq h2 h4
            · have := h1.2
              omega
        intro x hx
        cases hs : doneM (fun k => listed.getD k false) ts 0 M0 x with
        | none => rfl
        | some b =>
          exfalso
          rcases doneM_some ts 0 M0 (x := x) (D := fun k => listed.getD k false) (by rw [hs]; rfl) with h1 | ⟨j, tj, h1, _, h3⟩
          · rw [hfree x (by omega)] at h1; cases h1
          · exact gen x hx j tj h1 h3
      have hrun := hd.run X w0 I ρ (doneE (fun k => listed.getD k false) ops ts 0 e0) (doneM (fun k => listed.getD k false) ts 0 M0) a w hst.rel hst.env
        (fun t' ht' => doneE_agree ops ts 0 e0 e0 rfl (fun j oj hj hdj => by
          simp only [Nat.zero_add]
          by_cases hji : j = i
          · subst hji; rw [hnl']; simp
          · exact tmpD t' (.inl ht') j oj hj hdj hji))
        (fun x hx => doneM_agree ts 0 M0 M0 rfl (fun j tj hj hxj => by
          simp only [Nat.zero_add]
          by_cases hji : j = i
          · subst hji; rw [hnl']; simp
          · exact memD x hx j tj hj hxj hji))
        (fun x hx => ⟨freshM i o ho hnl' x hx, hst.fresh i hi' hnl' x hx⟩) ⟨nm + 16 * ops.length, fun x hx => ⟨highM x hx, hst.high x hx⟩⟩
        (wpAny cx.P .any ops.toArray Q fuel (listed.setIfInBounds i true)) Q
      have hset : ∀ k, (listed.setIfInBounds i true).getD k false = if k = i then true else listed.getD k false := fun k => by
        simp only [Array.getD_eq_getD_getElem?, Array.getElem?_setIfInBounds]
        by_cases e : i = k
        · subst e; simp [show i < listed.size by omega]
        · rw [if_neg e, if_neg (fun h => e h.symm)]
      have hnext := hrun (fun cv w' hs => by
        obtain ⟨ρ', r1, m1, v1, n1⟩ := hs
        have eE : doneE (fun k => (listed.setIfInBounds i true).getD k false) ops ts 0 e0 = (doneE (fun k => listed.getD k false) ops ts 0 e0).putD o.dst t.v := by
          funext t'
          by_cases hdt : o.dst = some t'
          · have h1 := doneE_last (D := fun k => (listed.setIfInBounds i true).getD k false) (t := t') ops ts 0 e0 i o t ho ht hdt (by simp only [Nat.zero_add, hset, if_true]) (fun k ok hk hik hdk => by
              simp only [Nat.zero_add, hset]
              rw [if_neg (by omega), tmpD t' (.inr hdt) k ok hk hdk (by omega)]
              simp; omega)
            rw [h1, hdt]
            simp [Env.putD, Env.put]
          · have h1 : ((doneE (fun k => listed.getD k false) ops ts 0 e0).putD o.dst t.v) t' = doneE (fun k => listed.getD k false) ops ts 0 e0 t' := by
              cases hod : o.dst with
              | none => rfl
              | some d =>
                have : t' ≠ d := fun q => hdt (by rw [hod, q])
                simp [Env.putD, Env.put, this]
            rw [h1]
            refine doneE_agree ops ts 0 e0 e0 rfl (fun j oj hj hdj => ?_)
            simp only [Nat.zero_add, hset]
            rw [if_neg (fun e => by subst e; rw [ho] at hj; cases hj; exact hdt hdj)]
        have eM : doneM (fun k => (listed.setIfInBounds i true).getD k false) ts 0 M0 = (doneM (fun k => listed.getD k false) ts 0 M0).app t.eff := by
          funext x
          by_cases hxe : x ∈ effNames t.eff
          · exact doneM_last (D := fun k => (listed.setIfInBounds i true).getD k false) ts 0 M0 i t ht hxe (by simp only [Nat.zero_add, hset, if_true]) (fun k tk hk hik hxk => by
              simp only [Nat.zero_add, hset]
              rw [if_neg (by omega), memD x (hd.names x hxe) k tk hk hxk (by omega)]
              simp; omega) _
          · rw [Mem.app_of_notin hxe]
            refine doneM_agree ts 0 M0 M0 rfl (fun j tj hj hxj => ?_)
            simp only [Nat.zero_add, hset]
            rw [if_neg (fun e => by subst e; rw [ht] at hj; cases hj; exact hxe hxj)]
        refine ih (listed.setIfInBounds i true) ρ' _ w' (by simpa using hsz) ?_ ?_ ⟨?_, ?_, ?_, ?_, ?_, ?_⟩
        · have hlt : ((List.range ops.length).filter fun k => !(listed.setIfInBounds i true).getD k false).length < ((List.range ops.length).filter fun k => !listed.getD k false).length := by
            have hsub : ((List.range ops.length).filter fun k => !(listed.setIfInBounds i true).getD k false) = ((List.range ops.length).filter fun k => !listed.getD k false).filter (fun k => decide (k ≠ i)) := by
              rw [List.filter_filter]
              refine List.filter_congr (fun k _ => ?_)
              rw [hset]
              by_cases e : k = i <;> simp [e]
            rw [hsub]
            have hm : i ∈ (List.range ops.length).filter fun k => !listed.getD k false := by
              rw [List.mem_filter]; exact ⟨by simpa using hi', by rw [hnl']; rfl⟩
            generalize ((List.range ops.length).filter fun k => !listed.getD k false) = L at hm
            have := List.length_filter_lt_length_iff_exists (p := fun k => decide (k ≠ i)) (l := L)
            exact this.2 ⟨i, hm, by simp⟩
          omega
        · intro k ok hk hDk e he hb
          simp only [hset] at hDk ⊢
          split
          · rfl
          · split at hDk
            · rename_i hki
              subst hki
              rw [ho] at hk; cases hk
              exact hdirect e he hb
            · exact hcl k ok hk hDk e he hb
        · rw [eM]; exact r1
        · rw [eM, eE]
          exact (hst.env.moves m1).put o.dst (opIn_dst (hin o (List.mem_of_getElem? ho))) v1
        · intro k hk hDk x hx
          simp only [hset] at hDk
          split at hDk
          · cases hDk
          · rename_i hki
            rw [n1 x (fun hf => by have := hf.1; have := hf.2; have := hx.1; have := hx.2; omega)]
            exact hst.fresh k hk hDk x hx
        · intro x hx
          rw [n1 x (fun hf => by have := hf.2; omega)]
          exact hst.high x hx
        · exact fun x l hx => m1.names x l (hst.names x l hx)
        · intro x hx
          rw [n1 x (fun hf => by have := hf.1; omega), hst.low x hx])
      unfold wpOp
      simp only [List.getElem?_toArray, ho]
      split
      · rename_i hw
        rw [if_pos hw] at hnext
        exact .inl hnext
      · rename_i hw
        rw [if_neg hw] at hnext
        exact hnext
end
end Go.Proofs.Ytdbbnhmnlgfjoaa.Vm
