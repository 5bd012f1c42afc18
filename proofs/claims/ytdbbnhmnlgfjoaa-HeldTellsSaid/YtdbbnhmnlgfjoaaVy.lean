/-
  The machine of plain values: code. No program in sight.
-/
import Derived.Test.YtdbbnhmnlgfjoaaVx
namespace Go.Proofs.Ytdbbnhmnlgfjoaa.Vm
set_option linter.unusedSimpArgs false
set_option linter.unusedVariables false
open Go Go.RowKit

inductive Ex where
  | normal
  | exit (id : Nat)
  | ret
/-- What is to be shown of a code in a state: Q of each way out of it. -/
def vc (cx : Cx) : Code → (Ex → Nat → Env → Mem → Prop) → Nat → Env → Mem → Prop
  | .skip, Q, nm, e, M => Q .normal nm e M
  | .label _, Q, nm, e, M => Q .normal nm e M
  | .region _ ops draw, Q, nm, e, M => vcOps cx ops.toList ops.toList nm 0 e M [] (fun n e M fs => (draw = true → pairsOk ops.toList fs) ∧ Q .normal n e M)
  | .seq a b, Q, nm, e, M => vc cx a (fun x n e M => match x with | .normal => vc cx b Q n e M | .exit id => Q (.exit id) n e M | .ret => Q .ret n e M) nm e M
  | .cond c a b, Q, nm, e, M => match evalV cx.G true e c with
    | .bool t => (t = true → vc cx a Q nm e M) ∧ (t = false → vc cx b Q nm e M)
    | .bit t f => (t = true → vc cx a Q nm e M) ∧ (f = true → vc cx b Q nm e M)
    | _ => False
  | .block id c, Q, nm, e, M => vc cx c (fun x n e M => match x with | .normal => Q .normal n e M | .exit id' => if id' = id then Q .normal n e M else Q (.exit id') n e M | .ret => Q .ret n e M) nm e M
  | .loop c, Q, nm, e, M => ∃ (J : Nat → Nat → Env → Mem → Prop) (g : Nat), J g nm e M ∧ ∀ g nm e M, J g nm e M → vc cx c (fun x n e M => match x with | .normal => ∃ g', g' < g ∧ J g' n e M | .exit id => Q (.exit id) n e M | .ret => Q .ret n e M) nm e M
  | .exit id, Q, nm, e, M => Q (.exit id) nm e M
  | .ret, Q, nm, e, M => Q .ret nm e M
  | _, _, _, _, _ => False
/-- What is reckoned of a code once: places lie within the frame; what draws its order may. -/
def codeIn (N : Nat) : Code → Bool
  | .skip | .label _ | .exit _ | .ret => true
  | .region _ ops draw => ops.toList.all (opIn N) && (!draw || drawOk ops.toList)
  | .seq a b => codeIn N a && codeIn N b
  | .cond c a b => tmpIn N c && codeIn N a && codeIn N b
  | .block _ c | .loop c => codeIn N c
  | _ => false

section
variable {cx : Cx} {N : Nat} {X : Nat → Prop} {w0 : World} {I : Nat → Prop} {ρ0 : Names} {b0 : Nat}
theorem doneE_none : ∀ (r : List Oper) (ts : List T) (i : Nat) (e : Env), doneE (fun _ => false) r ts i e = e := by
  intro r
  induction r with
  | nil => intro ts i e; cases ts <;> rfl
  | cons o r ih => intro ts i e; cases ts with | nil => rfl | cons t ts => simp only [doneE, Bool.false_eq_true, if_false]; exact ih _ _ _
theorem doneM_none : ∀ (ts : List T) (i : Nat) (M : Mem), doneM (fun _ => false) ts i M = M := by
  intro ts
  induction ts with
  | nil => intro i M; rfl
  | cons t ts ih => intro i M; simp only [doneM, Bool.false_eq_true, if_false]; exact ih _ _
theorem draw_sound (hm : cx.P.follows .mixedOrders = true) {id : Nat} {ops : Array Oper} (hin : ∀ o ∈ ops.toList, opIn N o = true) (hok : drawOk ops.toList = true) {Q : Exit → Act → World → Prop} {nm : Nat} {e : Env} {M : Mem} {ρ : Names} {a : Act} {w : World}
    (h : Lies cx N X w0 I ρ0 b0 nm e M ρ a w) {K : Nat → Env → Mem → List (List Nat) → Prop} (hvc : vcOps cx ops.toList ops.toList nm 0 e M [] K) (hK : ∀ n e M fs ρ a w, Lies cx N X w0 I ρ0 b0 n e M ρ a w → K n e M fs → Q .normal a w)
    (hp : ∀ n e M fs, K n e M fs → pairsOk ops.toList fs) : (Code.region id ops true).wp cx.P Q a w := by
  refine wp_region_any hm ?_
  have hfree : ∀ x, nm ≤ x → M x = none := fun x hx => (h.free x hx).1
  obtain ⟨ts, h1, h2, h3⟩ := trace hin ops.toList 0 e M [] hin (by simpa using hfree) hvc
  simp only [Nat.zero_add, List.nil_append] at h3
  have hlow : ∀ k, (Array.replicate ops.size false).getD k false = false := fun k => by
    simp only [Array.getD_eq_getD_getElem?, Array.getElem?_replicate]
    split <;> rfl
  have heq : (fun k => (Array.replicate ops.size false).getD k false) = fun _ => false := funext hlow
  obtain ⟨r1, m1⟩ := h.rel.draw (w.drawn + 1)
  have := any_sound (cx := cx) (N := N) (X := X) (w0 := w0) (I := I) (ρ0 := ρ0) (b0 := b0) (ops := ops.toList) hin hok (nm := nm) h.base h1 h2 hfree (by simpa using hp _ _ _ _ h3) (Q := Q) (fun ρ' a' w' hst => by
      have hfin : Lies cx N X w0 I ρ0 b0 (nm + 16 * ops.toList.length) (doneE (fun _ => true) ops.toList ts 0 e) (doneM (fun _ => true) ts 0 M) ρ' a' w' := by
        refine ⟨hst.rel, hst.env, fun x hx => ⟨?_, hst.high x hx⟩, hst.names, Nat.le_trans h.base (by omega), hst.low⟩
        have gen : ∀ (r : List Oper) (ts : List T) (i : Nat) (e : Env) (M : Mem), Tr cx N ops.toList nm r ts i e M → (∀ x, nm + 16 * i ≤ x → M x = none) → ∀ x, nm + 16 * (i + r.length) ≤ x → doneM (fun _ => true) ts i M x = none := by
          intro r
          induction r with
          | nil =>
            intro ts i e M htr hf x hx
            cases ts with
            | nil => exact hf x (by simpa using hx)
            | cons t ts => exact htr.elim
          | cons o r ihr =>
            intro ts i e M htr hf x hx
            cases ts with
            | nil => exact htr.elim
            | cons t ts =>
              simp only [doneM, if_true]
              exact ihr ts (i + 1) _ _ htr.2 (Mem.free_app htr.1 hf) x (by simp only [List.length_cons] at hx; omega)
        exact gen ops.toList ts 0 e M h1 (by simpa using hfree) x (by simpa using hx)
      exact hK _ _ _ _ ρ' a' w' hfin h3) ops.size (Array.replicate ops.size false) ρ a { w with drawn := w.drawn + 1 } (by simp) (by
        refine Nat.le_trans (List.length_filter_le _ _) (by simp)) (fun k o _ hk => by have := hlow k; simp only [this] at hk; cases hk) (by
        rw [heq]
        refine ⟨by rw [doneM_none]; exact r1, by rw [doneM_none, doneE_none]; exact h.env.moves m1, fun i _ _ x hx => (h.free x (by have := hx.1; omega)).2, fun x hx => (h.free x (by omega)).2, h.names, h.low⟩)
  simpa using this
def LiftQ (cx : Cx) (N : Nat) (X : Nat → Prop) (w0 : World) (I : Nat → Prop) (ρ0 : Names) (b0 : Nat) (Q : Ex → Nat → Env → Mem → Prop) (x : Exit) (a : Act) (w : World) : Prop :=
  ∃ n e M ρ, Lies cx N X w0 I ρ0 b0 n e M ρ a w ∧ match x with | .normal => Q .normal n e M | .exit id => Q (.exit id) n e M | .ret => Q .ret n e M | _ => False
theorem vc_sound (hm : cx.P.follows .mixedOrders = true) : ∀ (c : Code) (Q : Ex → Nat → Env → Mem → Prop) (nm : Nat) (e : Env) (M : Mem) (ρ : Names) (a : Act) (w : World), codeIn N c = true → Lies cx N X w0 I ρ0 b0 nm e M ρ a w → vc cx c Q nm e M → c.wp cx.P (LiftQ cx N X w0 I ρ0 b0 Q) a w
  | .skip, Q, nm, e, M, ρ, a, w, _, h, hv => wp_skip ⟨nm, e, M, ρ, h, hv⟩
  | .label _, Q, nm, e, M, ρ, a, w, _, h, hv => wp_label ⟨nm, e, M, ρ, h, hv⟩
  | .exit id, Q, nm, e, M, ρ, a, w, _, h, hv => wp_exit ⟨nm, e, M, ρ, h, hv⟩
  | .ret, Q, nm, e, M, ρ, a, w, _, h, hv => wp_ret ⟨nm, e, M, ρ, h, hv⟩
  | .region id ops draw, Q, nm, e, M, ρ, a, w, hc, h, hv => by
    simp only [codeIn, Bool.and_eq_true, List.all_eq_true] at hc
    simp only [vc] at hv
    cases draw with
    | false =>
      refine wp_region_list ?_
      have := ops_sound (ops := ops.toList) hc.1 (Q := LiftQ cx N X w0 I ρ0 b0 Q) (K := fun n e M fs => (false = true → pairsOk ops.toList fs) ∧ Q .normal n e M) (fun n e M fs ρ a w h hq => ⟨n, e, M, ρ, h, hq.2⟩) ops.toList nm 0 e M [] ρ a w hc.1 (by simpa using h) hv
      simpa using this
    | true =>
      exact draw_sound hm hc.1 (by simpa using hc.2) h hv (fun n e M fs ρ a w h hq => ⟨n, e, M, ρ, h, hq.2⟩) (fun n e M fs hq => hq.1 rfl)
  | .seq x y, Q, nm, e, M, ρ, a, w, hc, h, hv => by
    simp only [codeIn, Bool.and_eq_true] at hc
    simp only [vc] at hv
    refine wp_seq (wp_mono (vc_sound hm x _ nm e M ρ a w hc.1 h hv) ?_)
    rintro ex a' w' ⟨n, e', M', ρ', h', hq⟩
    cases ex <;> simp only [] at hq <;> try (exact hq.elim)
    case normal => exact vc_sound hm y Q n e' M' ρ' a' w' hc.2 h' hq
    case exit id => exact ⟨n, e', M', ρ', h', hq⟩
    case ret => exact ⟨n, e', M', ρ', h', hq⟩
  | .cond c x y, Q, nm, e, M, ρ, a, w, hc, h, hv => by
    simp only [codeIn, Bool.and_eq_true] at hc
    simp only [vc] at hv
    split at hv
    · rename_i t ht
      have he := h.env.eval h.rel (c := true) rfl (inN_of hc.1.1)
      rw [ht] at he
      have hb : a.eval c = .bool t := by
        cases hcx : a.eval c <;> rw [hcx] at he <;> cases he
        rfl
      exact wp_cond_split hb (fun h1 => vc_sound hm x Q nm e M ρ a w hc.1.2 h (hv.1 h1)) (fun h1 => vc_sound hm y Q nm e M ρ a w hc.2 h (hv.2 h1))
    · rename_i t f ht
      have he := h.env.eval h.rel (c := true) rfl (inN_of hc.1.1)
      rw [ht] at he
      obtain ⟨b, hb, g1, g2⟩ : ∃ b, a.eval c = .bool b ∧ (b = true → t = true) ∧ (b = false → f = true) := by
        cases hcx : a.eval c <;> rw [hcx] at he <;> cases he
        exact ⟨_, rfl, ‹_›, ‹_›⟩
      exact wp_cond_split hb (fun h1 => vc_sound hm x Q nm e M ρ a w hc.1.2 h (hv.1 (g1 h1))) (fun h1 => vc_sound hm y Q nm e M ρ a w hc.2 h (hv.2 (g2 h1)))
    · exact hv.elim
  | .block id c, Q, nm, e, M, ρ, a, w, hc, h, hv => by
    simp only [codeIn] at hc
    simp only [vc] at hv
    refine wp_block (wp_mono (vc_sound hm c _ nm e M ρ a w hc h hv) ?_)
    rintro ex a' w' ⟨n, e', M', ρ', h', hq⟩
    cases ex <;> simp only [] at hq <;> try (exact hq.elim)
    case normal => exact ⟨n, e', M', ρ', h', hq⟩
    case exit id' =>
      simp only [Exit.inBlock]
      split at hq
      · rename_i he; rw [if_pos he]; exact ⟨n, e', M', ρ', h', hq⟩
      · rename_i he; rw [if_neg he]; exact ⟨n, e', M', ρ', h', hq⟩
    case ret => exact ⟨n, e', M', ρ', h', hq⟩
  | .loop c, Q, nm, e, M, ρ, a, w, hc, h, hv => by
    simp only [codeIn] at hc
    simp only [vc] at hv
    obtain ⟨J, g, h0, hr⟩ := hv
    refine wp_loop_ghost (fun g a w => ∃ n e M ρ, Lies cx N X w0 I ρ0 b0 n e M ρ a w ∧ J g n e M) g ⟨nm, e, M, ρ, h, h0⟩ ?_
    rintro g a w ⟨n, e, M, ρ, h, hj⟩
    refine wp_mono (vc_sound hm c _ n e M ρ a w hc h (hr g n e M hj)) ?_
    rintro ex a' w' ⟨n, e', M', ρ', h', hq⟩
    cases ex <;> simp only [] at hq <;> try (exact hq.elim)
    case normal =>
      obtain ⟨g', h1, h2⟩ := hq
      exact ⟨g', h1, n, e', M', ρ', h', h2⟩
    case exit id => exact ⟨n, e', M', ρ', h', hq⟩
    case ret => exact ⟨n, e', M', ρ', h', hq⟩
  | .rangeFunc _ _ _ _, _, _, _, _, _, _, _, hc, _, _ => by simp [codeIn] at hc
  | .scope _, _, _, _, _, _, _, _, hc, _, _ => by simp [codeIn] at hc
  | .goto _, _, _, _, _, _, _, _, hc, _, _ => by simp [codeIn] at hc
  | .refuse _, _, _, _, _, _, _, _, hc, _, _ => by simp [codeIn] at hc
end
end Go.Proofs.Ytdbbnhmnlgfjoaa.Vm
