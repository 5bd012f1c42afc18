/-
  The machine of plain values: what each operation of a region does, wherever in the order it comes; a region in the text's order. No program in sight.
-/
import Derived.Test.YtdbbnhmnlgfjoaaVo
namespace Go.Proofs.Ytdbbnhmnlgfjoaa.Vm
set_option linter.unusedSimpArgs false
set_option linter.unusedVariables false
open Go Go.RowKit

structure OpDoes (cx : Cx) (N : Nat) (ops : List Oper) (o : Oper) (n : Nat) (e : Env) (M : Mem) (v : V) (eff : List (Nat × Option Blk)) (ft : List Nat) : Prop where
  names : ∀ x ∈ effNames eff, x ∈ ft
  live : ∀ x ∈ effNames eff, (M x).isSome = true ∨ Fresh n x
  writer : eff ≠ [] → writerOp o.op = true
  mem : ft ≠ [] → memOp o.op = true
  run : ∀ (X : Nat → Prop) (w0 : World) (I : Nat → Prop) (ρ : Names) (e' : Env) (M' : Mem) (a : Act) (w : World), Rel cx.G X w0 I ρ M' w → EnvAt ρ (Dom X ρ M') w N e' a → (∀ t ∈ looksAt ops o, e' t = e t) → (∀ x ∈ ft, M' x = M x) →
    (∀ x, Fresh n x → M' x = none ∧ ρ x = none) → (∃ B, ∀ x, B ≤ x → M' x = none ∧ ρ x = none) → ∀ (J : Act → World → Prop) (Q : Exit → Act → World → Prop), (∀ cv w', StepsN cx.G X w0 I ρ M' w n v (M'.app eff) cv w' → J (a.put o.dst cv) w') →
    if Region.wanted o (yielded ops.toArray a.tmps) then o.wp cx.P a w J Q else J (a.put o.dst undef) w

section
variable {cx : Cx} {N : Nat} {X : Nat → Prop} {w0 : World} {I : Nat → Prop} {ρ0 : Names} {b0 : Nat}
theorem opIn_operands {o : Oper} (h : opIn N o = true) : ∀ x ∈ o.op.operands.toList, inN N x := by
  intro x hx
  rw [opsL_eq] at hx
  simp only [opIn, Bool.and_eq_true, List.all_eq_true] at h
  exact inN_of (h.1 x hx)
theorem opIn_dst {o : Oper} (h : opIn N o = true) : ∀ t, o.dst = some t → t < N := by
  intro t ht
  simp only [opIn, Bool.and_eq_true, ht] at h
  simpa using h.2
theorem guard_reads {ops : List Oper} (hin : ∀ o ∈ ops, opIn N o = true) {ρ : Names} {D : Nat → Prop} {e : Env} {a : Act} {w : World} (h : EnvAt ρ D w N e a) {j : Nat} {b : Bool} (hg : guardV ops e j = .bool b) : yielded ops.toArray a.tmps j = some b := by
  unfold guardV at hg
  cases ho : ops[j]? with
  | none => rw [ho] at hg; cases hg
  | some o =>
    rw [ho] at hg
    cases hd : o.dst with
    | none => simp only [hd] at hg; cases hg
    | some t =>
      simp only [hd] at hg
      have ht := opIn_dst (hin o (List.mem_of_getElem? ho)) t hd
      have hv := (h.is t ht).strip (c := true) rfl
      rw [hg] at hv
      have hlt : t < a.tmps.size := by rw [h.size]; exact ht
      have he : a.tmps.getD t undef = a.tmps[t] := by simp [Array.getD_eq_getD_getElem?, hlt]
      rw [he] at hv
      unfold yielded
      simp only [List.getElem?_toArray, ho, Option.bind_some, hd, Array.getElem?_eq_getElem hlt]
      cases hb : a.tmps[t] <;> rw [hb] at hv <;> cases hv
      rfl
theorem guardV_congr {ops : List Oper} {e e' : Env} {o : Oper} {j : Nat} {want : Bool} (hg : o.guard = some (j, want)) (h : ∀ t ∈ looksAt ops o, e' t = e t) : guardV ops e' j = guardV ops e j := by
  unfold guardV
  cases ho : ops[j]? with
  | none => rfl
  | some oj =>
    cases hd : oj.dst with
    | none => simp only [hd]
    | some t =>
      simp only [hd]
      rw [h t (by unfold looksAt; rw [hg]; simp [ho, hd])]
theorem looks_operands {ops : List Oper} {e e' : Env} {o : Oper} (h : ∀ t ∈ looksAt ops o, e' t = e t) (G : Nat → V) (c : Bool) : ∀ x ∈ o.op.operands.toList, evalV G c e' x = evalV G c e x := fun x hx =>
  evalV_congr (fun t ht => h t (by unfold looksAt; exact List.mem_append_left _ (List.mem_filterMap.2 ⟨x, by rw [← opsL_eq]; exact hx, ht⟩)))
theorem opF_mem {c : Bool} {e : Env} {n : Nat} {o : Oper} (h : opF cx c e n o ≠ []) : memOp o.op = true := by
  obtain ⟨dst, op, type, pos, after, guard⟩ := o
  cases op <;> simp only [opF] at h <;> first | rfl | exact absurd rfl h | skip
  rename_i cl
  obtain ⟨callee, args, ats⟩ := cl
  cases callee <;> first | rfl | exact absurd rfl h | skip
  rename_i b
  cases b <;> first | rfl | exact absurd rfl h
theorem opE_writer {c : Bool} {e : Env} {M : Mem} {n : Nat} {o : Oper} (h : opE cx c e M n o ≠ []) : writerOp o.op = true := by
  obtain ⟨dst, op, type, pos, after, guard⟩ := o
  cases op <;> simp only [opE] at h <;> first | rfl | exact absurd rfl h | skip
  rename_i cl
  obtain ⟨callee, args, ats⟩ := cl
  cases callee <;> first | rfl | exact absurd rfl h | skip
  rename_i b
  by_cases hb : b = .append
  · subst hb; rfl
  · exfalso
    apply h
    simp only
    unfold builtinE
    split <;> first | rfl | exact absurd rfl hb
theorem opE_in {c : Bool} {e : Env} {M : Mem} {n : Nat} {o : Oper} : ∀ x ∈ effNames (opE cx c e M n o), x ∈ opF cx c e n o := by
  obtain ⟨dst, op, type, pos, after, guard⟩ := o
  cases op <;> simp only [opE, opF, effNames, List.map_nil, List.map_cons, List.not_mem_nil, false_implies, implies_true, List.mem_singleton, imp_self] <;> try trivial
  case store t p v =>
    intro x hx
    split at hx
    · rename_i q i j hq
      rw [hq]
      simpa [namesV] using hx
    · simp at hx
  case call cl =>
    obtain ⟨callee, args, ats⟩ := cl
    cases callee <;> simp only [List.map_nil, List.not_mem_nil, false_implies, implies_true]
    rename_i b
    intro x hx
    by_cases hb : b = .append
    · subst hb
      simp only
      revert hx
      generalize args.toList.map (evalV cx.G c e) = l
      intro hx
      unfold builtinE at hx
      split at hx
      · simp only [List.map_cons, List.map_nil, List.mem_cons, List.not_mem_nil, or_false] at hx
        rcases hx with rfl | rfl
        · simp [namesV]
        · simp
      · simp only [List.map_cons, List.map_nil, List.mem_cons, List.not_mem_nil, or_false] at hx
        subst hx; simp
      · simp at hx
    · exfalso
      unfold builtinE at hx
      split at hx <;> first | exact absurd rfl hb | simp at hx
/-- What is asked of an operation in its place shows what it does. -/
theorem op_sem {ops : List Oper} (hin : ∀ o ∈ ops, opIn N o = true) {o : Oper} (ho : opIn N o = true) {r : List Oper} {nm i : Nat} {e : Env} {M : Mem} (hfree : ∀ x, nm + 16 * i ≤ x → M x = none) {fs : List (List Nat)} {K : Nat → Env → Mem → List (List Nat) → Prop} (hvc : vcOps cx ops (o :: r) nm i e M fs K) :
    ∃ v eff ft, OpDoes cx N ops o (nm + 16 * i) e M v eff ft ∧ vcOps cx ops r nm (i + 1) (e.putD o.dst v) (M.app eff) (fs ++ [ft]) K := by
  have hx := opIn_operands ho
  have liveE : ∀ c, opOk cx c e M o → ∀ x ∈ effNames (opE cx c e M (nm + 16 * i) o), (M x).isSome = true ∨ Fresh (nm + 16 * i) x := fun c hok x hxe => by
    rcases opE_live c hok x hxe with h | h
    · exact .inl h
    · exact .inr (by subst h; exact ⟨Nat.le_refl _, by omega⟩)
  -- an operation that is carried out
  have does : ∀ (c : Bool), c = true → opOk cx c e M o → (∀ (e' : Env) (a : Act) (ρ : Names) (D : Nat → Prop) (w : World), EnvAt ρ D w N e' a → (∀ t ∈ looksAt ops o, e' t = e t) → Region.wanted o (yielded ops.toArray a.tmps) = true) →
      ∀ (u : V), (∀ {ρ' : Names} {D' : Nat → Prop} {w' : World} {cv : Value}, Is ρ' D' w' (opV cx c e M (nm + 16 * i) o) cv → Is ρ' D' w' u cv) → OpDoes cx N ops o (nm + 16 * i) e M u (opE cx c e M (nm + 16 * i) o) (opF cx c e (nm + 16 * i) o) := by
    intro c hc hok hw u hu
    refine ⟨opE_in, liveE c hok, opE_writer, opF_mem, ?_⟩
    intro X w0 I ρ e' M' a w hrel henv hl hm hfr _ J Q hJ
    rw [if_pos (hw e' a ρ _ w henv hl)]
    obtain ⟨c1, c2, c3⟩ := op_congr (cx := cx) (c := c) (n := nm + 16 * i) (o := o) (looks_operands hl cx.G c) hm
    have hfn := hfr (nm + 16 * i) ⟨Nat.le_refl _, by omega⟩
    obtain ⟨cv, w', hs, hwp⟩ := op_sound (cx := cx) hrel henv hc hx hfn.1 hfn.2 (by rw [c1]; exact hok)
    rw [c2, c3] at hs
    refine hwp J Q (hJ cv w' ?_)
    obtain ⟨ρ', g1, g2, g3, g4⟩ := hs.n
    exact ⟨ρ', g1, g2, hu g3, g4⟩
  -- one that is left out
  have skips : ∀ (u : V) (ft : List Nat), (∀ {ρ' : Names} {D' : Nat → Prop} {w' : World}, Is ρ' D' w' u undef) → (ft ≠ [] → memOp o.op = true) → (∀ (e' : Env) (a : Act) (ρ : Names) (D : Nat → Prop) (w : World), EnvAt ρ D w N e' a → (∀ t ∈ looksAt ops o, e' t = e t) → Region.wanted o (yielded ops.toArray a.tmps) = false) →
      OpDoes cx N ops o (nm + 16 * i) e M u [] ft := by
    intro u ft hu hft hw
    refine ⟨fun x hx => by simp [effNames] at hx, fun x hx => by simp [effNames] at hx, fun h => absurd rfl h, hft, ?_⟩
    intro X w0 I ρ e' M' a w hrel henv hl hm hfr _ J Q hJ
    rw [hw e' a ρ _ w henv hl]
    simp only [Bool.false_eq_true, if_false]
    exact hJ undef w ⟨ρ, hrel, .refl _ _ _, hu, fun _ _ => rfl⟩
  cases hg : o.guard with
  | none =>
    have hw : ∀ (e' : Env) (a : Act) (ρ : Names) (D : Nat → Prop) (w : World), EnvAt ρ D w N e' a → (∀ t ∈ looksAt ops o, e' t = e t) → Region.wanted o (yielded ops.toArray a.tmps) = true := fun _ a _ _ _ _ _ => by simp only [Region.wanted, hg]
    simp only [vcOps, hg] at hvc
    split at hvc
    · obtain ⟨dst, op, type, pos, after, guard⟩ := o
      unfold vcCall at hvc
      split at hvc
      · rename_i fo args ats hop
        split at hvc
        · rename_i g caps hfo
          obtain ⟨l, v, eff, hev, heff, hr⟩ := hvc
          simp only at hop
          refine ⟨v, eff, l ++ effNames eff, ⟨fun x hx => List.mem_append_right _ hx, fun x hx => (heff x hx).imp (fun h => h.2) id, fun _ => by subst hop; rfl, fun _ => by subst hop; rfl, ?_⟩, hr⟩
          intro X w0 I ρ e' M' a w hrel henv hl hm hfr hB J Q hJ
          rw [if_pos (hw e' a ρ _ w henv hl)]
          have hlo := looks_operands hl cx.G true
          have hops : (⟨dst, op, type, pos, after, guard⟩ : Oper).op.operands.toList = fo :: args.toList := by simp only [hop]; simp [Op.operands, Call.operands]
          rw [hops] at hlo
          have honly : M'.only l = M.only l := by
            funext x
            unfold Mem.only
            by_cases hxl : x ∈ l
            · rw [if_pos hxl, if_pos hxl]; exact hm x (List.mem_append_left _ hxl)
            · rw [if_neg hxl, if_neg hxl]
          refine call_sound (cx := cx) hrel henv rfl hx hfr hB hop (by rw [hlo fo (by simp)]; exact hfo) (l := l) (v := v) (eff := eff) (by rw [honly, List.map_congr_left (fun x hx => hlo x (by simp [hx]))]; exact hev) (fun x hx => (heff x hx).imp (fun h => h.1) id) Q J hJ
        · exact hvc.elim
      · exact hvc.elim
    · exact ⟨_, _, _, does true rfl hvc.1 hw _ id, hvc.2⟩
  | some p =>
    obtain ⟨j, want⟩ := p
    simp only [vcOps, hg] at hvc
    split at hvc
    · rename_i b hb
      have hw : ∀ (e' : Env) (a : Act) (ρ : Names) (D : Nat → Prop) (w : World), EnvAt ρ D w N e' a → (∀ t ∈ looksAt ops o, e' t = e t) → Region.wanted o (yielded ops.toArray a.tmps) = (b == want) := fun e' a ρ D w he hl => by
        have hy := guard_reads hin he (by rw [guardV_congr hg hl]; exact hb)
        simp only [Region.wanted, hg, hy]
        cases b <;> cases want <;> rfl
      split at hvc
      · unfold vcCallG at hvc
        split at hvc
        · rename_i fo args ats hop
          split at hvc
          · rename_i g caps hfo
            obtain ⟨l, v, hev, hr⟩ := hvc
            cases hbw : (b == want) with
            | false =>
              rw [hbw] at hr hw
              exact ⟨_, [], l, skips _ l (.gd (fun h => by cases h)) (fun _ => by rw [hop]; rfl) hw, hr⟩
            | true =>
              rw [hbw] at hr hev hfo hw
              refine ⟨_, [], l, ⟨fun x hx => by simp [effNames] at hx, fun x hx => by simp [effNames] at hx, fun h => absurd rfl h, fun _ => by rw [hop]; rfl, ?_⟩, hr⟩
              intro X w0 I ρ e' M' a w hrel henv hl hm hfr hB J Q hJ
              rw [if_pos (hw e' a ρ _ w henv hl)]
              have hlo := looks_operands hl cx.G true
              have hops : o.op.operands.toList = fo :: args.toList := by rw [hop]; simp [Op.operands, Call.operands]
              rw [hops] at hlo
              have honly : M'.only l = M.only l := by
                funext x
                unfold Mem.only
                by_cases hxl : x ∈ l
                · rw [if_pos hxl, if_pos hxl]; exact hm x hxl
                · rw [if_neg hxl, if_neg hxl]
              refine call_sound (cx := cx) (l := l) (eff := []) hrel henv rfl hx hfr hB hop (by rw [hlo fo (by simp)]; exact hfo) (by rw [honly, List.map_congr_left (fun x hx => hlo x (by simp [hx]))]; exact hev rfl) (fun x hx => by simp [effNames] at hx) Q J ?_
              intro cv w' hs
              obtain ⟨ρ', g1, g2, g3, g4⟩ := hs
              exact hJ cv w' ⟨ρ', g1, g2, .gd fun _ => g3, g4⟩
          · exact hvc.elim
        · exact hvc.elim
      · split at hvc
        · rename_i hsoft
          obtain ⟨hok, hr⟩ := hvc
          have heff : ∀ c, opE cx c e M (nm + 16 * i) o = [] := fun c => by
            obtain ⟨dst, op, type, pos, after, guard⟩ := o
            cases op <;> simp only [soft, Bool.false_eq_true] at hsoft <;> try rfl
            rename_i cl hnc
            obtain ⟨callee, args, ats⟩ := cl
            cases callee <;> simp only [Bool.false_eq_true] at hsoft <;> try rfl
            rename_i bb
            cases bb <;> simp only [Bool.false_eq_true] at hsoft <;> (simp only [opE]; unfold builtinE; split <;> first | rfl | (rename_i hb2 _; cases hb2))
          cases hbw : (b == want) with
          | false =>
            rw [hbw] at hr hw
            exact ⟨_, [], _, skips _ _ (.gd (fun h => by cases h)) opF_mem hw, hr⟩
          | true =>
            rw [hbw] at hr hok hw
            have hd := does true rfl (hok rfl) hw (.gd true (opV cx true e M (nm + 16 * i) o)) (fun hv => .gd fun _ => hv)
            rw [heff true] at hd
            exact ⟨_, [], _, hd, hr⟩
        · obtain ⟨h1, h2⟩ := hvc
          cases hbw : (b == want) with
          | false =>
            rw [hbw] at hw
            exact ⟨.any, [], [], skips .any [] (.any _) (fun h => absurd rfl h) hw, h2 hbw⟩
          | true =>
            rw [hbw] at hw
            exact ⟨_, _, _, does true rfl (h1 hbw).1 hw _ id, (h1 hbw).2⟩
    · exact hvc.elim
/-- A region in the text's order. -/
theorem ops_sound {ops : List Oper} (hin : ∀ o ∈ ops, opIn N o = true) {Q : Exit → Act → World → Prop} {K : Nat → Env → Mem → List (List Nat) → Prop} (hK : ∀ n e M fs ρ a w, Lies cx N X w0 I ρ0 b0 n e M ρ a w → K n e M fs → Q .normal a w) :
    ∀ (r : List Oper) (nm i : Nat) (e : Env) (M : Mem) (fs : List (List Nat)) (ρ : Names) (a : Act) (w : World), (∀ o ∈ r, opIn N o = true) → Lies cx N X w0 I ρ0 b0 (nm + 16 * i) e M ρ a w → vcOps cx ops r nm i e M fs K → wpList cx.P ops.toArray Q r a w
  | [], nm, i, e, M, fs, ρ, a, w, _, h, hvc => hK _ e M fs ρ a w h hvc
  | o :: r, nm, i, e, M, fs, ρ, a, w, hr, h, hvc => by
    refine wpList_step (fun J hJ => ?_)
    obtain ⟨v, eff, ft, hd, hvc'⟩ := op_sem hin (hr o (by simp)) (fun x hx => (h.free x hx).1) hvc
    refine hd.run X w0 I ρ e M a w h.rel h.env (fun _ _ => rfl) (fun _ _ => rfl) (fun x hx => h.free x hx.1) ⟨_, h.free⟩ J Q ?_
    intro cv w' hs
    obtain ⟨ρ', hl⟩ := h.step (opIn_dst (hr o (by simp))) (Nat.le_refl _) hs (fun x hx => by
      rcases hd.live x hx with g | g
      · rcases Nat.lt_or_ge x (nm + 16 * i) with q | q
        · omega
        · rw [(h.free x q).1] at g; cases g
      · exact g.2) (u := v) id
    exact hJ _ _ (ops_sound hin hK r nm (i + 1) _ _ _ ρ' _ _ (fun o ho => hr o (by simp [ho])) (by rw [show nm + 16 * (i + 1) = nm + 16 * i + 16 by omega]; exact hl) hvc')
end
end Go.Proofs.Ytdbbnhmnlgfjoaa.Vm
