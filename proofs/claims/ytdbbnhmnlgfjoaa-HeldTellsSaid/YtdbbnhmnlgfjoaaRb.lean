/-
  The machine of plain values: a law's row, out of its contract. No program in sight.
-/
import Derived.Test.YtdbbnhmnlgfjoaaRa
import GoSem.ClaimJoined
import Derived.SizedLaws
import Derived.Carry
import Derived.OpenShut
import Derived.WideShapes
namespace Go.Proofs.Ytdbbnhmnlgfjoaa.Vm
set_option linter.unusedSimpArgs false
set_option linter.unusedVariables false
open Go Go.RowKit Go.ChangeShapes Go.WideShapes

/-- An argument of a type, out of its cells. -/
def argV (P : Program) (t : TypeId) (vs : List V) : V := match P.underlying t with
  | some (.struct _) => .agg vs
  | _ => vs.headD .any
/-- What can be handed in for parameters of these types. -/
def ShapeArgs (P : Program) : List TypeId → List V → Prop
  | [], as => as = []
  | t :: ts, as => ∃ n vs r, as = argV P t vs :: r ∧ Shape P n t vs ∧ ShapeArgs P ts r
theorem weights_left {H : Type} {P : Program} : ∀ {ts us : List TypeId} {ds : List (DataW H)} {m : Nat}, ts.length = ds.length → m ∈ DataW.weightsEach P ts ds → m ∈ DataW.weightsEach P (ts ++ us) (ds ++ [])
  | [], us, [], m, _, h => by simp [DataW.weightsEach] at h
  | [], _, _ :: _, _, hl, _ => by simp at hl
  | _ :: _, _, [], _, hl, _ => by simp at hl
  | t :: ts, us, d :: ds, m, hl, h => by
    simp only [DataW.weightsEach, List.cons_append, List.mem_append] at h ⊢
    rcases h with h | h
    · exact .inl h
    · exact .inr (weights_left (by simpa using hl) h)
theorem okBool {P : Program} {w : World} {r : Reach} {base : Nat} {t : TypeId} {v : Value} (ht : P.underlying t = some .bool) (h : Value.okWide P w r base t v) : ∃ b, v = .bool b := by
  simp only [Value.okWide, ht, Cell.okWide] at h
  cases v <;> simp_all [Cell.ok]
theorem value_shape {P : Program} {ts : List TypeId} (hts : okSet P ts = true) {w : World} {H : Type} {enc : TypeId × Value → H} {base base' : Nat} {spare : Nat → Bool} {held : Bool} {r : Reach} {t : TypeId} {v : Value} {d : DataW H} {p : List MemPlace} (ht : t ∈ ts)
    (h : DataW.Trod enc P w base spare held t v d p) (hw : ∀ m ∈ d.weights P t, m ≤ reachBytes) (hok : Value.okWide P w r base' t v) : ∃ n vs, Shape P n t vs ∧ Is (fun _ => none) (fun _ => False) w (argV P t vs) v := by
  obtain ⟨n, hn⟩ := h
  obtain ⟨vs, h1, h2, h3⟩ := trod_shape hts n t _ _ ht hn hw
  refine ⟨n, vs, h1, ?_⟩
  have hk := List.all_eq_true.1 hts t ht
  unfold argV
  cases n with
  | zero => exact h1.elim
  | succ n =>
  unfold Shape at h1
  cases hu : P.underlying t with
  | none => rw [hu] at h1; exact h1.elim
  | some u =>
    rw [hu] at h1
    have single : ∀ u', vs = [u'] → v.cells = #[v] → Is (fun _ => none) (fun _ => False) w (vs.headD .any) v := fun u' e hc => by
      subst e
      exact h3 0 u' v rfl (by rw [hc]; rfl)
    cases u with
    | struct fs =>
      obtain ⟨cs, rfl, hsz⟩ := okWide_struct hu hok
      exact .agg (by simpa [Value.cells] using h2) (fun i u cv hi hc => h3 i u cv hi (by simpa [Value.cells] using hc))
    | bool =>
      obtain ⟨b, e⟩ := h1
      obtain ⟨b', rfl⟩ : ∃ b, v = .bool b := okBool hu hok
      exact single _ e rfl
    | int k =>
      obtain ⟨m, e, _⟩ := h1
      obtain ⟨n, rfl⟩ := okWide_int hu hok
      exact single _ e rfl
    | string =>
      obtain ⟨s, e, _⟩ := h1
      obtain ⟨n, rfl⟩ := okWide_string hu hok
      exact single _ e rfl
    | slice e =>
      obtain ⟨rows, e, _⟩ := h1
      obtain ⟨a, l, c, rfl⟩ := okWide_slice hu hok
      exact single _ e rfl
    | pointer e =>
      obtain ⟨a, rfl⟩ := okWide_pointer hu hok
      have hv : (Value.pointer a).cells = #[.pointer a] := rfl
      rcases h1 with e | ⟨cells, e, _⟩
      · exact single _ e hv
      · exact single _ e hv
    | _ => exact h1.elim
theorem args_shape {P : Program} {ts : List TypeId} (hts : okSet P ts = true) {w : World} {H : Type} {enc : TypeId × Value → H} {base' : Nat} {r : Reach} : ∀ {qs : List TypeId} {vs : List Value} {ds : List (DataW H)} {p : List MemPlace}, (∀ t ∈ qs, t ∈ ts) →
    DataW.TrodAll enc P w 0 (fun _ => true) true qs vs ds p → (∀ m ∈ DataW.weightsEach P qs ds, m ≤ reachBytes) → (∀ (j : Nat) (t : TypeId) (v : Value), qs[j]? = some t → vs[j]? = some v → Value.okWide P w r base' t v) →
    ∃ as, ShapeArgs P qs as ∧ as.length = vs.length ∧ ∀ (i : Nat) (u : V) (cv : Value), as[i]? = some u → vs[i]? = some cv → Is (fun _ => none) (fun _ => False) w u cv
  | [], vs, ds, p, _, h, _, _ => by
    obtain ⟨rfl, rfl, rfl⟩ := trodAll_nil h
    exact ⟨[], rfl, rfl, fun i u cv h => by simp at h⟩
  | t :: qs, vs, ds, p, hq, h, hw, hok => by
    obtain ⟨v, vs', d, ds', p1, q1, rfl, rfl, rfl, h1, h2⟩ := trodAll_cons h
    simp only [DataW.weightsEach, List.mem_append] at hw
    obtain ⟨n, us, g1, g2⟩ := value_shape hts (hq t (by simp)) h1 (fun m hm => hw m (.inl hm)) (hok 0 t v rfl rfl)
    obtain ⟨as, g3, g4, g5⟩ := args_shape hts (fun t ht => hq t (by simp [ht])) h2 (fun m hm => hw m (.inr hm)) (fun j t v hj hv => hok (j + 1) t v (by simpa using hj) (by simpa using hv))
    refine ⟨argV P t us :: as, ⟨n, us, as, rfl, g1, g3⟩, by simp [g4], fun i u cv hi hc => ?_⟩
    cases i with
    | zero => simp at hi hc; subst hi; subst hc; exact g2
    | succ i => exact g5 i u cv (by simpa using hi) (by simpa using hc)
theorem trodAll_length {P : Program} {w : World} {H : Type} {enc : TypeId × Value → H} {base : Nat} {spare : Nat → Bool} {held : Bool} : ∀ {qs : List TypeId} {vs : List Value} {ds : List (DataW H)} {p : List MemPlace}, DataW.TrodAll enc P w base spare held qs vs ds p → qs.length = ds.length ∧ qs.length = vs.length
  | [], vs, ds, p, h => by obtain ⟨rfl, rfl, rfl⟩ := trodAll_nil h; exact ⟨rfl, rfl⟩
  | t :: qs, vs, ds, p, h => by
    obtain ⟨v, vs', d, ds', p1, q1, rfl, rfl, rfl, h1, h2⟩ := trodAll_cons h
    have := trodAll_length h2
    simp [this.1, ← this.2]
theorem trodAll_below {P : Program} {W W' : World} {H : Type} {enc : TypeId × Value → H} (hl : laidOutB P = true) (hb : Below W.heap.size W W') : ∀ {qs : List TypeId} {vs : List Value} {ds : List (DataW H)} {p : List MemPlace},
    (qs.all fun t => P.readableRec t && decide (t < P.types.size)) = true → DataW.TrodAll enc P W 0 (fun _ => true) true qs vs ds p → DataW.TrodAll enc P W' 0 (fun b => decide (b < W.heap.size)) true qs vs ds p
  | [], vs, ds, p, _, h => by obtain ⟨rfl, rfl, rfl⟩ := trodAll_nil h; exact trodAll_mk0
  | t :: qs, vs, ds, p, hr, h => by
    obtain ⟨v, vs', d, ds', p1, q1, rfl, rfl, rfl, h1, h2⟩ := trodAll_cons h
    simp only [List.all_cons, Bool.and_eq_true, decide_eq_true_eq] at hr
    have h1' := h1
    obtain ⟨m, hm⟩ := h1'
    exact trodAll_cons_mk (Below.trod hl hr.1.1 hr.1.2 h1 hb (DataW.trod_lt m _ _ _ hm)) (trodAll_below hl hb (by simp only [Bool.and_eq_true, List.all_eq_true, decide_eq_true_eq] at hr ⊢; exact hr.2) h2)

/-- A world in which nothing is anybody's. -/
theorem rel_start {G : Nat → V} (hG : ∀ g, G g = .any) (w : World) : Rel G (fun _ => False) w (Blocks (fun _ => none) Mem.nil) (fun _ => none) Mem.nil w where
  size := Nat.le_refl _
  os := rfl
  tape := rfl
  output := rfl
  old := fun _ _ _ => rfl
  live := fun nm k h => by cases h
  inj := fun nm nm' l l' h => by cases h
  hX := fun b h => h.elim
  glob := fun g => by rw [hG]; exact .any _
theorem lifted_of_ev {C : Checked} {cx : Cx} (hP : cx.P = C.prog) (hG : ∀ g, cx.G g = .any) {H : Type} {enc : TypeId × Value → H} {s : ChangeSpec} {f : FuncId} {fn : Func} {conds : List PathCond} {os : Os} (own : ownKnob C.prog.godebug = none) (started : os.Started) (noInit : C.prog.inits.idxOf? f = none)
    (hfn : C.prog.funcs[f]? = some fn) (hv : s.vars = []) (hl : laidOutB C.prog = true) (ts : List TypeId) (hts : okSet C.prog ts = true) (hpt : (fn.params.toList.all fun t => ts.contains t) = true) (hpr : (fn.params.toList.all fun t => C.prog.readableRec t && decide (t < C.prog.types.size)) = true)
    {tb : TypeId} (hres : fn.resultTypes = #[tb]) (hb : C.prog.underlying tb = some .bool) (hs : ∀ (H : Type) (ds : List (DataW H)), ds.length = fn.params.toList.length → (s.fn H ds).results = [.lit (.bool true)] ∧ (s.fn H ds).args = ds ∧ (s.fn H ds).vars = [])
    (witness : ∃ (w : World) (tape : Tape) (i : Input), w.os = os ∧ (w.forCall tape i).Shaped C.prog ∧ i.vars = [] ∧ Input.okWide C.prog (w.forCall tape i) .any w.heap.size f i ∧
      s.pre6 enc C.prog fn conds false (w.forCall tape i).memory i.args ∧ ({} : Assume).holds C.prog (lone (Frame.enter C.prog f i.args .normal) [] (w.forCall tape i)))
    (hev : ∀ as, ShapeArgs C.prog fn.params.toList as → Ev cx f 0 as Mem.nil (.bool true) []) :
    ReturnsInHanded {} C os f .any (s.pre6 enc C.prog fn conds false) (s.post enc C.prog fn false true false false) := by
  refine returnsInHanded_of_change_sized own started noInit hfn witness ?_
  intro W base args ds gs before hval hW _ hsz _
  have hW' := hW
  obtain ⟨p, q, hA, hV, rfl, hfz, hnd⟩ := hW
  rw [hv] at hV
  obtain ⟨rfl, rfl⟩ := trodVars_none hV
  obtain ⟨e1, e2⟩ := trodAll_length hA
  obtain ⟨as, g1, g2, g3⟩ := args_shape hts (fun t ht => by simpa using List.all_eq_true.1 hpt t ht) hA (fun m hm => by simpa using List.all_eq_true.1 hsz m (weights_left e1 hm)) (fun j t v hj hv => hval j t v (by simpa using hj) (by simpa using hv))
  have hc : Calls C.prog f args W fun e W' => ∃ cv, e = .returned cv ∧ StepsN cx.G (fun _ => False) W (Blocks (fun _ => none) Mem.nil) (fun _ => none) Mem.nil W 0 (.bool true) (Mem.nil.app []) cv W' := by
    rw [← hP]
    refine (hev as g1).2 (fun _ => False) W (fun _ => none) args 0 (rel_start hG W) (fun _ _ => rfl) (fun _ _ => ⟨rfl, rfl⟩) (by simpa using g2) (fun i u cv hi hc => ?_)
    refine (g3 i u cv hi (by simpa using hc)).step (fun _ _ h => h) (Nat.le_refl _) (fun _ _ _ => rfl) ?_
    rintro b _ (h | ⟨nm, l, h, _⟩)
    · exact h
    · cases h
  refine hc.mono ?_
  · rintro e W' ⟨cv, rfl, ρ', h1, h2, h3, _⟩
    cases h3
    have bel : Below W.heap.size W W' := ⟨h2.os, h2.tape, h2.output, h2.size, fun k hk => h2.kept k hk (fun nm l h => by cases h)⟩
    obtain ⟨s1, s2, s3⟩ := hs H (ds ++ []) (by simpa using e1.symm)
    refine ⟨_, rfl, ds, [], p ++ [], [], p, [], hW', ?_, ?_, ?_, bel.frame _, fun h => by cases h⟩
    · rw [s1, hres]; exact trodAll_mk1 (shut_bool hb _)
    · rw [s2, List.append_nil]; exact trodAll_below hl bel hpr hA
    · rw [s3, hv]; rfl
end Go.Proofs.Ytdbbnhmnlgfjoaa.Vm
