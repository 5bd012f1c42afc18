/-
  The machine of plain values: a contract in a call that shows its own blocks as what nobody writes. No program in sight.
-/
import Derived.Test.YtdbbnhmnlgfjoaaVt
namespace Go.Proofs.Ytdbbnhmnlgfjoaa.Vm
set_option linter.unusedSimpArgs false
set_option linter.unusedVariables false
open Go Go.RowKit

mutual
/-- No place in memory stands in it. -/
def V.flat : V → Bool
  | .any | .bool _ | .bit _ _ | .int _ _ | .str _ | .nilp | .nils | .val _ => true
  | .agg cs => flatL cs
  | .tup cs => flatL cs
  | .gd _ v => v.flat
  | _ => false
def flatL : List V → Bool
  | [] => true
  | v :: r => v.flat && flatL r
end
theorem flatL_get {l : List V} (h : flatL l = true) {i : Nat} {u : V} (hi : l[i]? = some u) : u.flat = true := by
  induction l generalizing i with
  | nil => simp at hi
  | cons v r ih =>
    simp only [flatL, Bool.and_eq_true] at h
    cases i with
    | zero => simp at hi; subst hi; exact h.1
    | succ i => exact ih h.2 (by simpa using hi)
theorem Is.flat {ρ ρ' : Names} {D D' : Nat → Prop} {w w' : World} {v : V} {cv : Value} (h : Is ρ D w v cv) (hp : v.flat = true) : Is ρ' D' w' v cv := by
  induction h with
  | any cv => exact .any _
  | bool b => exact .bool _
  | bit b ht hf => exact .bit b ht hf
  | int k n => exact .int _ _
  | str s => exact .str _
  | nilp => exact .nilp
  | ptr h => simp [V.flat] at hp
  | rp cv hd hb hc _ ih => simp [V.flat] at hp
  | nils => exact .nils
  | sl0 ht => simp [V.flat] at hp
  | sl cv hc ht hd hb hr hx _ ih => simp [V.flat] at hp
  | own0 => simp [V.flat] at hp
  | own h hl hc => simp [V.flat] at hp
  | fn hn _ ih => simp [V.flat] at hp
  | agg hn _ ih => exact .agg hn (fun i u cv hi hc => ih i u cv hi hc (flatL_get (by simpa [V.flat] using hp) hi))
  | tup hn _ ih => exact .tup hn (fun i u cv hi hc => ih i u cv hi hc (flatL_get (by simpa [V.flat] using hp) hi))
  | gd _ ih => exact .gd (fun hb => ih hb (by simpa [V.flat] using hp))
  | val v => exact .val _

/-- A contract that needs no memory, where blocks of the caller's are shown as what nobody writes. -/
theorem Ev.view {cx : Cx} {f : FuncId} {nm : Nat} {args : List V} {M : Mem} {v : V} (h : Ev cx f nm (finL [] M args) Mem.nil v []) (hok : finLOk [] M args) (hv : v.flat = true) : Ev cx f nm args M v [] := by
  refine ⟨h.1, fun X w ρ cargs B hr hfresh hB hn hargs => ?_⟩
  have hdom : ∀ b, Dom X ρ Mem.nil b → Dom X ρ M b := by
    rintro b (hx | ⟨nm, l, h1, _⟩)
    · exact .inl hx
    · simp [Mem.nil] at h1
  have hr0 : Rel cx.G X w (Blocks ρ Mem.nil) ρ Mem.nil w :=
    { size := Nat.le_refl _, os := rfl, tape := rfl, output := rfl, old := fun _ _ _ => rfl
      live := fun nm k hk => by simp [Mem.nil] at hk
      inj := fun nm nm' l l' h1 => by simp [Mem.nil] at h1
      hX := fun b hb => ⟨(hr.hX b hb).1, by rintro ⟨nm, q, h1, _⟩; simp [Mem.nil] at h1⟩
      glob := fun g => (hr.glob g).step (fun _ _ h => h) (Nat.le_refl _) (fun _ _ _ => rfl) (fun b _ hb => hdom b hb) }
  refine (h.2 X w ρ cargs B hr0 hfresh (fun x hx => ⟨rfl, (hB x hx).2⟩) (by rw [finL_length]; exact hn) ?_).mono ?_
  · intro i u cv hi hc
    rw [finL_get] at hi
    obtain ⟨u', h1, rfl⟩ := Option.map_eq_some_iff.1 hi
    refine fin_is (cx := cx) hr (fun nm y hy => by simp [newName] at hy) hdom (fun nm l _ hM hl => ?_) (hargs i u' cv h1 hc) (finLOk_get hok h1)
    rintro (hx | ⟨nm', q, h2, _⟩)
    · exact (hr.block_lt hM hl).2.1 hx
    · simp [Mem.nil] at h2
  · rintro e' w' ⟨cv, rfl, ρ', r, m, hvv, hn'⟩
    have hkept : ∀ b, b < w.heap.size → w'.heap[b]? = w.heap[b]? := fun b hb => m.kept b hb (fun nm l h1 => by simp [Mem.nil] at h1)
    have mv : Moves ρ M w ρ M w' := ⟨fun _ _ h => h, m.size, m.os, m.tape, m.output, fun b hb _ => hkept b hb, fun nm l h1 h2 _ => ⟨nm, l, h1, h2, rfl⟩⟩
    refine ⟨cv, rfl, ρ, ?_, mv, hvv.flat hv, fun _ _ => rfl⟩
    exact hr.move mv hr.inj (fun nm k hk => .inl ⟨hk, id, fun l hl => hkept l.b (hr.block_lt (by rw [show M nm = some k from hk]; rfl) hl).1⟩)

section
variable {cx : Cx} {Q : Post} {st : List Frm} {nm : Nat} {e : Env} {M : Mem}
/-- A call of a function by its name, which is shown blocks of the call's own as what nobody writes. -/
theorem call_fn_v {d : Bool} {fs : List (List Nat)} {ops : List Oper} {dst : Option Tmp} {g : FuncId} {args : Array Operand} {ats : Array TypeId} {t : TypeId} {pos : String} {af : Array Edge} {r : List Oper} {i : Nat} {as as' : List V}
    (l : List Nat) (has : args.toList.map (evalV cx.G true e) = as) (has' : finL [] (M.only l) as = as') (hok : finLOk [] (M.only l) as) {v : V} (hv : v.flat = true) (hev : Ev cx g (nm + 16 * i) as' Mem.nil v []) (h : goOps cx Q st nm (e.putD dst v) M d (fs ++ [l]) ops r (i + 1)) : goCall cx Q st nm e M d fs ops ⟨dst, .call ⟨.value (.func g), args, ats⟩, t, pos, af, none⟩ r i :=
  call_fn_full has l (Ev.view (by rw [has']; exact hev) hok hv) (fun x hx => by simp [effNames] at hx) (by simpa [effNames, Mem.app] using h)
/-- A call that lays blocks and is given none. -/
theorem call_fn_new {d : Bool} {fs : List (List Nat)} {ops : List Oper} {dst : Option Tmp} {g : FuncId} {args : Array Operand} {ats : Array TypeId} {t : TypeId} {pos : String} {af : Array Edge} {r : List Oper} {i : Nat} {as : List V}
    (has : args.toList.map (evalV cx.G true e) = as) {v : V} {eff : List (Nat × Option Blk)} (hev : Ev cx g (nm + 16 * i) as Mem.nil v eff) (he : ∀ x ∈ effNames eff, nm + 16 * i ≤ x ∧ x < nm + 16 * i + 16)
    (h : goOps cx Q st nm (e.putD dst v) (M.app eff) d (fs ++ [effNames eff]) ops r (i + 1)) : goCall cx Q st nm e M d fs ops ⟨dst, .call ⟨.value (.func g), args, ats⟩, t, pos, af, none⟩ r i :=
  call_fn_full has [] (by rw [Mem.only_nil]; exact hev) (fun x hx => .inr (he x hx)) (by simpa using h)
/-- The same behind a guard. -/
theorem call_fn_gv {d : Bool} {fs : List (List Nat)} {ops : List Oper} {c : Bool} {dst : Option Tmp} {g : FuncId} {args : Array Operand} {ats : Array TypeId} {t : TypeId} {pos : String} {af : Array Edge} {gd : Option (Nat × Bool)} {r : List Oper} {i : Nat} {as as' : List V}
    (l : List Nat) (has : args.toList.map (evalV cx.G c e) = as) (has' : c = true → finL [] (M.only l) as = as') (hok : c = true → finLOk [] (M.only l) as) {v : V} (hv : v.flat = true) (hev : c = true → Ev cx g (nm + 16 * i) as' Mem.nil v []) (h : goOps cx Q st nm (e.putD dst (.gd c v)) M d (fs ++ [l]) ops r (i + 1)) : goCallG cx Q st nm e M d fs c ops ⟨dst, .call ⟨.value (.func g), args, ats⟩, t, pos, af, gd⟩ r i := by
  subst has
  unfold goCallG vcCallG
  simp only [evalV, List.append_nil]
  exact ⟨l, v, fun hc => Ev.view (by rw [has' hc]; exact hev hc) (hok hc) hv, h⟩
end
/-- Which blocks are handed back: (x, j): the block x, under the name nm + j. -/
def sigOk (b0 : Nat) (M : Mem) : List (Nat × Nat) → Prop
  | [] => True
  | (x, j) :: r => (j < 16 ∧ b0 ≤ x ∧ (M x).isSome = true ∧ plainLL (rowsOf M x) = true) ∧ (∀ p ∈ r, p.1 ≠ x ∧ p.2 ≠ j) ∧ sigOk b0 M r
def sigE (nm : Nat) (M : Mem) (σ : List (Nat × Nat)) : List (Nat × Option Blk) := σ.map (fun p => (nm + p.2, M p.1))
def sigN (nm : Nat) (σ : List (Nat × Nat)) : List (Nat × Nat) := σ.map (fun p => (p.1, nm + p.2))
theorem sigOk_get {b0 : Nat} {M : Mem} {σ : List (Nat × Nat)} (h : sigOk b0 M σ) : ∀ p ∈ σ, p.2 < 16 ∧ b0 ≤ p.1 ∧ (M p.1).isSome = true ∧ plainLL (rowsOf M p.1) = true := by
  induction σ with
  | nil => intro p hp; cases hp
  | cons q r ih =>
    intro p hp
    simp only [sigOk] at h
    rcases List.mem_cons.1 hp with rfl | hp
    · exact h.1
    · exact ih h.2.2 p hp
theorem sigOk_nodup {b0 : Nat} {M : Mem} (nm : Nat) {σ : List (Nat × Nat)} (h : sigOk b0 M σ) : ((sigN nm σ).map (·.1)).Nodup ∧ ((sigN nm σ).map (·.2)).Nodup := by
  induction σ with
  | nil => exact ⟨List.nodup_nil, List.nodup_nil⟩
  | cons q r ih =>
    simp only [sigOk] at h
    obtain ⟨a, b⟩ := ih h.2.2
    refine ⟨List.nodup_cons.2 ⟨?_, a⟩, List.nodup_cons.2 ⟨?_, b⟩⟩
    · intro hm
      simp only [sigN, List.map_map, List.mem_map, Function.comp_apply] at hm
      obtain ⟨p, hp, he⟩ := hm
      exact (h.2.1 p hp).1 he
    · intro hm
      simp only [sigN, List.map_map, List.mem_map, Function.comp_apply] at hm
      obtain ⟨p, hp, he⟩ := hm
      exact (h.2.1 p hp).2 (by omega)
/-- A function that yields blocks of its own; gs: the row sizes of empty slices of which no block is there. -/
theorem Fin.own {cx : Cx} {N : Nat} {rs : List ResultVar} {nm : Nat} {v : V} {eff : List (Nat × Option Blk)} {b0 n : Nat} {e : Env} {M : Mem} (gs : List Nat) (σ : List (Nat × Nat)) (h1 : resOk cx.P N rs e (M.ghosts n gs)) (h2 : (resV cx.P rs e (M.ghosts n gs)).finOk (sigN nm σ) (M.ghosts n gs)) (h3 : ((resV cx.P rs e (M.ghosts n gs)).fin (sigN nm σ) (M.ghosts n gs)).le v) (h4 : sigE nm (M.ghosts n gs) σ = eff) (h5 : sigOk b0 (M.ghosts n gs) σ) : FinG cx N rs nm Mem.nil v eff b0 n e M := by
  refine ⟨gs, h1, sigN nm σ, h2, h3, ?_, (sigOk_nodup nm h5).1, (sigOk_nodup nm h5).2, ?_, fun x hx => by simp [Mem.nil] at hx⟩
  · rw [← h4]; simp [sigE, sigN]
  · intro p hp
    simp only [sigN, List.mem_map] at hp
    obtain ⟨q, hq, rfl⟩ := hp
    obtain ⟨g1, g2, g3, g4⟩ := sigOk_get h5 q hq
    refine ⟨.inr ⟨⟨by simp, by simp; omega⟩, g2⟩, ?_⟩
    obtain ⟨k, hk⟩ := Option.isSome_iff_exists.1 g3
    refine ⟨k, hk, ?_⟩
    simpa [rowsOf, hk] using g4
theorem take_map_len {α β : Type} (f : α → β) (l : List α) : (l.map f).take l.length = l.map f := by rw [← List.length_map (f := f), List.take_length]
theorem ghosts_nil (M : Mem) (n : Nat) : M.ghosts n [] = M := rfl
theorem ghosts_cons (M : Mem) (n s : Nat) (r : List Nat) : M.ghosts n (s :: r) = (M.put n (some ⟨s, []⟩)).ghosts (n + 1) r := rfl
theorem newName_nil (x : Nat) : newName [] x = none := rfl
theorem newName_cons (y z x : Nat) (r : List (Nat × Nat)) : newName ((y, z) :: r) x = if y = x then some z else newName r x := by
  unfold newName
  rw [List.find?_cons]
  by_cases h : y = x
  · subst h; simp
  · have hb : (y == x) = false := by simpa using h
    simp only [hb, h, if_false]
theorem only_at (M : Mem) (l : List Nat) (x : Nat) : (M.only l) x = if x ∈ l then M x else none := rfl
theorem plainLL_map {α : Type} (f : α → List V) (h : ∀ a, plainL (f a) = true) (l : List α) : plainLL (l.map f) = true := by
  rw [plainLL_all, List.all_eq_true]
  intro x hx
  obtain ⟨a, _, rfl⟩ := List.mem_map.1 hx
  exact h a
end Go.Proofs.Ytdbbnhmnlgfjoaa.Vm
