/-
  Texts joined: XVF, XVJ, XVL, XVM, XVG, XVH.
-/
import Derived.Lib.Overlaps
import Derived.Conc.LoneSelect
import Derived.Lib.ConvBytes
import Derived.Laws.BytesString
import Derived.Laws.MakeOwn
import Derived.Test.YtnnlicidlidclaaMd
/-
  The machine of plain values: capacities of what is handed in; what is handed back with names in it; functions in whose place the model stands. No program in sight.
-/
namespace Go.Proofs.Ytnnlicidlidclaa.Vm
set_option linter.unusedSimpArgs false
set_option linter.unusedVariables false
open Go Go.RowKit

/-- A contract for every capacity of an own slice that is handed in. -/
theorem Ev.caps {cx : Cx} {f : FuncId} {nm : Nat} {args : List V} {M : Mem} {v : V} {eff : List (Nat × Option Blk)} (j y lo n sz : Nat) (rows : List (List V)) (hj : args[j]? = some (.own y lo n)) (hM : M y = some ⟨sz, rows⟩) (hlo : lo + n = rows.length) (hy : y ∈ effNames eff)
    (h : ∀ c, n ≤ c → Ev cx f nm (args.set j (.ownc y lo n c)) (M.put y (some ⟨sz, rows ++ List.replicate (c - n) (List.replicate sz .any)⟩)) v eff) : Ev cx f nm args M v eff := by
  refine ⟨trivial, fun X w ρ cargs B hr hfr hB hn hargs => ?_⟩
  have hjl : j < args.length := (List.getElem?_eq_some_iff.1 hj).1
  have hcj : cargs[j]? = some cargs[j] := Array.getElem?_eq_getElem (by omega)
  have his := hargs j _ _ hj hcj
  -- the capacity, and how the padded block lies
  obtain ⟨c, hnc, hic, hbl⟩ : ∃ c, n ≤ c ∧ Is ρ (Dom X ρ M) w (.ownc y lo n c) cargs[j] ∧ (c = n ∨ ∃ l, ρ y = some l ∧ lo + c ≤ l.tot) := by
    generalize cargs[j] = cv at his
    cases his with
    | own0 => exact ⟨0, Nat.le_refl _, .ownc0, .inl rfl⟩
    | own hl hlc hnc =>
      rename_i c l
      by_cases h0 : c = 0
      · have hn0 : n = 0 := by omega
        subst h0; subst hn0
        exact ⟨0, Nat.le_refl _, .ownc0, .inl rfl⟩
      · exact ⟨c, hnc, .ownc hl hlc hnc (by omega), .inr ⟨l, hl, hlc⟩⟩
  have hs : ∀ x, ((M.put y (some ⟨sz, rows ++ List.replicate (c - n) (List.replicate sz .any)⟩)) x).isSome = (M x).isSome := fun x => by
    by_cases e : x = y
    · subst e; rw [Mem.put_same, hM]; rfl
    · rw [Mem.put_ne _ _ e]
  have hsb : ∀ x, (((M.put y (some ⟨sz, rows ++ List.replicate (c - n) (List.replicate sz .any)⟩)) x).isSome = true) = ((M x).isSome = true) := fun x => by rw [hs x]
  have hblk : Blocks ρ (M.put y (some ⟨sz, rows ++ List.replicate (c - n) (List.replicate sz .any)⟩)) = Blocks ρ M := by
    funext b; simp only [Blocks, hsb]
  have hdom : Dom X ρ (M.put y (some ⟨sz, rows ++ List.replicate (c - n) (List.replicate sz .any)⟩)) = Dom X ρ M := by
    funext b; simp only [Dom, hsb]
  have happ : (M.put y (some ⟨sz, rows ++ List.replicate (c - n) (List.replicate sz .any)⟩)).app eff = M.app eff := by
    funext x
    by_cases e : x = y
    · subst e; exact Mem.app_congr (fun hx => absurd hy hx)
    · exact Mem.app_congr (fun _ => Mem.put_ne _ _ e)
  have hr' : Rel cx.G X w (Blocks ρ (M.put y (some ⟨sz, rows ++ List.replicate (c - n) (List.replicate sz .any)⟩))) ρ (M.put y (some ⟨sz, rows ++ List.replicate (c - n) (List.replicate sz .any)⟩)) w := by
    rw [hblk]
    refine { size := hr.size, os := hr.os, tape := hr.tape, output := hr.output, old := hr.old, live := ?_, inj := ?_, hX := hr.hX, glob := ?_ }
    · intro x k hx
      rw [hdom]
      by_cases e : x = y
      · subst e
        rw [Mem.put_same] at hx; cases hx
        rcases hr.live x _ hM with ⟨a1, a2⟩ | ⟨l, a1, a2, a3, ⟨cs, e, _, a4, a5, a6, a7, a8, a9⟩ | ⟨_, _, _, _, _, _, hch, _⟩⟩
        · simp only at a1
          rcases hbl with rfl | ⟨l, b1, _⟩
          · exact .inl ⟨by simp [a1], a2⟩
          · rw [a2] at b1; cases b1
        · simp only at a5 a6 a8 a9
          have hlen : (rows ++ List.replicate (c - n) (List.replicate sz V.any)).length ≤ l.tot := by
            simp only [List.length_append, List.length_replicate]
            rcases hbl with rfl | ⟨l', b1, b2⟩
            · omega
            · rw [a1] at b1; cases b1; omega
          refine .inr ⟨l, a1, a2, a3, .inl ⟨cs, e, rfl, a4, a5, hlen, a7, fun i row hi => ?_, fun i q row u hi hq => ?_⟩⟩
          · rw [List.getElem?_append] at hi
            split at hi
            · exact a8 i row hi
            · rw [List.getElem?_replicate] at hi
              split at hi
              · cases hi; rw [List.length_replicate]; exact a5
              · cases hi
          · have hil : i < (rows ++ List.replicate (c - n) (List.replicate sz V.any)).length := (List.getElem?_eq_some_iff.1 hi).1
            rw [List.getElem?_append] at hi
            split at hi
            · exact a9 i q row u hi hq
            · rw [List.getElem?_replicate] at hi
              split at hi
              · cases hi
                rw [List.getElem?_replicate] at hq
                split at hq
                · rename_i hqs
                  cases hq
                  have h2 := row_lt (s := l.sz) (i := i) (j := q) (n := l.tot) (by omega) (by omega)
                  exact ⟨_, Array.getElem?_eq_getElem (by omega), .any _⟩
                · cases hq
              · cases hi
        · cases hch
      · rw [Mem.put_ne _ _ e] at hx
        exact hr.live x k hx
    · intro a b l l' h1 h2
      rw [hs] at h1 h2
      exact hr.inj a b l l' h1 h2
    · intro g; rw [hdom]; exact hr.glob g
  have hB' : ∀ x, B ≤ x → (M.put y (some ⟨sz, rows ++ List.replicate (c - n) (List.replicate sz .any)⟩)) x = none := fun x hx => by
    have h0 := hs x
    rw [(hB x hx).1] at h0
    cases hq : (M.put y (some ⟨sz, rows ++ List.replicate (c - n) (List.replicate sz .any)⟩)) x with
    | none => rfl
    | some k => rw [hq] at h0; cases h0
  have hcall := (h c hnc).2 X w ρ cargs B hr' hfr (fun x hx => ⟨hB' x hx, (hB x hx).2⟩) (by rw [List.length_set]; exact hn) (fun i u cv hi hc => by
    rw [hdom]
    rw [List.getElem?_set] at hi
    by_cases e : j = i
    · subst e
      rw [if_pos rfl, if_pos hjl] at hi
      cases hi
      rw [hcj] at hc; cases hc
      exact hic
    · rw [if_neg e] at hi
      exact hargs i u cv hi hc)
  refine hcall.mono ?_
  rintro e w' ⟨cv, rfl, ρ', r, m, hv, hnn⟩
  rw [happ] at r m hv
  rw [hblk] at r
  refine ⟨cv, rfl, ρ', r, ⟨m.names, m.size, m.os, m.tape, m.output, fun b hb hk => m.kept b hb (fun x l h1 h2 => hk x l (by rw [hs] at h1; exact h1) h2), fun x l h1 h2 h3 => ?_⟩, hv, hnn⟩
  obtain ⟨nm', l', c1, c2⟩ := m.dom x l h1 h2 h3
  exact ⟨nm', l', by rw [hs] at c1; exact c1, c2⟩

theorem ren_mk (σ : List (Nat × Nat)) (sz : Nat) (rows : List (List V)) : Blk.ren σ ⟨sz, rows⟩ = ⟨sz, renLL σ rows⟩ := rfl
theorem renOk_mk (σ : List (Nat × Nat)) (sz : Nat) (rows : List (List V)) : Blk.renOk σ ⟨sz, rows⟩ = renOkLL σ rows := by
  show (renOkLL σ rows && true) = _
  rw [Bool.and_true]
/-- The name under which a block is handed back: its own (none), or nm + j. -/
def tgt (nm : Nat) (p : Nat × Option Nat) : Nat := match p.2 with | none => p.1 | some j => nm + j
def gives (nm : Nat) (g : List (Nat × Option Nat)) : List (Nat × Nat) := g.map (fun p => (p.1, tgt nm p))
/-- May these blocks be handed back so. -/
def giveOk (nm b0 : Nat) (M0 M : Mem) (σ : List (Nat × Nat)) : List (Nat × Option Nat) → Prop
  | [] => True
  | (x, o) :: r => (match o with | none => (M0 x).isSome = true | some j => j < 16 ∧ (b0 ≤ x ∨ (M0 x).isSome = true)) ∧ (match M x with | some k => k.renOk σ = true | none => False) ∧ (∀ p ∈ r, p.1 ≠ x ∧ tgt nm p ≠ tgt nm (x, o)) ∧ giveOk nm b0 M0 M σ r
theorem giveOk_get {nm b0 : Nat} {M0 M : Mem} {σ : List (Nat × Nat)} : ∀ {g : List (Nat × Option Nat)}, giveOk nm b0 M0 M σ g → ((gives nm g).map (·.1)).Nodup ∧ ((gives nm g).map (·.2)).Nodup ∧ ∀ p ∈ gives nm g, ((p.1 = p.2 ∧ (M0 p.2).isSome = true) ∨ (Fresh nm p.2 ∧ (b0 ≤ p.1 ∨ (M0 p.1).isSome = true))) ∧ ∃ k, M p.1 = some k ∧ k.renOk σ = true
  | [], _ => ⟨List.nodup_nil, List.nodup_nil, fun p hp => by cases hp⟩
  | (x, o) :: r, h => by
    obtain ⟨h1, h2, h3, h4⟩ := h
    obtain ⟨a, b, c⟩ := giveOk_get h4
    refine ⟨List.nodup_cons.2 ⟨fun hm => ?_, a⟩, List.nodup_cons.2 ⟨fun hm => ?_, b⟩, fun p hp => ?_⟩
    · simp only [gives, List.map_map, List.mem_map, Function.comp_apply] at hm
      obtain ⟨p, hp, e⟩ := hm
      exact (h3 p hp).1 e
    · simp only [gives, List.map_map, List.mem_map, Function.comp_apply] at hm
      obtain ⟨p, hp, e⟩ := hm
      exact (h3 p hp).2 e
    · rcases List.mem_cons.1 hp with rfl | hp
      · refine ⟨?_, ?_⟩
        · cases o with
          | none => exact .inl ⟨rfl, h1⟩
          | some j => exact .inr ⟨⟨Nat.le_add_right _ _, by simp only [tgt]; have := h1.1; omega⟩, h1.2⟩
        · split at h2
          · rename_i k hk; exact ⟨k, hk, h2⟩
          · exact h2.elim
      · exact c p hp
def giveE (nm : Nat) (M : Mem) (σ : List (Nat × Nat)) (g : List (Nat × Option Nat)) : List (Nat × Option Blk) := g.map (fun p => (tgt nm p, (M p.1).map (Blk.ren σ)))
def dropE (δ : List Nat) : List (Nat × Option Blk) := δ.map (fun x => (x, none))
/-- A function that hands back blocks: g: which, and under which names; δ: which of those that it was given are no more. -/
theorem Fin.give {cx : Cx} {N : Nat} {rs : List ResultVar} {nm : Nat} {M0 : Mem} {v : V} {eff : List (Nat × Option Blk)} {b0 n : Nat} {e : Env} {M : Mem} (g : List (Nat × Option Nat)) (δ : List Nat) (h1 : resOk cx.P N rs e M) (h2 : (resV cx.P rs e M).finOk (gives nm g) M) (h3 : ((resV cx.P rs e M).fin (gives nm g) M).le v)
    (h4 : dropE δ ++ giveE nm M (gives nm g) g = eff) (h5 : giveOk nm b0 M0 M (gives nm g) g) (h6 : ∀ x, (M0 x).isSome = true → x ∈ (gives nm g).map (·.2) ∨ x ∈ δ) : FinG cx N rs nm M0 v eff b0 n e M := by
  obtain ⟨a, b, c⟩ := giveOk_get h5
  exact ⟨[], h1, gives nm g, δ, h2, h3, by rw [← h4]; simp [dropE, giveE, gives, Mem.ghosts], a, b, c, h6⟩
end Go.Proofs.Ytnnlicidlidclaa.Vm
/-
  The machine of plain values: channels: new ones, closed ones; communications of which nobody waits. No program in sight.
-/
namespace Go.Proofs.Ytnnlicidlidclaa.Vm
set_option linter.unusedSimpArgs false
set_option linter.unusedVariables false
open Go Go.RowKit Go.Conc

/-- A channel: its room, is it closed, what waits in it. -/
def chanK (cap : Nat) (closed : Bool) (ms : List V) : Blk := @Blk.mk 0 [] (.chan cap closed ms)
section
variable {cx : Cx} {P : Program} {G : Nat → V} {X : Nat → Prop} {w0 : World} {I : Nat → Prop} {ρ : Names} {M : Mem} {w w' : World} {D : Nat → Prop}
/-- The world goes on, and nothing of what lies there is written. -/
theorem Rel.grow (h : Rel G X w0 I ρ M w) (hs : w.heap.size ≤ w'.heap.size) (hos : w'.os = w.os) (htp : w'.tape = w.tape) (hout : w'.output = w.output) (hk : ∀ b, b < w.heap.size → w'.heap[b]? = w.heap[b]?) : Rel G X w0 I ρ M w' ∧ Moves ρ M w ρ M w' := by
  have m : Moves ρ M w ρ M w' := ⟨fun _ _ h => h, hs, hos, htp, hout, fun b hb _ => hk b hb, fun nm l h1 h2 _ => ⟨nm, l, h1, h2, rfl⟩⟩
  exact ⟨h.move m h.inj (fun nm k hM => .inl ⟨hM, id, fun l hl => hk l.b (h.block_lt (by rw [hM]; rfl) hl).1⟩), m⟩
theorem chan_at (h : Rel G X w0 I ρ M w) {y cap : Nat} {closed : Bool} {ms : List V} (hM : M y = some (chanK cap closed ms)) {cv : Value} (hx : Is ρ (Dom X ρ M) w (.chan y) cv) :
    ∃ l buf s r, cv = .chan (some l.b) ∧ ρ y = some l ∧ w.heap[l.b]? = some (.chan cap buf closed s r false) ∧ l.sz = 0 ∧ l.tot = 0 ∧ buf.size = ms.length ∧ ∀ (i : Nat) (u : V), ms[i]? = some u → ∃ cv, buf[i]? = some cv ∧ Is ρ (Dom X ρ M) w u cv := by
  cases hx with
  | chan hl =>
    rename_i l
    rcases h.live y _ hM with ⟨_, a⟩ | ⟨l', a1, _, _, ⟨cs, e, a2, _⟩ | ⟨cap', closed', ms', buf, s, r, a2, a3, a4, _, a5, a6, a7⟩⟩
    · rw [hl] at a; cases a
    · cases a2
    · rw [hl] at a1; cases a1
      have a2' : Ob.chan cap closed ms = .chan cap' closed' ms' := a2
      cases a2'
      exact ⟨l, buf, s, r, rfl, hl, a3, a4.symm, a5, a6, a7⟩
/-- A channel is turned. -/
theorem Rel.chan (h : Rel G X w0 I ρ M w) {y : Nat} {k : Blk} {l : Loc} (hM : M y = some k) (hl : ρ y = some l) (hz : l.sz = 0) (ht : l.tot = 0) {cap s r : Nat} {closed : Bool} {buf : Array Value} {ms : List V} (hlt : l.b < w.heap.size)
    (hn : buf.size = ms.length) (hm : ∀ (i : Nat) (u : V), ms[i]? = some u → ∃ cv, buf[i]? = some cv ∧ Is ρ (Dom X ρ M) w u cv) :
    Rel G X w0 I ρ (M.put y (some (chanK cap closed ms))) (w.setChan l.b cap buf closed s r false) ∧ Moves ρ M w ρ (M.put y (some (chanK cap closed ms))) (w.setChan l.b cap buf closed s r false) := by
  have hk : ∀ b, b ≠ l.b → (w.setChan l.b cap buf closed s r false).heap[b]? = w.heap[b]? := fun b hb => by
    simp only [World.setChan]; rw [Array.getElem?_setIfInBounds_ne (Ne.symm hb)]
  have hs : ∀ x, ((M.put y (some (chanK cap closed ms))) x).isSome = true → (M x).isSome = true := fun x hx => by
    by_cases e : x = y
    · subst e; rw [hM]; rfl
    · rwa [Mem.put_ne _ _ e] at hx
  have m : Moves ρ M w ρ (M.put y (some (chanK cap closed ms))) (w.setChan l.b cap buf closed s r false) :=
    ⟨fun _ _ h => h, by simp [World.setChan], rfl, rfl, rfl, fun b _ hn => hk b (fun e => hn y l (by rw [hM]; rfl) hl e.symm), fun n l' a1 a2 _ => ⟨n, l', hs n a1, a2, rfl⟩⟩
  refine ⟨h.move m (fun a b l1 l2 a1 a2 a3 a4 a5 => h.inj a b l1 l2 (hs a a1) (hs b a2) a3 a4 a5) ?_, m⟩
  intro x kx hx
  by_cases e : x = y
  · subst e
    rw [Mem.put_same] at hx
    cases hx
    obtain ⟨b1, b2, b3⟩ := h.block_lt (by rw [hM]; rfl) hl
    refine .inr (.inr ⟨l, hl, b3, b2, .inr ⟨cap, closed, ms, buf, s, r, rfl, heap_setChan w l.b cap buf closed s r false hlt, hz.symm, rfl, ht, hn, fun i u hi => ?_⟩⟩)
    obtain ⟨cv, c1, c2⟩ := hm i u hi
    exact ⟨cv, c1, m.is c2⟩
  · rw [Mem.put_ne _ _ e] at hx
    exact .inl ⟨hx, id, fun lx hlx => hk _ (fun e2 => e (h.inj x y lx l (by rw [hx]; rfl) (by rw [hM]; rfl) hlx hl e2))⟩
/-- A new channel. -/
theorem Rel.newChan (h : Rel G X w0 I ρ M w) {nm : Nat} (hM : M nm = none) (hρ : ρ nm = none) (cap : Nat) :
    Steps1 G X w0 I ρ M w nm (.chan nm) (M.put nm (some (chanK cap false []))) (.chan (some w.heap.size)) (w.alloc (.chan cap #[] false 0 0 false)) := by
  have hne : ∀ x, (M x).isSome = true → x ≠ nm := fun x hx e => by subst e; rw [hM] at hx; cases hx
  have hlt : ∀ x l, (M x).isSome = true → ρ x = some l → l.b < w.heap.size := fun x l hx hl => (h.block_lt hx hl).1
  have m : Moves ρ M w (ρ.put nm ⟨w.heap.size, 0, 0, 0⟩) (M.put nm (some (chanK cap false []))) (w.alloc (.chan cap #[] false 0 0 false)) := by
    refine ⟨fun x l hx => by rw [Names.put_ne _ _ (fun e => by subst e; rw [hρ] at hx; cases hx)]; exact hx, by simp, rfl, rfl, rfl, fun b hb _ => Below.heap_alloc _ _ _ hb, fun x l a1 a2 a3 => ?_⟩
    by_cases e : x = nm
    · subst e; rw [Names.put_same] at a2; cases a2; simp at a3
    · rw [Names.put_ne _ _ e] at a2; rw [Mem.put_ne _ _ e] at a1
      exact ⟨x, l, a1, a2, rfl⟩
  refine ⟨ρ.put nm ⟨w.heap.size, 0, 0, 0⟩, h.move m ?_ ?_, m, .chan (Names.put_same _ _ _), fun x hx => Names.put_ne _ _ hx⟩
  · intro x y l l' a1 a2 a3 a4 a5
    by_cases ex : x = nm
    · subst ex
      rw [Names.put_same] at a3; cases a3
      by_cases ey : y = x
      · exact ey.symm
      · rw [Names.put_ne _ _ ey] at a4; rw [Mem.put_ne _ _ ey] at a2
        have := hlt y l' a2 a4
        simp at a5; omega
    · rw [Names.put_ne _ _ ex] at a3; rw [Mem.put_ne _ _ ex] at a1
      have := hlt x l a1 a3
      by_cases ey : y = nm
      · subst ey
        rw [Names.put_same] at a4; cases a4
        simp at a5; omega
      · rw [Names.put_ne _ _ ey] at a4; rw [Mem.put_ne _ _ ey] at a2
        exact h.inj x y l l' a1 a2 a3 a4 a5
  · intro x kx hx
    by_cases ex : x = nm
    · subst ex
      rw [Mem.put_same] at hx; cases hx
      refine .inr (.inr ⟨_, Names.put_same _ _ _, .inr h.size, fun hX => ?_, .inr ⟨cap, false, [], #[], 0, 0, rfl, heap_alloc_new w _, rfl, rfl, rfl, rfl, fun i u hi => by simp at hi⟩⟩)
      have := (h.hX _ hX).1
      have := h.size
      simp at *; omega
    · rw [Mem.put_ne _ _ ex] at hx
      exact .inl ⟨hx, fun hn => by rw [Names.put_ne _ _ ex]; exact hn, fun lx hlx => Below.heap_alloc _ _ _ (hlt x lx (by rw [hx]; rfl) hlx)⟩
end
theorem wp_val {P : Program} {o : Oper} {a : Act} {w : World} {s : Sem Value} {cv : Value} {w' : World} (h1 : execOp a.eval o = (do pure (.value (← s)))) (h2 : s.run P w = .ok cv w') : ∀ (K : Act → World → Prop) (Q : Exit → Act → World → Prop), K (a.put o.dst cv) w' → o.wp P a w K Q := by
  intro K Q h3
  unfold Oper.wp
  rw [h1, Sem.run_bind, h2]
  exact h3
theorem wp_builtin {P : Program} {b : Builtin} {as : Array Operand} {ts : Array TypeId} {dst : Option Tmp} {t : TypeId} {pos : String} {af : Array Edge} {gd : Option (Nat × Bool)} {a : Act} {w : World} {s : Sem Value} {cv : Value} {w' : World}
    (h1 : ∀ consts, builtin b ts t consts (as.map a.eval) = (do pure (.value (← s)))) (h2 : s.run P w = .ok cv w') : ∀ (K : Act → World → Prop) (Q : Exit → Act → World → Prop), K (a.put dst cv) w' → (⟨dst, .call ⟨.builtin b, as, ts⟩, t, pos, af, gd⟩ : Oper).wp P a w K Q := by
  intro K Q h3
  unfold Oper.wp execOp
  simp only [resolve, Sem.run_bind, Sem.run_pure, Result.andThen_ok, invoke, h1, h2]
  exact h3
/-- Of a channel's type: an element's bytes. -/
def chanT (P : Program) (t : TypeId) : Option Nat := match P.underlying t with
  | some (.chan _ e) => (P.info? e).map (·.bytes)
  | _ => none
section
variable {cx : Cx} {Q : Post} {st : List Frm} {nm : Nat} {e : Env} {M : Mem} {d : Bool} {fs : List (List Nat)} {ops r : List Oper} {dst : Option Tmp} {t : TypeId} {pos : String} {af : Array Edge} {gd : Option (Nat × Bool)} {i : Nat}
/-- A new channel. -/
theorem ext_makeChan {ty : TypeId} {x : Operand} {k : IntKind} {n b : Nat} (hx : evalV cx.G true e x = .int k n) (ht : chanT cx.P ty = some b) (hn : n ≤ 4611686018427387904 ∧ b * n ≤ 281474976710544)
    (h : goOps cx Q st nm (e.putD dst (.chan (nm + 16 * i))) (M.app [(nm + 16 * i, some (chanK n false []))]) d (fs ++ [[nm + 16 * i]]) ops r (i + 1)) : goExt cx Q st nm e M d fs ops ⟨dst, .makeChan ty x, t, pos, af, gd⟩ r i := by
  refine ⟨_, _, _, ⟨fun x hx => hx, fun x hx => ?_, fun _ => rfl, fun _ => rfl, ?_⟩, h⟩
  · simp only [effNames, List.map_cons, List.map_nil, List.mem_singleton] at hx
    subst hx; exact .inr ⟨Nat.le_refl _, by omega⟩
  · intro N X w0 I ρ e' M' a w hr he hin hev _ hf
    obtain ⟨f1, f2⟩ := hf (nm + 16 * i) ⟨Nat.le_refl _, by omega⟩
    have hxi := he.eval hr (c := true) rfl (hin x (by simp [Op.operands]))
    rw [hev x (by simp [Op.operands]), hx] at hxi
    unfold chanT at ht
    split at ht
    · rename_i dir el hu
      obtain ⟨inf, h1, rfl⟩ := Option.map_eq_some_iff.1 ht
      have hrun := run_makeChan (P := cx.P) (w := w) hu h1 k n (by omega) (by have h2 := hn.2; rw [← Int.natCast_mul]; exact Int.ofNat_le.2 h2)
      generalize hcv : a.eval x = cv at hxi
      cases hxi
      refine ⟨_, _, (Rel.newChan hr f1 f2 n).n, fun K Q hK => ?_⟩
      unfold Oper.wp execOp
      simp only [hcv, hrun, Sem.run_bind, Sem.run_pure, Result.andThen_ok, Oper.upon_value]
      exact hK
    · cases ht
/-- A channel is closed. -/
theorem ext_close {as : Array Operand} {ts : Array TypeId} {x : Operand} (has : as.toList = [x]) {y cap : Nat} {ms : List V} (hx : evalV cx.G true e x = .chan y) (hM : M y = some (chanK cap false ms))
    (h : goOps cx Q st nm (e.putD dst (.tup [])) (M.app [(y, some (chanK cap true ms))]) d (fs ++ [[y]]) ops r (i + 1)) : goExt cx Q st nm e M d fs ops ⟨dst, .call ⟨.builtin .close, as, ts⟩, t, pos, af, gd⟩ r i := by
  obtain rfl : as = #[x] := by cases as; simp at has; rw [has]
  refine ⟨_, _, _, ⟨fun x hx => hx, fun x hx => ?_, fun _ => rfl, fun _ => rfl, ?_⟩, h⟩
  · simp only [effNames, List.map_cons, List.map_nil, List.mem_singleton] at hx
    subst hx; exact .inl (by rw [hM]; rfl)
  · intro N X w0 I ρ e' M' a w hr he hin hev hMM hf
    have hxi := he.eval hr (c := true) rfl (hin x (by simp [Op.operands, Call.operands]))
    rw [hev x (by simp [Op.operands, Call.operands]), hx] at hxi
    have hM' : M' y = some (chanK cap false ms) := by rw [hMM y (List.mem_singleton.2 rfl)]; exact hM
    obtain ⟨l, buf, s, r, hcv, hl, hh, hz, ht, hn, hm⟩ := chan_at hr hM' hxi
    have hrun := run_close_open (P := cx.P) ts t hh
    obtain ⟨g1, g2⟩ := Rel.chan hr hM' hl hz ht (cap := cap) (closed := true) (s := s) (r := r) (lt_of_heap hh) hn hm
    refine ⟨.tuple #[], w.setChan l.b cap buf true s r false, ⟨ρ, g1, g2, .tup rfl (fun i u cv hi => by simp at hi), fun _ _ => rfl⟩, ?_⟩
    refine wp_builtin (s := Builtin.close_ ts t (#[x].map a.eval)) (fun _ => rfl) ?_
    rw [show #[x].map a.eval = #[a.eval x] by simp, hcv]; exact hrun
/-! ### communications -/
/-- The next step of a communication. -/
theorem comm_of {o : Oper} {n : Nat} {v : V} {y cap : Nat} {closed closed' : Bool} {ms ms' : List V} {x : Operand} (hxo : x ∈ o.op.operands.toList) (hx : evalV cx.G true e x = .chan y) (hM : M y = some (chanK cap closed ms))
    (hrun : ∀ (N : Nat) (X : Nat → Prop) (w0 : World) (I : Nat → Prop) (ρ : Names) (a : Act) (w : World), Rel cx.G X w0 I ρ M w → EnvAt ρ (Dom X ρ M) w N e a → (∀ x ∈ o.op.operands.toList, inN N x) → ∀ (l : Loc) (buf : Array Value) (s r : Nat), a.eval x = .chan (some l.b) → w.heap[l.b]? = some (.chan cap buf closed s r false) →
      buf.size = ms.length → (∀ (i : Nat) (u : V), ms[i]? = some u → ∃ cv, buf[i]? = some cv ∧ Is ρ (Dom X ρ M) w u cv) →
      ∃ cases bl sh cv w' buf' s' r', (execOp a.eval o).run cx.P w = .ok (.comm cases bl sh) w ∧
        (∀ (fr : Frame) (cs : List Frame) (es : Array Event), stepG cx.P true (G fr cs) w = .comm (G fr cs) cases bl sh w es → step cx.P (solo (G fr cs) w) = .next (solo (G (fr.finish cv) cs) w')) ∧
        (w' = w.setChan l.b cap buf' closed' s' r' false ∨ (w' = w ∧ buf' = buf ∧ closed' = closed)) ∧ buf'.size = ms'.length ∧ (∀ (i : Nat) (u : V), ms'[i]? = some u → ∃ cv, buf'[i]? = some cv ∧ Is ρ (Dom X ρ M) w u cv) ∧ Is ρ (Dom X ρ M) w v cv) : CommDoes cx o n e M v [(y, some (chanK cap closed' ms'))] := by
  refine ⟨fun x hx => ?_, ?_⟩
  · simp only [effNames, List.map_cons, List.map_nil, List.mem_singleton] at hx
    subst hx; rw [hM]; rfl
  · intro N X w0 I ρ a w hr he hin b ops i l k cs hb ho hw
    have hxi := he.eval hr (c := true) rfl (hin x hxo)
    rw [hx] at hxi
    obtain ⟨q, buf, s, r, hcv, hl, hh, hz, ht, hn, hm⟩ := chan_at hr hM hxi
    obtain ⟨cases, bl, sh, cv, w', buf', s', r', h1, h2, h3, h4, h5, h6⟩ := hrun N X w0 I ρ a w hr he hin q buf s r hcv hh hn hm
    have hst := h2 (b.at a (.inRegion ops (i :: l) :: k)) cs _ (stepG_comm ho hw hb h1)
    have hfin : (b.at a (.inRegion ops (i :: l) :: k)).finish cv = b.at (a.put o.dst cv) (.inRegion ops l :: k) := by rw [Frame.finish_at, ho]; rfl
    rw [hfin] at hst
    refine ⟨cv, w', hst, ?_⟩
    rcases h3 with rfl | ⟨rfl, rfl, rfl⟩
    · obtain ⟨g1, g2⟩ := Rel.chan hr hM hl hz ht (cap := cap) (closed := closed') (s := s') (r := r') (lt_of_heap hh) h4 h5
      exact ⟨ρ, g1, g2, g2.is h6, fun _ _ => rfl⟩
    · obtain ⟨g1, g2⟩ := Rel.chan hr hM hl hz ht (cap := cap) (closed := closed') (s := s) (r := r) (lt_of_heap hh) h4 h5
      have hsame : w'.setChan q.b cap buf' closed' s r false = w' := by
        unfold World.setChan
        have hlt := lt_of_heap hh
        rw [Array.getElem?_eq_getElem hlt] at hh
        have : w'.heap.setIfInBounds q.b (.chan cap buf' closed' s r false) = w'.heap := by
          rw [← Option.some.inj hh]
          apply Array.ext (by simp)
          intro j h1 h2
          rw [Array.getElem_setIfInBounds]
          split
          · rename_i hj; subst hj; rfl
          · rfl
        rw [this]
      rw [hsame] at g1 g2
      exact ⟨ρ, g1, g2, g2.is h6, fun _ _ => rfl⟩
theorem msgs_push {ρ : Names} {D : Nat → Prop} {w : World} {ms : List V} {buf : Array Value} {v : V} {cv : Value} (hn : buf.size = ms.length) (hm : ∀ (i : Nat) (u : V), ms[i]? = some u → ∃ cv, buf[i]? = some cv ∧ Is ρ D w u cv) (hv : Is ρ D w v cv) :
    (buf.push cv).size = (ms ++ [v]).length ∧ ∀ (i : Nat) (u : V), (ms ++ [v])[i]? = some u → ∃ cv', (buf.push cv)[i]? = some cv' ∧ Is ρ D w u cv' := by
  refine ⟨by simp [hn], fun i u hi => ?_⟩
  rcases Nat.lt_or_ge i ms.length with h | h
  · rw [List.getElem?_append_left h] at hi
    obtain ⟨c, c1, c2⟩ := hm i u hi
    exact ⟨c, by rw [Array.getElem?_push, if_neg (by omega)]; exact c1, c2⟩
  · rw [List.getElem?_append_right h] at hi
    have : i - ms.length = 0 := by
      rcases Nat.eq_zero_or_pos (i - ms.length) with h | h
      · exact h
      · rw [List.getElem?_eq_none (by simp; omega)] at hi; cases hi
    rw [this] at hi
    simp at hi
    subst hi
    exact ⟨cv, by rw [Array.getElem?_push, if_pos (by omega)], hv⟩
theorem msgs_pop {ρ : Names} {D : Nat → Prop} {w : World} {ms : List V} {buf : Array Value} {v : V} (hn : buf.size = (v :: ms).length) (hm : ∀ (i : Nat) (u : V), (v :: ms)[i]? = some u → ∃ cv, buf[i]? = some cv ∧ Is ρ D w u cv) :
    0 < buf.size ∧ Is ρ D w v (buf.getD 0 undef) ∧ (buf.extract 1 buf.size).size = ms.length ∧ ∀ (i : Nat) (u : V), ms[i]? = some u → ∃ cv, (buf.extract 1 buf.size)[i]? = some cv ∧ Is ρ D w u cv := by
  have hp : 0 < buf.size := by rw [hn]; simp
  refine ⟨hp, ?_, by simp [hn], fun i u hi => ?_⟩
  · obtain ⟨c, c1, c2⟩ := hm 0 v rfl
    rw [Array.getD_eq_getD_getElem?, c1]; exact c2
  · obtain ⟨c, c1, c2⟩ := hm (i + 1) u (by simpa using hi)
    refine ⟨c, ?_, c2⟩
    have := (Array.getElem?_eq_some_iff.1 c1).1
    rw [Array.getElem?_extract, if_pos (by omega), Nat.add_comm]; exact c1
/-- A send into a channel with room. -/
theorem comm_send {x v : Operand} {y cap : Nat} {ms : List V} {u : V} (hx : evalV cx.G true e x = .chan y) (hv : evalV cx.G true e v = u) (hM : M y = some (chanK cap false ms)) (hroom : ms.length < cap)
    (h : goOps cx Q st nm (e.putD dst .any) (M.app [(y, some (chanK cap false (ms ++ [u])))]) d (fs ++ [[y]]) ops r (i + 1)) : goComm cx Q st nm e M d fs ops ⟨dst, .send x v, t, pos, af, gd⟩ r i := by
  refine ⟨_, _, comm_of (x := x) (by simp [Op.operands]) hx hM ?_, h⟩
  intro N X w0 I ρ a w hr he hin l buf s r hcv hh hn hm
  have hvi := he.eval hr (c := true) rfl (hin v (by simp [Op.operands]))
  rw [hv] at hvi
  obtain ⟨h1, h2⟩ := msgs_push hn hm hvi
  exact ⟨#[scase l.b (a.eval v) (.tuple #[])], true, .send, undef, _, _, _, _, by simp [execOp, scase, hcv], fun fr cs es hs => step_lone_send_room hs hh (by omega), .inl rfl, h1, h2, .any _⟩
theorem run_select1 {P : Program} {el : TypeId} {x : Operand} {v : Option Operand} {a : Act} {w : World} {z : Value} (hz : (zeroValue el).run P w = .ok z w) (bl : Bool) :
    (execOp a.eval ⟨dst, .select #[⟨x, v, el⟩] bl, t, pos, af, gd⟩).run P w = .ok (.comm #[{ chan := a.eval x, send := v.map a.eval, zero := z }] bl .select) w := by
  simp [execOp, hz]
theorem is_neg1 (ρ : Names) (D : Nat → Prop) (w : World) : Is ρ D w (.int .i64 (-1)) (goInt (-1)) := .int _ _
theorem is_pair {ρ : Names} {D : Nat → Prop} {w : World} {u v : V} {c1 c2 : Value} (h1 : Is ρ D w u c1) (h2 : Is ρ D w v c2) : Is ρ D w (.tup [u, v]) (.tuple #[c1, c2]) :=
  .tup rfl (fun i q cv hi hc => by
    rcases i with _ | _ | i
    · simp at hi hc; subst hi; subst hc; exact h1
    · simp at hi hc; subst hi; subst hc; exact h2
    · simp at hi)
theorem is_triple {ρ : Names} {D : Nat → Prop} {w : World} {u v z : V} {c1 c2 c3 : Value} (h1 : Is ρ D w u c1) (h2 : Is ρ D w v c2) (h3 : Is ρ D w z c3) : Is ρ D w (.tup [u, v, z]) (.tuple #[c1, c2, c3]) :=
  .tup rfl (fun i q cv hi hc => by
    rcases i with _ | _ | _ | i
    · simp at hi hc; subst hi; subst hc; exact h1
    · simp at hi hc; subst hi; subst hc; exact h2
    · simp at hi hc; subst hi; subst hc; exact h3
    · simp at hi)
theorem zero_run {P : Program} {el : TypeId} (hz : (zeroL P el).isSome = true) (w : World) : ∃ z, (zeroValue el).run P w = .ok z w := by
  obtain ⟨cells, hc⟩ := Option.isSome_iff_exists.1 hz
  obtain ⟨z, h, _⟩ := zero_cells hc w
  exact ⟨z, h⟩
/-- A select of one send, the channel having room. -/
theorem comm_select_send {x v : Operand} {y cap : Nat} {ms : List V} {u : V} {el : TypeId} (hz : (zeroL cx.P el).isSome = true) (hx : evalV cx.G true e x = .chan y) (hv : evalV cx.G true e v = u) (hM : M y = some (chanK cap false ms)) (hroom : ms.length < cap)
    (h : goOps cx Q st nm (e.putD dst (.tup [.int .i64 0, .bool false])) (M.app [(y, some (chanK cap false (ms ++ [u])))]) d (fs ++ [[y]]) ops r (i + 1)) : goComm cx Q st nm e M d fs ops ⟨dst, .select #[⟨x, some v, el⟩] false, t, pos, af, gd⟩ r i := by
  refine ⟨_, _, comm_of (x := x) (by simp [Op.operands]) hx hM ?_, h⟩
  intro N X w0 I ρ a w hr he hin l buf s r hcv hh hn hm
  have hvi := he.eval hr (c := true) rfl (hin v (by simp [Op.operands]))
  rw [hv] at hvi
  obtain ⟨h1, h2⟩ := msgs_push hn hm hvi
  obtain ⟨z, hz⟩ := zero_run hz w
  exact ⟨#[scase l.b (a.eval v) z], false, .select, _, _, _, _, _, by rw [run_select1 hz]; simp only [scase, hcv, Option.map_some], fun fr cs es hs => step_lone_select_send_room hs hh (by omega), .inl rfl, h1, h2, is_pair (.int _ _) (.bool _)⟩
/-- The same, the channel being full. -/
theorem comm_select_full {x v : Operand} {y cap : Nat} {ms : List V} {u : V} {el : TypeId} (hz : (zeroL cx.P el).isSome = true) (hx : evalV cx.G true e x = .chan y) (hv : evalV cx.G true e v = u) (hM : M y = some (chanK cap false ms)) (hfull : cap ≤ ms.length)
    (h : goOps cx Q st nm (e.putD dst (.tup [.int .i64 (-1), .bool false])) (M.app [(y, some (chanK cap false ms))]) d (fs ++ [[y]]) ops r (i + 1)) : goComm cx Q st nm e M d fs ops ⟨dst, .select #[⟨x, some v, el⟩] false, t, pos, af, gd⟩ r i := by
  refine ⟨_, _, comm_of (x := x) (by simp [Op.operands]) hx hM ?_, h⟩
  intro N X w0 I ρ a w hr he hin l buf s r hcv hh hn hm
  obtain ⟨z, hz⟩ := zero_run hz w
  exact ⟨#[scase l.b (a.eval v) z], false, .select, _, _, buf, s, r, by rw [run_select1 hz]; simp only [scase, hcv, Option.map_some], fun fr cs es hs => step_lone_select_send_full hs hh (by omega), .inr ⟨rfl, rfl, rfl⟩, hn, hm, is_pair (is_neg1 _ _ _) (.bool _)⟩
/-- A select of one receive, something being there. -/
theorem comm_select_recv {x : Operand} {y cap : Nat} {ms : List V} {u : V} {closed : Bool} {el : TypeId} (hz : (zeroL cx.P el).isSome = true) (hx : evalV cx.G true e x = .chan y) (hM : M y = some (chanK cap closed (u :: ms)))
    (h : goOps cx Q st nm (e.putD dst (.tup [.int .i64 0, .bool true, u])) (M.app [(y, some (chanK cap closed ms))]) d (fs ++ [[y]]) ops r (i + 1)) : goComm cx Q st nm e M d fs ops ⟨dst, .select #[⟨x, none, el⟩] false, t, pos, af, gd⟩ r i := by
  refine ⟨_, _, comm_of (x := x) (by simp [Op.operands]) hx hM ?_, h⟩
  intro N X w0 I ρ a w hr he hin l buf s r hcv hh hn hm
  obtain ⟨z, hz⟩ := zero_run hz w
  obtain ⟨h1, h2, h3, h4⟩ := msgs_pop hn hm
  exact ⟨#[rcase l.b z], false, .select, _, _, _, _, _, by rw [run_select1 hz]; simp only [rcase, hcv, Option.map_none], fun fr cs es hs => step_lone_select_recv_buf hs hh h1, .inl rfl, h3, h4, is_triple (.int _ _) (.bool _) h2⟩
/-- The same, nothing being there. -/
theorem comm_select_none {x : Operand} {y cap : Nat} {el : TypeId} (hz : (zeroL cx.P el).isSome = true) (hx : evalV cx.G true e x = .chan y) (hM : M y = some (chanK cap false []))
    (h : goOps cx Q st nm (e.putD dst (.tup [.int .i64 (-1), .bool false, .any])) (M.app [(y, some (chanK cap false []))]) d (fs ++ [[y]]) ops r (i + 1)) : goComm cx Q st nm e M d fs ops ⟨dst, .select #[⟨x, none, el⟩] false, t, pos, af, gd⟩ r i := by
  refine ⟨_, _, comm_of (x := x) (by simp [Op.operands]) hx hM ?_, h⟩
  intro N X w0 I ρ a w hr he hin l buf s r hcv hh hn hm
  obtain ⟨z, hz⟩ := zero_run hz w
  obtain rfl : buf = #[] := Array.eq_empty_of_size_eq_zero hn
  exact ⟨#[rcase l.b z], false, .select, _, _, _, s, r, by rw [run_select1 hz]; simp only [rcase, hcv, Option.map_none], fun fr cs es hs => step_lone_select_default hs hh, .inr ⟨rfl, rfl, rfl⟩, hn, hm, is_triple (is_neg1 _ _ _) (.bool _) (.any _)⟩
/-- Of a channel's type: have its elements a zero. -/
def chanZ (P : Program) (t : TypeId) : Bool := match P.underlying t with
  | some (.chan _ e) => (zeroL P e).isSome
  | _ => false
theorem run_recv1 {P : Program} {ct : TypeId} {x : Operand} {a : Act} {w : World} (hz : chanZ P ct = true) (ok : Bool) :
    ∃ z, (execOp a.eval ⟨dst, .recv ct x ok, t, pos, af, gd⟩).run P w = .ok (.comm #[{ chan := a.eval x, send := none, zero := z }] true (.recv ok)) w := by
  unfold chanZ at hz
  split at hz
  · rename_i dir el hu
    obtain ⟨z, hz⟩ := zero_run hz w
    exact ⟨z, by simp [execOp, run_underlying hu, hz]⟩
  · cases hz
/-- A receive, something being there. -/
theorem comm_recv {x : Operand} {y cap : Nat} {ms : List V} {u : V} {closed : Bool} {ct : TypeId} (hz : chanZ cx.P ct = true) (hx : evalV cx.G true e x = .chan y) (hM : M y = some (chanK cap closed (u :: ms)))
    (h : goOps cx Q st nm (e.putD dst (.tup [u, .bool true])) (M.app [(y, some (chanK cap closed ms))]) d (fs ++ [[y]]) ops r (i + 1)) : goComm cx Q st nm e M d fs ops ⟨dst, .recv ct x true, t, pos, af, gd⟩ r i := by
  refine ⟨_, _, comm_of (x := x) (by simp [Op.operands]) hx hM ?_, h⟩
  intro N X w0 I ρ a w hr he hin l buf s r hcv hh hn hm
  obtain ⟨z, hz⟩ := run_recv1 (dst := dst) (t := t) (pos := pos) (af := af) (gd := gd) (x := x) (a := a) (w := w) hz true
  obtain ⟨h1, h2, h3, h4⟩ := msgs_pop hn hm
  exact ⟨#[rcase l.b z], true, .recv true, _, _, _, _, _, by rw [hz]; simp only [rcase, hcv], fun fr cs es hs => step_lone_recv_buf true hs hh h1, .inl rfl, h3, h4, is_pair h2 (.bool _)⟩
/-- A receive from a closed channel in which nothing is left. -/
theorem comm_recv_shut {x : Operand} {y cap : Nat} {ct : TypeId} (hz : chanZ cx.P ct = true) (hx : evalV cx.G true e x = .chan y) (hM : M y = some (chanK cap true []))
    (h : goOps cx Q st nm (e.putD dst (.tup [.any, .bool false])) (M.app [(y, some (chanK cap true []))]) d (fs ++ [[y]]) ops r (i + 1)) : goComm cx Q st nm e M d fs ops ⟨dst, .recv ct x true, t, pos, af, gd⟩ r i := by
  refine ⟨_, _, comm_of (x := x) (by simp [Op.operands]) hx hM ?_, h⟩
  intro N X w0 I ρ a w hr he hin l buf s r hcv hh hn hm
  obtain ⟨z, hz⟩ := run_recv1 (dst := dst) (t := t) (pos := pos) (af := af) (gd := gd) (x := x) (a := a) (w := w) hz true
  obtain rfl : buf = #[] := Array.eq_empty_of_size_eq_zero hn
  exact ⟨#[rcase l.b z], true, .recv true, _, _, _, s, r, by rw [hz]; simp only [rcase, hcv], fun fr cs es hs => step_lone_recv_shut true hs hh, .inr ⟨rfl, rfl, rfl⟩, hn, hm, is_pair (.any _) (.bool _)⟩
end
end Go.Proofs.Ytnnlicidlidclaa.Vm
/-
  The machine of plain values: slices made of zero elements; texts of bytes, bytes of texts. No program in sight.
-/
namespace Go.Proofs.Ytnnlicidlidclaa.Vm
set_option linter.unusedSimpArgs false
set_option linter.unusedVariables false
open Go Go.RowKit

/-- Of a slice type: is it one of bytes. -/
def bytesT (P : Program) (t : TypeId) : Bool := match P.underlying t with
  | some (.slice e) => (match P.underlying e with | some (.int .u8) => true | _ => false)
  | _ => false
theorem bytesT_spec {P : Program} {t : TypeId} (h : bytesT P t = true) : ∃ e, P.underlying t = some (.slice e) ∧ P.underlying e = some (.int .u8) := by
  unfold bytesT at h
  split at h
  · rename_i e he
    split at h
    · rename_i he2; exact ⟨e, he, he2⟩
    · cases h
  · cases h
def V.isStr : V → Bool
  | .str _ => true
  | _ => false
theorem foldl_push : ∀ (l : List UInt8) (s : ByteArray), (l.map fun b => (b.toNat : Int)).foldl (fun r n => r.push (UInt8.ofNat n.toNat)) s = ⟨s.data ++ l.toArray⟩
  | [], s => by simp
  | b :: l, s => by
    simp only [List.map_cons, List.foldl_cons]
    rw [foldl_push l]
    apply ByteArray.ext
    simp [ByteArray.push]
section
variable {cx : Cx} {X : Nat → Prop} {w0 : World} {I : Nat → Prop} {ρ : Names} {M : Mem} {w : World}
theorem bytes_string {P : Program} {G : Nat → V} (h : Rel G X w0 I ρ M w) {x : V} {cv : Value} {bs : List UInt8} (hx : Is ρ (Dom X ρ M) w x cv) (hok : srcOk M 1 x) (hns : x.isStr = false) (hr : rowsV M x = bs.map byteRow) {s d : TypeId} (hs : bytesT P s = true) (hd : P.underlying d = some .string) :
    (convert s d cv).run P w = .ok (.string ⟨bs.toArray⟩) w := by
  obtain ⟨e, hs, he⟩ := bytesT_spec hs
  obtain ⟨h1, arr, h2, h3, h4⟩ := src_sound (P := P) h (by decide : 0 < 1) hx hok
  have form : ∃ A n c, cv = .slice A n c := by
    cases x <;> first | exact hok.elim | (simp [V.isStr] at hns; done) | skip
    all_goals cases hx <;> exact ⟨_, _, _, rfl⟩
  obtain ⟨A, n, c, rfl⟩ := form
  have hn : n = bs.length := by
    have : (Builtin.lenOf (.slice A n c)).run P w = .ok n w := rfl
    rw [this] at h1
    have h1' : n = (rowsV M x).length := by injection h1
    rw [h1', hr, List.length_map]
  subst hn
  rw [run_convert_bytes_string w s d e A _ c hs he hd]
  cases A with
  | none =>
    have hz : bs = [] := by
      cases bs with
      | nil => rfl
      | cons b bs =>
        exfalso
        have : (Builtin.firstCells 1 (rowsV M x).length (.slice none (b :: bs).length c)).run P w = .ok #[] w := rfl
        rw [this] at h2
        have h2' : (#[] : Array Value) = arr := by injection h2
        rw [← h2', hr] at h3
        simp at h3
    subst hz
    rfl
  | some a =>
    have hl : (loadCells a (bs.length * 1)).run P w = .ok arr w := by
      have := h2
      rw [hr, List.length_map] at this
      exact this
    rw [Nat.mul_one] at hl
    have harr : arr = ((bs.map fun b => (b.toNat : Int)).map (Value.int .u8)).toArray := by
      rw [hr, List.length_map, Nat.mul_one] at h3
      apply Array.ext
      · simp [h3]
      · intro i hi1 hi2
        have hib : i < bs.length := by omega
        obtain ⟨cc, c1, c2⟩ := h4.2.2 i 0 (byteRow bs[i]) (.int .u8 bs[i].toNat) (by rw [hr, List.getElem?_map, List.getElem?_eq_getElem hib]; rfl) rfl
        cases c2
        simp only [Nat.mul_one, Nat.add_zero] at c1
        rw [Array.getElem?_eq_getElem hi1] at c1
        simp only [Option.some.injEq] at c1
        rw [c1]
        simp
    have := run_bytesToString (P := P) w a bs.length c (bs.map fun b => (b.toNat : Int)) (by rw [← harr]; exact hl)
    rw [this, foldl_push]
    have h0 : ByteArray.empty.data = #[] := rfl
    simp [h0]
variable {Q : Post} {st : List Frm} {nm : Nat} {e : Env} {d : Bool} {fs : List (List Nat)} {ops r : List Oper} {dst : Option Tmp} {t : TypeId} {pos : String} {af : Array Edge} {gd : Option (Nat × Bool)} {i : Nat}
theorem does_toStr {s dt : TypeId} {x : Operand} {v : V} {bs : List UInt8} {n : Nat} (hs : bytesT cx.P s = true) (hd : cx.P.underlying dt = some .string) (hx : evalV cx.G true e x = v) (hns : v.isStr = false) (hok : srcOk M 1 v) (hr : rowsV M v = bs.map byteRow) :
    ExtDoes cx ⟨dst, .convert s dt x, t, pos, af, gd⟩ n e M (.str bs) [] (namesV v) := by
  refine ⟨fun x hx => by simp [effNames] at hx, fun x hx => by simp [effNames] at hx, fun h => absurd rfl h, fun _ => rfl, ?_⟩
  intro N X w0 I ρ e' M' a w hr' he hin hev hM _
  have hxi := he.eval hr' (c := true) rfl (hin x (by simp [Op.operands]))
  rw [hev x (by simp [Op.operands]), hx] at hxi
  have hrun := bytes_string (P := cx.P) hr' hxi (by rw [srcOk_congr hM]; exact hok) hns (bs := bs) (by rw [rowsV_congr hM]; exact hr) hs hd
  exact ⟨_, w, (Steps1.still (nm := n) hr' (.str bs)).n, wp_val rfl hrun⟩
/-- A text of bytes. -/
theorem ext_toStr {s dt : TypeId} {x : Operand} {v : V} {bs : List UInt8} (hs : bytesT cx.P s = true) (hd : cx.P.underlying dt = some .string) (hx : evalV cx.G true e x = v) (hns : v.isStr = false) (hok : srcOk M 1 v) (hr : rowsV M v = bs.map byteRow)
    (h : goOps cx Q st nm (e.putD dst (.str bs)) M d (fs ++ [namesV v]) ops r (i + 1)) : goExt cx Q st nm e M d fs ops ⟨dst, .convert s dt x, t, pos, af, gd⟩ r i :=
  ⟨_, [], _, does_toStr hs hd hx hns hok hr, h⟩
theorem ext_toStr_g {c : Bool} {s dt : TypeId} {x : Operand} {v : V} {bs : List UInt8} (hs : bytesT cx.P s = true) (hd : cx.P.underlying dt = some .string) (hx : c = true → evalV cx.G true e x = v) (hns : v.isStr = false) (hok : c = true → srcOk M 1 v) (hr : c = true → rowsV M v = bs.map byteRow)
    (h : goOps cx Q st nm (e.putD dst (.gd c (.str bs))) M d (fs ++ [namesV v]) ops r (i + 1)) : goExtG cx Q st nm e M d fs c ops ⟨dst, .convert s dt x, t, pos, af, gd⟩ r i :=
  .inl ⟨_, _, fun _ => rfl, fun hc => does_toStr hs hd (hx hc) hns (hok hc) (hr hc), h⟩
theorem does_toBytes {s dt : TypeId} {x : Operand} {bs : List UInt8} {n : Nat} (hs : cx.P.underlying s = some .string) (hd : bytesT cx.P dt = true) (hx : evalV cx.G true e x = .str bs) :
    ExtDoes cx ⟨dst, .convert s dt x, t, pos, af, gd⟩ n e M (.sl false 1 (bs.map byteRow)) [] [] := by
  refine ⟨fun x hx => by simp [effNames] at hx, fun x hx => by simp [effNames] at hx, fun h => absurd rfl h, fun h => absurd rfl h, ?_⟩
  intro N X w0 I ρ e' M' a w hr' he hin hev hM _
  have hxi := he.eval hr' (c := true) rfl (hin x (by simp [Op.operands]))
  rw [hev x (by simp [Op.operands]), hx] at hxi
  obtain ⟨el, hd, hel⟩ := bytesT_spec hd
  have hrun := Lib.run_convert_string_bytes (P := cx.P) w s dt el ⟨bs.toArray⟩ hs hd hel
  have hsz : (⟨bs.toArray⟩ : ByteArray).size = bs.length := by simp [ByteArray.size]
  rw [hsz] at hrun
  obtain ⟨g1, g2⟩ := hr'.grow (w' := Lib.bytesWorld w el ⟨bs.toArray⟩) (by rw [Lib.bytesWorld_size]; omega) rfl rfl rfl (fun b hb => Lib.bytesWorld_at_old w el _ b hb)
  have hv : Is ρ (Dom X ρ M') (Lib.bytesWorld w el ⟨bs.toArray⟩) (.sl false 1 (bs.map byteRow)) (.slice (some ⟨w.heap.size, 0, none⟩) bs.length (grownCap w bs.length 0 el)) := by
    have := Is.sl (ρ := ρ) (D := Dom X ρ M') (w := Lib.bytesWorld w el ⟨bs.toArray⟩) (t := false) (sz := 1) (rows := bs.map byteRow) (b := w.heap.size) (o := 0) (c := grownCap w bs.length 0 el)
      (fun i _ => .int .u8 (bs.getD i 0).toNat) (by rw [List.length_map]; exact grownCap_ge _ _ _ _) (fun h => by cases h) (by
        rintro (hX | ⟨nm, l, k1, k2, k3⟩)
        · have := (hr'.hX _ hX).1; have := hr'.size; omega
        · have := (hr'.block_lt k1 k2).1; omega) (by rw [Lib.bytesWorld_size]; omega) (fun i row hi => by
        rw [List.getElem?_map] at hi
        obtain ⟨b, _, rfl⟩ := Option.map_eq_some_iff.1 hi
        rfl) (fun i j row u hi hj => by
        rw [List.getElem?_map] at hi
        obtain ⟨b, hb, rfl⟩ := Option.map_eq_some_iff.1 hi
        have hj0 : j = 0 := by
          have := (List.getElem?_eq_some_iff.1 hj).1
          simp [byteRow] at this; exact this
        subst hj0
        have hlt := (List.getElem?_eq_some_iff.1 hb).1
        have := Lib.bytesWorld_cell w el ⟨bs.toArray⟩ i (by rw [hsz]; exact hlt)
        simpa using this) (fun i j row u hi hj => by
        rw [List.getElem?_map] at hi
        obtain ⟨b, hb, rfl⟩ := Option.map_eq_some_iff.1 hi
        have hj0 : j = 0 := by
          have := (List.getElem?_eq_some_iff.1 hj).1
          simp [byteRow] at this; exact this
        subst hj0
        simp only [byteRow, List.getElem?_cons_zero, Option.some.injEq] at hj
        subst hj
        have : bs.getD i 0 = b := by rw [List.getD_eq_getElem?_getD, hb]; rfl
        rw [this]
        exact .int _ _)
    rwa [List.length_map] at this
  refine ⟨_, _, ⟨ρ, g1, g2, hv, fun _ _ => rfl⟩, wp_val (s := convert s dt (a.eval x)) rfl ?_⟩
  generalize hcv : a.eval x = cv at hxi
  cases hxi
  exact hrun
/-- The bytes of a text. -/
theorem ext_toBytes {s dt : TypeId} {x : Operand} {bs : List UInt8} (hs : cx.P.underlying s = some .string) (hd : bytesT cx.P dt = true) (hx : evalV cx.G true e x = .str bs)
    (h : goOps cx Q st nm (e.putD dst (.sl false 1 (bs.map byteRow))) M d (fs ++ [[]]) ops r (i + 1)) : goExt cx Q st nm e M d fs ops ⟨dst, .convert s dt x, t, pos, af, gd⟩ r i :=
  ⟨_, [], _, does_toBytes hs hd hx, h⟩
theorem ghosts_append (gs hs : List Nat) : ∀ (M : Mem) (n : Nat), (M.ghosts n gs).ghosts (n + gs.length) hs = M.ghosts n (gs ++ hs) := by
  induction gs with
  | nil => intro M n; rfl
  | cons g gs ih =>
    intro M n
    simp only [Mem.ghosts, List.cons_append, List.length_cons]
    rw [← ih]
    congr 1
    omega
/-- Empty blocks are laid at a function's end. -/
theorem Fin.more {N : Nat} {rs : List ResultVar} {M0 : Mem} {v : V} {eff : List (Nat × Option Blk)} {b0 n : Nat} (gs : List Nat) (h : FinG cx N rs nm M0 v eff b0 (n + gs.length) e (M.ghosts n gs)) : FinG cx N rs nm M0 v eff b0 n e M := by
  obtain ⟨hs, h⟩ := h
  rw [ghosts_append] at h
  exact ⟨_, h⟩
theorem extG_true {o : Oper} (h : goExt cx Q st nm e M d fs ops o r i) : goExtG cx Q st nm e M d fs true ops o r i := .inr ⟨fun _ => h, fun h => by cases h⟩
theorem extG_false {o : Oper} (h : goOps cx Q st nm (e.putD o.dst .any) M d (fs ++ [[]]) ops r (i + 1)) : goExtG cx Q st nm e M d fs false ops o r i := .inr ⟨fun h => (by cases h), fun _ => h⟩
/-! ### slices of zero elements -/
def madeK (P : Program) (ty : TypeId) (n : Nat) : Blk := match elInfo P ty with
  | some (zc, _) => ⟨zc.length, List.replicate n zc⟩
  | none => ⟨0, []⟩
def madeOk (P : Program) (ty : TypeId) (n : Nat) : Prop := match elInfo P ty with
  | some (zc, b) => n * zc.length ≤ 16777216 ∧ b * n ≤ 281474976710656
  | none => False
theorem ext_makeN {ty : TypeId} {x y : Operand} {kx ky : IntKind} {n c : Nat} (hx : evalV cx.G true e x = .int kx n) (hy : evalV cx.G true e y = .int ky c) (hn : n ≤ c) (hok : madeOk cx.P ty c)
    (h : goOps cx Q st nm (e.putD dst (.own (nm + 16 * i) 0 n)) (M.app [(nm + 16 * i, some (madeK cx.P ty c))]) d (fs ++ [[nm + 16 * i]]) ops r (i + 1)) : goExt cx Q st nm e M d fs ops ⟨dst, .makeSlice ty x y, t, pos, af, gd⟩ r i := by
  refine ⟨_, _, _, ⟨fun x hx => hx, fun x hx => ?_, fun _ => rfl, fun _ => rfl, ?_⟩, h⟩
  · simp only [effNames, List.map_cons, List.map_nil, List.mem_singleton] at hx
    subst hx; exact .inr ⟨Nat.le_refl _, by omega⟩
  · intro N X w0 I ρ e' M' a w hr he hin hev _ hf
    obtain ⟨f1, f2⟩ := hf (nm + 16 * i) ⟨Nat.le_refl _, by omega⟩
    have hxi := he.eval hr (c := true) rfl (hin x (by simp [Op.operands]))
    rw [hev x (by simp [Op.operands]), hx] at hxi
    have hyi := he.eval hr (c := true) rfl (hin y (by simp [Op.operands]))
    rw [hev y (by simp [Op.operands]), hy] at hyi
    unfold madeOk at hok
    cases hel : elInfo cx.P ty with
    | none => rw [hel] at hok; exact hok.elim
    | some q =>
      obtain ⟨zc, b⟩ := q
      rw [hel] at hok
      obtain ⟨el, inf, z, hu, hi, hz, hzs, hpos, hzc, hzl, hb⟩ := elInfo_spec hel
      obtain ⟨ho1, ho2⟩ := hok
      have hc63 : c ≤ 16777216 := by
        have : c * 1 ≤ c * zc.length := Nat.mul_le_mul_left _ (by omega)
        omega
      have hrun := run_makeSlice (P := cx.P) w ty el inf z hu hi hz kx ky n c (by omega) (by omega) (by simp only [Int.toNat_natCast]; rw [← hzl]; exact ho1) (by rw [hb, ← Int.natCast_mul]; exact Int.ofNat_le.2 ho2) (by omega)
      simp only [Int.toNat_natCast] at hrun
      have hrows : RowsAre ρ (Dom X ρ M') w inf.size (List.replicate c zc) (madeCells z.cells (c * inf.size)) := zeroRows hzs hpos hzc c _ (size_madeCells _ _) (fun k hk => by simp [madeCells, hzs, hk])
      obtain ⟨g1, g2⟩ := hr.alloc f1 f2 (madeCells z.cells (c * inf.size)) el ⟨inf.size, List.replicate c zc⟩ c (by simp) (by simp [size_madeCells]) hrows.2.1 hrows.2.2
      have hK : madeK cx.P ty c = ⟨inf.size, List.replicate c zc⟩ := by simp only [madeK, hel, hzl]
      rw [hK]
      refine ⟨_, _, (show Steps1 _ _ _ _ _ _ _ _ _ _ _ _ from ⟨_, g1, g2, .own (c := c) (Names.put_same _ _ _) (by simp) hn, fun x hx => Names.put_ne _ _ hx⟩).n, wp_val (s := Instr.makeSlice ty (a.eval x) (a.eval y)) rfl ?_⟩
      generalize hcv : a.eval x = cv at hxi
      generalize hcw : a.eval y = cw at hyi
      cases hxi
      cases hyi
      simpa using hrun
theorem ext_make {ty : TypeId} {x y : Operand} {kx ky : IntKind} {n c : Int} (hx : evalV cx.G true e x = .int kx n) (hy : evalV cx.G true e y = .int ky c) (h0 : 0 ≤ n) (hn : n ≤ c) (hok : madeOk cx.P ty c.toNat)
    (h : goOps cx Q st nm (e.putD dst (.own (nm + 16 * i) 0 n.toNat)) (M.app [(nm + 16 * i, some (madeK cx.P ty c.toNat))]) d (fs ++ [[nm + 16 * i]]) ops r (i + 1)) : goExt cx Q st nm e M d fs ops ⟨dst, .makeSlice ty x y, t, pos, af, gd⟩ r i :=
  ext_makeN (n := n.toNat) (c := c.toNat) (by rw [Int.toNat_of_nonneg h0]; exact hx) (by rw [Int.toNat_of_nonneg (by omega)]; exact hy) (by omega) hok h
end
end Go.Proofs.Ytnnlicidlidclaa.Vm
/-
  The machine of plain values: a state told anew, in a form of one's own choosing: at the head of a loop blocks have the same names in every round. No program in sight.
-/
namespace Go.Proofs.Ytnnlicidlidclaa.Vm
set_option linter.unusedSimpArgs false
set_option linter.unusedVariables false
open Go Go.RowKit

def envL : List (Nat × V) → Env
  | [], _ => .any
  | (t, v) :: r, x => if x = t then v else envL r x
def memL : List (Nat × Blk) → Mem
  | [], _ => none
  | (y, k) :: r, x => if x = y then some k else memL r x
theorem envL_cons (t : Nat) (v : V) (r : List (Nat × V)) (x : Nat) : envL ((t, v) :: r) x = if x = t then v else envL r x := rfl
theorem envL_nil (x : Nat) : envL [] x = .any := rfl
theorem memL_cons (y : Nat) (k : Blk) (r : List (Nat × Blk)) (x : Nat) : memL ((y, k) :: r) x = if x = y then some k else memL r x := rfl
theorem memL_nil (x : Nat) : memL [] x = none := rfl
def leLL : List (List V) → List (List V) → Prop
  | [], [] => True
  | x :: xs, y :: ys => leL x y ∧ leLL xs ys
  | _, _ => False
theorem leLL_refl : ∀ (l : List (List V)), leLL l l
  | [] => trivial
  | x :: l => ⟨leL_refl x, leLL_refl l⟩
theorem leLL_same (l : List (List V)) : leLL l l = True := eq_true (leLL_refl l)
theorem leLL_get : ∀ {a b : List (List V)}, leLL a b → a.length = b.length ∧ ∀ (i : Nat) (y : List V), b[i]? = some y → ∃ x, a[i]? = some x ∧ leL x y
  | [], [], _ => ⟨rfl, fun i y h => by simp at h⟩
  | x :: xs, y :: ys, h => by
    obtain ⟨h1, h2⟩ := leLL_get h.2
    refine ⟨by simp [h1], fun i u hu => ?_⟩
    cases i with
    | zero => simp at hu; subst hu; exact ⟨x, rfl, h.1⟩
    | succ i => exact h2 i u (by simpa using hu)
  | [], _ :: _, h => h.elim
  | _ :: _, [], h => h.elim
/-- Less is said of a block. -/
def leBlk (a b : Blk) : Prop := a.sz = b.sz ∧ a.ob = b.ob ∧ leLL a.rows b.rows
theorem leBlk_mk (s s' : Nat) (r r' : List (List V)) : leBlk ⟨s, r⟩ ⟨s', r'⟩ = (s = s' ∧ leLL r r') := propext ⟨fun h => ⟨h.1, h.2.2⟩, fun h => ⟨h.1, rfl, h.2⟩⟩
theorem leBlk_same (k : Blk) : leBlk k k = True := eq_true ⟨rfl, rfl, leLL_refl _⟩
theorem BlkAt.le {ρ : Names} {D : Nat → Prop} {w : World} {l : Loc} {a b : Blk} (h : BlkAt ρ D w l a) (hle : leBlk a b) : BlkAt ρ D w l b := by
  obtain ⟨e1, e2, e3⟩ := hle
  obtain ⟨f1, f2⟩ := leLL_get e3
  rcases h with ⟨cs, e, h1, h2, h3, h4, h5, h6, h7⟩ | ⟨cap, closed, msgs, buf, s, r, h1, h2, h3, h4, h5, h6, h7⟩
  · refine .inl ⟨cs, e, by rw [← e2]; exact h1, h2, by rw [← e1]; exact h3, by rw [← f1]; exact h4, h5, fun i row hi => ?_, fun i j row u hi hj => ?_⟩
    · obtain ⟨x, g1, g2⟩ := f2 i row hi
      rw [← (leL_get g2).1]; exact h6 i x g1
    · obtain ⟨x, g1, g2⟩ := f2 i row hi
      obtain ⟨v, g3, g4⟩ := (leL_get g2).2 j u hj
      obtain ⟨cv, c1, c2⟩ := h7 i j x v g1 g3
      exact ⟨cv, c1, c2.le u g4⟩
  · refine .inr ⟨cap, closed, msgs, buf, s, r, by rw [← e2]; exact h1, h2, by rw [← e1]; exact h3, ?_, h5, h6, h7⟩
    rw [h4] at f1
    cases hb : b.rows with
    | nil => rfl
    | cons x y => rw [hb] at f1; simp at f1
/-- Where a block of the new telling comes from: none: an empty one of which no block need be there. -/
def zipS : List (Nat × Blk) → List (Option Nat) → List (Nat × Option Nat × Blk)
  | (y, k) :: r, o :: s => (y, o, k) :: zipS r s
  | (y, k) :: r, [] => (y, none, k) :: zipS r []
  | [], _ => []
def sigS : List (Nat × Option Nat × Blk) → List (Nat × Nat)
  | [] => []
  | (y, some x, _) :: r => (x, y) :: sigS r
  | (_, none, _) :: r => sigS r
def canM (b0 nm' : Nat) (M : Mem) (σ : List (Nat × Nat)) : List (Nat × Option Nat × Blk) → Prop
  | [] => True
  | (y, o, k) :: r => y < nm' ∧ (match o with
    | some x => (b0 ≤ y ∨ x = y) ∧ (match M x with | some k0 => k0.renOk σ = true ∧ leBlk (k0.ren σ) k | none => False)
    | none => b0 ≤ y ∧ k.rows = [] ∧ k.ob.isCells = true) ∧ (∀ p ∈ r, p.1 ≠ y ∧ (o ≠ none → p.2.1 ≠ o)) ∧ canM b0 nm' M σ r
def canE (M : Mem) (σ : List (Nat × Nat)) (e : Env) : List (Nat × V) → Prop
  | [] => True
  | (t, v) :: r => ((e t).finOk σ M ∧ ((e t).fin σ M).le v) ∧ canE M σ e r
theorem canM_get {b0 nm' : Nat} {M : Mem} {σ : List (Nat × Nat)} : ∀ {C : List (Nat × Option Nat × Blk)}, canM b0 nm' M σ C → ∀ {y : Nat} {o : Option Nat} {k : Blk}, (y, o, k) ∈ C → y < nm' ∧ (match o with
    | some x => (b0 ≤ y ∨ x = y) ∧ (match M x with | some k0 => k0.renOk σ = true ∧ leBlk (k0.ren σ) k | none => False)
    | none => b0 ≤ y ∧ k.rows = [] ∧ k.ob.isCells = true)
  | (y', o', k') :: C, h, y, o, k, hm => by
    rcases List.mem_cons.1 hm with e | hm
    · cases e; exact ⟨h.1, h.2.1⟩
    · exact canM_get h.2.2.2 hm
theorem sigS_mem : ∀ {C : List (Nat × Option Nat × Blk)} {x y : Nat}, (x, y) ∈ sigS C ↔ ∃ k, (y, some x, k) ∈ C
  | [], x, y => by simp [sigS]
  | (y', none, k') :: C, x, y => by
    simp only [sigS, sigS_mem (C := C), List.mem_cons, Prod.mk.injEq, reduceCtorEq, false_and, and_false, false_or]
  | (y', some x', k') :: C, x, y => by
    simp only [sigS, List.mem_cons, sigS_mem (C := C), Prod.mk.injEq, Option.some.injEq]
    constructor
    · rintro (⟨rfl, rfl⟩ | ⟨k, h⟩)
      · exact ⟨k', .inl ⟨rfl, rfl, rfl⟩⟩
      · exact ⟨k, .inr h⟩
    · rintro ⟨k, ⟨rfl, rfl, _⟩ | h⟩
      · exact .inl ⟨rfl, rfl⟩
      · exact .inr ⟨k, h⟩
theorem canM_nodup {b0 nm' : Nat} {M : Mem} {σ : List (Nat × Nat)} : ∀ {C : List (Nat × Option Nat × Blk)}, canM b0 nm' M σ C → ((sigS C).map (·.1)).Nodup ∧ ((sigS C).map (·.2)).Nodup
  | [], _ => ⟨List.nodup_nil, List.nodup_nil⟩
  | (y, none, k) :: C, h => by
    obtain ⟨a, b⟩ := canM_nodup (C := C) h.2.2.2
    exact ⟨a, b⟩
  | (y, some x, k) :: C, h => by
    obtain ⟨a, b⟩ := canM_nodup h.2.2.2
    refine ⟨List.nodup_cons.2 ⟨fun hm => ?_, a⟩, List.nodup_cons.2 ⟨fun hm => ?_, b⟩⟩
    · obtain ⟨⟨x', y'⟩, hp, he⟩ := List.mem_map.1 hm
      simp only at he; subst he
      obtain ⟨k', hk⟩ := sigS_mem.1 hp
      exact (h.2.2.1 _ hk).2 (by simp) rfl
    · obtain ⟨⟨x', y'⟩, hp, he⟩ := List.mem_map.1 hm
      simp only at he; subst he
      obtain ⟨k', hk⟩ := sigS_mem.1 hp
      exact (h.2.2.1 _ hk).1 rfl
/-- One name, one block. -/
theorem canM_one {b0 nm' : Nat} {M : Mem} {σ : List (Nat × Nat)} : ∀ {C : List (Nat × Option Nat × Blk)}, canM b0 nm' M σ C → ∀ {y : Nat} {o o' : Option Nat} {k k' : Blk}, (y, o, k) ∈ C → (y, o', k') ∈ C → o = o'
  | q :: C, h, y, o, o', k, k', h1, h2 => by
    obtain ⟨y', o'', k''⟩ := q
    rcases List.mem_cons.1 h1 with e1 | g1 <;> rcases List.mem_cons.1 h2 with e2 | g2
    · cases e1; cases e2; rfl
    · cases e1; exact absurd rfl (h.2.2.1 (y, o', k') g2).1
    · cases e2; exact absurd rfl (h.2.2.1 (y, o, k) g1).1
    · exact canM_one h.2.2.2 g1 g2
theorem memL_zip : ∀ {Ms : List (Nat × Blk)} {src : List (Option Nat)} {y : Nat} {k : Blk}, memL Ms y = some k → ∃ o, (y, o, k) ∈ zipS Ms src
  | (y', k') :: Ms, src, y, k, h => by
    simp only [memL] at h
    split at h
    · rename_i he; subst he; cases h
      cases src with
      | nil => exact ⟨none, by simp [zipS]⟩
      | cons o s => exact ⟨o, by simp [zipS]⟩
    · cases src with
      | nil =>
        obtain ⟨o, ho⟩ := memL_zip (src := []) h
        exact ⟨o, by simp [zipS, ho]⟩
      | cons o' s =>
        obtain ⟨o, ho⟩ := memL_zip (src := s) h
        exact ⟨o, by simp [zipS, ho]⟩
theorem memL_none {b0 nm' : Nat} {M : Mem} {σ : List (Nat × Nat)} {Ms : List (Nat × Blk)} {src : List (Option Nat)} (h : canM b0 nm' M σ (zipS Ms src)) {y : Nat} (hy : nm' ≤ y) : memL Ms y = none := by
  cases hm : memL Ms y with
  | none => rfl
  | some k =>
    obtain ⟨o, ho⟩ := memL_zip (src := src) hm
    have := (canM_get h ho).1
    omega
theorem newName_of {σ : List (Nat × Nat)} (hn : (σ.map (·.1)).Nodup) {x y : Nat} (h : (x, y) ∈ σ) : newName σ x = some y := by
  induction σ with
  | nil => cases h
  | cons p r ih =>
    simp only [List.map_cons, List.nodup_cons] at hn
    obtain ⟨x', y'⟩ := p
    rw [newName_cons]
    rcases List.mem_cons.1 h with e | h
    · cases e; rw [if_pos rfl]
    · have hne : x' ≠ x := fun e => hn.1 (List.mem_map.2 ⟨(x, y), h, e.symm⟩)
      rw [if_neg hne]
      exact ih hn.2 h
section
variable {cx : Cx}
/-- A state told anew. -/
theorem weak_can (hG : ∀ g, (cx.G g).plain = true) {b0 nm nm' : Nat} {e : Env} {M : Mem} {Es : List (Nat × V)} {Ms : List (Nat × Blk)} (src : List (Option Nat)) (hn : b0 ≤ nm') (hM : canM b0 nm' M (sigS (zipS Ms src)) (zipS Ms src)) (hE : canE M (sigS (zipS Ms src)) e Es) : Weak cx b0 nm e M nm' (envL Es) (memL Ms) := by
  intro N X w0 I ρ0 ρ a w h
  generalize hC : zipS Ms src = C at hM hE
  generalize hσ : sigS C = σ at hM hE
  obtain ⟨nd1, nd2⟩ := canM_nodup hM
  rw [hσ] at nd1 nd2
  let ρ' : Names := fun y => if y < b0 then ρ0 y else match oldName σ y with | some x => ρ x | none => none
  have hnew : ∀ x y, newName σ x = some y → ρ' y = ρ x := fun x y hxy => by
    have hmem := newName_some hxy
    rw [← hσ, sigS_mem] at hmem
    obtain ⟨k, hk⟩ := hmem
    obtain ⟨g1, g2, g3⟩ := canM_get hM hk
    show (if y < b0 then ρ0 y else match oldName σ y with | some x => ρ x | none => none) = ρ x
    by_cases hy : y < b0
    · rw [if_pos hy]
      rcases g2 with g2 | rfl
      · omega
      · exact (h.low x hy).symm
    · rw [if_neg hy, oldName_of nd2 (newName_some hxy)]
  have src' : ∀ y k, memL Ms y = some k → (∃ x k0, (y, some x, k) ∈ C ∧ M x = some k0 ∧ k0.renOk σ = true ∧ leBlk (k0.ren σ) k ∧ ρ' y = ρ x ∧ newName σ x = some y) ∨ (k.rows = [] ∧ ρ' y = none) := fun y k hk => by
    obtain ⟨o, ho⟩ := memL_zip (src := src) hk
    rw [hC] at ho
    obtain ⟨g1, g2⟩ := canM_get hM ho
    cases o with
    | some x =>
      simp only at g2
      obtain ⟨g2, g3⟩ := g2
      cases hx : M x with
      | none => rw [hx] at g3; exact g3.elim
      | some k0 =>
        rw [hx] at g3
        have hin : (x, y) ∈ σ := by rw [← hσ, sigS_mem]; exact ⟨k, ho⟩
        have hnn : newName σ x = some y := newName_of nd1 hin
        exact .inl ⟨x, k0, ho, hx, g3.1, g3.2, hnew x y hnn, hnn⟩
    | none =>
      simp only at g2
      refine .inr ⟨g2.2.1, ?_⟩
      show (if y < b0 then ρ0 y else match oldName σ y with | some x => ρ x | none => none) = none
      rw [if_neg (by omega)]
      cases hon : oldName σ y with
      | none => rfl
      | some x =>
        have hin := oldName_some hon
        rw [← hσ, sigS_mem] at hin
        obtain ⟨k', hk'⟩ := hin
        cases canM_one hM ho hk'
  have hdom : ∀ b, Dom X ρ' (memL Ms) b → Dom X ρ M b := by
    rintro b (hx | ⟨y, l, h1, h2, h3⟩)
    · exact .inl hx
    · obtain ⟨k, hk⟩ := Option.isSome_iff_exists.1 h1
      rcases src' y k hk with ⟨x, k0, _, g1, _, _, g2, _⟩ | ⟨_, g⟩
      · exact .inr ⟨x, l, by rw [g1]; rfl, by rw [← g2]; exact h2, h3⟩
      · rw [h2] at g; cases g
  have hinj : ∀ x y y', newName σ x = some y → newName σ x = some y' → y = y' := fun x y y' h1 h2 => by rw [h1] at h2; exact Option.some.inj h2
  have hout : ∀ x l, newName σ x = none → (M x).isSome = true → ρ x = some l → ¬ Dom X ρ' (memL Ms) l.b := by
    rintro x l hn hMx hl (hX | ⟨y, l', h1, h2, h3⟩)
    · exact (h.rel.block_lt hMx hl).2.1 hX
    · obtain ⟨k, hk⟩ := Option.isSome_iff_exists.1 h1
      rcases src' y k hk with ⟨x', k0, _, g1, _, _, g2, g5⟩ | ⟨_, g⟩
      · have := h.rel.inj x' x l' l (by rw [g1]; rfl) hMx (by rw [← g2]; exact h2) hl h3
        subst this
        rw [hn] at g5; cases g5
      · rw [h2] at g; cases g
  refine ⟨ρ', ⟨?_, ⟨h.env.size, h.env.defers, fun t ht => ?_⟩, fun x hx => ⟨memL_none (src := src) (by rw [hC]; exact hM) hx, ?_⟩, fun x l hx => ?_, hn, fun x hx => ?_, h.top⟩⟩
  · exact
    { size := h.rel.size, os := h.rel.os, tape := h.rel.tape, output := h.rel.output, old := h.rel.old
      live := fun y k hk => by
        rcases src' y k hk with ⟨x, k0, _, g1, g3, g4, g2, _⟩ | ⟨g1, g2⟩
        · rcases h.rel.live x k0 g1 with ⟨a1, a2⟩ | ⟨l, a1, a2, a3, a4⟩
          · refine .inl ⟨?_, by rw [g2]; exact a2⟩
            have hz : (k0.ren σ).rows = [] := by simp [Blk.ren, renLL, a1, plainLL]
            have := (leLL_get g4.2.2).1
            rw [hz] at this
            cases hb : k.rows with
            | nil => rfl
            | cons x y => rw [hb] at this; simp at this
          · exact .inr ⟨l, by rw [g2]; exact a1, a2, a3, (a4.ren hnew hdom g3).le g4⟩
        · exact .inl ⟨g1, g2⟩
      inj := fun y y' l l' h1 h2 h3 h4 h5 => by
        obtain ⟨k, hk⟩ := Option.isSome_iff_exists.1 h1
        obtain ⟨k', hk'⟩ := Option.isSome_iff_exists.1 h2
        rcases src' y k hk with ⟨x, k0, _, g1, _, _, g2, g5⟩ | ⟨_, g⟩
        · rcases src' y' k' hk' with ⟨x', k0', _, g1', _, _, g2', g5'⟩ | ⟨_, g⟩
          · have := h.rel.inj x x' l l' (by rw [g1]; rfl) (by rw [g1']; rfl) (by rw [← g2]; exact h3) (by rw [← g2']; exact h4) h5
            subst this
            exact hinj x y y' g5 g5'
          · rw [h4] at g; cases g
        · rw [h3] at g; cases g
      hX := h.rel.hX
      glob := fun g => (h.rel.glob g).plain (Nat.le_refl _) (fun _ _ _ => rfl) (fun b _ hb => hdom b hb) (hG g) }
  · have key : ∀ {L : List (Nat × V)}, canE M σ e L → Is ρ' (Dom X ρ' (memL Ms)) w (envL L t) (a.tmps.getD t undef) := by
      intro L
      induction L with
      | nil => intro _; exact .any _
      | cons p r ih =>
        obtain ⟨t', v⟩ := p
        intro hc
        simp only [envL]
        split
        · rename_i he
          subst he
          exact (fin_is (cx := cx) h.rel hnew hdom hout (h.env.is t ht) hc.1.1).le _ hc.1.2
        · exact ih hc.2
    exact key hE
  · show (if x < b0 then ρ0 x else match oldName σ x with | some x => ρ x | none => none) = none
    rw [if_neg (by omega)]
    cases hon : oldName σ x with
    | none => rfl
    | some z =>
      have hin := oldName_some hon
      rw [← hσ, sigS_mem] at hin
      obtain ⟨k', hk'⟩ := hin
      have := (canM_get hM hk').1
      omega
  · show (if x < b0 then ρ0 x else match oldName σ x with | some x => ρ x | none => none) = some l
    by_cases hxb : x < b0
    · rw [if_pos hxb]; exact hx
    · rw [h.top x (by omega)] at hx; cases hx
  · show (if x < b0 then ρ0 x else match oldName σ x with | some x => ρ x | none => none) = ρ0 x
    rw [if_pos hx]
/-! ### loops -/
def canJ {α : Type} (μ : α → Nat) (P : α → Prop) (nmS : Nat) (Es : α → List (Nat × V)) (Ms : α → List (Nat × Blk)) (g nm : Nat) (e : Env) (M : Mem) : Prop := ∃ x, μ x = g ∧ P x ∧ nm = nmS ∧ e = envL (Es x) ∧ M = memL (Ms x)
variable {Q : Post} {st : List Frm} {nm : Nat} {e : Env} {M : Mem}
/-- A loop whose head is told by a thing x: the temporaries, the blocks; what is measured goes down. -/
theorem loop_can {c : Code} (hG : ∀ g, (cx.G g).plain = true) {α : Type} (μ : α → Nat) (P : α → Prop) (nmS : Nat) (Es : α → List (Nat × V)) (Ms : α → List (Nat × Blk)) (x0 : α) (src : List (Option Nat)) (h0 : P x0) (hb : Q.b0 ≤ nmS)
    (hM : canM Q.b0 nmS M (sigS (zipS (Ms x0) src)) (zipS (Ms x0) src)) (hE : canE M (sigS (zipS (Ms x0) src)) e (Es x0))
    (hr : ∀ x, P x → go cx Q (.again (canJ μ P nmS Es Ms) (μ x) :: st) nmS (envL (Es x)) (memL (Ms x)) c) : goLoop cx Q st nm e M c :=
  loop_to (canJ μ P nmS Es Ms) (μ x0) (weak_can hG src hb hM hE) ⟨x0, rfl, h0, rfl, rfl, rfl⟩ (by rintro g nm e M ⟨x, rfl, hP, rfl, rfl, rfl⟩; exact hr x hP)
theorem again_can (hG : ∀ g, (cx.G g).plain = true) {α : Type} {μ : α → Nat} {P : α → Prop} {nmS : Nat} {Es : α → List (Nat × V)} {Ms : α → List (Nat × Blk)} {g : Nat} (x : α) (src : List (Option Nat)) (hg : μ x < g) (h0 : P x) (hb : Q.b0 ≤ nmS)
    (hM : canM Q.b0 nmS M (sigS (zipS (Ms x) src)) (zipS (Ms x) src)) (hE : canE M (sigS (zipS (Ms x) src)) e (Es x)) : goEx cx Q (.again (canJ μ P nmS Es Ms) g :: st) nm e M .normal :=
  again_to (μ x) hg (weak_can hG src hb hM hE) ⟨x, rfl, h0, rfl, rfl, rfl⟩
end
end Go.Proofs.Ytnnlicidlidclaa.Vm
/-
  The machine of plain values: two own slices in two blocks do not overlap, as the model's own function says. No program in sight.
-/
namespace Go.Proofs.Ytnnlicidlidclaa.Vm
set_option linter.unusedSimpArgs false
set_option linter.unusedVariables false
open Go Go.RowKit

theorem cells_facts {w : World} {b : Nat} {cs : Array Value} {e : TypeId} (h : w.heap[b]? = some (.cells cs e (0, 0))) : w.shape? b = some (e, cs.size) ∧ ∀ o, w.frozen? ⟨b, o, none⟩ = false := by
  refine ⟨by simp [World.shape?, h], fun o => ?_⟩
  simp [World.frozen?, h]
theorem Ev.overlaps {cx : Cx} {f : FuncId} {fn : Func} {tS tR : TypeId} (hf : cx.P.funcs[f]? = some fn) (hname : (fn.name == "runtime.NumGoroutine") = false) (hb : fn.body.isNone = true) (hn : Extern.findNext fn = none)
    (he : Extern.find fn = some (Extern.SlicesOverlaps.overlaps #[tS, tS] #[tR])) {zc : List V} {bytes : Nat} (hel : elInfo cx.P tS = some (zc, bytes)) (a la lo' y lo n c : Nat) (hay : a ≠ y) (M : Mem) (hMa : (M a).isSome = true) (hMy : (M y).isSome = true) (hsz0 : szOf M y = zc.length) (hca : isCellsM M a = true) (hcy : isCellsM M y = true) (nm : Nat) :
    Ev cx f nm [.own a lo' la, .ownc y lo n c] M (.bool false) [] := by
  obtain ⟨e, i, z, hu, hi, _, _, hz, _, hzl, _⟩ := elInfo_spec hel
  have hsz : szOf M y = i.size := by rw [hsz0, hzl]
  refine ⟨trivial, fun X w ρ cargs B hr hfr hB hlen hargs => ?_⟩
  match cargs, hlen, hargs with
  | ⟨[v0, v1]⟩, _, hargs =>
  have h0 := hargs 0 _ v0 rfl rfl
  have h1 := hargs 1 _ v1 rfl rfl
  have hsize : ∀ w, (sizeOf e).run cx.P w = .ok i.size w := fun w => by simp [sizeOf, typeInfo, hi]
  have zero : ∀ (A A' : Option Addr) (l l' k k' : Nat), (A = none ∨ A' = none ∨ l = 0 ∨ l' = 0) → (Extern.SlicesOverlaps.overlaps #[tS, tS] #[tR] #[.slice A l k, .slice A' l' k']).run cx.P w = .ok (.bool false) w := by
    intro A A' l l' k k' h
    change Sem.run cx.P (α := Value) (do
      let some t := (#[tS, tS] : Array TypeId)[0]? | stuck "slices.overlaps: no parameter types"
      let .slice elem ← underlying t | stuck "slices.overlaps: slice type expected"
      let size ← sizeOf elem
      match A, A' with
      | some a, some b =>
        if l = 0 ∨ l' = 0 ∨ size = 0 then pure (Value.bool false)
        else if a.block != b.block && (← frozen a) && (← frozen b) then unsupported .addressObserved
        else do
          if a.block != b.block then do
            noView a; noView b
            if ← mayBeOne a b then return Value.bool ((← choose (.extern "sameAddr.stringBytes" 2)) == 1)
          pure (Value.bool (a.block == b.block && a.off < b.off + l' * size && b.off < a.off + l * size))
      | _, _ => pure (Value.bool false)) w = _
    cases A with
    | none => simp [run_underlying hu, hsize]
    | some a =>
      cases A' with
      | none => simp [run_underlying hu, hsize]
      | some b =>
        have h0 : l = 0 ∨ l' = 0 ∨ i.size = 0 := by
          rcases h with h | h | h | h
          · cases h
          · cases h
          · exact .inl h
          · exact .inr (.inl h)
        simp [run_underlying hu, hsize, h0]
  have main : (Extern.SlicesOverlaps.overlaps #[tS, tS] #[tR] #[v0, v1]).run cx.P w = .ok (.bool false) w := by
    cases h0 with
    | own0 =>
      cases h1 with
      | ownc0 => exact zero _ _ _ _ _ _ (.inr (.inr (.inl rfl)))
      | ownc hl hlc hnc hcp => exact zero _ _ _ _ _ _ (.inr (.inr (.inl rfl)))
    | own hla hlca hnca =>
      cases h1 with
      | ownc0 => exact zero _ _ _ _ _ _ (.inr (.inr (.inr rfl)))
      | ownc hl hlc hnc hcp =>
        obtain ⟨ka, hka, hoa⟩ := isCellsM_some hca
        obtain ⟨ky, hky, hoy⟩ := isCellsM_some hcy
        rcases hr.live a ka hka with ⟨_, x⟩ | ⟨l1, x1, _, _, ⟨cs1, e1, _, x4, _⟩ | ⟨_, _, _, _, _, _, x, _⟩⟩
        · rw [hla] at x; cases x
        · rw [hla] at x1; cases x1
          rcases hr.live y ky hky with ⟨_, z⟩ | ⟨l2, z1, _, _, ⟨cs2, e2, _, z4, z5, z6, z7, _⟩ | ⟨_, _, _, _, _, _, z, _⟩⟩
          · rw [hl] at z; cases z
          · rw [hl] at z1; cases z1
            obtain ⟨g1, g2⟩ := cells_facts x4
            obtain ⟨g3, g4⟩ := cells_facts z4
            refine Lib.run_overlaps_apart w tS tR e hu i.size hsize _ _ la _ n c (fun hbb => hay (hr.inj a y _ _ hMa hMy hla hl hbb)) e1 e2 cs1.size cs2.size g1 g3 ?_ (g2 _) (g2 _)
            have hs2 := z5
            rw [show ky.sz = i.size by rw [← hsz, szOf, hky]] at hs2
            rw [← hs2] at z7
            have h3 : 0 < lo + c := by omega
            have h5 := Nat.mul_pos (Nat.lt_of_lt_of_le h3 hlc) hz
            omega
          · rw [hoy] at z; cases z
        · rw [hoa] at x; cases x
  refine .inr ⟨.bool false, w, ?_, .bool false, rfl, ρ, hr, .refl _ _ _, .bool _, fun _ _ => rfl⟩
  rw [run_callFunc_extern hf hname hb hn he]
  change ((Extern.SlicesOverlaps.overlaps #[tS, tS] #[tR] #[v0, v1]).run cx.P w).andThen _ = _
  rw [main]; rfl
/-- Less is said of a block: its first rows. -/
theorem Ev.trim {cx : Cx} {f : FuncId} {nm : Nat} {args : List V} {M : Mem} {v : V} {eff eff' : List (Nat × Option Blk)} (y sz k : Nat) (rows : List (List V)) (h : Ev cx f nm args M v eff) (hM : (M.app eff) y = some ⟨sz, rows⟩) (he : ∀ x, (M.app eff') x = if x = y then some ⟨sz, rows.take k⟩ else (M.app eff) x) : Ev cx f nm args M v eff' := by
  refine ⟨trivial, fun X w ρ cargs B hr hfr hB hlen hargs => (h.2 X w ρ cargs B hr hfr hB hlen hargs).mono ?_⟩
  rintro e w' ⟨cv, rfl, ρ', r, m, hv, hn⟩
  have hs : ∀ x, (((M.app eff') x).isSome = true) = (((M.app eff) x).isSome = true) := fun x => by
    rw [he]
    by_cases e : x = y
    · subst e; rw [if_pos rfl, hM]; simp
    · rw [if_neg e]
  have hdom : Dom X ρ' (M.app eff') = Dom X ρ' (M.app eff) := by funext b; simp only [Dom, hs]
  refine ⟨cv, rfl, ρ', { size := r.size, os := r.os, tape := r.tape, output := r.output, old := r.old, live := ?_, inj := ?_, hX := r.hX, glob := ?_ }, ⟨m.names, m.size, m.os, m.tape, m.output, m.kept, fun x l h1 h2 h3 => m.dom x l (by rw [← hs]; exact h1) h2 h3⟩, by rw [hdom]; exact hv, hn⟩
  · intro x q hx
    rw [hdom]
    rw [he] at hx
    by_cases e : x = y
    · subst e
      rw [if_pos rfl] at hx; cases hx
      rcases r.live x _ hM with ⟨a1, a2⟩ | ⟨l, a1, a2, a3, ⟨cs, e, _, a4, a5, a6, a7, a8, a9⟩ | ⟨_, _, _, _, _, _, hch, _⟩⟩
      · exact .inl ⟨by simp only at a1; simp [a1], a2⟩
      · simp only at a5 a6 a8 a9
        have hg : ∀ (i : Nat) (row : List V), (rows.take k)[i]? = some row → rows[i]? = some row := fun i row hi => by
          rw [List.getElem?_take] at hi
          split at hi
          · exact hi
          · cases hi
        exact .inr ⟨l, a1, a2, a3, .inl ⟨cs, e, rfl, a4, a5, by simp only [List.length_take]; omega, a7, fun i row hi => a8 i row (hg i row hi), fun i j row u hi hj => a9 i j row u (hg i row hi) hj⟩⟩
      · cases hch
    · rw [if_neg e] at hx
      exact r.live x q hx
  · intro a b l l' h1 h2
    rw [hs] at h1 h2
    exact r.inj a b l l' h1 h2
  · intro g; rw [hdom]; exact r.glob g
end Go.Proofs.Ytnnlicidlidclaa.Vm
/-
  Plain laws of lists and numbers, and some turns of contracts. No program in sight.
-/
namespace Go.Proofs.Ytnnlicidlidclaa.Vm
set_option linter.unusedSimpArgs false
set_option linter.unusedVariables false
open Go Go.RowKit

/-- How many a list that comes in may hold. -/
def lim : Nat := 140737488355328
def num (n : Int) : Bool := decide (0 ≤ n) && decide (n ≤ 9007199254740991)
def inRange (lo hi n : Int) : Bool := decide (lo ≤ n) && decide (n ≤ hi)
def shortB (s : List UInt8) : Bool := decide ((s.length : Int) ≤ 16384)
theorem fits1000 {n c : Nat} (h : n ≤ 1000) (hc : c ≤ 1000) : n ≤ maxLen ∧ n * c ≤ 140737488355328 := by
  unfold maxLen
  have := Nat.mul_le_mul h hc
  omega
theorem any_snoc {α : Type} {p : α → Bool} {l : List α} {k : Nat} {x : α} (h : l[k]? = some x) : (l.take (k + 1)).any p = ((l.take k).any p || p x) := by
  rw [List.take_add_one, h]; simp
theorem any_take {α : Type} {p : α → Bool} {l : List α} {k n : Nat} (hk : k < n) {x : α} (h : l[k]? = some x) (hp : p x = true) : (l.take n).any p = true := by
  rw [List.any_eq_true]
  exact ⟨x, List.mem_of_getElem? (i := k) (by rw [List.getElem?_take, if_pos hk]; exact h), hp⟩
theorem take_min {α : Type} {l : List α} {k n : Nat} (hk : ¬ k < min l.length n) (hn : k ≤ min l.length n) : l.take n = l.take k := by
  have : k = min l.length n := by omega
  rcases Nat.le_total l.length n with h | h
  · rw [List.take_of_length_le h, List.take_of_length_le (by omega)]
  · rw [show k = n by omega]
theorem take_snoc_eq {α : Type} {a b : List α} {k : Nat} {x y : α} (ha : a[k]? = some x) (hb : b[k]? = some y) (h : a.take k = b.take k) : a.take (k + 1) = b.take (k + 1) ↔ x = y := by
  rw [List.take_add_one, List.take_add_one, ha, hb, h]; simp
theorem take_ne {α : Type} {a b : List α} {k : Nat} {x y : α} (ha : a[k]? = some x) (hb : b[k]? = some y) (h : x ≠ y) : a ≠ b := by
  rintro rfl; rw [ha] at hb; exact h (Option.some.inj hb)
theorem len_ne {α : Type} {a b : List α} (h : ((a.length : Int) != (b.length : Int)) = true) : a ≠ b := by
  rintro rfl; simp at h
theorem len_eq {α : Type} {a b : List α} (h : ((a.length : Int) != (b.length : Int)) = false) : a.length = b.length := by
  have : (a.length : Int) = b.length := by simpa using h
  omega
theorem all_snoc {α : Type} {p : α → Bool} {l : List α} {k : Nat} {x : α} (h : l[k]? = some x) : (l.take (k + 1)).all p = ((l.take k).all p && p x) := by
  rw [List.take_add_one, h]; simp
/-- A list whose first k are changed. -/
def updTo {α : Type} (f : α → α) (k : Nat) (l : List α) : List α := (l.take k).map f ++ l.drop k
theorem updTo_zero {α : Type} (f : α → α) (l : List α) : updTo f 0 l = l := by simp [updTo]
theorem updTo_length {α : Type} (f : α → α) (k : Nat) (l : List α) : (updTo f k l).length = l.length := by simp [updTo]; omega
theorem updTo_all {α : Type} (f : α → α) (l : List α) : updTo f l.length l = l.map f := by simp [updTo]
theorem updTo_get {α : Type} (f : α → α) {k : Nat} {l : List α} {x : α} (h : l[k]? = some x) : (updTo f k l)[k]? = some x := by
  have hlt := (List.getElem?_eq_some_iff.1 h).1
  unfold updTo
  rw [List.getElem?_append_right (by simp; omega)]
  simp only [List.length_map, List.length_take, List.getElem?_drop]
  rw [show k + (k - min k l.length) = k by omega, h]
theorem updTo_set {α β : Type} (f : α → α) (g : α → β) {k : Nat} {l : List α} {x : α} (h : l[k]? = some x) : ((updTo f k l).map g).set k (g (f x)) = (updTo f (k + 1) l).map g := by
  have hlt := (List.getElem?_eq_some_iff.1 h).1
  unfold updTo
  rw [List.take_add_one, h, show l.drop k = x :: l.drop (k + 1) by rw [List.drop_eq_getElem_cons hlt]; congr 1; exact (List.getElem?_eq_some_iff.1 h).2]
  simp only [List.map_append, List.map_map, Option.toList_some, List.map_cons, List.map_nil, List.append_assoc, List.cons_append, List.nil_append]
  rw [List.set_append_right _ _ (by simp; omega)]
  simp only [List.length_map, List.length_take]
  rw [show k - min k l.length = 0 by omega, List.set_cons_zero]
theorem updTo_got {α : Type} (f : α → α) {k : Nat} {l : List α} {x : α} (h : l[k]? = some x) : (updTo f (k + 1) l)[k]? = some (f x) := by
  have hlt := (List.getElem?_eq_some_iff.1 h).1
  unfold updTo
  rw [List.getElem?_append_left (by simp; omega), List.getElem?_map, List.getElem?_take, if_pos (by omega), h]; rfl
theorem updTo_skip {α β : Type} (f : α → α) {g : α → β} {k : Nat} {l : List α} {x : α} (h : l[k]? = some x) (hf : f x = x) : (updTo f k l).map g = (updTo f (k + 1) l).map g := by
  have h2 := updTo_set f g h
  rw [hf] at h2
  rw [← h2]
  have h3 : ((updTo f k l).map g)[k]? = some (g x) := by rw [List.getElem?_map, updTo_get f h]; rfl
  obtain ⟨h4, h5⟩ := List.getElem?_eq_some_iff.1 h3
  rw [← h5, List.set_getElem_self]
theorem find_get {α : Type} {p : α → Bool} {l : List α} {n : Nat} (h : l.findIdx? p = some n) : ∃ x, l[n]? = some x ∧ p x = true ∧ n < l.length := by
  obtain ⟨h1, h2, _⟩ := List.findIdx?_eq_some_iff_getElem.1 h
  exact ⟨l[n], List.getElem?_eq_getElem h1, h2, h1⟩
theorem newName_id {l : List Nat} {x : Nat} (h : x ∈ l) : newName (l.map fun y => (y, y)) x = some x := by
  induction l with
  | nil => cases h
  | cons a r ih =>
    rw [List.map_cons, newName_cons]
    by_cases e : a = x
    · subst e; simp
    · rw [if_neg e]; exact ih ((List.mem_cons.1 h).resolve_left (fun h => e h.symm))
theorem only_mem {M : Mem} {l : List Nat} : ∀ z, ((M.only l) z).isSome = true → z ∈ l := fun z h => (only_some.1 h).2
theorem below_of {M : Mem} {b0 x : Nat} (h : ∀ z, b0 ≤ z → M z = none) (hx : (M x).isSome = true) : x < b0 := by
  rcases Nat.lt_or_ge x b0 with h1 | h1
  · exact h1
  · rw [h x h1] at hx; cases hx
section
variable {cx : Cx}
/-- A function that writes blocks that it was given, and hands back no others. -/
theorem Fin.keep {N : Nat} {rs : List ResultVar} {nm : Nat} {M0 : Mem} {v : V} {eff : List (Nat × Option Blk)} {b0 n : Nat} {e : Env} {M : Mem} (l : List Nat) (h1 : resOk cx.P N rs e M) (h2 : (resV cx.P rs e M).finOk (l.map fun y => (y, y)) M) (h3 : ((resV cx.P rs e M).fin (l.map fun y => (y, y)) M).le v)
    (h4 : (l.map fun x => (x, M x)) = eff) (hn : l.Nodup) (h5 : ∀ x ∈ l, (M0 x).isSome = true ∧ (M x).isSome = true ∧ obOk M x = true ∧ plainLL (rowsOf M x) = true) (h6 : ∀ x, (M0 x).isSome = true → x ∈ l) : FinG cx N rs nm M0 v eff b0 n e M := by
  refine ⟨[], Fin.two ⟨h1, l.map (fun y => (y, y)), h2, h3, ?_, ?_, ?_, ?_, ?_⟩⟩
  · rw [← h4]; simp [Mem.ghosts]
  · rw [List.map_map, show ((fun p : Nat × Nat => p.1) ∘ fun y => (y, y)) = id from rfl, List.map_id]; exact hn
  · rw [List.map_map, show ((fun p : Nat × Nat => p.2) ∘ fun y => (y, y)) = id from rfl, List.map_id]; exact hn
  · intro p hp
    obtain ⟨x, hx, rfl⟩ := List.mem_map.1 hp
    obtain ⟨g1, g2, g5, g3⟩ := h5 x hx
    refine ⟨.inl ⟨rfl, g1⟩, ?_⟩
    obtain ⟨k, hk⟩ := Option.isSome_iff_exists.1 g2
    exact ⟨k, hk, by simpa [obOk, hk] using g5, by simpa [rowsOf, hk] using g3⟩
  · intro x hx; simpa using h6 x hx
/-- A contract whose arguments are known better. -/
theorem Ev.args_le {f : FuncId} {nm : Nat} {xs ys : List V} {M : Mem} {v : V} {eff : List (Nat × Option Blk)} (h : Ev cx f nm ys M v eff) (hle : leL xs ys) : Ev cx f nm xs M v eff := by
  obtain ⟨h1, h2⟩ := leL_get hle
  refine ⟨h.1, fun X w ρ cargs B hr hfr hB hn hargs => h.2 X w ρ cargs B hr hfr hB (by omega) (fun i u cv hi hc => ?_)⟩
  obtain ⟨u', h3, h4⟩ := h2 i u hi
  exact (hargs i u' cv h3 hc).le u h4
theorem EvF.res_le {f : FuncId} {nm : Nat} {xs : List V} {v u : V} (h : Ev cx f nm xs Mem.nil v []) (hv : v.flat = true) (hle : v.le u) : EvF cx f nm xs u :=
  ⟨v, [], h, flat_flatO _ v hv, fun p hp => by simp at hp, fun x hx => by simp [effNames] at hx, (flat_fin _ v hv).1, by rw [(flat_fin _ v hv).2]; exact hle⟩
/-- Results in one new block of flat rows. -/
theorem EvF.of_new {f : FuncId} {nm : Nat} {xs : List V} {v u : V} {sz : Nat} {rows : List (List V)} (h : Ev cx f nm xs Mem.nil v [(nm, some ⟨sz, rows⟩)]) (hv : v.flatO [nm]) (hr : flatLL rows = true) (hok : v.finOk [] (Mem.nil.put nm (some ⟨sz, rows⟩))) (hle : (v.fin [] (Mem.nil.put nm (some ⟨sz, rows⟩))).le u) : EvF cx f nm xs u := by
  refine ⟨v, _, h, hv, ?_, ?_, hok, hle⟩
  · intro p hp k hk
    rw [List.mem_singleton] at hp
    subst hp
    cases hk
    exact ⟨rfl, hr⟩
  · intro x hx
    simp only [effNames, List.map_cons, List.map_nil, List.mem_singleton] at hx
    subst hx
    exact ⟨Nat.le_refl _, by omega⟩
end
end Go.Proofs.Ytnnlicidlidclaa.Vm
