/-
  Texts joined: XVF, XVG, XVH.
-/
import Derived.Lib.Overlaps
import Derived.Test.YtnnlicidlidclaaMd
/-
  The machine of plain values: capacities of what is handed in; what is handed back with names in it; functions in whose place the model stands. No program in sight.
-/
namespace Go.Proofs.Ytnnlicidlidclaa.Vm
set_option linter.unusedSimpArgs false
set_option linter.unusedVariables false
open Go Go.RowKit

/-- A contract for every capacity of an own slice that is handed in. -/
theorem Ev.caps {cx : Cx} {f : FuncId} {nm : Nat} {args : List V} {M : Mem} {v : V} {eff : List (Nat × Option Blk)} (j y lo n sz : Nat) (rows : List (List V)) (hj : args[j]? = some (.own y lo n)) (hM : M y = some ⟨sz, rows⟩) (hlo : lo + n = rows.length) (hy : y ∈ effNames eff)
    (h : ∀ c, n ≤ c → Ev cx f nm (args.set j (.ownc y lo n c)) (M.put y (some ⟨sz, rows ++ List.replicate (c - n) (List.replicate sz .any)⟩)) v eff) : Ev cx f nm args M v eff := by
  refine ⟨trivial, fun X w ρ cargs B hr hfr hB hn hargs => ?_⟩
  have hjl : j < args.length := (List.getElem?_eq_some_iff.1 hj).1
  have hcj : cargs[j]? = some cargs[j] := Array.getElem?_eq_getElem (by omega)
  have his := hargs j _ _ hj hcj
  -- the capacity, and how the padded block lies
  obtain ⟨c, hnc, hic, hbl⟩ : ∃ c, n ≤ c ∧ Is ρ (Dom X ρ M) w (.ownc y lo n c) cargs[j] ∧ (c = n ∨ ∃ l, ρ y = some l ∧ lo + c ≤ l.tot) := by
    generalize cargs[j] = cv at his
    cases his with
    | own0 => exact ⟨0, Nat.le_refl _, .ownc0, .inl rfl⟩
    | own hl hlc hnc =>
      rename_i c l
      by_cases h0 : c = 0
      · have hn0 : n = 0 := by omega
        subst h0; subst hn0
        exact ⟨0, Nat.le_refl _, .ownc0, .inl rfl⟩
      · exact ⟨c, hnc, .ownc hl hlc hnc (by omega), .inr ⟨l, hl, hlc⟩⟩
  have hs : ∀ x, ((M.put y (some ⟨sz, rows ++ List.replicate (c - n) (List.replicate sz .any)⟩)) x).isSome = (M x).isSome := fun x => by
    by_cases e : x = y
    · subst e; rw [Mem.put_same, hM]; rfl
    · rw [Mem.put_ne _ _ e]
  have hsb : ∀ x, (((M.put y (some ⟨sz, rows ++ List.replicate (c - n) (List.replicate sz .any)⟩)) x).isSome = true) = ((M x).isSome = true) := fun x => by rw [hs x]
  have hblk : Blocks ρ (M.put y (some ⟨sz, rows ++ List.replicate (c - n) (List.replicate sz .any)⟩)) = Blocks ρ M := by
    funext b; simp only [Blocks, hsb]
  have hdom : Dom X ρ (M.put y (some ⟨sz, rows ++ List.replicate (c - n) (List.replicate sz .any)⟩)) = Dom X ρ M := by
    funext b; simp only [Dom, hsb]
  have happ : (M.put y (some ⟨sz, rows ++ List.replicate (c - n) (List.replicate sz .any)⟩)).app eff = M.app eff := by
    funext x
    by_cases e : x = y
    · subst e; exact Mem.app_congr (fun hx => absurd hy hx)
    · exact Mem.app_congr (fun _ => Mem.put_ne _ _ e)
  have hr' : Rel cx.G X w (Blocks ρ (M.put y (some ⟨sz, rows ++ List.replicate (c - n) (List.replicate sz .any)⟩))) ρ (M.put y (some ⟨sz, rows ++ List.replicate (c - n) (List.replicate sz .any)⟩)) w := by
    rw [hblk]
    refine { size := hr.size, os := hr.os, tape := hr.tape, output := hr.output, old := hr.old, live := ?_, inj := ?_, hX := hr.hX, glob := ?_ }
    · intro x k hx
      rw [hdom]
      by_cases e : x = y
      · subst e
        rw [Mem.put_same] at hx; cases hx
        rcases hr.live x _ hM with ⟨a1, a2⟩ | ⟨l, a1, a2, a3, ⟨cs, e, _, a4, a5, a6, a7, a8, a9⟩ | ⟨_, _, _, _, _, _, hch, _⟩⟩
        · simp only at a1
          rcases hbl with rfl | ⟨l, b1, _⟩
          · exact .inl ⟨by simp [a1], a2⟩
          · rw [a2] at b1; cases b1
        · simp only at a5 a6 a8 a9
          have hlen : (rows ++ List.replicate (c - n) (List.replicate sz V.any)).length ≤ l.tot := by
            simp only [List.length_append, List.length_replicate]
            rcases hbl with rfl | ⟨l', b1, b2⟩
            · omega
            · rw [a1] at b1; cases b1; omega
          refine .inr ⟨l, a1, a2, a3, .inl ⟨cs, e, rfl, a4, a5, hlen, a7, fun i row hi => ?_, fun i q row u hi hq => ?_⟩⟩
          · rw [List.getElem?_append] at hi
            split at hi
            · exact a8 i row hi
            · rw [List.getElem?_replicate] at hi
              split at hi
              · cases hi; rw [List.length_replicate]; exact a5
              · cases hi
          · have hil : i < (rows ++ List.replicate (c - n) (List.replicate sz V.any)).length := (List.getElem?_eq_some_iff.1 hi).1
            rw [List.getElem?_append] at hi
            split at hi
            · exact a9 i q row u hi hq
            · rw [List.getElem?_replicate] at hi
              split at hi
              · cases hi
                rw [List.getElem?_replicate] at hq
                split at hq
                · rename_i hqs
                  cases hq
                  have h2 := row_lt (s := l.sz) (i := i) (j := q) (n := l.tot) (by omega) (by omega)
                  exact ⟨_, Array.getElem?_eq_getElem (by omega), .any _⟩
                · cases hq
              · cases hi
        · cases hch
      · rw [Mem.put_ne _ _ e] at hx
        exact hr.live x k hx
    · intro a b l l' h1 h2
      rw [hs] at h1 h2
      exact hr.inj a b l l' h1 h2
    · intro g; rw [hdom]; exact hr.glob g
  have hB' : ∀ x, B ≤ x → (M.put y (some ⟨sz, rows ++ List.replicate (c - n) (List.replicate sz .any)⟩)) x = none := fun x hx => by
    have h0 := hs x
    rw [(hB x hx).1] at h0
    cases hq : (M.put y (some ⟨sz, rows ++ List.replicate (c - n) (List.replicate sz .any)⟩)) x with
    | none => rfl
    | some k => rw [hq] at h0; cases h0
  have hcall := (h c hnc).2 X w ρ cargs B hr' hfr (fun x hx => ⟨hB' x hx, (hB x hx).2⟩) (by rw [List.length_set]; exact hn) (fun i u cv hi hc => by
    rw [hdom]
    rw [List.getElem?_set] at hi
    by_cases e : j = i
    · subst e
      rw [if_pos rfl, if_pos hjl] at hi
      cases hi
      rw [hcj] at hc; cases hc
      exact hic
    · rw [if_neg e] at hi
      exact hargs i u cv hi hc)
  refine hcall.mono ?_
  rintro e w' ⟨cv, rfl, ρ', r, m, hv, hnn⟩
  rw [happ] at r m hv
  rw [hblk] at r
  refine ⟨cv, rfl, ρ', r, ⟨m.names, m.size, m.os, m.tape, m.output, fun b hb hk => m.kept b hb (fun x l h1 h2 => hk x l (by rw [hs] at h1; exact h1) h2), fun x l h1 h2 h3 => ?_⟩, hv, hnn⟩
  obtain ⟨nm', l', c1, c2⟩ := m.dom x l h1 h2 h3
  exact ⟨nm', l', by rw [hs] at c1; exact c1, c2⟩

theorem ren_mk (σ : List (Nat × Nat)) (sz : Nat) (rows : List (List V)) : Blk.ren σ ⟨sz, rows⟩ = ⟨sz, renLL σ rows⟩ := rfl
theorem renOk_mk (σ : List (Nat × Nat)) (sz : Nat) (rows : List (List V)) : Blk.renOk σ ⟨sz, rows⟩ = renOkLL σ rows := by
  show (renOkLL σ rows && true) = _
  rw [Bool.and_true]
/-- The name under which a block is handed back: its own (none), or nm + j. -/
def tgt (nm : Nat) (p : Nat × Option Nat) : Nat := match p.2 with | none => p.1 | some j => nm + j
def gives (nm : Nat) (g : List (Nat × Option Nat)) : List (Nat × Nat) := g.map (fun p => (p.1, tgt nm p))
/-- May these blocks be handed back so. -/
def giveOk (nm b0 : Nat) (M0 M : Mem) (σ : List (Nat × Nat)) : List (Nat × Option Nat) → Prop
  | [] => True
  | (x, o) :: r => (match o with | none => (M0 x).isSome = true | some j => j < 16 ∧ (b0 ≤ x ∨ (M0 x).isSome = true)) ∧ (match M x with | some k => k.renOk σ = true | none => False) ∧ (∀ p ∈ r, p.1 ≠ x ∧ tgt nm p ≠ tgt nm (x, o)) ∧ giveOk nm b0 M0 M σ r
theorem giveOk_get {nm b0 : Nat} {M0 M : Mem} {σ : List (Nat × Nat)} : ∀ {g : List (Nat × Option Nat)}, giveOk nm b0 M0 M σ g → ((gives nm g).map (·.1)).Nodup ∧ ((gives nm g).map (·.2)).Nodup ∧ ∀ p ∈ gives nm g, ((p.1 = p.2 ∧ (M0 p.2).isSome = true) ∨ (Fresh nm p.2 ∧ (b0 ≤ p.1 ∨ (M0 p.1).isSome = true))) ∧ ∃ k, M p.1 = some k ∧ k.renOk σ = true
  | [], _ => ⟨List.nodup_nil, List.nodup_nil, fun p hp => by cases hp⟩
  | (x, o) :: r, h => by
    obtain ⟨h1, h2, h3, h4⟩ := h
    obtain ⟨a, b, c⟩ := giveOk_get h4
    refine ⟨List.nodup_cons.2 ⟨fun hm => ?_, a⟩, List.nodup_cons.2 ⟨fun hm => ?_, b⟩, fun p hp => ?_⟩
    · simp only [gives, List.map_map, List.mem_map, Function.comp_apply] at hm
      obtain ⟨p, hp, e⟩ := hm
      exact (h3 p hp).1 e
    · simp only [gives, List.map_map, List.mem_map, Function.comp_apply] at hm
      obtain ⟨p, hp, e⟩ := hm
      exact (h3 p hp).2 e
    · rcases List.mem_cons.1 hp with rfl | hp
      · refine ⟨?_, ?_⟩
        · cases o with
          | none => exact .inl ⟨rfl, h1⟩
          | some j => exact .inr ⟨⟨Nat.le_add_right _ _, by simp only [tgt]; have := h1.1; omega⟩, h1.2⟩
        · split at h2
          · rename_i k hk; exact ⟨k, hk, h2⟩
          · exact h2.elim
      · exact c p hp
def giveE (nm : Nat) (M : Mem) (σ : List (Nat × Nat)) (g : List (Nat × Option Nat)) : List (Nat × Option Blk) := g.map (fun p => (tgt nm p, (M p.1).map (Blk.ren σ)))
def dropE (δ : List Nat) : List (Nat × Option Blk) := δ.map (fun x => (x, none))
/-- A function that hands back blocks: g: which, and under which names; δ: which of those that it was given are no more. -/
theorem Fin.give {cx : Cx} {N : Nat} {rs : List ResultVar} {nm : Nat} {M0 : Mem} {v : V} {eff : List (Nat × Option Blk)} {b0 n : Nat} {e : Env} {M : Mem} (g : List (Nat × Option Nat)) (δ : List Nat) (h1 : resOk cx.P N rs e M) (h2 : (resV cx.P rs e M).finOk (gives nm g) M) (h3 : ((resV cx.P rs e M).fin (gives nm g) M).le v)
    (h4 : dropE δ ++ giveE nm M (gives nm g) g = eff) (h5 : giveOk nm b0 M0 M (gives nm g) g) (h6 : ∀ x, (M0 x).isSome = true → x ∈ (gives nm g).map (·.2) ∨ x ∈ δ) : FinG cx N rs nm M0 v eff b0 n e M := by
  obtain ⟨a, b, c⟩ := giveOk_get h5
  exact ⟨[], h1, gives nm g, δ, h2, h3, by rw [← h4]; simp [dropE, giveE, gives, Mem.ghosts], a, b, c, h6⟩
end Go.Proofs.Ytnnlicidlidclaa.Vm
/-
  The machine of plain values: two own slices in two blocks do not overlap, as the model's own function says. No program in sight.
-/
namespace Go.Proofs.Ytnnlicidlidclaa.Vm
set_option linter.unusedSimpArgs false
set_option linter.unusedVariables false
open Go Go.RowKit

theorem cells_facts {w : World} {b : Nat} {cs : Array Value} {e : TypeId} (h : w.heap[b]? = some (.cells cs e (0, 0))) : w.shape? b = some (e, cs.size) ∧ ∀ o, w.frozen? ⟨b, o, none⟩ = false := by
  refine ⟨by simp [World.shape?, h], fun o => ?_⟩
  simp [World.frozen?, h]
theorem Ev.overlaps {cx : Cx} {f : FuncId} {fn : Func} {tS tR : TypeId} (hf : cx.P.funcs[f]? = some fn) (hname : (fn.name == "runtime.NumGoroutine") = false) (hb : fn.body.isNone = true) (hn : Extern.findNext fn = none)
    (he : Extern.find fn = some (Extern.SlicesOverlaps.overlaps #[tS, tS] #[tR])) {zc : List V} {bytes : Nat} (hel : elInfo cx.P tS = some (zc, bytes)) (a la lo' y lo n c : Nat) (hay : a ≠ y) (M : Mem) (hMa : (M a).isSome = true) (hMy : (M y).isSome = true) (hsz0 : szOf M y = zc.length) (hca : isCellsM M a = true) (hcy : isCellsM M y = true) (nm : Nat) :
    Ev cx f nm [.own a lo' la, .ownc y lo n c] M (.bool false) [] := by
  obtain ⟨e, i, z, hu, hi, _, _, hz, _, hzl, _⟩ := elInfo_spec hel
  have hsz : szOf M y = i.size := by rw [hsz0, hzl]
  refine ⟨trivial, fun X w ρ cargs B hr hfr hB hlen hargs => ?_⟩
  match cargs, hlen, hargs with
  | ⟨[v0, v1]⟩, _, hargs =>
  have h0 := hargs 0 _ v0 rfl rfl
  have h1 := hargs 1 _ v1 rfl rfl
  have hsize : ∀ w, (sizeOf e).run cx.P w = .ok i.size w := fun w => by simp [sizeOf, typeInfo, hi]
  have zero : ∀ (A A' : Option Addr) (l l' k k' : Nat), (A = none ∨ A' = none ∨ l = 0 ∨ l' = 0) → (Extern.SlicesOverlaps.overlaps #[tS, tS] #[tR] #[.slice A l k, .slice A' l' k']).run cx.P w = .ok (.bool false) w := by
    intro A A' l l' k k' h
    change Sem.run cx.P (α := Value) (do
      let some t := (#[tS, tS] : Array TypeId)[0]? | stuck "slices.overlaps: no parameter types"
      let .slice elem ← underlying t | stuck "slices.overlaps: slice type expected"
      let size ← sizeOf elem
      match A, A' with
      | some a, some b =>
        if l = 0 ∨ l' = 0 ∨ size = 0 then pure (Value.bool false)
        else if a.block != b.block && (← frozen a) && (← frozen b) then unsupported .addressObserved
        else do
          if a.block != b.block then do
            noView a; noView b
            if ← mayBeOne a b then return Value.bool ((← choose (.extern "sameAddr.stringBytes" 2)) == 1)
          pure (Value.bool (a.block == b.block && a.off < b.off + l' * size && b.off < a.off + l * size))
      | _, _ => pure (Value.bool false)) w = _
    cases A with
    | none => simp [run_underlying hu, hsize]
    | some a =>
      cases A' with
      | none => simp [run_underlying hu, hsize]
      | some b =>
        have h0 : l = 0 ∨ l' = 0 ∨ i.size = 0 := by
          rcases h with h | h | h | h
          · cases h
          · cases h
          · exact .inl h
          · exact .inr (.inl h)
        simp [run_underlying hu, hsize, h0]
  have main : (Extern.SlicesOverlaps.overlaps #[tS, tS] #[tR] #[v0, v1]).run cx.P w = .ok (.bool false) w := by
    cases h0 with
    | own0 =>
      cases h1 with
      | ownc0 => exact zero _ _ _ _ _ _ (.inr (.inr (.inl rfl)))
      | ownc hl hlc hnc hcp => exact zero _ _ _ _ _ _ (.inr (.inr (.inl rfl)))
    | own hla hlca hnca =>
      cases h1 with
      | ownc0 => exact zero _ _ _ _ _ _ (.inr (.inr (.inr rfl)))
      | ownc hl hlc hnc hcp =>
        obtain ⟨ka, hka, hoa⟩ := isCellsM_some hca
        obtain ⟨ky, hky, hoy⟩ := isCellsM_some hcy
        rcases hr.live a ka hka with ⟨_, x⟩ | ⟨l1, x1, _, _, ⟨cs1, e1, _, x4, _⟩ | ⟨_, _, _, _, _, _, x, _⟩⟩
        · rw [hla] at x; cases x
        · rw [hla] at x1; cases x1
          rcases hr.live y ky hky with ⟨_, z⟩ | ⟨l2, z1, _, _, ⟨cs2, e2, _, z4, z5, z6, z7, _⟩ | ⟨_, _, _, _, _, _, z, _⟩⟩
          · rw [hl] at z; cases z
          · rw [hl] at z1; cases z1
            obtain ⟨g1, g2⟩ := cells_facts x4
            obtain ⟨g3, g4⟩ := cells_facts z4
            refine Lib.run_overlaps_apart w tS tR e hu i.size hsize _ _ la _ n c (fun hbb => hay (hr.inj a y _ _ hMa hMy hla hl hbb)) e1 e2 cs1.size cs2.size g1 g3 ?_ (g2 _) (g2 _)
            have hs2 := z5
            rw [show ky.sz = i.size by rw [← hsz, szOf, hky]] at hs2
            rw [← hs2] at z7
            have h3 : 0 < lo + c := by omega
            have h5 := Nat.mul_pos (Nat.lt_of_lt_of_le h3 hlc) hz
            omega
          · rw [hoy] at z; cases z
        · rw [hoa] at x; cases x
  refine .inr ⟨.bool false, w, ?_, .bool false, rfl, ρ, hr, .refl _ _ _, .bool _, fun _ _ => rfl⟩
  rw [run_callFunc_extern hf hname hb hn he]
  change ((Extern.SlicesOverlaps.overlaps #[tS, tS] #[tR] #[v0, v1]).run cx.P w).andThen _ = _
  rw [main]; rfl
/-- Less is said of a block: its first rows. -/
theorem Ev.trim {cx : Cx} {f : FuncId} {nm : Nat} {args : List V} {M : Mem} {v : V} {eff eff' : List (Nat × Option Blk)} (y sz k : Nat) (rows : List (List V)) (h : Ev cx f nm args M v eff) (hM : (M.app eff) y = some ⟨sz, rows⟩) (he : ∀ x, (M.app eff') x = if x = y then some ⟨sz, rows.take k⟩ else (M.app eff) x) : Ev cx f nm args M v eff' := by
  refine ⟨trivial, fun X w ρ cargs B hr hfr hB hlen hargs => (h.2 X w ρ cargs B hr hfr hB hlen hargs).mono ?_⟩
  rintro e w' ⟨cv, rfl, ρ', r, m, hv, hn⟩
  have hs : ∀ x, (((M.app eff') x).isSome = true) = (((M.app eff) x).isSome = true) := fun x => by
    rw [he]
    by_cases e : x = y
    · subst e; rw [if_pos rfl, hM]; simp
    · rw [if_neg e]
  have hdom : Dom X ρ' (M.app eff') = Dom X ρ' (M.app eff) := by funext b; simp only [Dom, hs]
  refine ⟨cv, rfl, ρ', { size := r.size, os := r.os, tape := r.tape, output := r.output, old := r.old, live := ?_, inj := ?_, hX := r.hX, glob := ?_ }, ⟨m.names, m.size, m.os, m.tape, m.output, m.kept, fun x l h1 h2 h3 => m.dom x l (by rw [← hs]; exact h1) h2 h3⟩, by rw [hdom]; exact hv, hn⟩
  · intro x q hx
    rw [hdom]
    rw [he] at hx
    by_cases e : x = y
    · subst e
      rw [if_pos rfl] at hx; cases hx
      rcases r.live x _ hM with ⟨a1, a2⟩ | ⟨l, a1, a2, a3, ⟨cs, e, _, a4, a5, a6, a7, a8, a9⟩ | ⟨_, _, _, _, _, _, hch, _⟩⟩
      · exact .inl ⟨by simp only at a1; simp [a1], a2⟩
      · simp only at a5 a6 a8 a9
        have hg : ∀ (i : Nat) (row : List V), (rows.take k)[i]? = some row → rows[i]? = some row := fun i row hi => by
          rw [List.getElem?_take] at hi
          split at hi
          · exact hi
          · cases hi
        exact .inr ⟨l, a1, a2, a3, .inl ⟨cs, e, rfl, a4, a5, by simp only [List.length_take]; omega, a7, fun i row hi => a8 i row (hg i row hi), fun i j row u hi hj => a9 i j row u (hg i row hi) hj⟩⟩
      · cases hch
    · rw [if_neg e] at hx
      exact r.live x q hx
  · intro a b l l' h1 h2
    rw [hs] at h1 h2
    exact r.inj a b l l' h1 h2
  · intro g; rw [hdom]; exact r.glob g
end Go.Proofs.Ytnnlicidlidclaa.Vm
/-
  Plain laws of lists and numbers, and some turns of contracts. No program in sight.
-/
namespace Go.Proofs.Ytnnlicidlidclaa.Vm
set_option linter.unusedSimpArgs false
set_option linter.unusedVariables false
open Go Go.RowKit

/-- How many a list that comes in may hold. -/
def lim : Nat := 140737488355328
def num (n : Int) : Bool := decide (0 ≤ n) && decide (n ≤ 9007199254740991)
def inRange (lo hi n : Int) : Bool := decide (lo ≤ n) && decide (n ≤ hi)
def shortB (s : List UInt8) : Bool := decide ((s.length : Int) ≤ 16384)
theorem fits1000 {n c : Nat} (h : n ≤ 1000) (hc : c ≤ 1000) : n ≤ maxLen ∧ n * c ≤ 140737488355328 := by
  unfold maxLen
  have := Nat.mul_le_mul h hc
  omega
theorem any_snoc {α : Type} {p : α → Bool} {l : List α} {k : Nat} {x : α} (h : l[k]? = some x) : (l.take (k + 1)).any p = ((l.take k).any p || p x) := by
  rw [List.take_add_one, h]; simp
theorem any_take {α : Type} {p : α → Bool} {l : List α} {k n : Nat} (hk : k < n) {x : α} (h : l[k]? = some x) (hp : p x = true) : (l.take n).any p = true := by
  rw [List.any_eq_true]
  exact ⟨x, List.mem_of_getElem? (i := k) (by rw [List.getElem?_take, if_pos hk]; exact h), hp⟩
theorem take_min {α : Type} {l : List α} {k n : Nat} (hk : ¬ k < min l.length n) (hn : k ≤ min l.length n) : l.take n = l.take k := by
  have : k = min l.length n := by omega
  rcases Nat.le_total l.length n with h | h
  · rw [List.take_of_length_le h, List.take_of_length_le (by omega)]
  · rw [show k = n by omega]
theorem take_snoc_eq {α : Type} {a b : List α} {k : Nat} {x y : α} (ha : a[k]? = some x) (hb : b[k]? = some y) (h : a.take k = b.take k) : a.take (k + 1) = b.take (k + 1) ↔ x = y := by
  rw [List.take_add_one, List.take_add_one, ha, hb, h]; simp
theorem take_ne {α : Type} {a b : List α} {k : Nat} {x y : α} (ha : a[k]? = some x) (hb : b[k]? = some y) (h : x ≠ y) : a ≠ b := by
  rintro rfl; rw [ha] at hb; exact h (Option.some.inj hb)
theorem len_ne {α : Type} {a b : List α} (h : ((a.length : Int) != (b.length : Int)) = true) : a ≠ b := by
  rintro rfl; simp at h
theorem len_eq {α : Type} {a b : List α} (h : ((a.length : Int) != (b.length : Int)) = false) : a.length = b.length := by
  have : (a.length : Int) = b.length := by simpa using h
  omega
theorem all_snoc {α : Type} {p : α → Bool} {l : List α} {k : Nat} {x : α} (h : l[k]? = some x) : (l.take (k + 1)).all p = ((l.take k).all p && p x) := by
  rw [List.take_add_one, h]; simp
/-- A list whose first k are changed. -/
def updTo {α : Type} (f : α → α) (k : Nat) (l : List α) : List α := (l.take k).map f ++ l.drop k
theorem updTo_zero {α : Type} (f : α → α) (l : List α) : updTo f 0 l = l := by simp [updTo]
theorem updTo_length {α : Type} (f : α → α) (k : Nat) (l : List α) : (updTo f k l).length = l.length := by simp [updTo]; omega
theorem updTo_all {α : Type} (f : α → α) (l : List α) : updTo f l.length l = l.map f := by simp [updTo]
theorem updTo_get {α : Type} (f : α → α) {k : Nat} {l : List α} {x : α} (h : l[k]? = some x) : (updTo f k l)[k]? = some x := by
  have hlt := (List.getElem?_eq_some_iff.1 h).1
  unfold updTo
  rw [List.getElem?_append_right (by simp; omega)]
  simp only [List.length_map, List.length_take, List.getElem?_drop]
  rw [show k + (k - min k l.length) = k by omega, h]
theorem updTo_set {α β : Type} (f : α → α) (g : α → β) {k : Nat} {l : List α} {x : α} (h : l[k]? = some x) : ((updTo f k l).map g).set k (g (f x)) = (updTo f (k + 1) l).map g := by
  have hlt := (List.getElem?_eq_some_iff.1 h).1
  unfold updTo
  rw [List.take_add_one, h, show l.drop k = x :: l.drop (k + 1) by rw [List.drop_eq_getElem_cons hlt]; congr 1; exact (List.getElem?_eq_some_iff.1 h).2]
  simp only [List.map_append, List.map_map, Option.toList_some, List.map_cons, List.map_nil, List.append_assoc, List.cons_append, List.nil_append]
  rw [List.set_append_right _ _ (by simp; omega)]
  simp only [List.length_map, List.length_take]
  rw [show k - min k l.length = 0 by omega, List.set_cons_zero]
theorem updTo_got {α : Type} (f : α → α) {k : Nat} {l : List α} {x : α} (h : l[k]? = some x) : (updTo f (k + 1) l)[k]? = some (f x) := by
  have hlt := (List.getElem?_eq_some_iff.1 h).1
  unfold updTo
  rw [List.getElem?_append_left (by simp; omega), List.getElem?_map, List.getElem?_take, if_pos (by omega), h]; rfl
theorem updTo_skip {α β : Type} (f : α → α) {g : α → β} {k : Nat} {l : List α} {x : α} (h : l[k]? = some x) (hf : f x = x) : (updTo f k l).map g = (updTo f (k + 1) l).map g := by
  have h2 := updTo_set f g h
  rw [hf] at h2
  rw [← h2]
  have h3 : ((updTo f k l).map g)[k]? = some (g x) := by rw [List.getElem?_map, updTo_get f h]; rfl
  obtain ⟨h4, h5⟩ := List.getElem?_eq_some_iff.1 h3
  rw [← h5, List.set_getElem_self]
theorem find_get {α : Type} {p : α → Bool} {l : List α} {n : Nat} (h : l.findIdx? p = some n) : ∃ x, l[n]? = some x ∧ p x = true ∧ n < l.length := by
  obtain ⟨h1, h2, _⟩ := List.findIdx?_eq_some_iff_getElem.1 h
  exact ⟨l[n], List.getElem?_eq_getElem h1, h2, h1⟩
theorem newName_id {l : List Nat} {x : Nat} (h : x ∈ l) : newName (l.map fun y => (y, y)) x = some x := by
  induction l with
  | nil => cases h
  | cons a r ih =>
    rw [List.map_cons, newName_cons]
    by_cases e : a = x
    · subst e; simp
    · rw [if_neg e]; exact ih ((List.mem_cons.1 h).resolve_left (fun h => e h.symm))
theorem only_mem {M : Mem} {l : List Nat} : ∀ z, ((M.only l) z).isSome = true → z ∈ l := fun z h => (only_some.1 h).2
theorem below_of {M : Mem} {b0 x : Nat} (h : ∀ z, b0 ≤ z → M z = none) (hx : (M x).isSome = true) : x < b0 := by
  rcases Nat.lt_or_ge x b0 with h1 | h1
  · exact h1
  · rw [h x h1] at hx; cases hx
section
variable {cx : Cx}
/-- A function that writes blocks that it was given, and hands back no others. -/
theorem Fin.keep {N : Nat} {rs : List ResultVar} {nm : Nat} {M0 : Mem} {v : V} {eff : List (Nat × Option Blk)} {b0 n : Nat} {e : Env} {M : Mem} (l : List Nat) (h1 : resOk cx.P N rs e M) (h2 : (resV cx.P rs e M).finOk (l.map fun y => (y, y)) M) (h3 : ((resV cx.P rs e M).fin (l.map fun y => (y, y)) M).le v)
    (h4 : (l.map fun x => (x, M x)) = eff) (hn : l.Nodup) (h5 : ∀ x ∈ l, (M0 x).isSome = true ∧ (M x).isSome = true ∧ obOk M x = true ∧ plainLL (rowsOf M x) = true) (h6 : ∀ x, (M0 x).isSome = true → x ∈ l) : FinG cx N rs nm M0 v eff b0 n e M := by
  refine ⟨[], Fin.two ⟨h1, l.map (fun y => (y, y)), h2, h3, ?_, ?_, ?_, ?_, ?_⟩⟩
  · rw [← h4]; simp [Mem.ghosts]
  · rw [List.map_map, show ((fun p : Nat × Nat => p.1) ∘ fun y => (y, y)) = id from rfl, List.map_id]; exact hn
  · rw [List.map_map, show ((fun p : Nat × Nat => p.2) ∘ fun y => (y, y)) = id from rfl, List.map_id]; exact hn
  · intro p hp
    obtain ⟨x, hx, rfl⟩ := List.mem_map.1 hp
    obtain ⟨g1, g2, g5, g3⟩ := h5 x hx
    refine ⟨.inl ⟨rfl, g1⟩, ?_⟩
    obtain ⟨k, hk⟩ := Option.isSome_iff_exists.1 g2
    exact ⟨k, hk, by simpa [obOk, hk] using g5, by simpa [rowsOf, hk] using g3⟩
  · intro x hx; simpa using h6 x hx
/-- A contract whose arguments are known better. -/
theorem Ev.args_le {f : FuncId} {nm : Nat} {xs ys : List V} {M : Mem} {v : V} {eff : List (Nat × Option Blk)} (h : Ev cx f nm ys M v eff) (hle : leL xs ys) : Ev cx f nm xs M v eff := by
  obtain ⟨h1, h2⟩ := leL_get hle
  refine ⟨h.1, fun X w ρ cargs B hr hfr hB hn hargs => h.2 X w ρ cargs B hr hfr hB (by omega) (fun i u cv hi hc => ?_)⟩
  obtain ⟨u', h3, h4⟩ := h2 i u hi
  exact (hargs i u' cv h3 hc).le u h4
theorem EvF.res_le {f : FuncId} {nm : Nat} {xs : List V} {v u : V} (h : Ev cx f nm xs Mem.nil v []) (hv : v.flat = true) (hle : v.le u) : EvF cx f nm xs u :=
  ⟨v, [], h, flat_flatO _ v hv, fun p hp => by simp at hp, fun x hx => by simp [effNames] at hx, (flat_fin _ v hv).1, by rw [(flat_fin _ v hv).2]; exact hle⟩
/-- Results in one new block of flat rows. -/
theorem EvF.of_new {f : FuncId} {nm : Nat} {xs : List V} {v u : V} {sz : Nat} {rows : List (List V)} (h : Ev cx f nm xs Mem.nil v [(nm, some ⟨sz, rows⟩)]) (hv : v.flatO [nm]) (hr : flatLL rows = true) (hok : v.finOk [] (Mem.nil.put nm (some ⟨sz, rows⟩))) (hle : (v.fin [] (Mem.nil.put nm (some ⟨sz, rows⟩))).le u) : EvF cx f nm xs u := by
  refine ⟨v, _, h, hv, ?_, ?_, hok, hle⟩
  · intro p hp k hk
    rw [List.mem_singleton] at hp
    subst hp
    cases hk
    exact ⟨rfl, hr⟩
  · intro x hx
    simp only [effNames, List.map_cons, List.map_nil, List.mem_singleton] at hx
    subst hx
    exact ⟨Nat.le_refl _, by omega⟩
end
end Go.Proofs.Ytnnlicidlidclaa.Vm
