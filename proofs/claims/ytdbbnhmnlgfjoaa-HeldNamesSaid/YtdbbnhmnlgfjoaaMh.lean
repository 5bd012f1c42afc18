/-
  Texts joined: XVD, XXd, XXe.
-/
import Derived.Test.YtdbbnhmnlgfjoaaMfb
/-
  The machine of plain values: contracts whose results are taken for what nobody writes; results known less. No program in sight.
-/
namespace Go.Proofs.Ytdbbnhmnlgfjoaa.Vm
set_option linter.unusedSimpArgs false
set_option linter.unusedVariables false
open Go Go.RowKit

section
variable {cx : Cx} {f : FuncId} {nm : Nat} {args : List V} {v u : V} {eff : List (Nat × Option Blk)}
/-- A contract's own blocks, as what nobody writes. -/
theorem Ev.freeze (h : Ev cx f nm args Mem.nil v eff) (hok : v.finOk [] (Mem.nil.app eff)) (he : v.fin [] (Mem.nil.app eff) = u) : Ev cx f nm args Mem.nil u [] := by
  subst he
  refine ⟨h.1, fun X w ρ cargs B hr hfr hB hn hargs => (h.2 X w ρ cargs B hr hfr hB hn hargs).mono ?_⟩
  rintro e w' ⟨cv, rfl, ρ', r, m, hv, _⟩
  have hkept : ∀ b, b < w.heap.size → w'.heap[b]? = w.heap[b]? := fun b hb => m.kept b hb (fun nm l h1 => by simp [Mem.nil] at h1)
  have mv : Moves ρ Mem.nil w ρ Mem.nil w' := ⟨fun _ _ h => h, m.size, m.os, m.tape, m.output, fun b hb _ => hkept b hb, fun nm l h1 => by simp [Mem.nil] at h1⟩
  refine ⟨cv, rfl, ρ, hr.move mv hr.inj (fun nm k hk => by simp [Mem.app, Mem.nil] at hk), mv, ?_, fun _ _ => rfl⟩
  refine fin_is (cx := cx) r (fun nm y hy => by simp [newName] at hy) ?_ (fun nm l _ hM hl => ?_) hv hok
  · rintro b (hx | ⟨nm, l, h1, _⟩)
    · exact .inl hx
    · simp [Mem.app, Mem.nil] at h1
  · rintro (hx | ⟨nm', q, h2, _⟩)
    · exact (r.block_lt hM hl).2.1 hx
    · simp [Mem.app, Mem.nil] at h2
theorem Ev.res_le {M : Mem} (h : Ev cx f nm args M v eff) (hle : v.le u) : Ev cx f nm args M u eff := by
  refine ⟨h.1, fun X w ρ cargs B hr hfr hB hn hargs => (h.2 X w ρ cargs B hr hfr hB hn hargs).mono ?_⟩
  rintro e w' ⟨cv, rfl, ρ', r, m, hv, hn'⟩
  exact ⟨cv, rfl, ρ', r, m, hv.le u hle, hn'⟩
end
end Go.Proofs.Ytdbbnhmnlgfjoaa.Vm
namespace Go.Proofs.Ytdbbnhmnlgfjoaa.Vm
open Go Go.RowKit
section
variable {cx : Cx} {f : FuncId} {nm : Nat} {args : List V} {v u : V} {eff : List (Nat × Option Blk)}
/-- A contract whose result is all new memory that nobody writes: it holds, too, where blocks of the caller's are shown as what nobody writes. -/
def EvF (cx : Cx) (f : FuncId) (nm : Nat) (args : List V) (u : V) : Prop :=
  ∃ v eff, Ev cx f nm args Mem.nil v eff ∧ v.flatO (effNames eff) ∧ (∀ p ∈ eff, ∀ k, p.2 = some k → flatLL k.rows = true) ∧ (∀ x ∈ effNames eff, Fresh nm x) ∧ v.finOk [] (Mem.nil.app eff) ∧ (v.fin [] (Mem.nil.app eff)).le u
mutual
theorem flat_flatO (l : List Nat) : ∀ (v : V), v.flat = true → v.flatO l
  | .agg cs, h => by simp only [V.flatO]; exact flatL_flatOL l cs (by simpa [V.flat] using h)
  | .tup cs, h => by simp only [V.flatO]; exact flatL_flatOL l cs (by simpa [V.flat] using h)
  | .gd _ v, h => by simp only [V.flatO]; exact flat_flatO l v (by simpa [V.flat] using h)
  | .own _ _ _, h => by simp [V.flat] at h
  | .any, h | .bool _, h | .bit _ _, h | .int _ _, h | .str _, h | .nilp, h | .ptr _ _ _, h | .rp _, h | .nils, h | .sl _ _ _, h | .fn _ _, h | .val _, h => by simpa only [V.flatO] using h
theorem flatL_flatOL (l : List Nat) : ∀ (cs : List V), flatL cs = true → flatOL l cs
  | [], _ => trivial
  | v :: r, h => by
    simp only [flatL, Bool.and_eq_true] at h
    exact ⟨flat_flatO l v h.1, flatL_flatOL l r h.2⟩
end
mutual
theorem flat_fin (M : Mem) : ∀ (v : V), v.flat = true → v.finOk [] M ∧ v.fin [] M = v
  | .agg cs, h => by
    obtain ⟨h1, h2⟩ := flatL_fin M cs (by simpa [V.flat] using h)
    exact ⟨by simpa only [V.finOk] using h1, by simp only [V.fin, h2]⟩
  | .tup cs, h => by
    obtain ⟨h1, h2⟩ := flatL_fin M cs (by simpa [V.flat] using h)
    exact ⟨by simpa only [V.finOk] using h1, by simp only [V.fin, h2]⟩
  | .gd _ v, h => by
    obtain ⟨h1, h2⟩ := flat_fin M v (by simpa [V.flat] using h)
    exact ⟨by simpa only [V.finOk] using h1, by simp only [V.fin, h2]⟩
  | .own _ _ _, h | .ptr _ _ _, h | .rp _, h | .sl _ _ _, h | .fn _ _, h => by simp [V.flat] at h
  | .any, _ | .bool _, _ | .bit _ _, _ | .int _ _, _ | .str _, _ | .nilp, _ | .nils, _ | .val _, _ => by simp [V.finOk, V.fin]
theorem flatL_fin (M : Mem) : ∀ (l : List V), flatL l = true → finLOk [] M l ∧ finL [] M l = l
  | [], _ => ⟨trivial, rfl⟩
  | v :: r, h => by
    simp only [flatL, Bool.and_eq_true] at h
    obtain ⟨h1, h2⟩ := flat_fin M v h.1
    obtain ⟨h3, h4⟩ := flatL_fin M r h.2
    exact ⟨⟨h1, h3⟩, by simp only [finL, h2, h4]⟩
end
mutual
theorem V.le_refl : ∀ (v : V), v.le v
  | .nils => by simp only [V.le]
  | .agg cs => by simp only [V.le]; exact leL_refl cs
  | .tup cs => by simp only [V.le]; exact leL_refl cs
  | .any | .bool _ | .bit _ _ | .int _ _ | .str _ | .nilp | .ptr _ _ _ | .rp _ | .sl _ _ _ | .own _ _ _ | .fn _ _ | .gd _ _ | .val _ => by rw [V.le_solo rfl]
theorem leL_refl : ∀ (l : List V), leL l l
  | [] => by simp only [leL]
  | v :: r => by simp only [leL]; exact ⟨V.le_refl v, leL_refl r⟩
end
theorem EvF.of_flat (h : Ev cx f nm args Mem.nil v []) (hv : v.flat = true) : EvF cx f nm args v :=
  ⟨v, [], h, flat_flatO _ v hv, fun p hp => by simp at hp, fun x hx => by simp [effNames] at hx, (flat_fin _ v hv).1, by rw [(flat_fin _ v hv).2]; exact V.le_refl v⟩
theorem EvF.ev (h : EvF cx f nm args u) : Ev cx f nm args Mem.nil u [] := by
  obtain ⟨v, eff, h1, _, _, _, h5, h6⟩ := h
  exact (h1.freeze h5 rfl).res_le h6
theorem fin_isO {X : Nat → Prop} {w0 : World} {I : Nat → Prop} {ρ ρ2 : Names} {M : Mem} {w : World} {D D' : Nat → Prop} {l : List Nat} (h : Rel cx.G X w0 I ρ M w) (hfl : ∀ nm ∈ l, ∀ k, M nm = some k → flatLL k.rows = true) (hout : ∀ nm ∈ l, ∀ q, (M nm).isSome = true → ρ nm = some q → ¬ D' q.b)
    {v : V} {cv : Value} (hv : Is ρ D w v cv) : v.flatO l → v.finOk [] M → Is ρ2 D' w (v.fin [] M) cv := by
  have hcv := hv
  induction hv with
  | agg hn hu ih =>
    intro hf hok
    simp only [V.flatO] at hf
    simp only [V.finOk] at hok
    simp only [V.fin]
    refine .agg (by rw [finL_length]; exact hn) (fun i u cv hi hc => ?_)
    rw [finL_get] at hi
    obtain ⟨u', h1, rfl⟩ := Option.map_eq_some_iff.1 hi
    exact ih i u' cv h1 hc (hu i u' cv h1 hc) (flatOL_get (q := []) hf h1) (finLOk_get hok h1)
  | tup hn hu ih =>
    intro hf hok
    simp only [V.flatO] at hf
    simp only [V.finOk] at hok
    simp only [V.fin]
    refine .tup (by rw [finL_length]; exact hn) (fun i u cv hi hc => ?_)
    rw [finL_get] at hi
    obtain ⟨u', h1, rfl⟩ := Option.map_eq_some_iff.1 hi
    exact ih i u' cv h1 hc (hu i u' cv h1 hc) (flatOL_get (q := []) hf h1) (finLOk_get hok h1)
  | gd hg ih =>
    intro hf hok
    simp only [V.flatO] at hf
    simp only [V.finOk] at hok
    simp only [V.fin]
    exact .gd (fun hb => ih hb (hg hb) hf hok)
  | own0 =>
    intro hf hok
    simp only [V.fin, newName_nil, List.take_zero]
    exact .sl0 (fun h => by cases h)
  | own hl hlc hnc =>
    rename_i nm lo n c q
    intro hf hok
    simp only [V.flatO] at hf
    simp only [V.finOk] at hok
    simp only [V.fin, newName_nil]
    obtain ⟨h0, hp⟩ := hok rfl
    rcases Nat.eq_zero_or_pos n with rfl | hpos
    · simp only [List.take_zero]
      exact .sl0 (fun h => by cases h)
    · rcases h0 with rfl | ⟨hM, hle⟩
      · omega
      · obtain ⟨k, hk⟩ := Option.isSome_iff_exists.1 hM
        have hro : rowsOf M nm = k.rows := by rw [rowsOf, hk]
        have hsz : szOf M nm = k.sz := by rw [szOf, hk]
        have hbl := h.block_lt hM hl
        have hfr := hfl nm hf k hk
        rw [hro] at hle hp ⊢
        rw [hsz]
        rcases h.live nm k hk with ⟨_, a2⟩ | ⟨l2, a1, _, _, cs, e, a4, a5, a6, a7, a8, a9⟩
        · rw [hl] at a2; cases a2
        · rw [hl] at a1; cases a1
          have hg : ∀ (i : Nat) (row : List V), ((k.rows.drop lo).take n)[i]? = some row → k.rows[lo + i]? = some row := fun i row hi => by
            rw [List.getElem?_take] at hi
            split at hi
            · rwa [List.getElem?_drop] at hi
            · cases hi
          have hlen : ((k.rows.drop lo).take n).length = n := by simp; omega
          have hcell : ∀ (i j : Nat) (row : List V) (u : V), ((k.rows.drop lo).take n)[i]? = some row → row[j]? = some u → ∃ c, w.cell? ⟨q.b, q.o + lo * q.sz + i * q.sz + j, none⟩ = some c ∧ Is ρ2 D' w u c := fun i j row u hi hj => by
            obtain ⟨c', c1, c2⟩ := a9 _ j row u (hg i row hi) hj
            refine ⟨c', ?_, c2.flat (flatL_get (List.all_eq_true.1 hfr row (List.mem_of_getElem? (hg i row hi))) hj)⟩
            rw [cell_of_row w q.b _ cs e _ a4, ← c1]
            congr 1
            rw [Nat.add_mul]; omega
          have := Is.sl (ρ := ρ2) (D := D') (w := w) (t := false) (sz := k.sz) (rows := (k.rows.drop lo).take n) (b := q.b) (o := q.o + lo * q.sz) (c := c) (fun i j => (w.cell? ⟨q.b, q.o + lo * q.sz + i * q.sz + j, none⟩).getD undef) (by rw [hlen]; exact hnc) (fun h => by cases h) (hout nm hf q hM hl) hbl.1
            (fun i row hi => by rw [a5]; exact a8 _ row (hg i row hi)) (fun i j row u hi hj => by
              obtain ⟨c', c1, _⟩ := hcell i j row u hi hj
              rw [a5, c1]; rfl) (fun i j row u hi hj => by
              obtain ⟨c', c1, c2⟩ := hcell i j row u hi hj
              rw [c1]
              exact c2)
          rwa [hlen] at this
  | any cv => intro _ _; simp only [V.fin]; exact .any _
  | bool b => intro _ _; simp only [V.fin]; exact .bool _
  | bit b ht hf => intro _ _; simp only [V.fin]; exact .bit b ht hf
  | int k n => intro _ _; simp only [V.fin]; exact .int _ _
  | str s => intro _ _; simp only [V.fin]; exact .str _
  | nilp => intro _ _; simp only [V.fin]; exact .nilp
  | nils => intro _ _; simp only [V.fin]; exact .nils
  | val v => intro _ _; simp only [V.fin]; exact .val _
  | ptr hl => intro hf; simp [V.flatO, V.flat] at hf
  | rp cv hd hb hc hu ih => intro hf; simp [V.flatO, V.flat] at hf
  | sl0 ht => intro hf; simp [V.flatO, V.flat] at hf
  | sl cv hc ht hd hb hr hx hu ih => intro hf; simp [V.flatO, V.flat] at hf
  | fn hn hu ih => intro hf; simp [V.flatO, V.flat] at hf
mutual
theorem fin_congr {M M' : Mem} {l : List Nat} (hM : ∀ x ∈ l, M' x = M x) : ∀ (v : V), v.flatO l → (v.finOk [] M → v.finOk [] M') ∧ v.fin [] M' = v.fin [] M
  | .own nm lo n, hf => by
    simp only [V.flatO] at hf
    simp only [V.finOk, V.fin, newName_nil, rowsOf, szOf, hM nm hf]
    exact ⟨id, trivial⟩
  | .agg cs, hf => by
    simp only [V.flatO] at hf
    obtain ⟨h1, h2⟩ := finL_congr hM cs hf
    simp only [V.finOk, V.fin]; exact ⟨h1, by rw [h2]⟩
  | .tup cs, hf => by
    simp only [V.flatO] at hf
    obtain ⟨h1, h2⟩ := finL_congr hM cs hf
    simp only [V.finOk, V.fin]; exact ⟨h1, by rw [h2]⟩
  | .gd b v, hf => by
    simp only [V.flatO] at hf
    obtain ⟨h1, h2⟩ := fin_congr hM v hf
    simp only [V.finOk, V.fin]; exact ⟨h1, by rw [h2]⟩
  | .ptr _ _ _, hf | .rp _, hf | .sl _ _ _, hf | .fn _ _, hf => by simp [V.flatO, V.flat] at hf
  | .any, _ | .bool _, _ | .bit _ _, _ | .int _ _, _ | .str _, _ | .nilp, _ | .nils, _ | .val _, _ => by simp [V.finOk, V.fin]
theorem finL_congr {M M' : Mem} {l : List Nat} (hM : ∀ x ∈ l, M' x = M x) : ∀ (cs : List V), flatOL l cs → (finLOk [] M cs → finLOk [] M' cs) ∧ finL [] M' cs = finL [] M cs
  | [], _ => ⟨id, rfl⟩
  | v :: r, hf => by
    simp only [flatOL] at hf
    obtain ⟨h1, h2⟩ := fin_congr hM v hf.1
    obtain ⟨h3, h4⟩ := finL_congr hM r hf.2
    exact ⟨fun hh => ⟨h1 hh.1, h3 hh.2⟩, by simp only [finL, h2, h4]⟩
end
/-- Blocks of a contract's own are taken for what nobody writes. -/
theorem Ev.freezeM {M : Mem} (h : Ev cx f nm args M v eff) (hM : ∀ x ∈ effNames eff, M x = none) (hfl : ∀ p ∈ eff, ∀ k, p.2 = some k → flatLL k.rows = true) (hv : v.flatO (effNames eff)) (hok : v.finOk [] (Mem.nil.app eff)) (hle : (v.fin [] (Mem.nil.app eff)).le u) : Ev cx f nm args M u [] := by
  refine ⟨h.1, fun X w ρ cargs B hr hfr hB hn hargs => (h.2 X w ρ cargs B hr hfr hB hn hargs).mono ?_⟩
  rintro e w' ⟨cv, rfl, ρ', r, m, hvv, hn'⟩
  have hin : ∀ x ∈ effNames eff, (M.app eff) x = (Mem.nil.app eff) x := fun x hx => Mem.app_congr (fun h => absurd hx h)
  obtain ⟨r1, m1⟩ := r.drop (M' := M) (fun x k hk => by
    by_cases e : x ∈ effNames eff
    · rw [hM x e] at hk; cases hk
    · rw [Mem.app_of_notin e]; exact hk)
  obtain ⟨c1, c2⟩ := fin_congr (M := Mem.nil.app eff) (M' := M.app eff) hin v hv
  refine ⟨cv, rfl, ρ', r1, m.trans m1, ?_, hn'⟩
  refine Is.le ?_ u hle
  rw [← c2]
  refine fin_isO (cx := cx) r (l := effNames eff) (fun x hx k hk => ?_) (fun x hx q h1 h2 => ?_) hvv hv (c1 hok)
  · obtain ⟨p, p1, p2⟩ := app_mem hx hk
    exact hfl p p1 k p2
  · rintro (hX | ⟨y, q', g1, g2, g3⟩)
    · exact (r.block_lt h1 h2).2.1 hX
    · have hy : y ∉ effNames eff := fun hy => by
        have : (M.app []) y = M y := rfl
        rw [this, hM y hy] at g1; cases g1
      have := r.inj x y q q' h1 (by rw [Mem.app_of_notin hy]; exact g1) h2 g2 g3.symm
      subst this
      exact hy hx
end
end Go.Proofs.Ytdbbnhmnlgfjoaa.Vm
namespace Go.Proofs.Ytdbbnhmnlgfjoaa.Vm
open Go Go.RowKit
section
variable {cx : Cx} {f : FuncId} {nm : Nat} {args : List V} {u : V}
/-- Such a contract, where blocks are shown. -/
theorem EvF.view {M : Mem} (h : EvF cx f nm (finL [] M args) u) (hM : ∀ x, Fresh nm x → M x = none) (hok : finLOk [] M args) : Ev cx f nm args M u [] := by
  obtain ⟨v, eff, h1, h2, h3, h4, h5, h6⟩ := h
  exact (Ev.viewE h1 hok h2 h3 h4).freezeM (fun x hx => hM x (h4 x hx)) h3 h2 h5 h6
theorem EvF.args_le {xs : List V} (h : EvF cx f nm args u) (hle : leL xs args) : EvF cx f nm xs u := by
  obtain ⟨v, eff, h1, h2⟩ := h
  obtain ⟨g1, g2⟩ := leL_get hle
  refine ⟨v, eff, ⟨h1.1, fun X w ρ cargs B hr hfr hB hn hargs => h1.2 X w ρ cargs B hr hfr hB (by omega) (fun i u cv hi hc => ?_)⟩, h2⟩
  obtain ⟨u', h3, h4⟩ := g2 i u hi
  exact (hargs i u' cv h3 hc).le u h4
variable {Q : Post} {st : List Frm} {e : Env} {M : Mem}
/-- A call under such a contract, which is shown blocks of the call's own (l: these all lie ahead of it). -/
theorem call_F {d : Bool} {fs : List (List Nat)} {ops : List Oper} {dst : Option Tmp} {g : FuncId} {args : Array Operand} {ats : Array TypeId} {t : TypeId} {pos : String} {af : Array Edge} {r : List Oper} {i : Nat} {xs xs' : List V}
    (l : List Nat) (has : args.toList.map (evalV cx.G true e) = xs) (has' : finL [] (M.only l) xs = xs') (hok : finLOk [] (M.only l) xs) (hlt : ∀ x ∈ l, x < nm + 16 * i) {v : V} (hev : EvF cx g (nm + 16 * i) xs' v) (h : goOps cx Q st nm (e.putD dst v) M d (fs ++ [l]) ops r (i + 1)) : goCall cx Q st nm e M d fs ops ⟨dst, .call ⟨.value (.func g), args, ats⟩, t, pos, af, none⟩ r i :=
  call_fn_full has l (EvF.view (by rw [has']; exact hev) (fun x hx => by
    unfold Mem.only; rw [if_neg (fun hm => by have := hlt x hm; have := hx.1; omega)]) hok) (fun x hx => by simp [effNames] at hx) (by simpa [effNames, Mem.app] using h)
theorem call_FG {d : Bool} {fs : List (List Nat)} {ops : List Oper} {c : Bool} {dst : Option Tmp} {g : FuncId} {args : Array Operand} {ats : Array TypeId} {t : TypeId} {pos : String} {af : Array Edge} {gd : Option (Nat × Bool)} {r : List Oper} {i : Nat} {xs xs' : List V}
    (l : List Nat) (has : args.toList.map (evalV cx.G c e) = xs) (has' : c = true → finL [] (M.only l) xs = xs') (hok : c = true → finLOk [] (M.only l) xs) (hlt : ∀ x ∈ l, x < nm + 16 * i) {v : V} (hev : c = true → EvF cx g (nm + 16 * i) xs' v) (h : goOps cx Q st nm (e.putD dst (.gd c v)) M d (fs ++ [l]) ops r (i + 1)) : goCallG cx Q st nm e M d fs c ops ⟨dst, .call ⟨.value (.func g), args, ats⟩, t, pos, af, gd⟩ r i := by
  subst has
  unfold goCallG vcCallG
  simp only [evalV, List.append_nil]
  exact ⟨l, v, fun hc => EvF.view (by rw [has' hc]; exact hev hc) (fun x hx => by
    unfold Mem.only; rw [if_neg (fun hm => by have := hlt x hm; have := hx.1; omega)]) (hok hc), h⟩
end
end Go.Proofs.Ytdbbnhmnlgfjoaa.Vm
/-
  Layer 28: the same contracts, where nobody writes what is answered; the chapter's examples.
-/
namespace Go.Proofs.Ytdbbnhmnlgfjoaa
set_option linter.unusedSimpArgs false
set_option linter.unusedVariables false
open Go Go.RowKit Go.Proofs.Ytdbbnhmnlgfjoaa.Vm

theorem fin_desk (nm : Nat) (d : Desk) : (deskO nm d).fin [] (Mem.nil.app (deskE nm d)) = deskV d := by
  have n1 : (nm + 1 = nm) = False := eq_false (by omega)
  have n2 : (nm = nm + 1) = False := eq_false (by omega)
  simp only [deskO, deskE, deskV, V.fin, finL, newName_nil, n1, n2, vcs, Nat.reduceAdd, Nat.reduceMul, Nat.reduceEqDiff, Nat.reduceLeDiff, Nat.reduceSub, Nat.reduceLT, Int.reduceToNat, Int.reduceLE, Int.reduceLT, Int.reduceAdd, Int.reduceSub, Int.reduceMul, Int.reduceNeg, reduceCtorEq, reduceIte, Int.reduceBEq, Int.reduceBNe, Int.reduceEq, Int.reduceNe, Nat.reduceBEq, Nat.reduceBNe, tys, plain_h, plain_d, flat_h, flat_d, small_h, small_d, List.length_map, List.getElem?_map, List.length_set, updTo_length, List.length_append, List.map_append, plainLL_append, pick_false, pick_true]
theorem ok_desk (nm : Nat) (d : Desk) : (deskO nm d).finOk [] (Mem.nil.app (deskE nm d)) := by
  have n1 : (nm + 1 = nm) = False := eq_false (by omega)
  have n2 : (nm = nm + 1) = False := eq_false (by omega)
  simp only [deskO, deskE, deskV, V.finOk, finLOk, newName_nil, n1, n2, vcs, Nat.reduceAdd, Nat.reduceMul, Nat.reduceEqDiff, Nat.reduceLeDiff, Nat.reduceSub, Nat.reduceLT, Int.reduceToNat, Int.reduceLE, Int.reduceLT, Int.reduceAdd, Int.reduceSub, Int.reduceMul, Int.reduceNeg, reduceCtorEq, reduceIte, Int.reduceBEq, Int.reduceBNe, Int.reduceEq, Int.reduceNe, Nat.reduceBEq, Nat.reduceBNe, tys, plain_h, plain_d, flat_h, flat_d, small_h, small_d, List.length_map, List.getElem?_map, List.length_set, updTo_length, List.length_append, List.map_append, plainLL_append, pick_false, pick_true]
/-- Results that are a desk in new memory, and flat things. -/
theorem of_desk {f : FuncId} {nm : Nat} {xs : List V} {d : Desk} {rest : List V} (h : Ev cx f nm xs Mem.nil (.tup (deskO nm d :: rest)) (deskE nm d)) (hr : flatL rest = true) : EvF cx f nm xs (.tup (deskV d :: rest)) := by
  obtain ⟨g1, g2⟩ := flatL_fin (Mem.nil.app (deskE nm d)) rest hr
  refine ⟨_, _, h, ?_, ?_, ?_, ?_, ?_⟩
  · simp only [V.flatO, flatOL]
    refine ⟨?_, flatL_flatOL _ _ hr⟩
    simp only [deskO, V.flatO, flatOL, V.flat, deskE, effNames, List.map_cons, List.map_nil, List.mem_cons, true_or, or_true, and_self]
  · simp only [deskE, List.mem_cons, List.not_mem_nil, or_false, forall_eq_or_imp, forall_eq, Option.some.injEq, forall_eq', flat_h, flat_d, and_self]
  · simp only [deskE, effNames, List.map_cons, List.map_nil, List.mem_cons, List.not_mem_nil, or_false, forall_eq_or_imp, forall_eq, Fresh]
    omega
  · simp only [V.finOk, finLOk]; exact ⟨ok_desk _ _, g1⟩
  · simp only [V.fin, finL, fin_desk, g2]; exact V.le_refl _
theorem add_ev (d : Desk) (h : Hd) (hn : d.held.length ≤ lim) (hm : d.done.length ≤ lim) (nm : Nat) : EvF cx 21 nm [deskV d, .agg (hcells h)] (.tup [deskV (addR d h).1, .int .i64 (addR d h).2]) := of_desk (add_own d h hn hm nm) rfl
theorem answer_ev (d : Desk) (t : List UInt8) (hn : d.held.length ≤ lim) (hm : d.done.length ≤ lim) (nm : Nat) : EvF cx 23 nm [deskV d, .str t] (.tup [deskV (answerR d t).1, .int .i64 (answerR d t).2.1, .int .i64 (answerR d t).2.2.1, .int .i64 (answerR d t).2.2.2]) := of_desk (answer_own d t hn hm nm) rfl
def cameF (c : Came) (e : Int) : V := .tup [deskV c.desk, .int .u8 c.kind, .int .i64 c.old, .str c.text, .int .i64 e]
theorem again_ev (d : Desk) (rid : Int) (b : List UInt8) (c : Int) (hn : d.held.length ≤ lim) (hm : d.done.length ≤ lim) (nm : Nat) : EvF cx 25 nm [deskV d, .int .i64 rid, .str b, .int .i64 c] (cameF (againR d rid b c).1 (againR d rid b c).2) := of_desk (again_own d rid b c hn hm nm) rfl
def ackF (r : Desk × Int × Int × Int) : V := .tup [deskV r.1, .int .i64 r.2.1, .int .i64 r.2.2.1, .int .i64 r.2.2.2]
theorem ack_ev (d : Desk) (a : Int) (hn : d.held.length ≤ lim) (hm : d.done.length ≤ lim) (nm : Nat) : EvF cx 27 nm [deskV d, .int .i64 a] (ackF (ackR d a)) := of_desk (ack_own d a hn hm nm) rfl
def tickR (d : Desk) : Desk × Int × Int := if d.may = true then (d.ticked, d.due, 0) else (zd, 0, 8)
theorem nil_desk : V.le (.agg [.nils, .nils, .int .i64 0, .int .i64 0]) (deskV zd) := by
  simp only [deskV, zd, vcs, Nat.reduceAdd, Nat.reduceMul, Nat.reduceEqDiff, Nat.reduceLeDiff, Nat.reduceSub, Nat.reduceLT, Int.reduceToNat, Int.reduceLE, Int.reduceLT, Int.reduceAdd, Int.reduceSub, Int.reduceMul, Int.reduceNeg, reduceCtorEq, reduceIte, Int.reduceBEq, Int.reduceBNe, Int.reduceEq, Int.reduceNe, Nat.reduceBEq, Nat.reduceBNe, tys, plain_h, plain_d, flat_h, flat_d, small_h, small_d, List.length_map, List.getElem?_map, List.length_set, updTo_length, List.length_append, List.map_append, plainLL_append, pick_false, pick_true]
theorem EvF.res_le {f : FuncId} {nm : Nat} {xs : List V} {v u : V} (h : Ev cx f nm xs Mem.nil v []) (hv : v.flat = true) (hle : v.le u) : EvF cx f nm xs u :=
  ⟨v, [], h, flat_flatO _ v hv, fun p hp => by simp at hp, fun x hx => by simp [effNames] at hx, (flat_fin _ v hv).1, by rw [(flat_fin _ v hv).2]; exact hle⟩
theorem tick_ev (d : Desk) (hn : d.held.length ≤ lim) (hm : d.done.length ≤ lim) (nm : Nat) : EvF cx 11 nm [deskV d] (.tup [deskV (tickR d).1, .int .i64 (tickR d).2.1, .int .i64 (tickR d).2.2]) := by
  unfold tickR
  cases hmay : d.may with
  | true => rw [if_pos rfl]; exact of_desk (tick_good d hmay nm) rfl
  | false =>
    rw [if_neg (by simp)]
    refine EvF.res_le (tick_bad d hn hm hmay nm) rfl ?_
    have := nil_desk
    simp only [this, vcs, Nat.reduceAdd, Nat.reduceMul, Nat.reduceEqDiff, Nat.reduceLeDiff, Nat.reduceSub, Nat.reduceLT, Int.reduceToNat, Int.reduceLE, Int.reduceLT, Int.reduceAdd, Int.reduceSub, Int.reduceMul, Int.reduceNeg, reduceCtorEq, reduceIte, Int.reduceBEq, Int.reduceBNe, Int.reduceEq, Int.reduceNe, Nat.reduceBEq, Nat.reduceBNe, tys, plain_h, plain_d, flat_h, flat_d, small_h, small_d, List.length_map, List.getElem?_map, List.length_set, updTo_length, List.length_append, List.map_append, plainLL_append, pick_false, pick_true]
def loseR (d : Desk) (c : Int) : Desk × Int := if d.may = true then (if 1 ≤ c ∧ c ≤ 1048576 then (d.lost c, 0) else (zd, 2)) else (zd, 8)
theorem lose_ev (d : Desk) (c : Int) (hn : d.held.length ≤ lim) (hm : d.done.length ≤ lim) (nm : Nat) : EvF cx 13 nm [deskV d, .int .i64 c] (.tup [deskV (loseR d c).1, .int .i64 (loseR d c).2]) := by
  have hz := nil_desk
  unfold loseR
  cases hmay : d.may with
  | true =>
    rw [if_pos rfl]
    by_cases hc : 1 ≤ c ∧ c ≤ 1048576
    · rw [if_pos hc]; exact of_desk (lose_good d c hmay hc.1 hc.2 nm) rfl
    · rw [if_neg hc]
      refine EvF.res_le (lose_arg d c hmay hc nm) rfl ?_
      simp only [hz, vcs, Nat.reduceAdd, Nat.reduceMul, Nat.reduceEqDiff, Nat.reduceLeDiff, Nat.reduceSub, Nat.reduceLT, Int.reduceToNat, Int.reduceLE, Int.reduceLT, Int.reduceAdd, Int.reduceSub, Int.reduceMul, Int.reduceNeg, reduceCtorEq, reduceIte, Int.reduceBEq, Int.reduceBNe, Int.reduceEq, Int.reduceNe, Nat.reduceBEq, Nat.reduceBNe, tys, plain_h, plain_d, flat_h, flat_d, small_h, small_d, List.length_map, List.getElem?_map, List.length_set, updTo_length, List.length_append, List.map_append, plainLL_append, pick_false, pick_true]
  | false =>
    rw [if_neg (by simp)]
    refine EvF.res_le (lose_bad d c hn hm hmay nm) rfl ?_
    simp only [hz, vcs, Nat.reduceAdd, Nat.reduceMul, Nat.reduceEqDiff, Nat.reduceLeDiff, Nat.reduceSub, Nat.reduceLT, Int.reduceToNat, Int.reduceLE, Int.reduceLT, Int.reduceAdd, Int.reduceSub, Int.reduceMul, Int.reduceNeg, reduceCtorEq, reduceIte, Int.reduceBEq, Int.reduceBNe, Int.reduceEq, Int.reduceNe, Nat.reduceBEq, Nat.reduceBNe, tys, plain_h, plain_d, flat_h, flat_d, small_h, small_d, List.length_map, List.getElem?_map, List.length_set, updTo_length, List.length_append, List.map_append, plainLL_append, pick_false, pick_true]
theorem check_ev (d : Desk) (hn : d.held.length ≤ lim) (hm : d.done.length ≤ lim) (nm : Nat) : EvF cx 17 nm [deskV d] (.int .i64 (if d.may then 0 else 8)) := EvF.of_flat (Check_ev d hn hm nm) rfl
end Go.Proofs.Ytdbbnhmnlgfjoaa
/-
  Layer 28: the chapter's examples.
-/
namespace Go.Proofs.Ytdbbnhmnlgfjoaa
set_option linter.unusedSimpArgs false
set_option linter.unusedVariables false
open Go Go.RowKit Go.Proofs.Ytdbbnhmnlgfjoaa.Vm

def al0 : Desk := ⟨[], [], 4, 2⟩
def alH : Hd := ⟨5, 9, 60, [113], -1, -1⟩
def al1 : Desk := ⟨[alH], [], 4, 2⟩
def al2 : Desk := ⟨[], [⟨5, [113], [97], 0⟩], 5, 2⟩
def al3 : Desk := ⟨[], [⟨5, [113], [97], 1⟩], 5, 2⟩
def al7 : Hd := ⟨7, 0, 0, [], 0, 0⟩
theorem al_add : addR al0 alH = (al1, 0) := by decide +kernel
theorem al_answer : answerR al1 [97] = (al2, 9, 5, 0) := by decide +kernel
theorem al_again : againR al2 5 [113] 3 = (⟨al2, 2, 0, [97]⟩, 0) := by rfl
theorem al_add7 : addR al2 al7 = (zd, 2) := by decide +kernel
theorem al_tick : tickR al2 = (al3, 0, 0) := by decide +kernel
theorem al_ack : ackR al3 4 = (al3, 5, 1000, 0) := by decide +kernel
set_option maxRecDepth 100000 in
set_option maxHeartbeats 8000000 in
theorem alive_ev (nm : Nat) : Ev cx 29 nm [] Mem.nil (.bool true) [] := by
  have l0 : ∀ n : Nat, n ≤ 2 → n ≤ lim := fun n h => by unfold lim; omega
  have e1 := al_add; have e2 := al_answer; have e3 := al_again; have e4 := al_add7; have e5 := al_tick; have e6 := al_ack
  simp only [al0, al1, al2, al3, alH, al7, zd] at e1 e2 e3 e4 e5 e6
  refine ev_go (fun cargs w => Try.call29 cargs w) Try.func29 rfl mixed (by kernel_rfl) rfl ?_; intro b0 hb0
  ((repeat' first | simp only [Try.results29, Try.ntmps29, maxLen, Nat.reducePow, forall_eq', exists_eq', Prod.mk.injEq, e1, e2, e3, e4, e5, e6, al0, al1, al2, al3, alH, al7, zd, cameF, ackF, vcs, Nat.reduceAdd, Nat.reduceMul, Nat.reduceEqDiff, Nat.reduceLeDiff, Nat.reduceSub, Nat.reduceLT, Int.reduceToNat, Int.reduceLE, Int.reduceLT, Int.reduceAdd, Int.reduceSub, Int.reduceMul, Int.reduceNeg, reduceCtorEq, reduceIte, Int.reduceBEq, Int.reduceBNe, Int.reduceEq, Int.reduceNe, Nat.reduceBEq, Nat.reduceBNe, tys, plain_h, plain_d, List.length_map, List.getElem?_map, List.length_append, List.map_append, pick_false, pick_true, deskV, hcells, dcells] | exact rfl | (refine call_F (xs := ?_) (xs' := ?_) [] ?_ ?_ ?_ ?_ ((add_ev al0 alH (l0 _ (by decide)) (l0 _ (by decide)) _).args_le ?_) ?_; rotate_left 2; (focus (simp only [Try.results29, Try.ntmps29, maxLen, Nat.reducePow, forall_eq', exists_eq', Prod.mk.injEq, e1, e2, e3, e4, e5, e6, al0, al1, al2, al3, alH, al7, zd, cameF, ackF, vcs, Nat.reduceAdd, Nat.reduceMul, Nat.reduceEqDiff, Nat.reduceLeDiff, Nat.reduceSub, Nat.reduceLT, Int.reduceToNat, Int.reduceLE, Int.reduceLT, Int.reduceAdd, Int.reduceSub, Int.reduceMul, Int.reduceNeg, reduceCtorEq, reduceIte, Int.reduceBEq, Int.reduceBNe, Int.reduceEq, Int.reduceNe, Nat.reduceBEq, Nat.reduceBNe, tys, plain_h, plain_d, List.length_map, List.getElem?_map, List.length_append, List.map_append, pick_false, pick_true, deskV, hcells, dcells] <;> exact rfl)); (focus (simp only [finL, V.fin, newName_nil, only_at, List.mem_cons, List.not_mem_nil, Try.results29, Try.ntmps29, maxLen, Nat.reducePow, forall_eq', exists_eq', Prod.mk.injEq, e1, e2, e3, e4, e5, e6, al0, al1, al2, al3, alH, al7, zd, cameF, ackF, vcs, Nat.reduceAdd, Nat.reduceMul, Nat.reduceEqDiff, Nat.reduceLeDiff, Nat.reduceSub, Nat.reduceLT, Int.reduceToNat, Int.reduceLE, Int.reduceLT, Int.reduceAdd, Int.reduceSub, Int.reduceMul, Int.reduceNeg, reduceCtorEq, reduceIte, Int.reduceBEq, Int.reduceBNe, Int.reduceEq, Int.reduceNe, Nat.reduceBEq, Nat.reduceBNe, tys, plain_h, plain_d, List.length_map, List.getElem?_map, List.length_append, List.map_append, pick_false, pick_true, deskV, hcells, dcells] <;> exact rfl)); (focus (simp only [newName_nil, only_at, List.mem_cons, List.not_mem_nil, Try.results29, Try.ntmps29, maxLen, Nat.reducePow, forall_eq', exists_eq', Prod.mk.injEq, e1, e2, e3, e4, e5, e6, al0, al1, al2, al3, alH, al7, zd, cameF, ackF, vcs, Nat.reduceAdd, Nat.reduceMul, Nat.reduceEqDiff, Nat.reduceLeDiff, Nat.reduceSub, Nat.reduceLT, Int.reduceToNat, Int.reduceLE, Int.reduceLT, Int.reduceAdd, Int.reduceSub, Int.reduceMul, Int.reduceNeg, reduceCtorEq, reduceIte, Int.reduceBEq, Int.reduceBNe, Int.reduceEq, Int.reduceNe, Nat.reduceBEq, Nat.reduceBNe, tys, plain_h, plain_d, List.length_map, List.getElem?_map, List.length_append, List.map_append, pick_false, pick_true, deskV, hcells, dcells] <;> omega)); (focus (simp only [List.mem_cons, List.not_mem_nil, forall_eq, forall_eq_or_imp, Try.results29, Try.ntmps29, maxLen, Nat.reducePow, forall_eq', exists_eq', Prod.mk.injEq, e1, e2, e3, e4, e5, e6, al0, al1, al2, al3, alH, al7, zd, cameF, ackF, vcs, Nat.reduceAdd, Nat.reduceMul, Nat.reduceEqDiff, Nat.reduceLeDiff, Nat.reduceSub, Nat.reduceLT, Int.reduceToNat, Int.reduceLE, Int.reduceLT, Int.reduceAdd, Int.reduceSub, Int.reduceMul, Int.reduceNeg, reduceCtorEq, reduceIte, Int.reduceBEq, Int.reduceBNe, Int.reduceEq, Int.reduceNe, Nat.reduceBEq, Nat.reduceBNe, tys, plain_h, plain_d, List.length_map, List.getElem?_map, List.length_append, List.map_append, pick_false, pick_true, deskV, hcells, dcells] <;> omega)); (focus (simp only [Try.results29, Try.ntmps29, maxLen, Nat.reducePow, forall_eq', exists_eq', Prod.mk.injEq, e1, e2, e3, e4, e5, e6, al0, al1, al2, al3, alH, al7, zd, cameF, ackF, vcs, Nat.reduceAdd, Nat.reduceMul, Nat.reduceEqDiff, Nat.reduceLeDiff, Nat.reduceSub, Nat.reduceLT, Int.reduceToNat, Int.reduceLE, Int.reduceLT, Int.reduceAdd, Int.reduceSub, Int.reduceMul, Int.reduceNeg, reduceCtorEq, reduceIte, Int.reduceBEq, Int.reduceBNe, Int.reduceEq, Int.reduceNe, Nat.reduceBEq, Nat.reduceBNe, tys, plain_h, plain_d, List.length_map, List.getElem?_map, List.length_append, List.map_append, pick_false, pick_true, deskV, hcells, dcells]; done))) | (refine call_FG (xs := ?_) (xs' := ?_) [] ?_ (fun _ => ?_) (fun _ => ?_) ?_ (fun _ => ((add_ev al0 alH (l0 _ (by decide)) (l0 _ (by decide)) _).args_le ?_)) ?_; rotate_left 2; (focus (simp only [Try.results29, Try.ntmps29, maxLen, Nat.reducePow, forall_eq', exists_eq', Prod.mk.injEq, e1, e2, e3, e4, e5, e6, al0, al1, al2, al3, alH, al7, zd, cameF, ackF, vcs, Nat.reduceAdd, Nat.reduceMul, Nat.reduceEqDiff, Nat.reduceLeDiff, Nat.reduceSub, Nat.reduceLT, Int.reduceToNat, Int.reduceLE, Int.reduceLT, Int.reduceAdd, Int.reduceSub, Int.reduceMul, Int.reduceNeg, reduceCtorEq, reduceIte, Int.reduceBEq, Int.reduceBNe, Int.reduceEq, Int.reduceNe, Nat.reduceBEq, Nat.reduceBNe, tys, plain_h, plain_d, List.length_map, List.getElem?_map, List.length_append, List.map_append, pick_false, pick_true, deskV, hcells, dcells] <;> exact rfl)); (focus (simp only [finL, V.fin, newName_nil, only_at, List.mem_cons, List.not_mem_nil, Try.results29, Try.ntmps29, maxLen, Nat.reducePow, forall_eq', exists_eq', Prod.mk.injEq, e1, e2, e3, e4, e5, e6, al0, al1, al2, al3, alH, al7, zd, cameF, ackF, vcs, Nat.reduceAdd, Nat.reduceMul, Nat.reduceEqDiff, Nat.reduceLeDiff, Nat.reduceSub, Nat.reduceLT, Int.reduceToNat, Int.reduceLE, Int.reduceLT, Int.reduceAdd, Int.reduceSub, Int.reduceMul, Int.reduceNeg, reduceCtorEq, reduceIte, Int.reduceBEq, Int.reduceBNe, Int.reduceEq, Int.reduceNe, Nat.reduceBEq, Nat.reduceBNe, tys, plain_h, plain_d, List.length_map, List.getElem?_map, List.length_append, List.map_append, pick_false, pick_true, deskV, hcells, dcells] <;> exact rfl)); (focus (simp only [newName_nil, only_at, List.mem_cons, List.not_mem_nil, Try.results29, Try.ntmps29, maxLen, Nat.reducePow, forall_eq', exists_eq', Prod.mk.injEq, e1, e2, e3, e4, e5, e6, al0, al1, al2, al3, alH, al7, zd, cameF, ackF, vcs, Nat.reduceAdd, Nat.reduceMul, Nat.reduceEqDiff, Nat.reduceLeDiff, Nat.reduceSub, Nat.reduceLT, Int.reduceToNat, Int.reduceLE, Int.reduceLT, Int.reduceAdd, Int.reduceSub, Int.reduceMul, Int.reduceNeg, reduceCtorEq, reduceIte, Int.reduceBEq, Int.reduceBNe, Int.reduceEq, Int.reduceNe, Nat.reduceBEq, Nat.reduceBNe, tys, plain_h, plain_d, List.length_map, List.getElem?_map, List.length_append, List.map_append, pick_false, pick_true, deskV, hcells, dcells] <;> omega)); (focus (simp only [List.mem_cons, List.not_mem_nil, forall_eq, forall_eq_or_imp, Try.results29, Try.ntmps29, maxLen, Nat.reducePow, forall_eq', exists_eq', Prod.mk.injEq, e1, e2, e3, e4, e5, e6, al0, al1, al2, al3, alH, al7, zd, cameF, ackF, vcs, Nat.reduceAdd, Nat.reduceMul, Nat.reduceEqDiff, Nat.reduceLeDiff, Nat.reduceSub, Nat.reduceLT, Int.reduceToNat, Int.reduceLE, Int.reduceLT, Int.reduceAdd, Int.reduceSub, Int.reduceMul, Int.reduceNeg, reduceCtorEq, reduceIte, Int.reduceBEq, Int.reduceBNe, Int.reduceEq, Int.reduceNe, Nat.reduceBEq, Nat.reduceBNe, tys, plain_h, plain_d, List.length_map, List.getElem?_map, List.length_append, List.map_append, pick_false, pick_true, deskV, hcells, dcells] <;> omega)); (focus (simp only [Try.results29, Try.ntmps29, maxLen, Nat.reducePow, forall_eq', exists_eq', Prod.mk.injEq, e1, e2, e3, e4, e5, e6, al0, al1, al2, al3, alH, al7, zd, cameF, ackF, vcs, Nat.reduceAdd, Nat.reduceMul, Nat.reduceEqDiff, Nat.reduceLeDiff, Nat.reduceSub, Nat.reduceLT, Int.reduceToNat, Int.reduceLE, Int.reduceLT, Int.reduceAdd, Int.reduceSub, Int.reduceMul, Int.reduceNeg, reduceCtorEq, reduceIte, Int.reduceBEq, Int.reduceBNe, Int.reduceEq, Int.reduceNe, Nat.reduceBEq, Nat.reduceBNe, tys, plain_h, plain_d, List.length_map, List.getElem?_map, List.length_append, List.map_append, pick_false, pick_true, deskV, hcells, dcells]; done))) | (refine call_F (xs := ?_) (xs' := ?_) [] ?_ ?_ ?_ ?_ ((answer_ev al1 [97] (l0 _ (by decide)) (l0 _ (by decide)) _).args_le ?_) ?_; rotate_left 2; (focus (simp only [Try.results29, Try.ntmps29, maxLen, Nat.reducePow, forall_eq', exists_eq', Prod.mk.injEq, e1, e2, e3, e4, e5, e6, al0, al1, al2, al3, alH, al7, zd, cameF, ackF, vcs, Nat.reduceAdd, Nat.reduceMul, Nat.reduceEqDiff, Nat.reduceLeDiff, Nat.reduceSub, Nat.reduceLT, Int.reduceToNat, Int.reduceLE, Int.reduceLT, Int.reduceAdd, Int.reduceSub, Int.reduceMul, Int.reduceNeg, reduceCtorEq, reduceIte, Int.reduceBEq, Int.reduceBNe, Int.reduceEq, Int.reduceNe, Nat.reduceBEq, Nat.reduceBNe, tys, plain_h, plain_d, List.length_map, List.getElem?_map, List.length_append, List.map_append, pick_false, pick_true, deskV, hcells, dcells] <;> exact rfl)); (focus (simp only [finL, V.fin, newName_nil, only_at, List.mem_cons, List.not_mem_nil, Try.results29, Try.ntmps29, maxLen, Nat.reducePow, forall_eq', exists_eq', Prod.mk.injEq, e1, e2, e3, e4, e5, e6, al0, al1, al2, al3, alH, al7, zd, cameF, ackF, vcs, Nat.reduceAdd, Nat.reduceMul, Nat.reduceEqDiff, Nat.reduceLeDiff, Nat.reduceSub, Nat.reduceLT, Int.reduceToNat, Int.reduceLE, Int.reduceLT, Int.reduceAdd, Int.reduceSub, Int.reduceMul, Int.reduceNeg, reduceCtorEq, reduceIte, Int.reduceBEq, Int.reduceBNe, Int.reduceEq, Int.reduceNe, Nat.reduceBEq, Nat.reduceBNe, tys, plain_h, plain_d, List.length_map, List.getElem?_map, List.length_append, List.map_append, pick_false, pick_true, deskV, hcells, dcells] <;> exact rfl)); (focus (simp only [newName_nil, only_at, List.mem_cons, List.not_mem_nil, Try.results29, Try.ntmps29, maxLen, Nat.reducePow, forall_eq', exists_eq', Prod.mk.injEq, e1, e2, e3, e4, e5, e6, al0, al1, al2, al3, alH, al7, zd, cameF, ackF, vcs, Nat.reduceAdd, Nat.reduceMul, Nat.reduceEqDiff, Nat.reduceLeDiff, Nat.reduceSub, Nat.reduceLT, Int.reduceToNat, Int.reduceLE, Int.reduceLT, Int.reduceAdd, Int.reduceSub, Int.reduceMul, Int.reduceNeg, reduceCtorEq, reduceIte, Int.reduceBEq, Int.reduceBNe, Int.reduceEq, Int.reduceNe, Nat.reduceBEq, Nat.reduceBNe, tys, plain_h, plain_d, List.length_map, List.getElem?_map, List.length_append, List.map_append, pick_false, pick_true, deskV, hcells, dcells] <;> omega)); (focus (simp only [List.mem_cons, List.not_mem_nil, forall_eq, forall_eq_or_imp, Try.results29, Try.ntmps29, maxLen, Nat.reducePow, forall_eq', exists_eq', Prod.mk.injEq, e1, e2, e3, e4, e5, e6, al0, al1, al2, al3, alH, al7, zd, cameF, ackF, vcs, Nat.reduceAdd, Nat.reduceMul, Nat.reduceEqDiff, Nat.reduceLeDiff, Nat.reduceSub, Nat.reduceLT, Int.reduceToNat, Int.reduceLE, Int.reduceLT, Int.reduceAdd, Int.reduceSub, Int.reduceMul, Int.reduceNeg, reduceCtorEq, reduceIte, Int.reduceBEq, Int.reduceBNe, Int.reduceEq, Int.reduceNe, Nat.reduceBEq, Nat.reduceBNe, tys, plain_h, plain_d, List.length_map, List.getElem?_map, List.length_append, List.map_append, pick_false, pick_true, deskV, hcells, dcells] <;> omega)); (focus (simp only [Try.results29, Try.ntmps29, maxLen, Nat.reducePow, forall_eq', exists_eq', Prod.mk.injEq, e1, e2, e3, e4, e5, e6, al0, al1, al2, al3, alH, al7, zd, cameF, ackF, vcs, Nat.reduceAdd, Nat.reduceMul, Nat.reduceEqDiff, Nat.reduceLeDiff, Nat.reduceSub, Nat.reduceLT, Int.reduceToNat, Int.reduceLE, Int.reduceLT, Int.reduceAdd, Int.reduceSub, Int.reduceMul, Int.reduceNeg, reduceCtorEq, reduceIte, Int.reduceBEq, Int.reduceBNe, Int.reduceEq, Int.reduceNe, Nat.reduceBEq, Nat.reduceBNe, tys, plain_h, plain_d, List.length_map, List.getElem?_map, List.length_append, List.map_append, pick_false, pick_true, deskV, hcells, dcells]; done))) | (refine call_FG (xs := ?_) (xs' := ?_) [] ?_ (fun _ => ?_) (fun _ => ?_) ?_ (fun _ => ((answer_ev al1 [97] (l0 _ (by decide)) (l0 _ (by decide)) _).args_le ?_)) ?_; rotate_left 2; (focus (simp only [Try.results29, Try.ntmps29, maxLen, Nat.reducePow, forall_eq', exists_eq', Prod.mk.injEq, e1, e2, e3, e4, e5, e6, al0, al1, al2, al3, alH, al7, zd, cameF, ackF, vcs, Nat.reduceAdd, Nat.reduceMul, Nat.reduceEqDiff, Nat.reduceLeDiff, Nat.reduceSub, Nat.reduceLT, Int.reduceToNat, Int.reduceLE, Int.reduceLT, Int.reduceAdd, Int.reduceSub, Int.reduceMul, Int.reduceNeg, reduceCtorEq, reduceIte, Int.reduceBEq, Int.reduceBNe, Int.reduceEq, Int.reduceNe, Nat.reduceBEq, Nat.reduceBNe, tys, plain_h, plain_d, List.length_map, List.getElem?_map, List.length_append, List.map_append, pick_false, pick_true, deskV, hcells, dcells] <;> exact rfl)); (focus (simp only [finL, V.fin, newName_nil, only_at, List.mem_cons, List.not_mem_nil, Try.results29, Try.ntmps29, maxLen, Nat.reducePow, forall_eq', exists_eq', Prod.mk.injEq, e1, e2, e3, e4, e5, e6, al0, al1, al2, al3, alH, al7, zd, cameF, ackF, vcs, Nat.reduceAdd, Nat.reduceMul, Nat.reduceEqDiff, Nat.reduceLeDiff, Nat.reduceSub, Nat.reduceLT, Int.reduceToNat, Int.reduceLE, Int.reduceLT, Int.reduceAdd, Int.reduceSub, Int.reduceMul, Int.reduceNeg, reduceCtorEq, reduceIte, Int.reduceBEq, Int.reduceBNe, Int.reduceEq, Int.reduceNe, Nat.reduceBEq, Nat.reduceBNe, tys, plain_h, plain_d, List.length_map, List.getElem?_map, List.length_append, List.map_append, pick_false, pick_true, deskV, hcells, dcells] <;> exact rfl)); (focus (simp only [newName_nil, only_at, List.mem_cons, List.not_mem_nil, Try.results29, Try.ntmps29, maxLen, Nat.reducePow, forall_eq', exists_eq', Prod.mk.injEq, e1, e2, e3, e4, e5, e6, al0, al1, al2, al3, alH, al7, zd, cameF, ackF, vcs, Nat.reduceAdd, Nat.reduceMul, Nat.reduceEqDiff, Nat.reduceLeDiff, Nat.reduceSub, Nat.reduceLT, Int.reduceToNat, Int.reduceLE, Int.reduceLT, Int.reduceAdd, Int.reduceSub, Int.reduceMul, Int.reduceNeg, reduceCtorEq, reduceIte, Int.reduceBEq, Int.reduceBNe, Int.reduceEq, Int.reduceNe, Nat.reduceBEq, Nat.reduceBNe, tys, plain_h, plain_d, List.length_map, List.getElem?_map, List.length_append, List.map_append, pick_false, pick_true, deskV, hcells, dcells] <;> omega)); (focus (simp only [List.mem_cons, List.not_mem_nil, forall_eq, forall_eq_or_imp, Try.results29, Try.ntmps29, maxLen, Nat.reducePow, forall_eq', exists_eq', Prod.mk.injEq, e1, e2, e3, e4, e5, e6, al0, al1, al2, al3, alH, al7, zd, cameF, ackF, vcs, Nat.reduceAdd, Nat.reduceMul, Nat.reduceEqDiff, Nat.reduceLeDiff, Nat.reduceSub, Nat.reduceLT, Int.reduceToNat, Int.reduceLE, Int.reduceLT, Int.reduceAdd, Int.reduceSub, Int.reduceMul, Int.reduceNeg, reduceCtorEq, reduceIte, Int.reduceBEq, Int.reduceBNe, Int.reduceEq, Int.reduceNe, Nat.reduceBEq, Nat.reduceBNe, tys, plain_h, plain_d, List.length_map, List.getElem?_map, List.length_append, List.map_append, pick_false, pick_true, deskV, hcells, dcells] <;> omega)); (focus (simp only [Try.results29, Try.ntmps29, maxLen, Nat.reducePow, forall_eq', exists_eq', Prod.mk.injEq, e1, e2, e3, e4, e5, e6, al0, al1, al2, al3, alH, al7, zd, cameF, ackF, vcs, Nat.reduceAdd, Nat.reduceMul, Nat.reduceEqDiff, Nat.reduceLeDiff, Nat.reduceSub, Nat.reduceLT, Int.reduceToNat, Int.reduceLE, Int.reduceLT, Int.reduceAdd, Int.reduceSub, Int.reduceMul, Int.reduceNeg, reduceCtorEq, reduceIte, Int.reduceBEq, Int.reduceBNe, Int.reduceEq, Int.reduceNe, Nat.reduceBEq, Nat.reduceBNe, tys, plain_h, plain_d, List.length_map, List.getElem?_map, List.length_append, List.map_append, pick_false, pick_true, deskV, hcells, dcells]; done))) | (refine call_F (xs := ?_) (xs' := ?_) [] ?_ ?_ ?_ ?_ ((again_ev al2 5 [113] 3 (l0 _ (by decide)) (l0 _ (by decide)) _).args_le ?_) ?_; rotate_left 2; (focus (simp only [Try.results29, Try.ntmps29, maxLen, Nat.reducePow, forall_eq', exists_eq', Prod.mk.injEq, e1, e2, e3, e4, e5, e6, al0, al1, al2, al3, alH, al7, zd, cameF, ackF, vcs, Nat.reduceAdd, Nat.reduceMul, Nat.reduceEqDiff, Nat.reduceLeDiff, Nat.reduceSub, Nat.reduceLT, Int.reduceToNat, Int.reduceLE, Int.reduceLT, Int.reduceAdd, Int.reduceSub, Int.reduceMul, Int.reduceNeg, reduceCtorEq, reduceIte, Int.reduceBEq, Int.reduceBNe, Int.reduceEq, Int.reduceNe, Nat.reduceBEq, Nat.reduceBNe, tys, plain_h, plain_d, List.length_map, List.getElem?_map, List.length_append, List.map_append, pick_false, pick_true, deskV, hcells, dcells] <;> exact rfl)); (focus (simp only [finL, V.fin, newName_nil, only_at, List.mem_cons, List.not_mem_nil, Try.results29, Try.ntmps29, maxLen, Nat.reducePow, forall_eq', exists_eq', Prod.mk.injEq, e1, e2, e3, e4, e5, e6, al0, al1, al2, al3, alH, al7, zd, cameF, ackF, vcs, Nat.reduceAdd, Nat.reduceMul, Nat.reduceEqDiff, Nat.reduceLeDiff, Nat.reduceSub, Nat.reduceLT, Int.reduceToNat, Int.reduceLE, Int.reduceLT, Int.reduceAdd, Int.reduceSub, Int.reduceMul, Int.reduceNeg, reduceCtorEq, reduceIte, Int.reduceBEq, Int.reduceBNe, Int.reduceEq, Int.reduceNe, Nat.reduceBEq, Nat.reduceBNe, tys, plain_h, plain_d, List.length_map, List.getElem?_map, List.length_append, List.map_append, pick_false, pick_true, deskV, hcells, dcells] <;> exact rfl)); (focus (simp only [newName_nil, only_at, List.mem_cons, List.not_mem_nil, Try.results29, Try.ntmps29, maxLen, Nat.reducePow, forall_eq', exists_eq', Prod.mk.injEq, e1, e2, e3, e4, e5, e6, al0, al1, al2, al3, alH, al7, zd, cameF, ackF, vcs, Nat.reduceAdd, Nat.reduceMul, Nat.reduceEqDiff, Nat.reduceLeDiff, Nat.reduceSub, Nat.reduceLT, Int.reduceToNat, Int.reduceLE, Int.reduceLT, Int.reduceAdd, Int.reduceSub, Int.reduceMul, Int.reduceNeg, reduceCtorEq, reduceIte, Int.reduceBEq, Int.reduceBNe, Int.reduceEq, Int.reduceNe, Nat.reduceBEq, Nat.reduceBNe, tys, plain_h, plain_d, List.length_map, List.getElem?_map, List.length_append, List.map_append, pick_false, pick_true, deskV, hcells, dcells] <;> omega)); (focus (simp only [List.mem_cons, List.not_mem_nil, forall_eq, forall_eq_or_imp, Try.results29, Try.ntmps29, maxLen, Nat.reducePow, forall_eq', exists_eq', Prod.mk.injEq, e1, e2, e3, e4, e5, e6, al0, al1, al2, al3, alH, al7, zd, cameF, ackF, vcs, Nat.reduceAdd, Nat.reduceMul, Nat.reduceEqDiff, Nat.reduceLeDiff, Nat.reduceSub, Nat.reduceLT, Int.reduceToNat, Int.reduceLE, Int.reduceLT, Int.reduceAdd, Int.reduceSub, Int.reduceMul, Int.reduceNeg, reduceCtorEq, reduceIte, Int.reduceBEq, Int.reduceBNe, Int.reduceEq, Int.reduceNe, Nat.reduceBEq, Nat.reduceBNe, tys, plain_h, plain_d, List.length_map, List.getElem?_map, List.length_append, List.map_append, pick_false, pick_true, deskV, hcells, dcells] <;> omega)); (focus (simp only [Try.results29, Try.ntmps29, maxLen, Nat.reducePow, forall_eq', exists_eq', Prod.mk.injEq, e1, e2, e3, e4, e5, e6, al0, al1, al2, al3, alH, al7, zd, cameF, ackF, vcs, Nat.reduceAdd, Nat.reduceMul, Nat.reduceEqDiff, Nat.reduceLeDiff, Nat.reduceSub, Nat.reduceLT, Int.reduceToNat, Int.reduceLE, Int.reduceLT, Int.reduceAdd, Int.reduceSub, Int.reduceMul, Int.reduceNeg, reduceCtorEq, reduceIte, Int.reduceBEq, Int.reduceBNe, Int.reduceEq, Int.reduceNe, Nat.reduceBEq, Nat.reduceBNe, tys, plain_h, plain_d, List.length_map, List.getElem?_map, List.length_append, List.map_append, pick_false, pick_true, deskV, hcells, dcells]; done))) | (refine call_FG (xs := ?_) (xs' := ?_) [] ?_ (fun _ => ?_) (fun _ => ?_) ?_ (fun _ => ((again_ev al2 5 [113] 3 (l0 _ (by decide)) (l0 _ (by decide)) _).args_le ?_)) ?_; rotate_left 2; (focus (simp only [Try.results29, Try.ntmps29, maxLen, Nat.reducePow, forall_eq', exists_eq', Prod.mk.injEq, e1, e2, e3, e4, e5, e6, al0, al1, al2, al3, alH, al7, zd, cameF, ackF, vcs, Nat.reduceAdd, Nat.reduceMul, Nat.reduceEqDiff, Nat.reduceLeDiff, Nat.reduceSub, Nat.reduceLT, Int.reduceToNat, Int.reduceLE, Int.reduceLT, Int.reduceAdd, Int.reduceSub, Int.reduceMul, Int.reduceNeg, reduceCtorEq, reduceIte, Int.reduceBEq, Int.reduceBNe, Int.reduceEq, Int.reduceNe, Nat.reduceBEq, Nat.reduceBNe, tys, plain_h, plain_d, List.length_map, List.getElem?_map, List.length_append, List.map_append, pick_false, pick_true, deskV, hcells, dcells] <;> exact rfl)); (focus (simp only [finL, V.fin, newName_nil, only_at, List.mem_cons, List.not_mem_nil, Try.results29, Try.ntmps29, maxLen, Nat.reducePow, forall_eq', exists_eq', Prod.mk.injEq, e1, e2, e3, e4, e5, e6, al0, al1, al2, al3, alH, al7, zd, cameF, ackF, vcs, Nat.reduceAdd, Nat.reduceMul, Nat.reduceEqDiff, Nat.reduceLeDiff, Nat.reduceSub, Nat.reduceLT, Int.reduceToNat, Int.reduceLE, Int.reduceLT, Int.reduceAdd, Int.reduceSub, Int.reduceMul, Int.reduceNeg, reduceCtorEq, reduceIte, Int.reduceBEq, Int.reduceBNe, Int.reduceEq, Int.reduceNe, Nat.reduceBEq, Nat.reduceBNe, tys, plain_h, plain_d, List.length_map, List.getElem?_map, List.length_append, List.map_append, pick_false, pick_true, deskV, hcells, dcells] <;> exact rfl)); (focus (simp only [newName_nil, only_at, List.mem_cons, List.not_mem_nil, Try.results29, Try.ntmps29, maxLen, Nat.reducePow, forall_eq', exists_eq', Prod.mk.injEq, e1, e2, e3, e4, e5, e6, al0, al1, al2, al3, alH, al7, zd, cameF, ackF, vcs, Nat.reduceAdd, Nat.reduceMul, Nat.reduceEqDiff, Nat.reduceLeDiff, Nat.reduceSub, Nat.reduceLT, Int.reduceToNat, Int.reduceLE, Int.reduceLT, Int.reduceAdd, Int.reduceSub, Int.reduceMul, Int.reduceNeg, reduceCtorEq, reduceIte, Int.reduceBEq, Int.reduceBNe, Int.reduceEq, Int.reduceNe, Nat.reduceBEq, Nat.reduceBNe, tys, plain_h, plain_d, List.length_map, List.getElem?_map, List.length_append, List.map_append, pick_false, pick_true, deskV, hcells, dcells] <;> omega)); (focus (simp only [List.mem_cons, List.not_mem_nil, forall_eq, forall_eq_or_imp, Try.results29, Try.ntmps29, maxLen, Nat.reducePow, forall_eq', exists_eq', Prod.mk.injEq, e1, e2, e3, e4, e5, e6, al0, al1, al2, al3, alH, al7, zd, cameF, ackF, vcs, Nat.reduceAdd, Nat.reduceMul, Nat.reduceEqDiff, Nat.reduceLeDiff, Nat.reduceSub, Nat.reduceLT, Int.reduceToNat, Int.reduceLE, Int.reduceLT, Int.reduceAdd, Int.reduceSub, Int.reduceMul, Int.reduceNeg, reduceCtorEq, reduceIte, Int.reduceBEq, Int.reduceBNe, Int.reduceEq, Int.reduceNe, Nat.reduceBEq, Nat.reduceBNe, tys, plain_h, plain_d, List.length_map, List.getElem?_map, List.length_append, List.map_append, pick_false, pick_true, deskV, hcells, dcells] <;> omega)); (focus (simp only [Try.results29, Try.ntmps29, maxLen, Nat.reducePow, forall_eq', exists_eq', Prod.mk.injEq, e1, e2, e3, e4, e5, e6, al0, al1, al2, al3, alH, al7, zd, cameF, ackF, vcs, Nat.reduceAdd, Nat.reduceMul, Nat.reduceEqDiff, Nat.reduceLeDiff, Nat.reduceSub, Nat.reduceLT, Int.reduceToNat, Int.reduceLE, Int.reduceLT, Int.reduceAdd, Int.reduceSub, Int.reduceMul, Int.reduceNeg, reduceCtorEq, reduceIte, Int.reduceBEq, Int.reduceBNe, Int.reduceEq, Int.reduceNe, Nat.reduceBEq, Nat.reduceBNe, tys, plain_h, plain_d, List.length_map, List.getElem?_map, List.length_append, List.map_append, pick_false, pick_true, deskV, hcells, dcells]; done))) | (refine call_F (xs := ?_) (xs' := ?_) [] ?_ ?_ ?_ ?_ ((add_ev al2 al7 (l0 _ (by decide)) (l0 _ (by decide)) _).args_le ?_) ?_; rotate_left 2; (focus (simp only [Try.results29, Try.ntmps29, maxLen, Nat.reducePow, forall_eq', exists_eq', Prod.mk.injEq, e1, e2, e3, e4, e5, e6, al0, al1, al2, al3, alH, al7, zd, cameF, ackF, vcs, Nat.reduceAdd, Nat.reduceMul, Nat.reduceEqDiff, Nat.reduceLeDiff, Nat.reduceSub, Nat.reduceLT, Int.reduceToNat, Int.reduceLE, Int.reduceLT, Int.reduceAdd, Int.reduceSub, Int.reduceMul, Int.reduceNeg, reduceCtorEq, reduceIte, Int.reduceBEq, Int.reduceBNe, Int.reduceEq, Int.reduceNe, Nat.reduceBEq, Nat.reduceBNe, tys, plain_h, plain_d, List.length_map, List.getElem?_map, List.length_append, List.map_append, pick_false, pick_true, deskV, hcells, dcells] <;> exact rfl)); (focus (simp only [finL, V.fin, newName_nil, only_at, List.mem_cons, List.not_mem_nil, Try.results29, Try.ntmps29, maxLen, Nat.reducePow, forall_eq', exists_eq', Prod.mk.injEq, e1, e2, e3, e4, e5, e6, al0, al1, al2, al3, alH, al7, zd, cameF, ackF, vcs, Nat.reduceAdd, Nat.reduceMul, Nat.reduceEqDiff, Nat.reduceLeDiff, Nat.reduceSub, Nat.reduceLT, Int.reduceToNat, Int.reduceLE, Int.reduceLT, Int.reduceAdd, Int.reduceSub, Int.reduceMul, Int.reduceNeg, reduceCtorEq, reduceIte, Int.reduceBEq, Int.reduceBNe, Int.reduceEq, Int.reduceNe, Nat.reduceBEq, Nat.reduceBNe, tys, plain_h, plain_d, List.length_map, List.getElem?_map, List.length_append, List.map_append, pick_false, pick_true, deskV, hcells, dcells] <;> exact rfl)); (focus (simp only [newName_nil, only_at, List.mem_cons, List.not_mem_nil, Try.results29, Try.ntmps29, maxLen, Nat.reducePow, forall_eq', exists_eq', Prod.mk.injEq, e1, e2, e3, e4, e5, e6, al0, al1, al2, al3, alH, al7, zd, cameF, ackF, vcs, Nat.reduceAdd, Nat.reduceMul, Nat.reduceEqDiff, Nat.reduceLeDiff, Nat.reduceSub, Nat.reduceLT, Int.reduceToNat, Int.reduceLE, Int.reduceLT, Int.reduceAdd, Int.reduceSub, Int.reduceMul, Int.reduceNeg, reduceCtorEq, reduceIte, Int.reduceBEq, Int.reduceBNe, Int.reduceEq, Int.reduceNe, Nat.reduceBEq, Nat.reduceBNe, tys, plain_h, plain_d, List.length_map, List.getElem?_map, List.length_append, List.map_append, pick_false, pick_true, deskV, hcells, dcells] <;> omega)); (focus (simp only [List.mem_cons, List.not_mem_nil, forall_eq, forall_eq_or_imp, Try.results29, Try.ntmps29, maxLen, Nat.reducePow, forall_eq', exists_eq', Prod.mk.injEq, e1, e2, e3, e4, e5, e6, al0, al1, al2, al3, alH, al7, zd, cameF, ackF, vcs, Nat.reduceAdd, Nat.reduceMul, Nat.reduceEqDiff, Nat.reduceLeDiff, Nat.reduceSub, Nat.reduceLT, Int.reduceToNat, Int.reduceLE, Int.reduceLT, Int.reduceAdd, Int.reduceSub, Int.reduceMul, Int.reduceNeg, reduceCtorEq, reduceIte, Int.reduceBEq, Int.reduceBNe, Int.reduceEq, Int.reduceNe, Nat.reduceBEq, Nat.reduceBNe, tys, plain_h, plain_d, List.length_map, List.getElem?_map, List.length_append, List.map_append, pick_false, pick_true, deskV, hcells, dcells] <;> omega)); (focus (simp only [Try.results29, Try.ntmps29, maxLen, Nat.reducePow, forall_eq', exists_eq', Prod.mk.injEq, e1, e2, e3, e4, e5, e6, al0, al1, al2, al3, alH, al7, zd, cameF, ackF, vcs, Nat.reduceAdd, Nat.reduceMul, Nat.reduceEqDiff, Nat.reduceLeDiff, Nat.reduceSub, Nat.reduceLT, Int.reduceToNat, Int.reduceLE, Int.reduceLT, Int.reduceAdd, Int.reduceSub, Int.reduceMul, Int.reduceNeg, reduceCtorEq, reduceIte, Int.reduceBEq, Int.reduceBNe, Int.reduceEq, Int.reduceNe, Nat.reduceBEq, Nat.reduceBNe, tys, plain_h, plain_d, List.length_map, List.getElem?_map, List.length_append, List.map_append, pick_false, pick_true, deskV, hcells, dcells]; done))) | (refine call_FG (xs := ?_) (xs' := ?_) [] ?_ (fun _ => ?_) (fun _ => ?_) ?_ (fun _ => ((add_ev al2 al7 (l0 _ (by decide)) (l0 _ (by decide)) _).args_le ?_)) ?_; rotate_left 2; (focus (simp only [Try.results29, Try.ntmps29, maxLen, Nat.reducePow, forall_eq', exists_eq', Prod.mk.injEq, e1, e2, e3, e4, e5, e6, al0, al1, al2, al3, alH, al7, zd, cameF, ackF, vcs, Nat.reduceAdd, Nat.reduceMul, Nat.reduceEqDiff, Nat.reduceLeDiff, Nat.reduceSub, Nat.reduceLT, Int.reduceToNat, Int.reduceLE, Int.reduceLT, Int.reduceAdd, Int.reduceSub, Int.reduceMul, Int.reduceNeg, reduceCtorEq, reduceIte, Int.reduceBEq, Int.reduceBNe, Int.reduceEq, Int.reduceNe, Nat.reduceBEq, Nat.reduceBNe, tys, plain_h, plain_d, List.length_map, List.getElem?_map, List.length_append, List.map_append, pick_false, pick_true, deskV, hcells, dcells] <;> exact rfl)); (focus (simp only [finL, V.fin, newName_nil, only_at, List.mem_cons, List.not_mem_nil, Try.results29, Try.ntmps29, maxLen, Nat.reducePow, forall_eq', exists_eq', Prod.mk.injEq, e1, e2, e3, e4, e5, e6, al0, al1, al2, al3, alH, al7, zd, cameF, ackF, vcs, Nat.reduceAdd, Nat.reduceMul, Nat.reduceEqDiff, Nat.reduceLeDiff, Nat.reduceSub, Nat.reduceLT, Int.reduceToNat, Int.reduceLE, Int.reduceLT, Int.reduceAdd, Int.reduceSub, Int.reduceMul, Int.reduceNeg, reduceCtorEq, reduceIte, Int.reduceBEq, Int.reduceBNe, Int.reduceEq, Int.reduceNe, Nat.reduceBEq, Nat.reduceBNe, tys, plain_h, plain_d, List.length_map, List.getElem?_map, List.length_append, List.map_append, pick_false, pick_true, deskV, hcells, dcells] <;> exact rfl)); (focus (simp only [newName_nil, only_at, List.mem_cons, List.not_mem_nil, Try.results29, Try.ntmps29, maxLen, Nat.reducePow, forall_eq', exists_eq', Prod.mk.injEq, e1, e2, e3, e4, e5, e6, al0, al1, al2, al3, alH, al7, zd, cameF, ackF, vcs, Nat.reduceAdd, Nat.reduceMul, Nat.reduceEqDiff, Nat.reduceLeDiff, Nat.reduceSub, Nat.reduceLT, Int.reduceToNat, Int.reduceLE, Int.reduceLT, Int.reduceAdd, Int.reduceSub, Int.reduceMul, Int.reduceNeg, reduceCtorEq, reduceIte, Int.reduceBEq, Int.reduceBNe, Int.reduceEq, Int.reduceNe, Nat.reduceBEq, Nat.reduceBNe, tys, plain_h, plain_d, List.length_map, List.getElem?_map, List.length_append, List.map_append, pick_false, pick_true, deskV, hcells, dcells] <;> omega)); (focus (simp only [List.mem_cons, List.not_mem_nil, forall_eq, forall_eq_or_imp, Try.results29, Try.ntmps29, maxLen, Nat.reducePow, forall_eq', exists_eq', Prod.mk.injEq, e1, e2, e3, e4, e5, e6, al0, al1, al2, al3, alH, al7, zd, cameF, ackF, vcs, Nat.reduceAdd, Nat.reduceMul, Nat.reduceEqDiff, Nat.reduceLeDiff, Nat.reduceSub, Nat.reduceLT, Int.reduceToNat, Int.reduceLE, Int.reduceLT, Int.reduceAdd, Int.reduceSub, Int.reduceMul, Int.reduceNeg, reduceCtorEq, reduceIte, Int.reduceBEq, Int.reduceBNe, Int.reduceEq, Int.reduceNe, Nat.reduceBEq, Nat.reduceBNe, tys, plain_h, plain_d, List.length_map, List.getElem?_map, List.length_append, List.map_append, pick_false, pick_true, deskV, hcells, dcells] <;> omega)); (focus (simp only [Try.results29, Try.ntmps29, maxLen, Nat.reducePow, forall_eq', exists_eq', Prod.mk.injEq, e1, e2, e3, e4, e5, e6, al0, al1, al2, al3, alH, al7, zd, cameF, ackF, vcs, Nat.reduceAdd, Nat.reduceMul, Nat.reduceEqDiff, Nat.reduceLeDiff, Nat.reduceSub, Nat.reduceLT, Int.reduceToNat, Int.reduceLE, Int.reduceLT, Int.reduceAdd, Int.reduceSub, Int.reduceMul, Int.reduceNeg, reduceCtorEq, reduceIte, Int.reduceBEq, Int.reduceBNe, Int.reduceEq, Int.reduceNe, Nat.reduceBEq, Nat.reduceBNe, tys, plain_h, plain_d, List.length_map, List.getElem?_map, List.length_append, List.map_append, pick_false, pick_true, deskV, hcells, dcells]; done))) | (refine call_F (xs := ?_) (xs' := ?_) [] ?_ ?_ ?_ ?_ ((tick_ev al2 (l0 _ (by decide)) (l0 _ (by decide)) _).args_le ?_) ?_; rotate_left 2; (focus (simp only [Try.results29, Try.ntmps29, maxLen, Nat.reducePow, forall_eq', exists_eq', Prod.mk.injEq, e1, e2, e3, e4, e5, e6, al0, al1, al2, al3, alH, al7, zd, cameF, ackF, vcs, Nat.reduceAdd, Nat.reduceMul, Nat.reduceEqDiff, Nat.reduceLeDiff, Nat.reduceSub, Nat.reduceLT, Int.reduceToNat, Int.reduceLE, Int.reduceLT, Int.reduceAdd, Int.reduceSub, Int.reduceMul, Int.reduceNeg, reduceCtorEq, reduceIte, Int.reduceBEq, Int.reduceBNe, Int.reduceEq, Int.reduceNe, Nat.reduceBEq, Nat.reduceBNe, tys, plain_h, plain_d, List.length_map, List.getElem?_map, List.length_append, List.map_append, pick_false, pick_true, deskV, hcells, dcells] <;> exact rfl)); (focus (simp only [finL, V.fin, newName_nil, only_at, List.mem_cons, List.not_mem_nil, Try.results29, Try.ntmps29, maxLen, Nat.reducePow, forall_eq', exists_eq', Prod.mk.injEq, e1, e2, e3, e4, e5, e6, al0, al1, al2, al3, alH, al7, zd, cameF, ackF, vcs, Nat.reduceAdd, Nat.reduceMul, Nat.reduceEqDiff, Nat.reduceLeDiff, Nat.reduceSub, Nat.reduceLT, Int.reduceToNat, Int.reduceLE, Int.reduceLT, Int.reduceAdd, Int.reduceSub, Int.reduceMul, Int.reduceNeg, reduceCtorEq, reduceIte, Int.reduceBEq, Int.reduceBNe, Int.reduceEq, Int.reduceNe, Nat.reduceBEq, Nat.reduceBNe, tys, plain_h, plain_d, List.length_map, List.getElem?_map, List.length_append, List.map_append, pick_false, pick_true, deskV, hcells, dcells] <;> exact rfl)); (focus (simp only [newName_nil, only_at, List.mem_cons, List.not_mem_nil, Try.results29, Try.ntmps29, maxLen, Nat.reducePow, forall_eq', exists_eq', Prod.mk.injEq, e1, e2, e3, e4, e5, e6, al0, al1, al2, al3, alH, al7, zd, cameF, ackF, vcs, Nat.reduceAdd, Nat.reduceMul, Nat.reduceEqDiff, Nat.reduceLeDiff, Nat.reduceSub, Nat.reduceLT, Int.reduceToNat, Int.reduceLE, Int.reduceLT, Int.reduceAdd, Int.reduceSub, Int.reduceMul, Int.reduceNeg, reduceCtorEq, reduceIte, Int.reduceBEq, Int.reduceBNe, Int.reduceEq, Int.reduceNe, Nat.reduceBEq, Nat.reduceBNe, tys, plain_h, plain_d, List.length_map, List.getElem?_map, List.length_append, List.map_append, pick_false, pick_true, deskV, hcells, dcells] <;> omega)); (focus (simp only [List.mem_cons, List.not_mem_nil, forall_eq, forall_eq_or_imp, Try.results29, Try.ntmps29, maxLen, Nat.reducePow, forall_eq', exists_eq', Prod.mk.injEq, e1, e2, e3, e4, e5, e6, al0, al1, al2, al3, alH, al7, zd, cameF, ackF, vcs, Nat.reduceAdd, Nat.reduceMul, Nat.reduceEqDiff, Nat.reduceLeDiff, Nat.reduceSub, Nat.reduceLT, Int.reduceToNat, Int.reduceLE, Int.reduceLT, Int.reduceAdd, Int.reduceSub, Int.reduceMul, Int.reduceNeg, reduceCtorEq, reduceIte, Int.reduceBEq, Int.reduceBNe, Int.reduceEq, Int.reduceNe, Nat.reduceBEq, Nat.reduceBNe, tys, plain_h, plain_d, List.length_map, List.getElem?_map, List.length_append, List.map_append, pick_false, pick_true, deskV, hcells, dcells] <;> omega)); (focus (simp only [Try.results29, Try.ntmps29, maxLen, Nat.reducePow, forall_eq', exists_eq', Prod.mk.injEq, e1, e2, e3, e4, e5, e6, al0, al1, al2, al3, alH, al7, zd, cameF, ackF, vcs, Nat.reduceAdd, Nat.reduceMul, Nat.reduceEqDiff, Nat.reduceLeDiff, Nat.reduceSub, Nat.reduceLT, Int.reduceToNat, Int.reduceLE, Int.reduceLT, Int.reduceAdd, Int.reduceSub, Int.reduceMul, Int.reduceNeg, reduceCtorEq, reduceIte, Int.reduceBEq, Int.reduceBNe, Int.reduceEq, Int.reduceNe, Nat.reduceBEq, Nat.reduceBNe, tys, plain_h, plain_d, List.length_map, List.getElem?_map, List.length_append, List.map_append, pick_false, pick_true, deskV, hcells, dcells]; done))) | (refine call_FG (xs := ?_) (xs' := ?_) [] ?_ (fun _ => ?_) (fun _ => ?_) ?_ (fun _ => ((tick_ev al2 (l0 _ (by decide)) (l0 _ (by decide)) _).args_le ?_)) ?_; rotate_left 2; (focus (simp only [Try.results29, Try.ntmps29, maxLen, Nat.reducePow, forall_eq', exists_eq', Prod.mk.injEq, e1, e2, e3, e4, e5, e6, al0, al1, al2, al3, alH, al7, zd, cameF, ackF, vcs, Nat.reduceAdd, Nat.reduceMul, Nat.reduceEqDiff, Nat.reduceLeDiff, Nat.reduceSub, Nat.reduceLT, Int.reduceToNat, Int.reduceLE, Int.reduceLT, Int.reduceAdd, Int.reduceSub, Int.reduceMul, Int.reduceNeg, reduceCtorEq, reduceIte, Int.reduceBEq, Int.reduceBNe, Int.reduceEq, Int.reduceNe, Nat.reduceBEq, Nat.reduceBNe, tys, plain_h, plain_d, List.length_map, List.getElem?_map, List.length_append, List.map_append, pick_false, pick_true, deskV, hcells, dcells] <;> exact rfl)); (focus (simp only [finL, V.fin, newName_nil, only_at, List.mem_cons, List.not_mem_nil, Try.results29, Try.ntmps29, maxLen, Nat.reducePow, forall_eq', exists_eq', Prod.mk.injEq, e1, e2, e3, e4, e5, e6, al0, al1, al2, al3, alH, al7, zd, cameF, ackF, vcs, Nat.reduceAdd, Nat.reduceMul, Nat.reduceEqDiff, Nat.reduceLeDiff, Nat.reduceSub, Nat.reduceLT, Int.reduceToNat, Int.reduceLE, Int.reduceLT, Int.reduceAdd, Int.reduceSub, Int.reduceMul, Int.reduceNeg, reduceCtorEq, reduceIte, Int.reduceBEq, Int.reduceBNe, Int.reduceEq, Int.reduceNe, Nat.reduceBEq, Nat.reduceBNe, tys, plain_h, plain_d, List.length_map, List.getElem?_map, List.length_append, List.map_append, pick_false, pick_true, deskV, hcells, dcells] <;> exact rfl)); (focus (simp only [newName_nil, only_at, List.mem_cons, List.not_mem_nil, Try.results29, Try.ntmps29, maxLen, Nat.reducePow, forall_eq', exists_eq', Prod.mk.injEq, e1, e2, e3, e4, e5, e6, al0, al1, al2, al3, alH, al7, zd, cameF, ackF, vcs, Nat.reduceAdd, Nat.reduceMul, Nat.reduceEqDiff, Nat.reduceLeDiff, Nat.reduceSub, Nat.reduceLT, Int.reduceToNat, Int.reduceLE, Int.reduceLT, Int.reduceAdd, Int.reduceSub, Int.reduceMul, Int.reduceNeg, reduceCtorEq, reduceIte, Int.reduceBEq, Int.reduceBNe, Int.reduceEq, Int.reduceNe, Nat.reduceBEq, Nat.reduceBNe, tys, plain_h, plain_d, List.length_map, List.getElem?_map, List.length_append, List.map_append, pick_false, pick_true, deskV, hcells, dcells] <;> omega)); (focus (simp only [List.mem_cons, List.not_mem_nil, forall_eq, forall_eq_or_imp, Try.results29, Try.ntmps29, maxLen, Nat.reducePow, forall_eq', exists_eq', Prod.mk.injEq, e1, e2, e3, e4, e5, e6, al0, al1, al2, al3, alH, al7, zd, cameF, ackF, vcs, Nat.reduceAdd, Nat.reduceMul, Nat.reduceEqDiff, Nat.reduceLeDiff, Nat.reduceSub, Nat.reduceLT, Int.reduceToNat, Int.reduceLE, Int.reduceLT, Int.reduceAdd, Int.reduceSub, Int.reduceMul, Int.reduceNeg, reduceCtorEq, reduceIte, Int.reduceBEq, Int.reduceBNe, Int.reduceEq, Int.reduceNe, Nat.reduceBEq, Nat.reduceBNe, tys, plain_h, plain_d, List.length_map, List.getElem?_map, List.length_append, List.map_append, pick_false, pick_true, deskV, hcells, dcells] <;> omega)); (focus (simp only [Try.results29, Try.ntmps29, maxLen, Nat.reducePow, forall_eq', exists_eq', Prod.mk.injEq, e1, e2, e3, e4, e5, e6, al0, al1, al2, al3, alH, al7, zd, cameF, ackF, vcs, Nat.reduceAdd, Nat.reduceMul, Nat.reduceEqDiff, Nat.reduceLeDiff, Nat.reduceSub, Nat.reduceLT, Int.reduceToNat, Int.reduceLE, Int.reduceLT, Int.reduceAdd, Int.reduceSub, Int.reduceMul, Int.reduceNeg, reduceCtorEq, reduceIte, Int.reduceBEq, Int.reduceBNe, Int.reduceEq, Int.reduceNe, Nat.reduceBEq, Nat.reduceBNe, tys, plain_h, plain_d, List.length_map, List.getElem?_map, List.length_append, List.map_append, pick_false, pick_true, deskV, hcells, dcells]; done))) | (refine call_F (xs := ?_) (xs' := ?_) [] ?_ ?_ ?_ ?_ ((ack_ev al3 4 (l0 _ (by decide)) (l0 _ (by decide)) _).args_le ?_) ?_; rotate_left 2; (focus (simp only [Try.results29, Try.ntmps29, maxLen, Nat.reducePow, forall_eq', exists_eq', Prod.mk.injEq, e1, e2, e3, e4, e5, e6, al0, al1, al2, al3, alH, al7, zd, cameF, ackF, vcs, Nat.reduceAdd, Nat.reduceMul, Nat.reduceEqDiff, Nat.reduceLeDiff, Nat.reduceSub, Nat.reduceLT, Int.reduceToNat, Int.reduceLE, Int.reduceLT, Int.reduceAdd, Int.reduceSub, Int.reduceMul, Int.reduceNeg, reduceCtorEq, reduceIte, Int.reduceBEq, Int.reduceBNe, Int.reduceEq, Int.reduceNe, Nat.reduceBEq, Nat.reduceBNe, tys, plain_h, plain_d, List.length_map, List.getElem?_map, List.length_append, List.map_append, pick_false, pick_true, deskV, hcells, dcells] <;> exact rfl)); (focus (simp only [finL, V.fin, newName_nil, only_at, List.mem_cons, List.not_mem_nil, Try.results29, Try.ntmps29, maxLen, Nat.reducePow, forall_eq', exists_eq', Prod.mk.injEq, e1, e2, e3, e4, e5, e6, al0, al1, al2, al3, alH, al7, zd, cameF, ackF, vcs, Nat.reduceAdd, Nat.reduceMul, Nat.reduceEqDiff, Nat.reduceLeDiff, Nat.reduceSub, Nat.reduceLT, Int.reduceToNat, Int.reduceLE, Int.reduceLT, Int.reduceAdd, Int.reduceSub, Int.reduceMul, Int.reduceNeg, reduceCtorEq, reduceIte, Int.reduceBEq, Int.reduceBNe, Int.reduceEq, Int.reduceNe, Nat.reduceBEq, Nat.reduceBNe, tys, plain_h, plain_d, List.length_map, List.getElem?_map, List.length_append, List.map_append, pick_false, pick_true, deskV, hcells, dcells] <;> exact rfl)); (focus (simp only [newName_nil, only_at, List.mem_cons, List.not_mem_nil, Try.results29, Try.ntmps29, maxLen, Nat.reducePow, forall_eq', exists_eq', Prod.mk.injEq, e1, e2, e3, e4, e5, e6, al0, al1, al2, al3, alH, al7, zd, cameF, ackF, vcs, Nat.reduceAdd, Nat.reduceMul, Nat.reduceEqDiff, Nat.reduceLeDiff, Nat.reduceSub, Nat.reduceLT, Int.reduceToNat, Int.reduceLE, Int.reduceLT, Int.reduceAdd, Int.reduceSub, Int.reduceMul, Int.reduceNeg, reduceCtorEq, reduceIte, Int.reduceBEq, Int.reduceBNe, Int.reduceEq, Int.reduceNe, Nat.reduceBEq, Nat.reduceBNe, tys, plain_h, plain_d, List.length_map, List.getElem?_map, List.length_append, List.map_append, pick_false, pick_true, deskV, hcells, dcells] <;> omega)); (focus (simp only [List.mem_cons, List.not_mem_nil, forall_eq, forall_eq_or_imp, Try.results29, Try.ntmps29, maxLen, Nat.reducePow, forall_eq', exists_eq', Prod.mk.injEq, e1, e2, e3, e4, e5, e6, al0, al1, al2, al3, alH, al7, zd, cameF, ackF, vcs, Nat.reduceAdd, Nat.reduceMul, Nat.reduceEqDiff, Nat.reduceLeDiff, Nat.reduceSub, Nat.reduceLT, Int.reduceToNat, Int.reduceLE, Int.reduceLT, Int.reduceAdd, Int.reduceSub, Int.reduceMul, Int.reduceNeg, reduceCtorEq, reduceIte, Int.reduceBEq, Int.reduceBNe, Int.reduceEq, Int.reduceNe, Nat.reduceBEq, Nat.reduceBNe, tys, plain_h, plain_d, List.length_map, List.getElem?_map, List.length_append, List.map_append, pick_false, pick_true, deskV, hcells, dcells] <;> omega)); (focus (simp only [Try.results29, Try.ntmps29, maxLen, Nat.reducePow, forall_eq', exists_eq', Prod.mk.injEq, e1, e2, e3, e4, e5, e6, al0, al1, al2, al3, alH, al7, zd, cameF, ackF, vcs, Nat.reduceAdd, Nat.reduceMul, Nat.reduceEqDiff, Nat.reduceLeDiff, Nat.reduceSub, Nat.reduceLT, Int.reduceToNat, Int.reduceLE, Int.reduceLT, Int.reduceAdd, Int.reduceSub, Int.reduceMul, Int.reduceNeg, reduceCtorEq, reduceIte, Int.reduceBEq, Int.reduceBNe, Int.reduceEq, Int.reduceNe, Nat.reduceBEq, Nat.reduceBNe, tys, plain_h, plain_d, List.length_map, List.getElem?_map, List.length_append, List.map_append, pick_false, pick_true, deskV, hcells, dcells]; done))) | (refine call_FG (xs := ?_) (xs' := ?_) [] ?_ (fun _ => ?_) (fun _ => ?_) ?_ (fun _ => ((ack_ev al3 4 (l0 _ (by decide)) (l0 _ (by decide)) _).args_le ?_)) ?_; rotate_left 2; (focus (simp only [Try.results29, Try.ntmps29, maxLen, Nat.reducePow, forall_eq', exists_eq', Prod.mk.injEq, e1, e2, e3, e4, e5, e6, al0, al1, al2, al3, alH, al7, zd, cameF, ackF, vcs, Nat.reduceAdd, Nat.reduceMul, Nat.reduceEqDiff, Nat.reduceLeDiff, Nat.reduceSub, Nat.reduceLT, Int.reduceToNat, Int.reduceLE, Int.reduceLT, Int.reduceAdd, Int.reduceSub, Int.reduceMul, Int.reduceNeg, reduceCtorEq, reduceIte, Int.reduceBEq, Int.reduceBNe, Int.reduceEq, Int.reduceNe, Nat.reduceBEq, Nat.reduceBNe, tys, plain_h, plain_d, List.length_map, List.getElem?_map, List.length_append, List.map_append, pick_false, pick_true, deskV, hcells, dcells] <;> exact rfl)); (focus (simp only [finL, V.fin, newName_nil, only_at, List.mem_cons, List.not_mem_nil, Try.results29, Try.ntmps29, maxLen, Nat.reducePow, forall_eq', exists_eq', Prod.mk.injEq, e1, e2, e3, e4, e5, e6, al0, al1, al2, al3, alH, al7, zd, cameF, ackF, vcs, Nat.reduceAdd, Nat.reduceMul, Nat.reduceEqDiff, Nat.reduceLeDiff, Nat.reduceSub, Nat.reduceLT, Int.reduceToNat, Int.reduceLE, Int.reduceLT, Int.reduceAdd, Int.reduceSub, Int.reduceMul, Int.reduceNeg, reduceCtorEq, reduceIte, Int.reduceBEq, Int.reduceBNe, Int.reduceEq, Int.reduceNe, Nat.reduceBEq, Nat.reduceBNe, tys, plain_h, plain_d, List.length_map, List.getElem?_map, List.length_append, List.map_append, pick_false, pick_true, deskV, hcells, dcells] <;> exact rfl)); (focus (simp only [newName_nil, only_at, List.mem_cons, List.not_mem_nil, Try.results29, Try.ntmps29, maxLen, Nat.reducePow, forall_eq', exists_eq', Prod.mk.injEq, e1, e2, e3, e4, e5, e6, al0, al1, al2, al3, alH, al7, zd, cameF, ackF, vcs, Nat.reduceAdd, Nat.reduceMul, Nat.reduceEqDiff, Nat.reduceLeDiff, Nat.reduceSub, Nat.reduceLT, Int.reduceToNat, Int.reduceLE, Int.reduceLT, Int.reduceAdd, Int.reduceSub, Int.reduceMul, Int.reduceNeg, reduceCtorEq, reduceIte, Int.reduceBEq, Int.reduceBNe, Int.reduceEq, Int.reduceNe, Nat.reduceBEq, Nat.reduceBNe, tys, plain_h, plain_d, List.length_map, List.getElem?_map, List.length_append, List.map_append, pick_false, pick_true, deskV, hcells, dcells] <;> omega)); (focus (simp only [List.mem_cons, List.not_mem_nil, forall_eq, forall_eq_or_imp, Try.results29, Try.ntmps29, maxLen, Nat.reducePow, forall_eq', exists_eq', Prod.mk.injEq, e1, e2, e3, e4, e5, e6, al0, al1, al2, al3, alH, al7, zd, cameF, ackF, vcs, Nat.reduceAdd, Nat.reduceMul, Nat.reduceEqDiff, Nat.reduceLeDiff, Nat.reduceSub, Nat.reduceLT, Int.reduceToNat, Int.reduceLE, Int.reduceLT, Int.reduceAdd, Int.reduceSub, Int.reduceMul, Int.reduceNeg, reduceCtorEq, reduceIte, Int.reduceBEq, Int.reduceBNe, Int.reduceEq, Int.reduceNe, Nat.reduceBEq, Nat.reduceBNe, tys, plain_h, plain_d, List.length_map, List.getElem?_map, List.length_append, List.map_append, pick_false, pick_true, deskV, hcells, dcells] <;> omega)); (focus (simp only [Try.results29, Try.ntmps29, maxLen, Nat.reducePow, forall_eq', exists_eq', Prod.mk.injEq, e1, e2, e3, e4, e5, e6, al0, al1, al2, al3, alH, al7, zd, cameF, ackF, vcs, Nat.reduceAdd, Nat.reduceMul, Nat.reduceEqDiff, Nat.reduceLeDiff, Nat.reduceSub, Nat.reduceLT, Int.reduceToNat, Int.reduceLE, Int.reduceLT, Int.reduceAdd, Int.reduceSub, Int.reduceMul, Int.reduceNeg, reduceCtorEq, reduceIte, Int.reduceBEq, Int.reduceBNe, Int.reduceEq, Int.reduceNe, Nat.reduceBEq, Nat.reduceBNe, tys, plain_h, plain_d, List.length_map, List.getElem?_map, List.length_append, List.map_append, pick_false, pick_true, deskV, hcells, dcells]; done))) | refine draw_end (by decide +kernel) ?_ | refine And.intro (by omega) ?_ | refine And.intro (fun hb => ?_) (fun hb => ?_) | fail); (all_goals (first | (refine Fin.pure ?_ ?_ ?_ <;> (try simp only [Try.results29, Try.ntmps29, e1, e2, e3, e4, e5, e6, al0, al1, al2, al3, alH, al7, zd, cameF, ackF, vcs, Nat.reduceAdd, Nat.reduceMul, Nat.reduceEqDiff, Nat.reduceLeDiff, Nat.reduceSub, Nat.reduceLT, Int.reduceToNat, Int.reduceLE, Int.reduceLT, Int.reduceAdd, Int.reduceSub, Int.reduceMul, Int.reduceNeg, reduceCtorEq, reduceIte, Int.reduceBEq, Int.reduceBNe, Int.reduceEq, Int.reduceNe, Nat.reduceBEq, Nat.reduceBNe, tys, plain_h, plain_d, List.length_map, List.getElem?_map, List.length_append, List.map_append, pick_false, pick_true, deskV, hcells, dcells]) <;> (try simp only [V.bool.injEq, V.int.injEq, V.str.injEq, V.agg.injEq, V.tup.injEq, V.sl.injEq, V.own.injEq, List.cons.injEq, and_true, true_and, and_self])) | skip)))
end Go.Proofs.Ytdbbnhmnlgfjoaa
