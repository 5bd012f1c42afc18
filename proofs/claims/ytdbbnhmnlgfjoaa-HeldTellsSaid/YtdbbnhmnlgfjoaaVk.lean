/-
  The machine of plain values: append is sound. No program in sight.
-/
import Derived.Test.YtdbbnhmnlgfjoaaVj
namespace Go.Proofs.Ytdbbnhmnlgfjoaa.Vm
set_option linter.unusedSimpArgs false
set_option linter.unusedVariables false
open Go Go.RowKit

section
variable {P : Program} {G : Nat → V} {X : Nat → Prop} {w0 : World} {I : Nat → Prop} {ρ : Names} {M : Mem} {w : World} {D : Nat → Prop}

/-- Rows one behind the other, then rows more. -/
theorem RowsAre.append {s : Nat} {r1 r2 : List (List V)} {c1 c2 : Array Value} (h1 : RowsAre ρ D w s r1 c1) (h2 : RowsAre ρ D w s r2 c2) (hn : c1.size = r1.length * s) : RowsAre ρ D w s (r1 ++ r2) (c1 ++ c2) := by
  refine ⟨by have := h2.1; simp [Nat.add_mul]; omega, ?_, ?_⟩
  · intro i row hi
    rw [List.getElem?_append] at hi
    split at hi
    · exact h1.2.1 _ _ hi
    · exact h2.2.1 _ _ hi
  · intro i j row u hi hj
    rw [List.getElem?_append] at hi
    split at hi
    · rename_i hlt
      obtain ⟨c, a1, a2⟩ := h1.2.2 i j row u hi hj
      have hj' : j < s := by rw [← h1.2.1 i row hi]; exact (List.getElem?_eq_some_iff.1 hj).1
      have := row_lt hlt hj'
      exact ⟨c, by rw [Array.getElem?_append_left (by omega)]; exact a1, a2⟩
    · rename_i hge
      obtain ⟨c, a1, a2⟩ := h2.2.2 _ j row u hi hj
      refine ⟨c, ?_, a2⟩
      have e : i * s = r1.length * s + (i - r1.length) * s := by rw [← Nat.add_mul]; congr 1; omega
      rw [Array.getElem?_append_right (by omega)]
      rw [← a1]; congr 1; omega
theorem RowsAre.more {s : Nat} {r : List (List V)} {c1 c2 : Array Value} (h : RowsAre ρ D w s r c1) : RowsAre ρ D w s r (c1 ++ c2) := by
  refine ⟨by have := h.1; simp; omega, h.2.1, fun i j row u hi hj => ?_⟩
  obtain ⟨c, a1, a2⟩ := h.2.2 i j row u hi hj
  have hlt := (Array.getElem?_eq_some_iff.1 a1).1
  exact ⟨c, by rw [Array.getElem?_append_left hlt]; exact a1, a2⟩
theorem dst_form {s : V} {cs : Value} (hs : Is ρ D w s cs) {sz : Nat} {x : V} (hsrc : srcOk M sz s) (hd : dstOk M x s) :
    ∃ A c, cs = .slice A (rowsV M s).length c ∧ (rowsV M s).length ≤ c ∧ (((rowsV M s).length + (rowsV M x).length ≤ c) → (c = 0 ∧ (∀ nm lo n, s = .own nm lo n → n = 0)) ∨ ∃ nm lo n l, s = .own nm lo n ∧ ρ nm = some l ∧ lo + c ≤ l.tot ∧ A = some ⟨l.b, l.o + lo * l.sz, none⟩) := by
  cases s <;> simp only [srcOk] at hsrc <;> try (exact hsrc.elim)
  case str => exact hd.elim
  case nils =>
    cases hs
    exact ⟨none, 0, rfl, Nat.le_refl _, fun _ => .inl ⟨rfl, fun _ _ _ e => by cases e⟩⟩
  case sl t sz' rows =>
    obtain ⟨rfl, h2⟩ := hd
    cases hs with
    | sl0 ht => exact ⟨_, _, rfl, Nat.zero_le _, fun _ => .inl ⟨ht rfl, fun _ _ _ e => by cases e⟩⟩
    | sl cv hc ht hD hb hr hxx hu =>
      refine ⟨_, _, rfl, hc, fun hroom => ?_⟩
      have hc' := ht rfl
      have e : rowsV M (.sl true sz' rows) = rows := rfl
      rcases h2 with rfl | h2
      · exact .inl ⟨hc', fun _ _ _ e => by cases e⟩
      · exfalso
        have : 0 < (rowsV M x).length := List.length_pos_iff.2 h2
        rw [e] at hroom
        omega
  case own nm lo n =>
    obtain ⟨hM, hsz, hle⟩ := hsrc
    have hlen : (rowsV M (.own nm lo n)).length = n := by simp only [rowsV]; simp; omega
    rw [hlen]
    cases hs with
    | own0 => exact ⟨_, 0, rfl, Nat.le_refl _, fun _ => .inl ⟨rfl, fun _ _ _ e => by cases e; rfl⟩⟩
    | own hl hlc hnc => exact ⟨_, _, rfl, hnc, fun _ => .inr ⟨_, _, _, _, rfl, hl, hlc, rfl⟩⟩
theorem append_sound (h : Rel G X w0 I ρ M w) {nm : Nat} (hM : M nm = none) (hρ : ρ nm = none) {t t2 ty : TypeId} {s x : V} {cs cx : Value} (hs : Is ρ (Dom X ρ M) w s cs) (hx : Is ρ (Dom X ρ M) w x cx) (hok : appendOk P t t2 M s x) :
    ∃ c w', (Builtin.append_ #[t, t2] ty #[cs, cx]).run P w = .ok c w' ∧ Steps1 G X w0 I ρ M w nm (appendV M nm s x) (appendM P t M nm s x) c w' := by
  obtain ⟨hk, hok⟩ := hok
  cases hel : elInfo P t with
  | none => rw [hel] at hok; exact hok.elim
  | some y =>
    obtain ⟨zc, bytes⟩ := y
    rw [hel] at hok
    obtain ⟨hs1, hx1, hd, hone, h63, hbytes⟩ := hok
    obtain ⟨e, i, z, hu, hi, hz, hzs, hpos, hzc, hzl, hbi⟩ := elInfo_spec hel
    subst hbi
    rw [hzl] at hs1 hx1
    have hK : appendK P t M s x = ⟨i.size, rowsV M s ++ rowsV M x⟩ := by simp only [appendK, hel, hzl]
    obtain ⟨A, c, rfl, hnc, hform⟩ := dst_form hs hs1 hd
    obtain ⟨xl, xarr, xf, xs, xr⟩ := src_sound (P := P) h hpos hx hx1
    have hM2 : ∀ y k, appendM P t M nm s x y = some k → (M.put nm (some (appendK P t M s x))) y = some k := fun y k hy => by
      unfold appendM at hy
      by_cases e : y = nm
      · subst e; rw [Mem.put_same] at hy ⊢; exact hy
      · rw [Mem.put_ne _ _ e] at hy ⊢
        split at hy
        · rename_i ns _ _
          by_cases e2 : y = ns
          · subst e2; rw [Mem.put_same] at hy; cases hy
          · rwa [Mem.put_ne _ _ e2] at hy
        · exact hy
    have hMnm : appendM P t M nm s x nm = some (appendK P t M s x) := by unfold appendM; rw [Mem.put_same]
    by_cases hroom : (rowsV M s).length + (rowsV M x).length ≤ c
    · rcases hform hroom with ⟨rfl, hn0⟩ | ⟨ns, lo, n, l, rfl, hl, hlc, rfl⟩
      · -- nothing, onto nothing
        have hm : rowsV M x = [] := List.eq_nil_of_length_eq_zero (by omega)
        have hn : rowsV M s = [] := List.eq_nil_of_length_eq_zero (by omega)
        have hxa : xarr = #[] := by
          rw [hm] at xs; simp at xs; exact xs
        subst hxa
        have hrun := run_append_room (P := P) (t2 := t2) (ty := ty) hu hi hk (A := A) (n := (rowsV M s).length) (c := 0) xl xf hroom (w' := w) (fun a _ => by simp [storeCells]) (fun _ => rfl)
        refine ⟨_, w, hrun, ρ, ?_⟩
        rw [hm, hn] at hK
        obtain ⟨r1, r2⟩ := h.ghost hM hρ i.size
        have hK' : appendK P t M s x = ⟨i.size, []⟩ := hK
        rw [hK'] at hM2
        obtain ⟨r3, r4⟩ := r1.drop hM2
        refine ⟨r3, r2.trans r4, ?_, fun _ _ => rfl⟩
        simp only [appendV, hm, hn, List.length_nil, Nat.add_zero]
        exact .own0
      · -- there is room
        obtain ⟨hMn, hsz, hle⟩ := hs1
        obtain ⟨kb, hkb⟩ := Option.isSome_iff_exists.1 hMn
        have hro : rowsOf M ns = kb.rows := by rw [rowsOf, hkb]
        have hrs : rowsV M (.own ns lo n) = (kb.rows.drop lo).take n := by simp only [rowsV, hro]
        have hlen : (rowsV M (.own ns lo n)).length = n := by simp only [rowsV]; simp; omega
        have hls := loc_sz h hMn hl
        rw [hsz] at hls
        have hne : ns ≠ nm := fun e => by rw [e, hM] at hMn; cases hMn
        rcases h.live ns kb hkb with ⟨_, a2⟩ | ⟨l2, a1, a2, a3, cs, e2, a4, a5, a6, a7, a8, a9⟩
        · rw [hl] at a2; cases a2
        rw [hl] at a1; cases a1
        rw [hlen] at hroom hnc
        generalize hmm : (rowsV M x).length = m at *
        have hfit : l.o + lo * l.sz + n * i.size + xarr.size ≤ cs.size := by
          have q1 : (lo + (n + m)) * l.sz ≤ l.tot * l.sz := Nat.mul_le_mul_right _ (by omega)
          rw [Nat.add_mul, Nat.add_mul] at q1
          rw [xs, ← hls]; omega
        have hcell1 : ∀ u ∈ xarr.toList, u.oneCell' = true := fun u hu => by
          obtain ⟨k, hk, rfl⟩ := List.getElem_of_mem hu
          have hk' : k < m * i.size := by simpa [xs] using hk
          have q1 : k / i.size < (rowsV M x).length := by rw [hmm]; exact Nat.div_lt_of_lt_mul (by rwa [Nat.mul_comm])
          have q2 := xr.2.1 _ _ (List.getElem?_eq_getElem q1)
          have q3 : k % i.size < ((rowsV M x)[k / i.size]).length := by rw [q2]; exact Nat.mod_lt _ hpos
          obtain ⟨c', q4, q5⟩ := xr.2.2 _ _ _ _ (List.getElem?_eq_getElem q1) (List.getElem?_eq_getElem q3)
          have q6 : k / i.size * i.size + k % i.size = k := by rw [Nat.mul_comm]; exact Nat.div_add_mod _ _
          rw [q6] at q4
          have q7 : ((rowsV M x)[k / i.size])[k % i.size].one = true := by
            rw [List.all_eq_true] at hone
            have := hone _ (List.getElem_mem q1)
            rw [List.all_eq_true] at this
            exact this _ (List.getElem_mem q3)
          have q8 := (q5.one q7).1
          have q9 : xarr.toList[k] = c' := by
            have := Array.getElem?_eq_getElem (xs := xarr) (i := k) (by rw [xs]; exact hk')
            rw [q4] at this
            simpa using this.symm
          rw [q9]; exact q8
        have hst := run_storeCells_at (P := P) l.b (l.o + lo * l.sz + n * i.size) e2 xarr.toList 0 cs w a4 (by simpa using hfit) hcell1
        have hrun := run_append_room (P := P) (t2 := t2) (ty := ty) hu hi hk (A := some ⟨l.b, l.o + lo * l.sz, none⟩) (n := n) (c := c) xl xf hroom (fun a ha => by cases ha; rw [Addr.add_mid]; exact hst) (fun ha => by cases ha)
        rw [hlen]
        refine ⟨_, _, hrun, ρ.put nm ⟨l.b, l.o + lo * l.sz, l.sz, c⟩, ?_⟩
        have hnr : ∀ y q, ρ y = some q → y ≠ nm := fun y q hy e => by subst e; rw [hρ] at hy; cases hy
        have hMs : ∀ y, y ≠ nm → (appendM P t M nm (.own ns lo n) x y).isSome = true → (M y).isSome = true ∧ y ≠ ns := fun y hy hs => by
          simp only [appendM, Mem.put_ne _ _ hy] at hs
          by_cases e : y = ns
          · subst e; rw [Mem.put_same] at hs; cases hs
          · rw [Mem.put_ne _ _ e] at hs; exact ⟨hs, e⟩
        have hm : Moves ρ M w (ρ.put nm ⟨l.b, l.o + lo * l.sz, l.sz, c⟩) (appendM P t M nm (.own ns lo n) x) (w.setRow l.b (cs.toList.take (l.o + lo * l.sz + n * i.size + 0) ++ xarr.toList ++ cs.toList.drop (l.o + lo * l.sz + n * i.size + 0 + xarr.toList.length)).toArray) := by
          refine ⟨fun y q hy => by rw [Names.put_ne _ _ (hnr y q hy)]; exact hy, by simp, rfl, rfl, rfl, fun b _ hb => setRow_other _ _ _ _ (fun e => hb ns l hMn hl e.symm), fun y q b1 b2 _ => ?_⟩
          by_cases e : y = nm
          · subst e; rw [Names.put_same] at b2; cases b2
            exact ⟨ns, l, hMn, hl, rfl⟩
          · rw [Names.put_ne _ _ e] at b2
            exact ⟨y, q, (hMs y e b1).1, b2, rfl⟩
        refine ⟨h.move hm ?_ ?_, hm, ?_, fun y hy => Names.put_ne _ _ hy⟩
        · intro y y' q q' b1 b2 b3 b4 b5
          by_cases ey : y = nm
          · subst ey
            by_cases ey' : y' = y
            · exact ey'.symm
            · rw [Names.put_same] at b3; cases b3
              rw [Names.put_ne _ _ ey'] at b4
              exact absurd (h.inj ns y' l q' hMn (hMs y' ey' b2).1 hl b4 b5) (hMs y' ey' b2).2.symm
          · rw [Names.put_ne _ _ ey] at b3
            by_cases ey' : y' = nm
            · subst ey'
              rw [Names.put_same] at b4; cases b4
              exact absurd (h.inj y ns q l (hMs y ey b1).1 hMn b3 hl b5) (hMs y ey b1).2
            · rw [Names.put_ne _ _ ey'] at b4
              exact h.inj y y' q q' (hMs y ey b1).1 (hMs y' ey' b2).1 b3 b4 b5
        · intro y k hy
          by_cases ey : y = nm
          · subst ey
            rw [hMnm, hK] at hy; cases hy
            refine .inr (.inr ⟨_, Names.put_same _ _ _, a2, a3, _, e2, setRow_heap w l.b cs _ e2 _ a4, hls.symm, ?_, ?_, ?_, ?_⟩)
            · rw [List.length_append, hlen, hmm]; exact hroom
            · have q1 : (lo + c) * l.sz ≤ l.tot * l.sz := Nat.mul_le_mul_right _ hlc
              rw [Nat.add_mul] at q1
              simp only [List.size_toArray, Nat.add_zero, List.length_append, List.length_take, List.length_drop, Array.length_toList]; omega
            · intro i' row hi'
              rw [List.getElem?_append] at hi'
              split at hi'
              · rw [hrs, List.getElem?_take] at hi'
                split at hi'
                · rw [List.getElem?_drop] at hi'; exact a8 _ row hi'
                · cases hi'
              · rw [hls]; exact xr.2.1 _ row hi'
            · intro i' j' row u hi' hj'
              have hget := spliceL_get (row := cs.toList) (j := l.o + lo * l.sz + n * i.size) (cs := xarr.toList) (by simpa using hfit)
              have hget' : ∀ q, (cs.toList.take (l.o + lo * l.sz + n * i.size + 0) ++ xarr.toList ++ cs.toList.drop (l.o + lo * l.sz + n * i.size + 0 + xarr.toList.length)).toArray[q]? = if q < l.o + lo * l.sz + n * i.size then cs[q]? else if q < l.o + lo * l.sz + n * i.size + xarr.size then xarr[q - (l.o + lo * l.sz + n * i.size)]? else cs[q]? := fun q => by
                simpa [spliceL] using hget q
              rw [hget']
              rw [List.getElem?_append] at hi'
              rw [hlen] at hi'
              split at hi'
              · rename_i hin
                rw [hrs, List.getElem?_take, if_pos hin, List.getElem?_drop] at hi'
                have hj2 : j' < l.sz := by rw [← a8 _ row hi']; exact (List.getElem?_eq_some_iff.1 hj').1
                obtain ⟨cv, c1, c2⟩ := a9 _ j' row u hi' hj'
                refine ⟨cv, ?_, hm.is c2⟩
                have q1 := row_lt hin hj2
                have q2 : (lo + i') * l.sz = lo * l.sz + i' * l.sz := Nat.add_mul _ _ _
                show (if l.o + lo * l.sz + i' * l.sz + j' < _ then _ else _) = _
                rw [if_pos (show l.o + lo * l.sz + i' * l.sz + j' < l.o + lo * l.sz + n * i.size by rw [← hls]; omega), ← c1, q2]
                congr 1
                show l.o + lo * l.sz + i' * l.sz + j' = _
                omega
              · rename_i hin
                have hj2 : j' < i.size := by rw [← xr.2.1 _ row hi']; exact (List.getElem?_eq_some_iff.1 hj').1
                obtain ⟨cv, c1, c2⟩ := xr.2.2 _ j' row u hi' hj'
                refine ⟨cv, ?_, hm.is c2⟩
                have hi2 : i' - n < m := by rw [← hmm]; exact (List.getElem?_eq_some_iff.1 hi').1
                have q1 := row_lt hi2 hj2
                have q2 : i' * i.size = n * i.size + (i' - n) * i.size := by rw [← Nat.add_mul]; congr 1; omega
                show (if l.o + lo * l.sz + i' * l.sz + j' < _ then _ else _) = _
                rw [if_neg (show ¬ (l.o + lo * l.sz + i' * l.sz + j' < l.o + lo * l.sz + n * i.size) by rw [hls]; omega), if_pos (show l.o + lo * l.sz + i' * l.sz + j' < l.o + lo * l.sz + n * i.size + xarr.size by rw [hls, xs]; omega), ← c1]
                congr 1
                show l.o + lo * l.sz + i' * l.sz + j' - (l.o + lo * l.sz + n * i.size) = _
                rw [hls]; omega
          · have hy' := hM2 y k hy
            rw [Mem.put_ne _ _ ey] at hy'
            have hns := (hMs y ey (by rw [hy]; rfl)).2
            refine .inl ⟨hy', fun hn => by rw [Names.put_ne _ _ ey]; exact hn, fun q hq => setRow_other _ _ _ _ (fun e => hns (h.inj y ns q l (by rw [hy']; rfl) hMn hq hl e))⟩
        · simp only [appendV, hlen, hmm]
          have := Is.own (ρ := ρ.put nm ⟨l.b, l.o + lo * l.sz, l.sz, c⟩) (D := Dom X (ρ.put nm ⟨l.b, l.o + lo * l.sz, l.sz, c⟩) (appendM P t M nm (.own ns lo n) x)) (w := w.setRow l.b (cs.toList.take (l.o + lo * l.sz + n * i.size + 0) ++ xarr.toList ++ cs.toList.drop (l.o + lo * l.sz + n * i.size + 0 + xarr.toList.length)).toArray) (nm := nm) (lo := 0) (n := n + m) (c := c) (Names.put_same _ _ _) (by simp) hroom
          simpa using this
    · -- a new block
      obtain ⟨d1, d2⟩ := h.draw (w.drawn + 1)
      have hs' := d2.is hs
      have hx' := d2.is hx
      obtain ⟨ol, oarr, of', os, or'⟩ := src_sound (P := P) d1 hpos hs' hs1
      obtain ⟨nl, narr, nf, nss, nr⟩ := src_sound (P := P) d1 hpos hx' hx1
      have hrun := run_append_more (P := P) (t2 := t2) (ty := ty) hu hi hz hk (A := A) (n := (rowsV M s).length) (c := c) xl of' nf (by omega) h63 hbytes
      have hge := grownCap_ge w ((rowsV M s).length + (rowsV M x).length) c e
      have hrows := ((or'.append nr os).more (c2 := Builtin.zeroCells z.cells (grownCap w ((rowsV M s).length + (rowsV M x).length) c e - ((rowsV M s).length + (rowsV M x).length))))
      obtain ⟨r1, r2⟩ := d1.alloc hM hρ (oarr ++ narr ++ Builtin.zeroCells z.cells (grownCap w ((rowsV M s).length + (rowsV M x).length) c e - ((rowsV M s).length + (rowsV M x).length))) e ⟨i.size, rowsV M s ++ rowsV M x⟩ (grownCap w ((rowsV M s).length + (rowsV M x).length) c e)
        (by simpa using hge) (by
          simp only [Array.size_append, size_zeroCells, os, nss, hzs, ← Nat.add_mul]
          exact Nat.mul_le_mul_right _ (by omega)) hrows.2.1 hrows.2.2
      rw [hK] at hM2
      obtain ⟨r3, r4⟩ := r1.drop hM2
      refine ⟨_, _, hrun, _, r3, (d2.trans r2).trans r4, ?_, fun y hy => Names.put_ne _ _ hy⟩
      simp only [appendV]
      have := Is.own (ρ := ρ.put nm ⟨w.heap.size, 0, i.size, grownCap w ((rowsV M s).length + (rowsV M x).length) c e⟩) (D := Dom X (ρ.put nm ⟨w.heap.size, 0, i.size, grownCap w ((rowsV M s).length + (rowsV M x).length) c e⟩) (appendM P t M nm s x))
        (w := w.drew.alloc (.cells (oarr ++ narr ++ Builtin.zeroCells z.cells (grownCap w ((rowsV M s).length + (rowsV M x).length) c e - ((rowsV M s).length + (rowsV M x).length))) e)) (nm := nm) (lo := 0) (n := (rowsV M s).length + (rowsV M x).length) (c := grownCap w ((rowsV M s).length + (rowsV M x).length) c e) (Names.put_same _ _ _) (by simp) hge
      simpa using this
end
end Go.Proofs.Ytdbbnhmnlgfjoaa.Vm
