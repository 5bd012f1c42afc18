/-
  Texts joined: XYq.
-/
import Derived.Test.YtnnlicidlidclaaMv
/-
  Layer 27: WindowOrder: what is so at every round. (No program in sight.)
-/
namespace Go.Proofs.Ytnnlicidlidclaa
set_option linter.unusedSimpArgs false
set_option linter.unusedVariables false
open Go Go.RowKit Go.Proofs.Ytnnlicidlidclaa.Vm

theorem eAll_hi {hi hi' : Int} (h : hi ≤ hi') : ∀ {a : List Ea} {l : Int}, eAll hi l a = true → eAll hi' l a = true
  | [], _, _ => rfl
  | x :: a, l, ha => by
    simp only [eAll, Bool.and_eq_true, inRange, decide_eq_true_eq] at ha ⊢
    exact ⟨⟨ha.1.1, ha.1.2.1, by omega⟩, eAll_hi h ha.2⟩
/-- A window on its way, and all that were kept. -/
structure Ki (first size : Int) (w : Wn) (K : List Ea) : Prop where
  may : w.may = true
  size : w.size = size
  low : first ≤ w.last
  sub : ∀ y ∈ w.early, y ∈ K
  conn : ∀ y ∈ K, y.conn = 0
  old : ∀ y ∈ K, y.rid ≤ w.last ∨ y ∈ w.early
  dis : K.Pairwise (fun a b => a.rid ≠ b.rid)
theorem set_same {α : Type} {l : List α} {n : Nat} {y : α} (h : l[n]? = some y) : l.set n y = l := by
  obtain ⟨hn, rfl⟩ := List.getElem?_eq_some_iff.1 h
  exact List.set_getElem_self hn
theorem Ki.come {first size : Int} {w : Wn} {K : List Ea} (h : Ki first size w K) {x : Ea} (hx : x.may = true) (hc : x.conn = 0) :
    ∃ w' kind old, comeR w x = ((w', kind, old), 0) ∧ ((w' = w ∧ (kind == 1) = false ∧ (kind != 1) = true ∧ ((kind == 3) != decide (x.rid < w.last + 1)) = false) ∨
      (kind = 1 ∧ w.last < x.rid ∧ x.rid ≤ w.last + w.size ∧ w'.last = w.last ∧ Ki first size w' (K ++ [x]))) := by
  have hcr : comeR w x = (cameR w x, 0) := by rw [comeR, if_pos h.may, if_pos hx]
  by_cases h1 : x.rid ≤ w.last
  · refine ⟨w, 3, 0, by rw [hcr, cameR, if_pos h1], .inl ⟨rfl, rfl, rfl, ?_⟩⟩
    rw [decide_eq_true (show x.rid < w.last + 1 by omega)]; rfl
  · have hd : decide (x.rid < w.last + 1) = false := decide_eq_false (by omega)
    by_cases h2 : w.last + w.size < x.rid
    · exact ⟨w, 0, 0, by rw [hcr, cameR, if_neg h1, if_pos h2], .inl ⟨rfl, rfl, rfl, by rw [hd]; rfl⟩⟩
    · cases hf : w.early.findIdx? (isE x.rid) with
      | some n =>
        cases hy : w.early[n]? with
        | none => exact ⟨w, 0, 0, by rw [hcr, cameR, if_neg h1, if_neg h2, hf]; simp only [hy], .inl ⟨rfl, rfl, rfl, by rw [hd]; rfl⟩⟩
        | some y =>
          by_cases hb : (y.body == x.body) = true
          · have hyc : y.conn = 0 := h.conn y (h.sub y (List.mem_of_getElem? hy))
            refine ⟨w, 2, y.conn, ?_, .inl ⟨rfl, rfl, rfl, by rw [hd]; rfl⟩⟩
            rw [hcr, cameR, if_neg h1, if_neg h2, hf]
            simp only [hy, hb, if_true, hc]
            have : (⟨y.rid, y.body, 0, y.left⟩ : Ea) = y := by rw [← hyc]
            rw [this, set_same hy]
          · exact ⟨w, 0, 0, by rw [hcr, cameR, if_neg h1, if_neg h2, hf]; simp only [hy, hb, if_false, Bool.false_eq_true], .inl ⟨rfl, rfl, rfl, by rw [hd]; rfl⟩⟩
      | none =>
        have hcam : comeR w x = (({ w with early := w.early.filter (lowE x.rid) ++ x :: w.early.filter (highE x.rid) }, 1, 0), 0) := by
          rw [hcr, cameR, if_neg h1, if_neg h2, hf]
        obtain ⟨B, C, hk, hcc⟩ := kept_of (w := w) (x := x) (by rw [hcam]) (by rw [hcam])
        refine ⟨_, 1, 0, hcc, .inr ⟨rfl, hk.lo, hk.hi, rfl, ?_⟩⟩
        have hany : w.early.any (isE x.rid) = false := by
          rw [List.findIdx?_eq_none_iff] at hf
          rw [List.any_eq_false]; intro y hy; simpa using hf y hy
        have hm' := h.may
        simp only [Wn.may, Bool.and_eq_true] at hm'
        obtain ⟨hord, _⟩ := eAll_ord hm'.2
        have hs : w.early = w.early.filter (lowE x.rid) ++ w.early.filter (highE x.rid) := by
          rw [← atE_take hord, ← atE_drop hord hany, List.take_append_drop]
        have he : B ++ x :: C = w.early.filter (lowE x.rid) ++ x :: w.early.filter (highE x.rid) := by
          rw [hcam] at hcc
          have := congrArg (fun q => q.1.1.early) hcc
          exact this.symm
        have mem : ∀ y, y ∈ B ++ x :: C ↔ y = x ∨ y ∈ w.early := fun y => by
          rw [he, List.mem_append, List.mem_cons]
          constructor
          · rintro (g | g | g)
            · exact .inr (List.mem_filter.1 g).1
            · exact .inl g
            · exact .inr (List.mem_filter.1 g).1
          · rintro (g | g)
            · exact .inr (.inl g)
            · rw [hs, List.mem_append] at g
              rcases g with g | g
              · exact .inl g
              · exact .inr (.inr g)
        refine ⟨hk.may hx rfl, h.size, h.low, fun y hy => ?_, fun y hy => ?_, fun y hy => ?_, ?_⟩
        · rw [List.mem_append, List.mem_singleton]
          rcases (mem y).1 hy with g | g
          · exact .inr g
          · exact .inl (h.sub y g)
        · rcases List.mem_append.1 hy with g | g
          · exact h.conn y g
          · rw [List.mem_singleton.1 g]; exact hc
        · rcases List.mem_append.1 hy with g | g
          · rcases h.old y g with g | g
            · exact .inl g
            · exact .inr ((mem y).2 (.inr g))
          · exact .inr ((mem y).2 (.inl (List.mem_singleton.1 g)))
        · rw [List.pairwise_append]
          refine ⟨h.dis, List.pairwise_singleton .., fun a ha b hb => ?_⟩
          rw [List.mem_singleton.1 hb]
          intro e
          rcases h.old a ha with g | g
          · have := hk.lo; omega
          · rw [List.any_eq_false] at hany
            exact hany a g (by simpa [isE] using e)
theorem Ki.turn {first size : Int} {w : Wn} {K : List Ea} (h : Ki first size w K) {t : Ea} {r : List Ea} (he : w.early = t :: r) (ht : t.rid = w.last + 1) : Ki first size ⟨t.rid, w.size, r⟩ K := by
  have hm := h.may
  simp only [Wn.may, Bool.and_eq_true, he, eAll] at hm
  obtain ⟨m1, ⟨m2, m3⟩, m4⟩ := hm
  have m1' := m1
  simp only [Wn.head, Bool.and_eq_true] at m1'
  have m2' := m2
  simp only [Ea.may, Bool.and_eq_true] at m2'
  refine ⟨?_, h.size, by have := h.low; simp only; omega, fun y hy => h.sub y (by rw [he]; exact List.mem_cons_of_mem _ hy), h.conn, fun y hy => ?_, h.dis⟩
  · simp only [Wn.may, Wn.head, m2'.1.1.1, m1'.2, Bool.true_and, Bool.and_true]
    exact eAll_hi (by omega) m4
  · rcases h.old y hy with g | g
    · exact .inl (by simp only; omega)
    · rw [he] at g
      rcases List.mem_cons.1 g with rfl | g
      · exact .inl (Int.le_refl _)
      · exact .inr g
theorem Ki.start {first size : Int} (h1 : 0 ≤ first) (h2 : first ≤ 1099511627776) (h3 : 1 ≤ size) (h4 : size ≤ 3) : Ki first size ⟨first, size, []⟩ [] := by
  refine ⟨?_, rfl, Int.le_refl _, fun y hy => by simp at hy, fun y hy => by simp at hy, fun y hy => by simp at hy, List.Pairwise.nil⟩
  simp only [Wn.may, Wn.head, num, inRange, eAll, Bool.and_true, Bool.and_eq_true, decide_eq_true_eq]
  omega
theorem turn_cases (w : Wn) (hm : w.may = true) : (nextR w = ((w, ze, false), 0)) ∨ ∃ t r, w.early = t :: r ∧ t.rid = w.last + 1 ∧ nextR w = ((⟨t.rid, w.size, r⟩, t, true), 0) := by
  unfold nextR turnW
  rw [if_pos hm]
  cases he : w.early with
  | nil => exact .inl rfl
  | cons t r =>
    by_cases ht : t.rid = w.last + 1
    · refine .inr ⟨t, r, rfl, ht, ?_⟩
      simp only [ht, beq_self_eq_true, if_true]
    · refine .inl ?_
      have : (t.rid == w.last + 1) = false := by simpa using ht
      simp only [this, Bool.false_eq_true, if_false]
/-- How many have this number. -/
def cntE (r : Int) (l : List Ea) : Nat := l.countP (isE r)
theorem cntE_snoc {r : Int} {l : List Ea} {k : Nat} {x : Ea} (h : l[k]? = some x) : cntE r (l.take (k + 1)) = cntE r (l.take k) + (if x.rid == r then 1 else 0) := by
  unfold cntE
  rw [List.take_add_one, h, List.countP_append]
  simp only [Option.toList, List.countP_cons, List.countP_nil, Nat.zero_add]
  rfl
theorem cnt_one {r : Int} : ∀ {K : List Ea} {t : Ea}, K.Pairwise (fun a b => a.rid ≠ b.rid) → t ∈ K → t.rid = r → cntE r K = 1 ∧ ∀ y ∈ K, y.rid = r → y = t
  | [], _, _, h, _ => by cases h
  | z :: K, t, hp, ht, hr => by
    obtain ⟨p1, p2⟩ := List.pairwise_cons.1 hp
    by_cases e : z.rid = r
    · have hz : ∀ y ∈ K, y.rid ≠ r := fun y hy hc => p1 y hy (by omega)
      have h0 : cntE r K = 0 := by
        unfold cntE; rw [List.countP_eq_zero]; intro y hy; simpa [isE] using hz y hy
      have hzt : z = t := by
        rcases List.mem_cons.1 ht with g | g
        · exact g.symm
        · exact absurd hr (hz t g)
      refine ⟨?_, fun y hy hyr => ?_⟩
      · unfold cntE at h0 ⊢; rw [List.countP_cons, h0, if_pos (by simpa [isE] using e)]
      · rcases List.mem_cons.1 hy with g | g
        · rw [g, hzt]
        · exact absurd hyr (hz y g)
    · have hmem : t ∈ K := by
        rcases List.mem_cons.1 ht with g | g
        · subst g; exact absurd hr e
        · exact g
      obtain ⟨c1, c2⟩ := cnt_one p2 hmem hr
      refine ⟨?_, fun y hy hyr => ?_⟩
      · unfold cntE at c1 ⊢; rw [List.countP_cons, c1, if_neg (by simpa [isE] using e)]
      · rcases List.mem_cons.1 hy with g | g
        · subst g; exact absurd hyr e
        · exact c2 y g hyr
end Go.Proofs.Ytnnlicidlidclaa
