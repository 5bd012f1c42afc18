/-
  Texts joined: XYt.
-/
import Derived.Test.YtnnlicidlidclaaMf
/-
  Layer 27: the document's answer: what comes of a request.
-/
namespace Go.Proofs.Ytnnlicidlidclaa
set_option linter.unusedSimpArgs false
set_option linter.unusedVariables false
open Go Go.RowKit Go.Proofs.Ytnnlicidlidclaa.Vm

def lowE (r : Int) (y : Ea) : Bool := decide (y.rid < r)
def highE (r : Int) (y : Ea) : Bool := decide (r < y.rid)
def isE (r : Int) (y : Ea) : Bool := y.rid == r
/-- What comes of a request: the window, what it is, the connection that it had. -/
def cameR (w : Wn) (x : Ea) : Wn × Int × Int :=
  if x.rid ≤ w.last then (w, 3, 0) else if w.last + w.size < x.rid then (w, 0, 0) else
    match w.early.findIdx? (isE x.rid) with
    | some n => match w.early[n]? with
      | some y => if y.body == x.body then ({ w with early := w.early.set n { y with conn := x.conn } }, 2, y.conn) else (w, 0, 0)
      | none => (w, 0, 0)
    | none => ({ w with early := w.early.filter (lowE x.rid) ++ x :: w.early.filter (highE x.rid) }, 1, 0)
def comeR (w : Wn) (x : Ea) : (Wn × Int × Int) × Int := if w.may = true then (if x.may = true then (cameR w x, 0) else ((zw, 0, 0), 2)) else ((zw, 0, 0), 8)
def comeO (nm : Nat) (r : (Wn × Int × Int) × Int) : V := .tup [winO nm r.1.1, .int .u8 r.1.2.1, .int .i64 r.1.2.2, .int .i64 r.2]
def camO (nm : Nat) (r : Wn × Int × Int) : V := .tup [winO nm r.1, .int .u8 r.2.1, .int .i64 r.2.2]
/-- A list under way: nil as long as it is empty. -/
def Acc (sz lo nm : Nat) (v : V) (rows : List (List V)) (M : Mem) : Prop := (rows = [] ∧ v = .nils) ∨ ∃ z, lo ≤ z ∧ z < nm ∧ v = .own z 0 rows.length ∧ M z = some ⟨sz, rows⟩
theorem Acc.keep {sz lo nm nm' : Nat} {v v' : V} {rows : List (List V)} {M M' : Mem} (h : Acc sz lo nm v rows M) (hv : v' = v) (hM : ∀ z, lo ≤ z → z < nm → M' z = M z) (hn : nm ≤ nm') : Acc sz lo nm' v' rows M' := by
  subst hv
  rcases h with ⟨h1, h2⟩ | ⟨z, h1, h2, h3, h4⟩
  · exact .inl ⟨h1, h2⟩
  · exact .inr ⟨z, h1, by omega, h3, by rw [hM z h1 h2]; exact h4⟩
theorem find_none {α : Type} {p : α → Bool} {l : List α} (h : l.any p = false) : l.findIdx? p = none := by
  rw [List.findIdx?_eq_none_iff]
  intro x hx
  rw [List.any_eq_false] at h
  simpa using h x hx
theorem find_some {α : Type} {p : α → Bool} {l : List α} {k : Nat} {x : α} (hx : l[k]? = some x) (hp : p x = true) (h : (l.take k).any p = false) : l.findIdx? p = some k := by
  obtain ⟨hk, rfl⟩ := List.getElem?_eq_some_iff.1 hx
  rw [List.findIdx?_eq_some_iff_getElem]
  refine ⟨hk, hp, fun j hj => ?_⟩
  rw [List.any_eq_false] at h
  have := h l[j] (List.mem_of_getElem? (i := j) (by rw [List.getElem?_take, if_pos hj]; exact List.getElem?_eq_getElem (by omega)))
  simpa using this
theorem filter_snoc {α : Type} {p : α → Bool} {l : List α} {k : Nat} {x : α} (h : l[k]? = some x) : (l.take (k + 1)).filter p = (l.take k).filter p ++ (if p x then [x] else []) := by
  rw [List.take_add_one, h, List.filter_append]
  cases hp : p x <;> simp [hp]
end Go.Proofs.Ytnnlicidlidclaa
