/-
  Texts joined: XUa, XUb, XUt, XUc, XUd.
-/
import Derived.Test.YtanahnknjboplaaDoorMh
/-
  Plain laws of layer 10: the tree of tokens. No program in sight.
-/
namespace Go.Proofs.YtanahnknjboplaaDoor
set_option linter.unusedSimpArgs false
set_option linter.unusedVariables false
open Go Go.RowKit Go.Lib

/-- An attribute; a node. -/
structure At where
  space : List UInt8
  name : List UInt8
  value : List UInt8
deriving DecidableEq
structure Nd where
  kind : Nat
  space : List UInt8
  name : List UInt8
  attrs : List At
  text : List UInt8
  many : Int
deriving DecidableEq
/-- A tree under way: its nodes, the places of those that are open. -/
structure Gr where
  v : List Nd
  opn : List Nat
def Nd.inc (n : Nd) : Nd := { n with many := n.many + 1 }
def incG (v : List Nd) (opn : List Nat) : List Nd := match opn.getLast? with
  | some k => v.modify k Nd.inc
  | none => v
def addG (g : Gr) (n : Nd) : List Nd := incG g.v g.opn ++ [n]
def blankB (c : UInt8) : Bool := c == 32 || c == 9 || c == 10 || c == 13
def blankL (s : List UInt8) : Bool := s.all blankB
def textN (s : List UInt8) : Nd := ⟨2, [], [], [], s, 0⟩
def givenL (l : List Pr) : List At := l.map fun a => ⟨[], a.name, a.value⟩
def elemN (t : Tk) : Nd := ⟨1, [], t.name, givenL t.attrs, [], 0⟩
/-- The name of the node that is open last. -/
def lastName (g : Gr) : Option (List UInt8) := g.opn.getLast?.bind fun k => (g.v[k]?).map Nd.name
/-- A token more. -/
def stepG (g : Gr) (t : Tk) (txt : Bool) : Gr × Int :=
  if t.kind = 4 then
    if (txt || (g.opn.isEmpty && !blankL t.text)) = true then (g, 80)
    else if g.opn.isEmpty = true then (g, 0) else (⟨addG g (textN t.text), g.opn⟩, 0)
  else if t.kind = 2 then
    if lastName g = some t.name then (⟨g.v, g.opn.dropLast⟩, 0) else (g, 80)
  else if (g.opn.isEmpty && !g.v.isEmpty) = true then (g, 80)
  else if 12 ≤ g.opn.length then (g, 100)
  else (⟨addG g (elemN t), if t.kind = 1 then g.opn ++ [g.v.length] else g.opn⟩, 0)
/-- All tokens of a list, behind a tree under way; txt: was the last one a text. -/
def goG : Gr → Bool → List Tk → Gr × Int
  | g, _, [] => (g, 0)
  | g, txt, t :: r => if (stepG g t txt).2 = 0 then goG (stepG g t txt).1 (t.kind == 4) r else stepG g t txt
def parseE (l : List Tk) : Int := if 512 < l.length then 4 else if (l.any fun t => !tokL t) = true then 8 else
  if (goG ⟨[], []⟩ false l).2 ≠ 0 then (goG ⟨[], []⟩ false l).2 else if (goG ⟨[], []⟩ false l).1.v.isEmpty = true ∨ (goG ⟨[], []⟩ false l).1.opn.isEmpty = false then 80 else 0
def parseT (l : List Tk) : List Nd := if parseE l = 0 then (goG ⟨[], []⟩ false l).1.v else []
/-- What holds of trees under way, of so many tokens. -/
structure Gr.Ok (g : Gr) (n : Nat) : Prop where
  in_ : ∀ k ∈ g.opn, k < g.v.length
  deep : g.opn.length ≤ 12
  many : ∀ x ∈ g.v, 0 ≤ x.many ∧ x.many ≤ n
  len : g.v.length ≤ n
theorem incG_length (v : List Nd) (o : List Nat) : (incG v o).length = v.length := by
  unfold incG
  split <;> simp
theorem addG_length (g : Gr) (n : Nd) : (addG g n).length = g.v.length + 1 := by simp [addG, incG_length]
theorem inc_many {v : List Nd} {o : List Nat} {n : Nat} (h : ∀ x ∈ v, 0 ≤ x.many ∧ x.many ≤ n) : ∀ x ∈ incG v o, 0 ≤ x.many ∧ x.many ≤ ((n + 1 : Nat) : Int) := by
  intro x hx
  unfold incG at hx
  split at hx
  · rename_i k _
    obtain ⟨i, hi⟩ := List.mem_iff_getElem?.1 hx
    rw [List.getElem?_modify] at hi
    cases hv : v[i]? with
    | none => rw [hv] at hi; simp at hi
    | some y =>
      rw [hv] at hi
      have := h y (List.mem_of_getElem? hv)
      split at hi
      · simp at hi; subst hi; simp only [Nd.inc]; omega
      · simp at hi; subst hi; omega
  · have := h x hx; omega
theorem add_ok {g : Gr} {n : Nat} (h : g.Ok n) {x : Nd} (hx : x.many = 0) : (∀ k ∈ g.opn, k < (addG g x).length) ∧ (∀ y ∈ addG g x, 0 ≤ y.many ∧ y.many ≤ ((n + 1 : Nat) : Int)) ∧ (addG g x).length ≤ n + 1 := by
  refine ⟨fun k hk => ?_, fun y hy => ?_, ?_⟩
  · have := h.in_ k hk; rw [addG_length]; omega
  · rcases List.mem_append.1 hy with hy | hy
    · exact inc_many h.many y hy
    · simp at hy; subst hy; omega
  · rw [addG_length]; have := h.len; omega
theorem step_ok {g : Gr} {n : Nat} (h : g.Ok n) (t : Tk) (txt : Bool) : (stepG g t txt).1.Ok (n + 1) := by
  have h0 : g.Ok (n + 1) := ⟨h.in_, h.deep, fun x hx => by have := h.many x hx; omega, by have := h.len; omega⟩
  unfold stepG
  split
  · split
    · exact h0
    · split
      · exact h0
      · obtain ⟨h1, h2, h3⟩ := add_ok h (x := textN t.text) rfl
        exact ⟨h1, h.deep, h2, h3⟩
  · split
    · split
      · exact ⟨fun k hk => h.in_ k (List.dropLast_subset _ hk), by simp; have := h.deep; omega, h0.many, h0.len⟩
      · exact h0
    · split
      · exact h0
      · split
        · exact h0
        · rename_i h12
          obtain ⟨h1, h2, h3⟩ := add_ok h (x := elemN t) rfl
          refine ⟨fun k hk => ?_, ?_, h2, h3⟩
          · simp only at hk
            split at hk
            · rcases List.mem_append.1 hk with hk | hk
              · exact h1 k hk
              · simp at hk; subst hk; simp only [addG_length]; omega
            · exact h1 k hk
          · simp only
            split
            · simp; omega
            · exact h.deep
theorem start_ok : (Gr.mk [] []).Ok 0 := Gr.Ok.mk (fun k h => by simp at h) (by simp) (fun x h => by simp at h) (by simp)
theorem incG_nil (v : List Nd) : incG v [] = v := rfl
theorem incG_last {v : List Nd} {o : List Nat} {k : Nat} (h : o.getLast? = some k) : incG v o = v.modify k Nd.inc := by unfold incG; rw [h]
theorem set_modify {v : List Nd} {k : Nat} {x : Nd} (h : v[k]? = some x) : v.modify k Nd.inc = v.set k x.inc := by
  refine List.ext_getElem? fun i => ?_
  rw [List.getElem?_modify, List.getElem?_set]
  have hk := (List.getElem?_eq_some_iff.1 h).1
  by_cases e : k = i
  · subst e; have hv := (List.getElem?_eq_some_iff.1 h).2; simp [hk, hv]
  · simp [e]
theorem last_get {o : List Nat} {k : Nat} (h : o.getLast? = some k) : o ≠ [] ∧ o[o.length - 1]? = some k ∧ 0 < o.length := by
  have hne : o ≠ [] := by intro e; subst e; simp at h
  rw [List.getLast?_eq_getElem?] at h
  exact ⟨hne, h, List.length_pos_iff.2 hne⟩
theorem last_some {o : List Nat} (h : o ≠ []) : ∃ k, o.getLast? = some k := ⟨_, List.getLast?_eq_some_getLast h⟩
theorem goG_take {l : List Tk} : ∀ {g : Gr} {txt : Bool} {t : Tk} {r : List Tk}, l = t :: r → (stepG g t txt).2 = 0 → goG g txt l = goG (stepG g t txt).1 (t.kind == 4) r := by
  intro g txt t r h h0
  subst h
  rw [goG, if_pos h0]
theorem goG_err {g : Gr} {txt : Bool} {t : Tk} {r : List Tk} (h0 : (stepG g t txt).2 ≠ 0) : goG g txt (t :: r) = stepG g t txt := by rw [goG, if_neg h0]
theorem goG_nil (g : Gr) (txt : Bool) : goG g txt [] = (g, 0) := rfl
end Go.Proofs.YtanahnknjboplaaDoor
/-
  Layer 10 by the machine: nodes; a node put within the one that is open last.
-/
namespace Go.Proofs.YtanahnknjboplaaDoor
set_option linter.unusedSimpArgs false
set_option linter.unusedVariables false
open Nat renaming reduceAdd → κa, reduceMul → κb, reduceEqDiff → κc, reduceLeDiff → κd, reduceSub → κe, reduceLT → κf, reduceBEq → κr, reduceBNe → κs, reducePow → κt
open Int renaming reduceToNat → κg, reduceLE → κh, reduceLT → κi, reduceAdd → κj, reduceSub → κk, reduceMul → κl, reduceNeg → κm, reduceBEq → κn, reduceBNe → κo, reduceEq → κp, reduceNe → κq
open Go Go.RowKit Go.Proofs.YtanahnknjboplaaDoor.Vm Go.Lib

def atC (a : At) : List V := [.str a.space, .str a.name, .str a.value]
def ndC (n : Nd) : List V := [.int .u8 n.kind, .str n.space, .str n.name, .sl false 3 (n.attrs.map atC), .str n.text, .int .i64 n.many]
def noC (k : Nat) : List V := [.int .i64 k]
theorem nd_at {l : List Nd} {k : Nat} {a : Nd} (h : l[k]? = some a) : (l.map ndC)[k]? = some (ndC a) := by rw [List.getElem?_map, h]; rfl
theorem at_at {l : List At} {k : Nat} {a : At} (h : l[k]? = some a) : (l.map atC)[k]? = some (atC a) := by rw [List.getElem?_map, h]; rfl
theorem no_at {l m : List Nat} {k : Nat} {a : Nat} (h : l[k]? = some a) : ((l ++ m).map noC)[k]? = some (noC a) := by
  have hk := (List.getElem?_eq_some_iff.1 h).1
  rw [List.getElem?_map, List.getElem?_append_left hk, h]; rfl
theorem plain_at (l : List At) : plainLL (l.map atC) = true := plainLL_map _ (fun _ => rfl) l
theorem plain_nd (l : List Nd) : plainLL (l.map ndC) = true := plainLL_map _ (fun t => by simp [ndC, plainL, V.plain, plain_at]) l
theorem plain_no (l : List Nat) : plainLL (l.map noC) = true := plainLL_map _ (fun _ => rfl) l
theorem nd_set {v : List Nd} {k : Nat} {x : Nd} (h : v[k]? = some x) (m : Int) (hm : m = x.many + 1) : (v.map ndC).set k [.int .u8 x.kind, .str x.space, .str x.name, .sl false 3 (x.attrs.map atC), .str x.text, .int .i64 m] = (v.modify k Nd.inc).map ndC := by
  subst hm
  rw [set_modify h, List.map_set]; rfl
theorem ren_nds (σ : List (Nat × Nat)) (l : List Nd) : (l.map ndC).map (renL σ) = l.map ndC := by
  rw [List.map_map]
  exact List.map_congr_left (fun n _ => by simp [ndC, renL, V.ren])
theorem renOk_nds (σ : List (Nat × Nat)) (l : List Nd) : (l.map ndC).all (renOkL σ) = true := by
  rw [List.all_eq_true]
  intro r hr
  obtain ⟨n, _, rfl⟩ := List.mem_map.1 hr
  simp [ndC, renOkL, V.renOk, plain_at]
/-- A tree under way, as its block. -/
def grC (y z : Nat) (g : Gr) (last : Nat) : List V := [.own y 0 g.v.length, .own z 0 g.opn.length, .int .u8 last]
theorem tak_nd (l : List Nd) : (l.map ndC).take l.length = l.map ndC := List.take_of_length_le (by simp)
set_option maxRecDepth 100000 in
set_option maxHeartbeats 4000000 in
theorem addP_ev (g : Gr) (n : Nat) (hg : g.Ok n) (hn : n ≤ 1000) (junk : List Nat) (last q y z : Nat) (x : Nd) (M : Mem) (nm : Nat) (hqy : q ≠ y) (hqz : q ≠ z) (hyz : y ≠ z) (hq : M q = some ⟨3, [grC y z g last]⟩) (hy : M y = some ⟨6, g.v.map ndC⟩) (hz : M z = some ⟨1, (g.opn ++ junk).map noC⟩) (ho : ∀ w, (M w).isSome = true → w ∈ [q, y, z]) (hqn : q < nm) (hyn : y < nm) (hzn : z < nm) :
    Ev cx 52 nm [.ptr q 0 0, .agg [.int .u8 x.kind, .str x.space, .str x.name, .nils, .str x.text, .int .i64 x.many]] M (.tup []) [(y, none), (q, some ⟨3, [[.own nm 0 (g.v.length + 1), .own z 0 g.opn.length, .int .u8 last]]⟩), (z, some ⟨1, (g.opn ++ junk).map noC⟩), (nm, some ⟨6, (incG g.v g.opn).map ndC ++ [[.int .u8 x.kind, .str x.space, .str x.name, .nils, .str x.text, .int .i64 x.many]]⟩)] := by
  have hvl := hg.len
  have hl12 := hg.deep
  refine ev_go (fun cargs w => Tryd.call52 cargs w) Tryd.func52 rfl mixed (by kernel_rfl) rfl ?_; intro b0 hb0
  have lq : q < b0 := below_of hb0 (by rw [hq]; rfl)
  have z0 := lt_ne lq; have z1 := lt_ne_add lq; have z2 := lt_ne' lq; have z3 := lt_ne_add' lq
  have ly : y < b0 := below_of hb0 (by rw [hy]; rfl)
  have y0 := lt_ne ly; have y1 := lt_ne_add ly; have y2 := lt_ne' ly; have y3 := lt_ne_add' ly
  have lz : z < b0 := below_of hb0 (by rw [hz]; rfl)
  have w0 := lt_ne lz; have w1 := lt_ne_add lz; have w2 := lt_ne' lz; have w3 := lt_ne_add' lz
  have n1 := eq_false hqy; have n2 := eq_false hqz; have n3 := eq_false hyz
  have n4 := eq_false (Ne.symm hqy); have n5 := eq_false (Ne.symm hqz); have n6 := eq_false (Ne.symm hyz)
  by_cases h0 : g.opn = []
  · have hl0 : g.opn.length = 0 := by rw [h0]; rfl
    have hinc : incG g.v g.opn = g.v := by rw [h0]; rfl
    rw [hinc]
    have hd : decide ((0 : Int) < (g.opn.length : Int)) = false := decide_eq_false (by omega)
    repeat' first | simp only [Tryd.results52, Tryd.ntmps52, κt, wks, grC, hd, hq, hy, hz, z0, z1, z2, z3, y0, y1, y2, y3, w0, w1, w2, w3, n1, n2, n3, n4, n5, n6, tak_nd, plain_nd, plain_at, List.length_map, vcs, κa, κb, κc, κd, κe, κf, κg, κh, κi, κj, κk, κl, κm, reduceCtorEq, reduceIte, κn, κo, κp, κq, κr, κs, tys] | exact rfl | ((first | (refine call_val (g := ?_) ?_ ?_) | (refine call_valg (g := ?_) ?_ ?_)); rotate_left 1; (focus (simp only [Tryd.results52, Tryd.ntmps52, κt, wks, grC, hd, hq, hy, hz, z0, z1, z2, z3, y0, y1, y2, y3, w0, w1, w2, w3, n1, n2, n3, n4, n5, n6, tak_nd, plain_nd, plain_at, List.length_map, vcs, κa, κb, κc, κd, κe, κf, κg, κh, κi, κj, κk, κl, κm, reduceCtorEq, reduceIte, κn, κo, κp, κq, κr, κs, tys] <;> exact rfl))) | refine draw_end' (ps := [(4, 6)]) (by decide +kernel) (by simp only [List.forall_mem_cons, List.getD_cons_zero, List.getD_cons_succ, Tryd.results52, Tryd.ntmps52, κt, wks, grC, hd, hq, hy, hz, z0, z1, z2, z3, y0, y1, y2, y3, w0, w1, w2, w3, n1, n2, n3, n4, n5, n6, tak_nd, plain_nd, plain_at, List.length_map, vcs, κa, κb, κc, κd, κe, κf, κg, κh, κi, κj, κk, κl, κm, reduceCtorEq, reduceIte, κn, κo, κp, κq, κr, κs, tys] <;> (try simp) <;> (try omega)) ?_ | refine draw_end (by decide +kernel) ?_ | refine cond_bool (fun hb => ?_) (fun hb => ?_) | refine cond_bit (fun hb => ?_) (fun hb => ?_) | refine And.intro (by omega) ?_ | refine And.intro (fun hb => ?_) (fun hb => ?_) | fail
    all_goals ((refine Fin.give [(q, none), (z, none), (b0 + 256, some 0)] [y] ?_ ?_ ?_ ?_ ?_ (fun q hq => by have hqq := ho q hq; first | (simp only [gives, tgt, List.map_cons, List.map_nil, List.mem_cons, List.not_mem_nil, or_false] at hqq ⊢; omega) | (simp only [gives, tgt, List.map_cons, List.map_nil, List.mem_cons, List.not_mem_nil, or_false] at hqq)) <;> (try simp only [Tryd.results52, Tryd.ntmps52, wks, grC, hq, hy, hz, z0, z1, z2, z3, y0, y1, y2, y3, w0, w1, w2, w3, n1, n2, n3, n4, n5, n6, Bool.and_self, Bool.false_and, plainLL_append, plain_nd, plain_no, List.length_map, giv, vcs, κa, κb, κc, κd, κe, κf, κg, κh, κi, κj, κk, κl, κm, reduceCtorEq, reduceIte, κn, κo, κp, κq, κr, κs, tys]) <;> (try simp only [injs]) <;> (try omega)))
  · obtain ⟨k, hk⟩ := last_some h0
    obtain ⟨_, hk2, hk3⟩ := last_get hk
    have hkv := hg.in_ k (List.mem_of_getElem? hk2)
    obtain ⟨x0, hx0⟩ : ∃ x0, g.v[k]? = some x0 := ⟨_, List.getElem?_eq_getElem hkv⟩
    have hm := hg.many x0 (List.mem_of_getElem? hx0)
    have hinc := incG_last (v := g.v) hk
    have hd : decide ((0 : Int) < (g.opn.length : Int)) = true := decide_eq_true (by omega)
    have hwl : IntKind.i64.wrap ((g.opn.length : Int) - 1) = ((g.opn.length - 1 : Nat) : Int) := by rw [wrap_in (by omega) (by omega)]; omega
    have hlt : g.opn.length - 1 < g.opn.length := by omega
    have hno := no_at (m := junk) hk2
    have hnd := nd_at hx0
    have hwm : IntKind.i64.wrap (x0.many + 1) = x0.many + 1 := wrap_in (by omega) (by omega)
    have hset := nd_set hx0 (x0.many + 1) rfl
    have hml : ((g.v.modify k Nd.inc).map ndC).take g.v.length = (g.v.modify k Nd.inc).map ndC := List.take_of_length_le (by simp)
    have hmn : (g.v.modify k Nd.inc).length = g.v.length := by simp
    rw [hinc]
    repeat' first | simp only [Tryd.results52, Tryd.ntmps52, κt, wks, grC, hd, hq, hy, hz, hwl, hlt, hno, noC, hnd, ndC, hkv, hwm, hset, hml, hmn, z0, z1, z2, z3, y0, y1, y2, y3, w0, w1, w2, w3, n1, n2, n3, n4, n5, n6, tak_nd, plain_nd, plain_at, List.length_map, vcs, κa, κb, κc, κd, κe, κf, κg, κh, κi, κj, κk, κl, κm, reduceCtorEq, reduceIte, κn, κo, κp, κq, κr, κs, tys] | exact rfl | ((first | (refine call_val (g := ?_) ?_ ?_) | (refine call_valg (g := ?_) ?_ ?_)); rotate_left 1; (focus (simp only [Tryd.results52, Tryd.ntmps52, κt, wks, grC, hd, hq, hy, hz, hwl, hlt, hno, noC, hnd, ndC, hkv, hwm, hset, hml, hmn, z0, z1, z2, z3, y0, y1, y2, y3, w0, w1, w2, w3, n1, n2, n3, n4, n5, n6, tak_nd, plain_nd, plain_at, List.length_map, vcs, κa, κb, κc, κd, κe, κf, κg, κh, κi, κj, κk, κl, κm, reduceCtorEq, reduceIte, κn, κo, κp, κq, κr, κs, tys] <;> exact rfl))) | refine draw_end' (ps := [(4, 6)]) (by decide +kernel) (by simp only [List.forall_mem_cons, List.getD_cons_zero, List.getD_cons_succ, Tryd.results52, Tryd.ntmps52, κt, wks, grC, hd, hq, hy, hz, hwl, hlt, hno, noC, hnd, ndC, hkv, hwm, hset, hml, hmn, z0, z1, z2, z3, y0, y1, y2, y3, w0, w1, w2, w3, n1, n2, n3, n4, n5, n6, tak_nd, plain_nd, plain_at, List.length_map, vcs, κa, κb, κc, κd, κe, κf, κg, κh, κi, κj, κk, κl, κm, reduceCtorEq, reduceIte, κn, κo, κp, κq, κr, κs, tys] <;> (try simp) <;> (try omega)) ?_ | refine draw_end (by decide +kernel) ?_ | refine cond_bool (fun hb => ?_) (fun hb => ?_) | refine cond_bit (fun hb => ?_) (fun hb => ?_) | refine And.intro (by omega) ?_ | refine And.intro (fun hb => ?_) (fun hb => ?_) | fail
    all_goals ((refine Fin.give [(q, none), (z, none), (b0 + 560, some 0)] [y] ?_ ?_ ?_ ?_ ?_ (fun q hq => by have hqq := ho q hq; first | (simp only [gives, tgt, List.map_cons, List.map_nil, List.mem_cons, List.not_mem_nil, or_false] at hqq ⊢; omega) | (simp only [gives, tgt, List.map_cons, List.map_nil, List.mem_cons, List.not_mem_nil, or_false] at hqq)) <;> (try simp only [Tryd.results52, Tryd.ntmps52, wks, grC, hq, hy, hz, z0, z1, z2, z3, y0, y1, y2, y3, w0, w1, w2, w3, n1, n2, n3, n4, n5, n6, hml, hmn, Bool.and_self, Bool.false_and, plainLL_append, plain_nd, plain_no, List.length_map, giv, vcs, κa, κb, κc, κd, κe, κf, κg, κh, κi, κj, κk, κl, κm, reduceCtorEq, reduceIte, κn, κo, κp, κq, κr, κs, tys]) <;> (try simp only [injs]) <;> (try omega)))
set_option maxRecDepth 100000 in
set_option maxHeartbeats 4000000 in
theorem addA_ev (g : Gr) (n : Nat) (hg : g.Ok n) (hn : n ≤ 1000) (junk : List Nat) (last q y z : Nat) (x : Nd) (a : Nat) (ats : List At) (M : Mem) (nm : Nat) (hqy : q ≠ y) (hqz : q ≠ z) (hyz : y ≠ z) (hqa : q ≠ a) (hya : y ≠ a) (hza : z ≠ a) (ha : M a = some ⟨3, ats.map atC⟩) (hq : M q = some ⟨3, [grC y z g last]⟩) (hy : M y = some ⟨6, g.v.map ndC⟩) (hz : M z = some ⟨1, (g.opn ++ junk).map noC⟩) (ho : ∀ w, (M w).isSome = true → w ∈ [q, y, z, a]) (hqn : q < nm) (hyn : y < nm) (hzn : z < nm) (han : a < nm) :
    Ev cx 52 nm [.ptr q 0 0, .agg [.int .u8 x.kind, .str x.space, .str x.name, .own a 0 ats.length, .str x.text, .int .i64 x.many]] M (.tup []) [(y, none), (q, some ⟨3, [[.own nm 0 (g.v.length + 1), .own z 0 g.opn.length, .int .u8 last]]⟩), (z, some ⟨1, (g.opn ++ junk).map noC⟩), (a, some ⟨3, ats.map atC⟩), (nm, some ⟨6, (incG g.v g.opn).map ndC ++ [[.int .u8 x.kind, .str x.space, .str x.name, .own a 0 ats.length, .str x.text, .int .i64 x.many]]⟩)] := by
  have hvl := hg.len
  have hl12 := hg.deep
  refine ev_go (fun cargs w => Tryd.call52 cargs w) Tryd.func52 rfl mixed (by kernel_rfl) rfl ?_; intro b0 hb0
  have lq : q < b0 := below_of hb0 (by rw [hq]; rfl)
  have z0 := lt_ne lq; have z1 := lt_ne_add lq; have z2 := lt_ne' lq; have z3 := lt_ne_add' lq
  have ly : y < b0 := below_of hb0 (by rw [hy]; rfl)
  have y0 := lt_ne ly; have y1 := lt_ne_add ly; have y2 := lt_ne' ly; have y3 := lt_ne_add' ly
  have lz : z < b0 := below_of hb0 (by rw [hz]; rfl)
  have w0 := lt_ne lz; have w1 := lt_ne_add lz; have w2 := lt_ne' lz; have w3 := lt_ne_add' lz
  have la : a < b0 := below_of hb0 (by rw [ha]; rfl)
  have a0 := lt_ne la; have a1 := lt_ne_add la; have a2 := lt_ne' la; have a3 := lt_ne_add' la
  have m1 := eq_false hqa; have m2 := eq_false hya; have m3 := eq_false hza
  have m4 := eq_false (Ne.symm hqa); have m5 := eq_false (Ne.symm hya); have m6 := eq_false (Ne.symm hza)
  have hpn : plainLL (g.opn.map noC ++ junk.map noC) = true := by rw [← List.map_append]; exact plain_no _
  have n1 := eq_false hqy; have n2 := eq_false hqz; have n3 := eq_false hyz
  have n4 := eq_false (Ne.symm hqy); have n5 := eq_false (Ne.symm hqz); have n6 := eq_false (Ne.symm hyz)
  by_cases h0 : g.opn = []
  · have hl0 : g.opn.length = 0 := by rw [h0]; rfl
    have hinc : incG g.v g.opn = g.v := by rw [h0]; rfl
    rw [hinc]
    have hd : decide ((0 : Int) < (g.opn.length : Int)) = false := decide_eq_false (by omega)
    repeat' first | simp only [Tryd.results52, Tryd.ntmps52, κt, wks, grC, hd, hq, hy, hz, z0, z1, z2, z3, y0, y1, y2, y3, w0, w1, w2, w3, n1, n2, n3, n4, n5, n6, ha, a0, a1, a2, a3, m1, m2, m3, m4, m5, m6, plain_at, tak_nd, plain_nd, plain_at, List.length_map, vcs, κa, κb, κc, κd, κe, κf, κg, κh, κi, κj, κk, κl, κm, reduceCtorEq, reduceIte, κn, κo, κp, κq, κr, κs, tys] | exact rfl | ((first | (refine call_val (g := ?_) ?_ ?_) | (refine call_valg (g := ?_) ?_ ?_)); rotate_left 1; (focus (simp only [Tryd.results52, Tryd.ntmps52, κt, wks, grC, hd, hq, hy, hz, z0, z1, z2, z3, y0, y1, y2, y3, w0, w1, w2, w3, n1, n2, n3, n4, n5, n6, ha, a0, a1, a2, a3, m1, m2, m3, m4, m5, m6, plain_at, tak_nd, plain_nd, plain_at, List.length_map, vcs, κa, κb, κc, κd, κe, κf, κg, κh, κi, κj, κk, κl, κm, reduceCtorEq, reduceIte, κn, κo, κp, κq, κr, κs, tys] <;> exact rfl))) | refine draw_end' (ps := [(4, 6)]) (by decide +kernel) (by simp only [List.forall_mem_cons, List.getD_cons_zero, List.getD_cons_succ, Tryd.results52, Tryd.ntmps52, κt, wks, grC, hd, hq, hy, hz, z0, z1, z2, z3, y0, y1, y2, y3, w0, w1, w2, w3, n1, n2, n3, n4, n5, n6, ha, a0, a1, a2, a3, m1, m2, m3, m4, m5, m6, plain_at, tak_nd, plain_nd, plain_at, List.length_map, vcs, κa, κb, κc, κd, κe, κf, κg, κh, κi, κj, κk, κl, κm, reduceCtorEq, reduceIte, κn, κo, κp, κq, κr, κs, tys] <;> (try simp) <;> (try omega)) ?_ | refine draw_end (by decide +kernel) ?_ | refine cond_bool (fun hb => ?_) (fun hb => ?_) | refine cond_bit (fun hb => ?_) (fun hb => ?_) | refine And.intro (by omega) ?_ | refine And.intro (fun hb => ?_) (fun hb => ?_) | fail
    all_goals ((refine Fin.give [(q, none), (z, none), (a, none), (b0 + 256, some 0)] [y] ?_ ?_ ?_ ?_ ?_ (fun q hq => by have hqq := ho q hq; first | (simp only [gives, tgt, List.map_cons, List.map_nil, List.mem_cons, List.not_mem_nil, or_false] at hqq ⊢; omega) | (simp only [gives, tgt, List.map_cons, List.map_nil, List.mem_cons, List.not_mem_nil, or_false] at hqq)) <;> (try simp only [Tryd.results52, Tryd.ntmps52, wks, grC, hq, hy, hz, z0, z1, z2, z3, y0, y1, y2, y3, w0, w1, w2, w3, n1, n2, n3, n4, n5, n6, ha, a0, a1, a2, a3, m1, m2, m3, m4, m5, m6, plain_at, ren_nds, renOk_nds, List.map_append, List.all_append, Bool.and_self, Bool.false_and, plainLL_append, plain_nd, hpn, List.length_map, giv, vcs, κa, κb, κc, κd, κe, κf, κg, κh, κi, κj, κk, κl, κm, reduceCtorEq, reduceIte, κn, κo, κp, κq, κr, κs, tys]) <;> (try simp only [injs]) <;> (try omega)))
  · obtain ⟨k, hk⟩ := last_some h0
    obtain ⟨_, hk2, hk3⟩ := last_get hk
    have hkv := hg.in_ k (List.mem_of_getElem? hk2)
    obtain ⟨x0, hx0⟩ : ∃ x0, g.v[k]? = some x0 := ⟨_, List.getElem?_eq_getElem hkv⟩
    have hm := hg.many x0 (List.mem_of_getElem? hx0)
    have hinc := incG_last (v := g.v) hk
    have hd : decide ((0 : Int) < (g.opn.length : Int)) = true := decide_eq_true (by omega)
    have hwl : IntKind.i64.wrap ((g.opn.length : Int) - 1) = ((g.opn.length - 1 : Nat) : Int) := by rw [wrap_in (by omega) (by omega)]; omega
    have hlt : g.opn.length - 1 < g.opn.length := by omega
    have hno := no_at (m := junk) hk2
    have hnd := nd_at hx0
    have hwm : IntKind.i64.wrap (x0.many + 1) = x0.many + 1 := wrap_in (by omega) (by omega)
    have hset := nd_set hx0 (x0.many + 1) rfl
    have hml : ((g.v.modify k Nd.inc).map ndC).take g.v.length = (g.v.modify k Nd.inc).map ndC := List.take_of_length_le (by simp)
    have hmn : (g.v.modify k Nd.inc).length = g.v.length := by simp
    rw [hinc]
    repeat' first | simp only [Tryd.results52, Tryd.ntmps52, κt, wks, grC, hd, hq, hy, hz, hwl, hlt, hno, noC, hnd, ndC, hkv, hwm, hset, hml, hmn, z0, z1, z2, z3, y0, y1, y2, y3, w0, w1, w2, w3, n1, n2, n3, n4, n5, n6, ha, a0, a1, a2, a3, m1, m2, m3, m4, m5, m6, plain_at, tak_nd, plain_nd, plain_at, List.length_map, vcs, κa, κb, κc, κd, κe, κf, κg, κh, κi, κj, κk, κl, κm, reduceCtorEq, reduceIte, κn, κo, κp, κq, κr, κs, tys] | exact rfl | ((first | (refine call_val (g := ?_) ?_ ?_) | (refine call_valg (g := ?_) ?_ ?_)); rotate_left 1; (focus (simp only [Tryd.results52, Tryd.ntmps52, κt, wks, grC, hd, hq, hy, hz, hwl, hlt, hno, noC, hnd, ndC, hkv, hwm, hset, hml, hmn, z0, z1, z2, z3, y0, y1, y2, y3, w0, w1, w2, w3, n1, n2, n3, n4, n5, n6, ha, a0, a1, a2, a3, m1, m2, m3, m4, m5, m6, plain_at, tak_nd, plain_nd, plain_at, List.length_map, vcs, κa, κb, κc, κd, κe, κf, κg, κh, κi, κj, κk, κl, κm, reduceCtorEq, reduceIte, κn, κo, κp, κq, κr, κs, tys] <;> exact rfl))) | refine draw_end' (ps := [(4, 6)]) (by decide +kernel) (by simp only [List.forall_mem_cons, List.getD_cons_zero, List.getD_cons_succ, Tryd.results52, Tryd.ntmps52, κt, wks, grC, hd, hq, hy, hz, hwl, hlt, hno, noC, hnd, ndC, hkv, hwm, hset, hml, hmn, z0, z1, z2, z3, y0, y1, y2, y3, w0, w1, w2, w3, n1, n2, n3, n4, n5, n6, ha, a0, a1, a2, a3, m1, m2, m3, m4, m5, m6, plain_at, tak_nd, plain_nd, plain_at, List.length_map, vcs, κa, κb, κc, κd, κe, κf, κg, κh, κi, κj, κk, κl, κm, reduceCtorEq, reduceIte, κn, κo, κp, κq, κr, κs, tys] <;> (try simp) <;> (try omega)) ?_ | refine draw_end (by decide +kernel) ?_ | refine cond_bool (fun hb => ?_) (fun hb => ?_) | refine cond_bit (fun hb => ?_) (fun hb => ?_) | refine And.intro (by omega) ?_ | refine And.intro (fun hb => ?_) (fun hb => ?_) | fail
    all_goals ((refine Fin.give [(q, none), (z, none), (a, none), (b0 + 560, some 0)] [y] ?_ ?_ ?_ ?_ ?_ (fun q hq => by have hqq := ho q hq; first | (simp only [gives, tgt, List.map_cons, List.map_nil, List.mem_cons, List.not_mem_nil, or_false] at hqq ⊢; omega) | (simp only [gives, tgt, List.map_cons, List.map_nil, List.mem_cons, List.not_mem_nil, or_false] at hqq)) <;> (try simp only [Tryd.results52, Tryd.ntmps52, wks, grC, hq, hy, hz, z0, z1, z2, z3, y0, y1, y2, y3, w0, w1, w2, w3, n1, n2, n3, n4, n5, n6, ha, a0, a1, a2, a3, m1, m2, m3, m4, m5, m6, plain_at, hml, hmn, ren_nds, renOk_nds, List.map_append, List.all_append, Bool.and_self, Bool.false_and, plainLL_append, plain_nd, hpn, List.length_map, giv, vcs, κa, κb, κc, κd, κe, κf, κg, κh, κi, κj, κk, κl, κm, reduceCtorEq, reduceIte, κn, κo, κp, κq, κr, κs, tys]) <;> (try simp only [injs]) <;> (try omega)))
end Go.Proofs.YtanahnknjboplaaDoor
/-
  strings.Trim by the machine: what stands at a text's ends is cut, where it is one of some bytes.
-/
namespace Go.Proofs.YtanahnknjboplaaDoor
set_option linter.unusedSimpArgs false
set_option linter.unusedVariables false
open Nat renaming reduceAdd → κa, reduceMul → κb, reduceEqDiff → κc, reduceLeDiff → κd, reduceSub → κe, reduceLT → κf, reduceBEq → κr, reduceBNe → κs, reducePow → κt
open Int renaming reduceToNat → κg, reduceLE → κh, reduceLT → κi, reduceAdd → κj, reduceSub → κk, reduceMul → κl, reduceNeg → κm, reduceBEq → κn, reduceBNe → κo, reduceEq → κp, reduceNe → κq
open Go Go.RowKit Go.Proofs.YtanahnknjboplaaDoor.Vm Go.Lib

def inB (cs : List UInt8) (n : Nat) : Bool := cs.any fun c => c.toNat == n
def asRow (cs : List UInt8) : List V := (List.range 256).map fun i => .bool (inB cs i)
theorem asRow_length (cs : List UInt8) : (asRow cs).length = 256 := by simp [asRow]
theorem asRow_get (cs : List UInt8) (c : UInt8) : (asRow cs)[c.toNat]? = some (.bool (inB cs c.toNat)) := by
  unfold asRow
  rw [List.getElem?_map, List.getElem?_range c.toNat_lt]; rfl
theorem asRow_set (cs : List UInt8) (c : UInt8) : (asRow cs).set c.toNat (.bool true) = asRow (cs ++ [c]) := by
  refine List.ext_getElem? fun i => ?_
  rw [List.getElem?_set]
  unfold asRow
  rw [List.length_map, List.length_range, List.getElem?_map, List.getElem?_map]
  by_cases hi : i < 256
  · rw [List.getElem?_range hi]
    by_cases e : c.toNat = i
    · subst e; simp [inB, hi]
    · simp [inB, e]
  · rw [List.getElem?_eq_none (by simpa using hi)]
    by_cases e : c.toNat = i
    · subst e; exact absurd c.toNat_lt hi
    · simp [e]
theorem plain_as (cs : List UInt8) : plainL (asRow cs) = true := by
  rw [plainL_all, List.all_eq_true]
  intro v hv
  obtain ⟨i, _, rfl⟩ := List.mem_map.1 hv
  rfl
theorem as_take (cs : List UInt8) : (asRow cs).take 256 = asRow cs := List.take_of_length_le (by rw [asRow_length]; omega)
theorem as_drop (cs : List UInt8) : (asRow cs).drop 256 = [] := List.drop_of_length_le (by rw [asRow_length]; omega)
theorem as_one (cs : List UInt8) : (asRow cs).all V.one = true := by
  rw [List.all_eq_true]
  intro v hv
  obtain ⟨i, _, rfl⟩ := List.mem_map.1 hv
  rfl
theorem fin_as (σ : List (Nat × Nat)) (M : Mem) (cs : List UInt8) : finL σ M (asRow cs) = asRow cs := (finL_plain σ M _ (plain_as cs)).1
theorem finOk_as (σ : List (Nat × Nat)) (M : Mem) (cs : List UInt8) : finLOk σ M (asRow cs) = True := eq_true (finL_plain σ M _ (plain_as cs)).2
theorem leL_as (cs : List UInt8) : leL (asRow cs) (asRow cs) = True := eq_true (leL_refl _)
theorem plain_asL (cs : List UInt8) : plainLL [asRow cs] = true := by simp [plainLL, plain_as]
set_option maxRecDepth 100000 in
theorem as_lit : ([V.bool false, V.bool false, V.bool false, V.bool false, V.bool false, V.bool false, V.bool false, V.bool false, V.bool false, V.bool false, V.bool false, V.bool false, V.bool false, V.bool false, V.bool false, V.bool false, V.bool false, V.bool false, V.bool false, V.bool false, V.bool false, V.bool false, V.bool false, V.bool false, V.bool false, V.bool false, V.bool false, V.bool false, V.bool false, V.bool false, V.bool false, V.bool false, V.bool false, V.bool false, V.bool false, V.bool false, V.bool false, V.bool false, V.bool false, V.bool false, V.bool false, V.bool false, V.bool false, V.bool false, V.bool false, V.bool false, V.bool false, V.bool false, V.bool false, V.bool false, V.bool false, V.bool false, V.bool false, V.bool false, V.bool false, V.bool false, V.bool false, V.bool false, V.bool false, V.bool false, V.bool false, V.bool false, V.bool false, V.bool false, V.bool false, V.bool false, V.bool false, V.bool false, V.bool false, V.bool false, V.bool false, V.bool false, V.bool false, V.bool false, V.bool false, V.bool false, V.bool false, V.bool false, V.bool false, V.bool false, V.bool false, V.bool false, V.bool false, V.bool false, V.bool false, V.bool false, V.bool false, V.bool false, V.bool false, V.bool false, V.bool false, V.bool false, V.bool false, V.bool false, V.bool false, V.bool false, V.bool false, V.bool false, V.bool false, V.bool false, V.bool false, V.bool false, V.bool false, V.bool false, V.bool false, V.bool false, V.bool false, V.bool false, V.bool false, V.bool false, V.bool false, V.bool false, V.bool false, V.bool false, V.bool false, V.bool false, V.bool false, V.bool false, V.bool false, V.bool false, V.bool false, V.bool false, V.bool false, V.bool false, V.bool false, V.bool false, V.bool false, V.bool false, V.bool false, V.bool false, V.bool false, V.bool false, V.bool false, V.bool false, V.bool false, V.bool false, V.bool false, V.bool false, V.bool false, V.bool false, V.bool false, V.bool false, V.bool false, V.bool false, V.bool false, V.bool false, V.bool false, V.bool false, V.bool false, V.bool false, V.bool false, V.bool false, V.bool false, V.bool false, V.bool false, V.bool false, V.bool false, V.bool false, V.bool false, V.bool false, V.bool false, V.bool false, V.bool false, V.bool false, V.bool false, V.bool false, V.bool false, V.bool false, V.bool false, V.bool false, V.bool false, V.bool false, V.bool false, V.bool false, V.bool false, V.bool false, V.bool false, V.bool false, V.bool false, V.bool false, V.bool false, V.bool false, V.bool false, V.bool false, V.bool false, V.bool false, V.bool false, V.bool false, V.bool false, V.bool false, V.bool false, V.bool false, V.bool false, V.bool false, V.bool false, V.bool false, V.bool false, V.bool false, V.bool false, V.bool false, V.bool false, V.bool false, V.bool false, V.bool false, V.bool false, V.bool false, V.bool false, V.bool false, V.bool false, V.bool false, V.bool false, V.bool false, V.bool false, V.bool false, V.bool false, V.bool false, V.bool false, V.bool false, V.bool false, V.bool false, V.bool false, V.bool false, V.bool false, V.bool false, V.bool false, V.bool false, V.bool false, V.bool false, V.bool false, V.bool false, V.bool false, V.bool false, V.bool false, V.bool false, V.bool false, V.bool false, V.bool false, V.bool false, V.bool false, V.bool false, V.bool false, V.bool false, V.bool false, V.bool false, V.bool false, V.bool false, V.bool false, V.bool false, V.bool false, V.bool false, V.bool false, V.bool false, V.bool false, V.bool false, V.bool false, V.bool false] : List V) = asRow [] := rfl
set_option maxRecDepth 100000 in
set_option maxHeartbeats 4000000 in
theorem ascii_ev (cs : List UInt8) (h : ∀ c ∈ cs, c.toNat < 128) (hl : cs.length ≤ 100) (nm : Nat) : Ev cx 73 nm [.str cs] Mem.nil (.tup [.agg (asRow cs), .bool true]) [] := by
  refine ev_go (fun cargs w => Tryd.call73 cargs w) Tryd.func73 rfl mixed (by kernel_rfl) rfl ?_; intro b0 hb0
  repeat' first | simp only [Tryd.results73, Tryd.ntmps73, κt, wks, as_lit, asRow_length, vcs, κa, κb, κc, κd, κe, κf, κg, κh, κi, κj, κk, κl, κm, reduceCtorEq, reduceIte, κn, κo, κp, κq, κr, κs, tys] | exact rfl | ((first | (refine call_val (g := ?_) ?_ ?_) | (refine call_valg (g := ?_) ?_ ?_)); rotate_left 1; (focus (simp only [Tryd.results73, Tryd.ntmps73, κt, wks, as_lit, asRow_length, vcs, κa, κb, κc, κd, κe, κf, κg, κh, κi, κj, κk, κl, κm, reduceCtorEq, reduceIte, κn, κo, κp, κq, κr, κs, tys] <;> exact rfl))) | refine draw_end (by decide +kernel) ?_ | refine cond_bool (fun hb => ?_) (fun hb => ?_) | refine cond_bit (fun hb => ?_) (fun hb => ?_) | refine And.intro (by omega) ?_ | refine And.intro (fun hb => ?_) (fun hb => ?_) | fail
  (refine loop_can2 cxG (fun x : Nat => cs.length - x) (fun x => x ≤ cs.length) (b0 + 16) (fun x => [(0, .str cs), (2, .ptr b0 0 0), (4, .int .i64 x)]) (fun x => [(b0, ⟨256, [asRow (cs.take x)]⟩)]) (0) [some b0] ?_ ?_ ?_ ?_; rotate_left 1; (focus (show b0 ≤ _; omega)); (focus (refine ⟨?_, ?_⟩ <;> (try simp only [cans, plain_as, plain_asL, as_lit, asRow_length, List.take_zero, vcs, κa, κb, κc, κd, κe, κf, κg, κh, κi, κj, κk, κl, κm, reduceCtorEq, reduceIte, κn, κo, κp, κq, κr, κs, tys, injs]) <;> (try omega))); rotate_left 1)
  · exact Nat.zero_le _
  · intro k hk
    by_cases hlt : k < cs.length
    · obtain ⟨c, hc⟩ : ∃ c, cs[k]? = some c := ⟨_, List.getElem?_eq_getElem hlt⟩
      have hd : decide (k < cs.length) = true := decide_eq_true hlt
      have hwk : IntKind.i64.wrap ((k : Int) + 1) = ((k + 1 : Nat) : Int) := wrap_in (by omega) (by omega)
      have h128 := h c (List.mem_of_getElem? hc)
      have hd2 : decide ((128 : Int) ≤ (c.toNat : Int)) = false := decide_eq_false (by omega)
      have h256 : c.toNat < 256 := c.toNat_lt
      have hset := asRow_set (cs.take k) c
      have htk : cs.take k ++ [c] = cs.take (k + 1) := by
        obtain ⟨hk', rfl⟩ := List.getElem?_eq_some_iff.1 hc
        rw [List.take_succ_eq_append_getElem hk']
      rw [htk] at hset
      repeat' first | simp only [Tryd.results73, Tryd.ntmps73, κt, wks, hc, hd, hd2, hlt, h256, hset, asRow_length, vcs, κa, κb, κc, κd, κe, κf, κg, κh, κi, κj, κk, κl, κm, reduceCtorEq, reduceIte, κn, κo, κp, κq, κr, κs, tys] | exact rfl | ((first | (refine call_val (g := ?_) ?_ ?_) | (refine call_valg (g := ?_) ?_ ?_)); rotate_left 1; (focus (simp only [Tryd.results73, Tryd.ntmps73, κt, wks, hc, hd, hd2, hlt, h256, hset, asRow_length, vcs, κa, κb, κc, κd, κe, κf, κg, κh, κi, κj, κk, κl, κm, reduceCtorEq, reduceIte, κn, κo, κp, κq, κr, κs, tys] <;> exact rfl))) | refine draw_end (by decide +kernel) ?_ | refine cond_bool (fun hb => ?_) (fun hb => ?_) | refine cond_bit (fun hb => ?_) (fun hb => ?_) | refine And.intro (by omega) ?_ | refine And.intro (fun hb => ?_) (fun hb => ?_) | fail
      all_goals ((refine again_can2 cxG (k + 1) [some b0] ?_ ?_ ?_ ?_; rotate_left 2; (focus (show b0 ≤ _; omega)); (focus (refine ⟨?_, ?_⟩ <;> (try simp only [cans, plain_as, plain_asL, hset, hwk, vcs, κa, κb, κc, κd, κe, κf, κg, κh, κi, κj, κk, κl, κm, reduceCtorEq, reduceIte, κn, κo, κp, κq, κr, κs, tys, injs]) <;> (try omega)))))
      all_goals (first | (show cs.length - (k + 1) < cs.length - k; omega) | (show k + 1 ≤ cs.length; omega) | skip)
    · have hke : k = cs.length := by omega
      subst hke
      have hd : decide (cs.length < cs.length) = false := decide_eq_false (by omega)
      have htk : cs.take cs.length = cs := List.take_length
      ((repeat' first | simp only [Tryd.results73, Tryd.ntmps73, κt, wks, hd, htk, as_take, as_drop, as_one, fin_as, finOk_as, leL_as, asRow_length, plain_asL, plain_as, vcs, κa, κb, κc, κd, κe, κf, κg, κh, κi, κj, κk, κl, κm, reduceCtorEq, reduceIte, κn, κo, κp, κq, κr, κs, tys] | exact rfl | ((first | (refine call_val (g := ?_) ?_ ?_) | (refine call_valg (g := ?_) ?_ ?_)); rotate_left 1; (focus (simp only [Tryd.results73, Tryd.ntmps73, κt, wks, hd, htk, as_take, as_drop, as_one, fin_as, finOk_as, leL_as, asRow_length, plain_asL, plain_as, vcs, κa, κb, κc, κd, κe, κf, κg, κh, κi, κj, κk, κl, κm, reduceCtorEq, reduceIte, κn, κo, κp, κq, κr, κs, tys] <;> exact rfl))) | refine draw_end (by decide +kernel) ?_ | refine cond_bool (fun hb => ?_) (fun hb => ?_) | refine cond_bit (fun hb => ?_) (fun hb => ?_) | refine And.intro (by omega) ?_ | refine And.intro (fun hb => ?_) (fun hb => ?_) | fail); (all_goals (first | (refine Fin.pure ?_ ?_ ?_ <;> (try simp only [Tryd.results73, Tryd.ntmps73, wks, hd, htk, as_take, as_drop, as_one, fin_as, finOk_as, leL_as, asRow_length, plain_asL, plain_as, vcs, κa, κb, κc, κd, κe, κf, κg, κh, κi, κj, κk, κl, κm, reduceCtorEq, reduceIte, κn, κo, κp, κq, κr, κs, tys]) <;> (try simp only [injs])) | skip)))
set_option maxRecDepth 100000 in
theorem asHas_ev (cs : List UInt8) (c : UInt8) (nm : Nat) : Ev cx 90 nm [.rp (asRow cs), .int .u8 c.toNat] Mem.nil (.bool (inB cs c.toNat)) [] := by
  have h256 : c.toNat < 256 := c.toNat_lt
  have hg : (List.drop c.toNat (asRow cs))[0]? = some (.bool (inB cs c.toNat)) := by rw [List.getElem?_drop, Nat.add_zero]; exact asRow_get cs c
  have hl : 0 < (List.drop c.toNat (asRow cs)).length := by rw [List.length_drop, asRow_length]; omega
  refine ev_go (fun cargs w => Tryd.call90 cargs w) Tryd.func90 rfl mixed (by kernel_rfl) rfl ?_; intro b0 hb0
  ((repeat' first | simp only [Tryd.results90, Tryd.ntmps90, κt, wks, h256, hg, hl, asRow_length, vcs, κa, κb, κc, κd, κe, κf, κg, κh, κi, κj, κk, κl, κm, reduceCtorEq, reduceIte, κn, κo, κp, κq, κr, κs, tys] | exact rfl | ((first | (refine call_val (g := ?_) ?_ ?_) | (refine call_valg (g := ?_) ?_ ?_)); rotate_left 1; (focus (simp only [Tryd.results90, Tryd.ntmps90, κt, wks, h256, hg, hl, asRow_length, vcs, κa, κb, κc, κd, κe, κf, κg, κh, κi, κj, κk, κl, κm, reduceCtorEq, reduceIte, κn, κo, κp, κq, κr, κs, tys] <;> exact rfl))) | refine draw_end (by decide +kernel) ?_ | refine cond_bool (fun hb => ?_) (fun hb => ?_) | refine cond_bit (fun hb => ?_) (fun hb => ?_) | refine And.intro (by omega) ?_ | refine And.intro (fun hb => ?_) (fun hb => ?_) | fail); (all_goals (first | (refine Fin.pure ?_ ?_ ?_ <;> (try simp only [Tryd.results90, Tryd.ntmps90, wks, h256, hg, hl, asRow_length, vcs, κa, κb, κc, κd, κe, κf, κg, κh, κi, κj, κk, κl, κm, reduceCtorEq, reduceIte, κn, κo, κp, κq, κr, κs, tys]) <;> (try simp only [injs])) | skip)))
/-- What is left where bytes are cut at the ends. -/
def trimL (cs : List UInt8) : List UInt8 → List UInt8
  | [] => []
  | c :: s => if inB cs c.toNat = true then trimL cs s else c :: s
def trimR (cs : List UInt8) (s : List UInt8) : List UInt8 := (trimL cs s.reverse).reverse
theorem trimL_drop (cs : List UInt8) : ∀ (s : List UInt8), ∃ k, k ≤ s.length ∧ trimL cs s = s.drop k ∧ (∀ i c, i < k → s[i]? = some c → inB cs c.toNat = true) ∧ (∀ c, s[k]? = some c → inB cs c.toNat = false)
  | [] => ⟨0, by simp, rfl, fun i c h => by omega, fun c h => by simp at h⟩
  | c :: s => by
    unfold trimL
    by_cases h : inB cs c.toNat = true
    · rw [if_pos h]
      obtain ⟨k, h1, h2, h3, h4⟩ := trimL_drop cs s
      refine ⟨k + 1, by simp; omega, by rw [h2]; rfl, fun i d hi hd => ?_, fun d hd => h4 d (by simpa using hd)⟩
      cases i with
      | zero => simp at hd; subst hd; exact h
      | succ i => exact h3 i d (by omega) (by simpa using hd)
    · rw [if_neg h]
      refine ⟨0, by simp, rfl, fun i d hi => by omega, fun d hd => ?_⟩
      simp at hd; subst hd
      simpa using h
theorem trimL_nil {cs s : List UInt8} : trimL cs s = [] ↔ s.all (fun c => inB cs c.toNat) = true := by
  induction s with
  | nil => simp [trimL]
  | cons c s ih =>
    unfold trimL
    by_cases h : inB cs c.toNat = true
    · rw [if_pos h, ih]; simp [h]
    · rw [if_neg h]; simp [h]
theorem trimL_length (cs s : List UInt8) : (trimL cs s).length ≤ s.length := by
  obtain ⟨k, h1, h2, _⟩ := trimL_drop cs s
  rw [h2]; simp
theorem trimR_length (cs s : List UInt8) : (trimR cs s).length ≤ s.length := by
  unfold trimR; have := trimL_length cs s.reverse; simpa using this
theorem trimL_cons_in {cs : List UInt8} {c : UInt8} (s : List UInt8) (h : inB cs c.toNat = true) : trimL cs (c :: s) = trimL cs s := by rw [trimL, if_pos h]
theorem trimL_cons_out {cs : List UInt8} {c : UInt8} (s : List UInt8) (h : inB cs c.toNat = false) : trimL cs (c :: s) = c :: s := by rw [trimL, if_neg (by simp [h])]
theorem trimR_snoc_in {cs : List UInt8} {c : UInt8} (s : List UInt8) (h : inB cs c.toNat = true) : trimR cs (s ++ [c]) = trimR cs s := by unfold trimR; rw [List.reverse_append]; simp only [List.reverse_cons, List.reverse_nil, List.nil_append, List.cons_append]; rw [trimL_cons_in _ h]
theorem trimR_snoc_out {cs : List UInt8} {c : UInt8} (s : List UInt8) (h : inB cs c.toNat = false) : trimR cs (s ++ [c]) = s ++ [c] := by unfold trimR; rw [List.reverse_append]; simp only [List.reverse_cons, List.reverse_nil, List.nil_append, List.cons_append]; rw [trimL_cons_out _ h]; simp
theorem trim_nil {cs s : List UInt8} : trimL cs (trimR cs s) = [] ↔ s.all (fun c => inB cs c.toNat) = true := by
  constructor
  · intro h
    have h1 := trimL_nil.1 h
    unfold trimR at h1
    obtain ⟨k, hk, hd, hi, ho⟩ := trimL_drop cs s.reverse
    rw [List.all_reverse, hd] at h1
    rw [← List.all_reverse, List.all_eq_true]
    intro c hc
    obtain ⟨i, hi2⟩ := List.mem_iff_getElem?.1 hc
    by_cases hik : i < k
    · exact hi i c hik hi2
    · refine List.all_eq_true.1 h1 c ?_
      refine List.mem_iff_getElem?.2 ⟨i - k, ?_⟩
      rw [List.getElem?_drop, show k + (i - k) = i by omega]; exact hi2
  · intro h
    have : trimR cs s = [] := by
      unfold trimR
      rw [trimL_nil.2 (by rw [List.all_reverse]; exact h)]; rfl
    rw [this]; rfl
set_option maxRecDepth 100000 in
set_option maxHeartbeats 4000000 in
theorem trimLeft_ev (cs s : List UInt8) (hs : s.length ≤ lim) (nm : Nat) : Ev cx 74 nm [.str s, .rp (asRow cs)] Mem.nil (.str (trimL cs s)) [] := by
  unfold lim at hs
  refine ev_go (fun cargs w => Tryd.call74 cargs w) Tryd.func74 rfl mixed (by kernel_rfl) rfl ?_; intro b0 hb0
  repeat' first | simp only [Tryd.results74, Tryd.ntmps74, κt, wks, plain_as, vcs, κa, κb, κc, κd, κe, κf, κg, κh, κi, κj, κk, κl, κm, reduceCtorEq, reduceIte, κn, κo, κp, κq, κr, κs, tys] | exact rfl | ((first | (refine call_val (g := ?_) ?_ ?_) | (refine call_valg (g := ?_) ?_ ?_)); rotate_left 1; (focus (simp only [Tryd.results74, Tryd.ntmps74, κt, wks, plain_as, vcs, κa, κb, κc, κd, κe, κf, κg, κh, κi, κj, κk, κl, κm, reduceCtorEq, reduceIte, κn, κo, κp, κq, κr, κs, tys] <;> exact rfl))) | refine draw_end (by decide +kernel) ?_ | refine cond_bool (fun hb => ?_) (fun hb => ?_) | refine cond_bit (fun hb => ?_) (fun hb => ?_) | refine And.intro (by omega) ?_ | refine And.intro (fun hb => ?_) (fun hb => ?_) | fail
  (refine loop_can2 cxG (fun x : List UInt8 => x.length) (fun x => x.length ≤ s.length ∧ trimL cs s = trimL cs x) (b0 + 16) (fun x => [(0, .str x), (1, .rp (asRow cs))]) (fun x => []) (s) [] ?_ ?_ ?_ ?_; rotate_left 1; (focus (show b0 ≤ _; omega)); (focus (refine ⟨?_, ?_⟩ <;> (try simp only [cans, plain_as, vcs, κa, κb, κc, κd, κe, κf, κg, κh, κi, κj, κk, κl, κm, reduceCtorEq, reduceIte, κn, κo, κp, κq, κr, κs, tys, injs]) <;> (try omega))); rotate_left 1)
  · exact ⟨Nat.le_refl _, rfl⟩
  · rintro x ⟨h1, h2⟩
    cases x with
    | nil =>
      have hz : trimL cs s = [] := h2
      have hd : decide ((0 : Int) < 0) = false := rfl
      ((repeat' first | simp only [Tryd.results74, Tryd.ntmps74, κt, wks, hz, hd, Nat.lt_irrefl, Int.lt_irrefl, vcs, κa, κb, κc, κd, κe, κf, κg, κh, κi, κj, κk, κl, κm, reduceCtorEq, reduceIte, κn, κo, κp, κq, κr, κs, tys] | exact rfl | ((first | (refine call_val (g := ?_) ?_ ?_) | (refine call_valg (g := ?_) ?_ ?_)); rotate_left 1; (focus (simp only [Tryd.results74, Tryd.ntmps74, κt, wks, hz, hd, Nat.lt_irrefl, Int.lt_irrefl, vcs, κa, κb, κc, κd, κe, κf, κg, κh, κi, κj, κk, κl, κm, reduceCtorEq, reduceIte, κn, κo, κp, κq, κr, κs, tys] <;> exact rfl))) | refine draw_end (by decide +kernel) ?_ | refine cond_bool (fun hb => ?_) (fun hb => ?_) | refine cond_bit (fun hb => ?_) (fun hb => ?_) | refine And.intro (by omega) ?_ | refine And.intro (fun hb => ?_) (fun hb => ?_) | fail); (all_goals (first | (refine Fin.pure ?_ ?_ ?_ <;> (try simp only [Tryd.results74, Tryd.ntmps74, wks, hz, hd, Nat.lt_irrefl, Int.lt_irrefl, vcs, κa, κb, κc, κd, κe, κf, κg, κh, κi, κj, κk, κl, κm, reduceCtorEq, reduceIte, κn, κo, κp, κq, κr, κs, tys]) <;> (try simp only [injs])) | skip)))
    | cons c x =>
      have hd : decide ((0 : Int) < (((c :: x).length : Nat) : Int)) = true := decide_eq_true (by simp only [List.length_cons]; omega)
      have hl : 0 < (c :: x).length := by simp
      have h1' : (1 : Int) ≤ (((c :: x).length : Nat) : Int) := by simp only [List.length_cons]; omega
      have h1'' : 1 ≤ (c :: x).length := by simp
      have hh := asHas_ev cs c
      simp only [List.length_cons] at hd hl h1' h1''
      cases hb : inB cs c.toNat with
      | true =>
        rw [hb] at hh
        repeat' first | simp only [Tryd.results74, Tryd.ntmps74, κt, wks, plain_as, hd, hl, h1', h1'', Bool.not_true, vcs, κa, κb, κc, κd, κe, κf, κg, κh, κi, κj, κk, κl, κm, reduceCtorEq, reduceIte, κn, κo, κp, κq, κr, κs, tys] | exact rfl | ((first | (refine call_fn ?_ (hh _) ?_) | (refine call_fn_g ?_ (fun _ => hh _) ?_)); (focus (simp only [Tryd.results74, Tryd.ntmps74, κt, wks, plain_as, hd, hl, h1', h1'', Bool.not_true, vcs, κa, κb, κc, κd, κe, κf, κg, κh, κi, κj, κk, κl, κm, reduceCtorEq, reduceIte, κn, κo, κp, κq, κr, κs, tys] <;> exact rfl))) | ((first | (refine call_val (g := ?_) ?_ ?_) | (refine call_valg (g := ?_) ?_ ?_)); rotate_left 1; (focus (simp only [Tryd.results74, Tryd.ntmps74, κt, wks, plain_as, hd, hl, h1', h1'', Bool.not_true, vcs, κa, κb, κc, κd, κe, κf, κg, κh, κi, κj, κk, κl, κm, reduceCtorEq, reduceIte, κn, κo, κp, κq, κr, κs, tys] <;> exact rfl))) | refine draw_end (by decide +kernel) ?_ | refine cond_bool (fun hb => ?_) (fun hb => ?_) | refine cond_bit (fun hb => ?_) (fun hb => ?_) | refine And.intro (by omega) ?_ | refine And.intro (fun hb => ?_) (fun hb => ?_) | fail
        all_goals ((refine again_can2 cxG (x) [] ?_ ?_ ?_ ?_; rotate_left 2; (focus (show b0 ≤ _; omega)); (focus (refine ⟨?_, ?_⟩ <;> (try simp only [cans, plain_as, vcs, κa, κb, κc, κd, κe, κf, κg, κh, κi, κj, κk, κl, κm, reduceCtorEq, reduceIte, κn, κo, κp, κq, κr, κs, tys, injs]) <;> (try omega)))))
        all_goals (first | (show x.length < (c :: x).length; simp; done) | (refine ⟨by simp at h1; omega, ?_⟩; rw [h2, trimL_cons_in _ hb]) | skip)
      | false =>
        rw [hb] at hh
        have hz : trimL cs s = c :: x := by rw [h2, trimL_cons_out _ hb]
        ((repeat' first | simp only [Tryd.results74, Tryd.ntmps74, κt, wks, plain_as, hd, hl, h1', h1'', hz, Bool.not_false, vcs, κa, κb, κc, κd, κe, κf, κg, κh, κi, κj, κk, κl, κm, reduceCtorEq, reduceIte, κn, κo, κp, κq, κr, κs, tys] | exact rfl | ((first | (refine call_fn ?_ (hh _) ?_) | (refine call_fn_g ?_ (fun _ => hh _) ?_)); (focus (simp only [Tryd.results74, Tryd.ntmps74, κt, wks, plain_as, hd, hl, h1', h1'', hz, Bool.not_false, vcs, κa, κb, κc, κd, κe, κf, κg, κh, κi, κj, κk, κl, κm, reduceCtorEq, reduceIte, κn, κo, κp, κq, κr, κs, tys] <;> exact rfl))) | ((first | (refine call_val (g := ?_) ?_ ?_) | (refine call_valg (g := ?_) ?_ ?_)); rotate_left 1; (focus (simp only [Tryd.results74, Tryd.ntmps74, κt, wks, plain_as, hd, hl, h1', h1'', hz, Bool.not_false, vcs, κa, κb, κc, κd, κe, κf, κg, κh, κi, κj, κk, κl, κm, reduceCtorEq, reduceIte, κn, κo, κp, κq, κr, κs, tys] <;> exact rfl))) | refine draw_end (by decide +kernel) ?_ | refine cond_bool (fun hb => ?_) (fun hb => ?_) | refine cond_bit (fun hb => ?_) (fun hb => ?_) | refine And.intro (by omega) ?_ | refine And.intro (fun hb => ?_) (fun hb => ?_) | fail); (all_goals (first | (refine Fin.pure ?_ ?_ ?_ <;> (try simp only [Tryd.results74, Tryd.ntmps74, wks, plain_as, hd, hl, h1', h1'', hz, Bool.not_false, vcs, κa, κb, κc, κd, κe, κf, κg, κh, κi, κj, κk, κl, κm, reduceCtorEq, reduceIte, κn, κo, κp, κq, κr, κs, tys]) <;> (try simp only [injs])) | skip)))
set_option maxRecDepth 100000 in
set_option maxHeartbeats 4000000 in
theorem trimRight_ev (cs s : List UInt8) (hs : s.length ≤ lim) (nm : Nat) : Ev cx 75 nm [.str s, .rp (asRow cs)] Mem.nil (.str (trimR cs s)) [] := by
  unfold lim at hs
  refine ev_go (fun cargs w => Tryd.call75 cargs w) Tryd.func75 rfl mixed (by kernel_rfl) rfl ?_; intro b0 hb0
  repeat' first | simp only [Tryd.results75, Tryd.ntmps75, κt, wks, plain_as, vcs, κa, κb, κc, κd, κe, κf, κg, κh, κi, κj, κk, κl, κm, reduceCtorEq, reduceIte, κn, κo, κp, κq, κr, κs, tys] | exact rfl | ((first | (refine call_val (g := ?_) ?_ ?_) | (refine call_valg (g := ?_) ?_ ?_)); rotate_left 1; (focus (simp only [Tryd.results75, Tryd.ntmps75, κt, wks, plain_as, vcs, κa, κb, κc, κd, κe, κf, κg, κh, κi, κj, κk, κl, κm, reduceCtorEq, reduceIte, κn, κo, κp, κq, κr, κs, tys] <;> exact rfl))) | refine draw_end (by decide +kernel) ?_ | refine cond_bool (fun hb => ?_) (fun hb => ?_) | refine cond_bit (fun hb => ?_) (fun hb => ?_) | refine And.intro (by omega) ?_ | refine And.intro (fun hb => ?_) (fun hb => ?_) | fail
  (refine loop_can2 cxG (fun x : List UInt8 => x.length) (fun x => x.length ≤ s.length ∧ trimR cs s = trimR cs x) (b0 + 16) (fun x => [(0, .str x), (1, .rp (asRow cs))]) (fun x => []) (s) [] ?_ ?_ ?_ ?_; rotate_left 1; (focus (show b0 ≤ _; omega)); (focus (refine ⟨?_, ?_⟩ <;> (try simp only [cans, plain_as, vcs, κa, κb, κc, κd, κe, κf, κg, κh, κi, κj, κk, κl, κm, reduceCtorEq, reduceIte, κn, κo, κp, κq, κr, κs, tys, injs]) <;> (try omega))); rotate_left 1)
  · exact ⟨Nat.le_refl _, rfl⟩
  · rintro x ⟨h1, h2⟩
    by_cases hne : x = []
    · subst hne
      have hz : trimR cs s = [] := h2
      ((repeat' first | simp only [Tryd.results75, Tryd.ntmps75, κt, wks, hz, Nat.lt_irrefl, Int.lt_irrefl, vcs, κa, κb, κc, κd, κe, κf, κg, κh, κi, κj, κk, κl, κm, reduceCtorEq, reduceIte, κn, κo, κp, κq, κr, κs, tys] | exact rfl | ((first | (refine call_val (g := ?_) ?_ ?_) | (refine call_valg (g := ?_) ?_ ?_)); rotate_left 1; (focus (simp only [Tryd.results75, Tryd.ntmps75, κt, wks, hz, Nat.lt_irrefl, Int.lt_irrefl, vcs, κa, κb, κc, κd, κe, κf, κg, κh, κi, κj, κk, κl, κm, reduceCtorEq, reduceIte, κn, κo, κp, κq, κr, κs, tys] <;> exact rfl))) | refine draw_end (by decide +kernel) ?_ | refine cond_bool (fun hb => ?_) (fun hb => ?_) | refine cond_bit (fun hb => ?_) (fun hb => ?_) | refine And.intro (by omega) ?_ | refine And.intro (fun hb => ?_) (fun hb => ?_) | fail); (all_goals (first | (refine Fin.pure ?_ ?_ ?_ <;> (try simp only [Tryd.results75, Tryd.ntmps75, wks, hz, Nat.lt_irrefl, Int.lt_irrefl, vcs, κa, κb, κc, κd, κe, κf, κg, κh, κi, κj, κk, κl, κm, reduceCtorEq, reduceIte, κn, κo, κp, κq, κr, κs, tys]) <;> (try simp only [injs])) | skip)))
    · obtain ⟨y, c, rfl⟩ : ∃ y c, x = y ++ [c] := ⟨x.dropLast, x.getLast hne, (List.dropLast_concat_getLast hne).symm⟩
      have hlen : (y ++ [c]).length = y.length + 1 := by simp
      have hd : decide ((0 : Int) < ((y.length + 1 : Nat) : Int)) = true := decide_eq_true (by omega)
      have hw : IntKind.i64.wrap (((y.length + 1 : Nat) : Int) - 1) = (y.length : Int) := by rw [wrap_in (by simp at h1; omega) (by simp at h1; omega)]; omega
      have hw2 : IntKind.i64.wrap ((y.length : Int) + 1 - 1) = (y.length : Int) := by rw [wrap_in (by simp at h1; omega) (by simp at h1; omega)]; omega
      have hg : (y ++ [c])[y.length]? = some c := by simp
      have hl1 : y.length < y.length + 1 := by omega
      have hl2 : (y.length : Int) ≤ ((y.length + 1 : Nat) : Int) := by omega
      have hl3 : y.length ≤ y.length + 1 := by omega
      have htk : (y ++ [c]).take y.length = y := by simp
      have hh := asHas_ev cs c
      cases hb : inB cs c.toNat with
      | true =>
        rw [hb] at hh
        repeat' first | simp only [Tryd.results75, Tryd.ntmps75, κt, wks, plain_as, hlen, hd, hw, hw2, hg, hl1, hl2, hl3, htk, Bool.not_true, vcs, κa, κb, κc, κd, κe, κf, κg, κh, κi, κj, κk, κl, κm, reduceCtorEq, reduceIte, κn, κo, κp, κq, κr, κs, tys] | exact rfl | ((first | (refine call_fn ?_ (hh _) ?_) | (refine call_fn_g ?_ (fun _ => hh _) ?_)); (focus (simp only [Tryd.results75, Tryd.ntmps75, κt, wks, plain_as, hlen, hd, hw, hw2, hg, hl1, hl2, hl3, htk, Bool.not_true, vcs, κa, κb, κc, κd, κe, κf, κg, κh, κi, κj, κk, κl, κm, reduceCtorEq, reduceIte, κn, κo, κp, κq, κr, κs, tys] <;> exact rfl))) | ((first | (refine call_val (g := ?_) ?_ ?_) | (refine call_valg (g := ?_) ?_ ?_)); rotate_left 1; (focus (simp only [Tryd.results75, Tryd.ntmps75, κt, wks, plain_as, hlen, hd, hw, hw2, hg, hl1, hl2, hl3, htk, Bool.not_true, vcs, κa, κb, κc, κd, κe, κf, κg, κh, κi, κj, κk, κl, κm, reduceCtorEq, reduceIte, κn, κo, κp, κq, κr, κs, tys] <;> exact rfl))) | refine draw_end (by decide +kernel) ?_ | refine cond_bool (fun hb => ?_) (fun hb => ?_) | refine cond_bit (fun hb => ?_) (fun hb => ?_) | refine And.intro (by omega) ?_ | refine And.intro (fun hb => ?_) (fun hb => ?_) | fail
        all_goals ((refine again_can2 cxG (y) [] ?_ ?_ ?_ ?_; rotate_left 2; (focus (show b0 ≤ _; omega)); (focus (refine ⟨?_, ?_⟩ <;> (try simp only [cans, plain_as, htk, vcs, κa, κb, κc, κd, κe, κf, κg, κh, κi, κj, κk, κl, κm, reduceCtorEq, reduceIte, κn, κo, κp, κq, κr, κs, tys, injs]) <;> (try omega)))))
        all_goals (first | (show y.length < (y ++ [c]).length; simp only [List.length_append, List.length_singleton]; omega) | omega | (refine ⟨by simp at h1; omega, ?_⟩; rw [h2, trimR_snoc_in _ hb]) | skip)
      | false =>
        rw [hb] at hh
        have hz : trimR cs s = y ++ [c] := by rw [h2, trimR_snoc_out _ hb]
        ((repeat' first | simp only [Tryd.results75, Tryd.ntmps75, κt, wks, plain_as, hlen, hd, hw, hw2, hg, hl1, hl2, hl3, hz, Bool.not_false, vcs, κa, κb, κc, κd, κe, κf, κg, κh, κi, κj, κk, κl, κm, reduceCtorEq, reduceIte, κn, κo, κp, κq, κr, κs, tys] | exact rfl | ((first | (refine call_fn ?_ (hh _) ?_) | (refine call_fn_g ?_ (fun _ => hh _) ?_)); (focus (simp only [Tryd.results75, Tryd.ntmps75, κt, wks, plain_as, hlen, hd, hw, hw2, hg, hl1, hl2, hl3, hz, Bool.not_false, vcs, κa, κb, κc, κd, κe, κf, κg, κh, κi, κj, κk, κl, κm, reduceCtorEq, reduceIte, κn, κo, κp, κq, κr, κs, tys] <;> exact rfl))) | ((first | (refine call_val (g := ?_) ?_ ?_) | (refine call_valg (g := ?_) ?_ ?_)); rotate_left 1; (focus (simp only [Tryd.results75, Tryd.ntmps75, κt, wks, plain_as, hlen, hd, hw, hw2, hg, hl1, hl2, hl3, hz, Bool.not_false, vcs, κa, κb, κc, κd, κe, κf, κg, κh, κi, κj, κk, κl, κm, reduceCtorEq, reduceIte, κn, κo, κp, κq, κr, κs, tys] <;> exact rfl))) | refine draw_end (by decide +kernel) ?_ | refine cond_bool (fun hb => ?_) (fun hb => ?_) | refine cond_bit (fun hb => ?_) (fun hb => ?_) | refine And.intro (by omega) ?_ | refine And.intro (fun hb => ?_) (fun hb => ?_) | fail); (all_goals (first | (refine Fin.pure ?_ ?_ ?_ <;> (try simp only [Tryd.results75, Tryd.ntmps75, wks, plain_as, hlen, hd, hw, hw2, hg, hl1, hl2, hl3, hz, Bool.not_false, vcs, κa, κb, κc, κd, κe, κf, κg, κh, κi, κj, κk, κl, κm, reduceCtorEq, reduceIte, κn, κo, κp, κq, κr, κs, tys]) <;> (try simp only [injs])) | skip)))
set_option maxRecDepth 100000 in
set_option maxHeartbeats 4000000 in
theorem trim_ev (cs s : List UInt8) (h : ∀ c ∈ cs, c.toNat < 128) (hl : cs.length ≤ 100) (h2 : 2 ≤ cs.length) (hs : s.length ≤ lim) (nm : Nat) : Ev cx 53 nm [.str s, .str cs] Mem.nil (.str (trimL cs (trimR cs s))) [] := by
  have hcs : (cs == []) = false := beq_false_of_ne (by intro e; subst e; simp at h2)
  by_cases h0 : s = []
  · subst h0
    have e0 : (([] : List UInt8) == []) = true := rfl
    have e1 : trimL cs (trimR cs []) = [] := rfl
    refine ev_go (fun cargs w => Tryd.call53 cargs w) Tryd.func53 rfl mixed (by kernel_rfl) rfl ?_; intro b0 hb0
    ((repeat' first | simp only [Tryd.results53, Tryd.ntmps53, κt, wks, e0, e1, vcs, κa, κb, κc, κd, κe, κf, κg, κh, κi, κj, κk, κl, κm, reduceCtorEq, reduceIte, κn, κo, κp, κq, κr, κs, tys] | exact rfl | ((first | (refine call_val (g := ?_) ?_ ?_) | (refine call_valg (g := ?_) ?_ ?_)); rotate_left 1; (focus (simp only [Tryd.results53, Tryd.ntmps53, κt, wks, e0, e1, vcs, κa, κb, κc, κd, κe, κf, κg, κh, κi, κj, κk, κl, κm, reduceCtorEq, reduceIte, κn, κo, κp, κq, κr, κs, tys] <;> exact rfl))) | refine draw_end (by decide +kernel) ?_ | refine cond_bool (fun hb => ?_) (fun hb => ?_) | refine cond_bit (fun hb => ?_) (fun hb => ?_) | refine And.intro (by omega) ?_ | refine And.intro (fun hb => ?_) (fun hb => ?_) | fail); (all_goals (first | (refine Fin.pure ?_ ?_ ?_ <;> (try simp only [Tryd.results53, Tryd.ntmps53, wks, e0, e1, vcs, κa, κb, κc, κd, κe, κf, κg, κh, κi, κj, κk, κl, κm, reduceCtorEq, reduceIte, κn, κo, κp, κq, κr, κs, tys]) <;> (try simp only [injs])) | skip)))
  · have e0 : (s == []) = false := beq_false_of_ne h0
    have e2 : ((cs.length : Int) == 1) = false := beq_false_of_ne (by omega)
    have hsr : (trimR cs s).length ≤ lim := Nat.le_trans (trimR_length cs s) hs
    refine ev_go (fun cargs w => Tryd.call53 cargs w) Tryd.func53 rfl mixed (by kernel_rfl) rfl ?_; intro b0 hb0
    ((repeat' first | simp only [Tryd.results53, Tryd.ntmps53, κt, wks, e0, hcs, e2, as_lit, as_take, as_drop, as_one, fin_as, finOk_as, leL_as, asRow_length, plain_as, plain_asL, vcs, κa, κb, κc, κd, κe, κf, κg, κh, κi, κj, κk, κl, κm, reduceCtorEq, reduceIte, κn, κo, κp, κq, κr, κs, tys] | exact rfl | ((first | (refine call_fn ?_ (ascii_ev cs h hl _) ?_) | (refine call_fn_g ?_ (fun _ => ascii_ev cs h hl _) ?_)); (focus (simp only [Tryd.results53, Tryd.ntmps53, κt, wks, e0, hcs, e2, as_lit, as_take, as_drop, as_one, fin_as, finOk_as, leL_as, asRow_length, plain_as, plain_asL, vcs, κa, κb, κc, κd, κe, κf, κg, κh, κi, κj, κk, κl, κm, reduceCtorEq, reduceIte, κn, κo, κp, κq, κr, κs, tys] <;> exact rfl))) | ((first | (refine call_fn_vx (xs := ?_) [b0 + 320] ?_ ?_ ?_ rfl (trimRight_ev cs s hs _) ?_) | (refine call_fn_vx (xs := ?_) [b0 + 320] ?_ ?_ ?_ rfl (trimLeft_ev cs (trimR cs s) hsr _) ?_)); rotate_left 1; iterate 3 (focus (simp only [fins, mems, Tryd.results53, Tryd.ntmps53, κt, wks, e0, hcs, e2, as_lit, as_take, as_drop, as_one, fin_as, finOk_as, leL_as, asRow_length, plain_as, plain_asL, vcs, κa, κb, κc, κd, κe, κf, κg, κh, κi, κj, κk, κl, κm, reduceCtorEq, reduceIte, κn, κo, κp, κq, κr, κs, tys] <;> (first | exact rfl | omega)))) | ((first | (refine call_val (g := ?_) ?_ ?_) | (refine call_valg (g := ?_) ?_ ?_)); rotate_left 1; (focus (simp only [Tryd.results53, Tryd.ntmps53, κt, wks, e0, hcs, e2, as_lit, as_take, as_drop, as_one, fin_as, finOk_as, leL_as, asRow_length, plain_as, plain_asL, vcs, κa, κb, κc, κd, κe, κf, κg, κh, κi, κj, κk, κl, κm, reduceCtorEq, reduceIte, κn, κo, κp, κq, κr, κs, tys] <;> exact rfl))) | refine draw_end (by decide +kernel) ?_ | refine cond_bool (fun hb => ?_) (fun hb => ?_) | refine cond_bit (fun hb => ?_) (fun hb => ?_) | refine And.intro (by omega) ?_ | refine And.intro (fun hb => ?_) (fun hb => ?_) | fail); (all_goals (first | (refine Fin.pure ?_ ?_ ?_ <;> (try simp only [Tryd.results53, Tryd.ntmps53, wks, e0, hcs, e2, as_lit, as_take, as_drop, as_one, fin_as, finOk_as, leL_as, asRow_length, plain_as, plain_asL, vcs, κa, κb, κc, κd, κe, κf, κg, κh, κi, κj, κk, κl, κm, reduceCtorEq, reduceIte, κn, κo, κp, κq, κr, κs, tys]) <;> (try simp only [injs])) | skip)))
end Go.Proofs.YtanahnknjboplaaDoor
/-
  Layer 10 by the machine: a text, a shut tag, an element taken by a tree under way.
-/
namespace Go.Proofs.YtanahnknjboplaaDoor
set_option linter.unusedSimpArgs false
set_option linter.unusedVariables false
open Nat renaming reduceAdd → κa, reduceMul → κb, reduceEqDiff → κc, reduceLeDiff → κd, reduceSub → κe, reduceLT → κf, reduceBEq → κr, reduceBNe → κs, reducePow → κt
open Int renaming reduceToNat → κg, reduceLE → κh, reduceLT → κi, reduceAdd → κj, reduceSub → κk, reduceMul → κl, reduceNeg → κm, reduceBEq → κn, reduceBNe → κo, reduceEq → κp, reduceNe → κq
open Go Go.RowKit Go.Proofs.YtanahnknjboplaaDoor.Vm Go.Lib

theorem blank_in (s : List UInt8) : (s.all fun c => inB [32, 9, 10, 13] c.toNat) = blankL s := by
  unfold blankL
  congr 1
  funext c
  have h : ∀ d : UInt8, (d.toNat == c.toNat) = (c == d) := fun d => by
    rw [Bool.eq_iff_iff, beq_iff_eq, beq_iff_eq]
    exact ⟨fun h => (UInt8.toNat_inj.1 h).symm, fun h => by rw [h]⟩
  simp only [inB, blankB, List.any_cons, List.any_nil, h, Bool.or_false, Bool.or_assoc]
theorem trim_blank (s : List UInt8) : (trimL [32, 9, 10, 13] (trimR [32, 9, 10, 13] s) == []) = blankL s := by
  rw [← blank_in, Bool.eq_iff_iff, beq_iff_eq, trim_nil]
theorem len_opn (o : List Nat) : ((o.length : Int) == 0) = o.isEmpty := len_zero o
theorem addG_map (g : Gr) (n : Nd) : (addG g n).map ndC = (incG g.v g.opn).map ndC ++ [ndC n] := by simp [addG]
theorem leLL_snoc (a : List (List V)) (r s : List V) : leLL (a ++ [r]) (a ++ [s]) = leL r s := by
  apply propext
  induction a with
  | nil => simp [leLL]
  | cons x a ih =>
    simp only [List.cons_append, leLL, ih]
    exact ⟨fun h => h.2, fun h => ⟨leL_refl x, h⟩⟩
theorem fresh_selfU (n : Nat) : Fresh n n = True := eq_true ⟨Nat.le_refl _, by omega⟩
/-- Where a text is taken. -/
def wordsBad (g : Gr) (t : Tk) (last : Nat) : Bool := (last == 4) || (g.opn.isEmpty && !blankL t.text)
set_option maxRecDepth 100000 in
set_option maxHeartbeats 4000000 in
theorem words_no (g : Gr) (n : Nat) (hg : g.Ok n) (hn : n ≤ 1000) (junk : List Nat) (last q y z : Nat) (t : Tk) (ht : t.text.length ≤ lim) (e : Int) (he : (wordsBad g t last = true ∧ e = 80) ∨ (wordsBad g t last = false ∧ g.opn = [] ∧ e = 0)) (M : Mem) (nm : Nat) (hqy : q ≠ y) (hqz : q ≠ z) (hyz : y ≠ z) (hq : M q = some ⟨3, [grC y z g last]⟩) (hy : M y = some ⟨6, g.v.map ndC⟩) (hz : M z = some ⟨1, (g.opn ++ junk).map noC⟩) (ho : ∀ w, (M w).isSome = true → w ∈ [q, y, z]) :
    Ev cx 29 nm [.ptr q 0 0, .agg (tkC t)] M (.int .i64 e) [(q, some ⟨3, [grC y z g last]⟩), (y, some ⟨6, g.v.map ndC⟩), (z, some ⟨1, (g.opn ++ junk).map noC⟩)] := by
  have htr := trim_ev [32, 9, 10, 13] t.text (by decide) (by decide) (by decide) ht
  have htb := trim_blank t.text
  generalize trimL [32, 9, 10, 13] (trimR [32, 9, 10, 13] t.text) = tr at htr htb
  have ho0 := len_opn g.opn
  have hlt4 : ((last : Int) == 4) = (last == 4) := by rw [Bool.eq_iff_iff]; simp; omega
  have hop : g.opn = [] → g.opn.isEmpty = true := fun h => by rw [h]; rfl
  unfold wordsBad at he
  generalize hA : (last == 4) = bA at he hlt4
  generalize hB : g.opn.isEmpty = bB at he ho0 hop
  generalize hC : blankL t.text = bC at he htb
  have hcs : (bA = true ∧ e = 80) ∨ (bA = false ∧ bB = true ∧ bC = false ∧ e = 80) ∨ (bA = false ∧ bB = true ∧ bC = true ∧ e = 0) := by
    rcases he with ⟨h1, h2⟩ | ⟨h1, h2, h3⟩
    · cases bA <;> cases bB <;> cases bC <;> simp at h1 ⊢ <;> exact h2
    · have := hop h2
      subst this
      cases bA <;> cases bC <;> simp at h1 ⊢ <;> exact h3
  clear he
  rcases hcs with ⟨rfl, rfl⟩ | ⟨rfl, rfl, rfl, rfl⟩ | ⟨rfl, rfl, rfl, rfl⟩ <;> (try cases bB) <;> (
    refine ev_go (fun cargs w => Tryd.call29 cargs w) Tryd.func29 rfl mixed (by kernel_rfl) rfl ?_; intro b0 hb0
    have lq : q < b0 := below_of hb0 (by rw [hq]; rfl)
    have z0 := lt_ne lq; have z1 := lt_ne_add lq; have z2 := lt_ne' lq; have z3 := lt_ne_add' lq
    have ly : y < b0 := below_of hb0 (by rw [hy]; rfl)
    have y0 := lt_ne ly; have y1 := lt_ne_add ly; have y2 := lt_ne' ly; have y3 := lt_ne_add' ly
    have lz : z < b0 := below_of hb0 (by rw [hz]; rfl)
    have w0 := lt_ne lz; have w1 := lt_ne_add lz; have w2 := lt_ne' lz; have w3 := lt_ne_add' lz
    have n1 := eq_false hqy; have n2 := eq_false hqz; have n3 := eq_false hyz
    have n4 := eq_false (Ne.symm hqy); have n5 := eq_false (Ne.symm hqz); have n6 := eq_false (Ne.symm hyz)
    repeat' first | simp only [Tryd.results29, Tryd.ntmps29, κt, wks, tkC, grC, ho0, hlt4, htb, hq, hy, hz, z0, z1, z2, z3, y0, y1, y2, y3, w0, w1, w2, w3, n1, n2, n3, n4, n5, n6, Bool.not_true, Bool.not_false, List.length_map, vcs, κa, κb, κc, κd, κe, κf, κg, κh, κi, κj, κk, κl, κm, reduceCtorEq, reduceIte, κn, κo, κp, κq, κr, κs, tys] | exact rfl | ((first | (refine call_fn ?_ (htr _) ?_) | (refine call_fn_g ?_ (fun _ => htr _) ?_)); (focus (simp only [Tryd.results29, Tryd.ntmps29, κt, wks, tkC, grC, ho0, hlt4, htb, hq, hy, hz, z0, z1, z2, z3, y0, y1, y2, y3, w0, w1, w2, w3, n1, n2, n3, n4, n5, n6, Bool.not_true, Bool.not_false, List.length_map, vcs, κa, κb, κc, κd, κe, κf, κg, κh, κi, κj, κk, κl, κm, reduceCtorEq, reduceIte, κn, κo, κp, κq, κr, κs, tys] <;> exact rfl))) | (refine call_off (v := .any) ?_) | ((first | (refine call_val (g := ?_) ?_ ?_) | (refine call_valg (g := ?_) ?_ ?_)); rotate_left 1; (focus (simp only [Tryd.results29, Tryd.ntmps29, κt, wks, tkC, grC, ho0, hlt4, htb, hq, hy, hz, z0, z1, z2, z3, y0, y1, y2, y3, w0, w1, w2, w3, n1, n2, n3, n4, n5, n6, Bool.not_true, Bool.not_false, List.length_map, vcs, κa, κb, κc, κd, κe, κf, κg, κh, κi, κj, κk, κl, κm, reduceCtorEq, reduceIte, κn, κo, κp, κq, κr, κs, tys] <;> exact rfl))) | refine draw_end (by decide +kernel) ?_ | refine cond_bool (fun hb => ?_) (fun hb => ?_) | refine cond_bit (fun hb => ?_) (fun hb => ?_) | refine And.intro (by omega) ?_ | refine And.intro (fun hb => ?_) (fun hb => ?_) | fail
    all_goals ((refine Fin.give [(q, none), (y, none), (z, none)] [] ?_ ?_ ?_ ?_ ?_ (fun q hq => by have hqq := ho q hq; first | (simp only [gives, tgt, List.map_cons, List.map_nil, List.mem_cons, List.not_mem_nil, or_false] at hqq ⊢; omega) | (simp only [gives, tgt, List.map_cons, List.map_nil, List.mem_cons, List.not_mem_nil, or_false] at hqq)) <;> (try simp only [Tryd.results29, Tryd.ntmps29, wks, tkC, grC, hq, hy, hz, z0, z1, z2, z3, y0, y1, y2, y3, w0, w1, w2, w3, n1, n2, n3, n4, n5, n6, Bool.and_self, Bool.false_and, plain_nd, plain_no, List.length_map, giv, vcs, κa, κb, κc, κd, κe, κf, κg, κh, κi, κj, κk, κl, κm, reduceCtorEq, reduceIte, κn, κo, κp, κq, κr, κs, tys]) <;> (try simp only [injs]) <;> (try omega))))
set_option maxRecDepth 100000 in
set_option maxHeartbeats 4000000 in
theorem words_add (g : Gr) (n : Nat) (hg : g.Ok n) (hn : n ≤ 1000) (junk : List Nat) (last q y z : Nat) (t : Tk) (hl4 : (last == 4) = false) (hop : g.opn.isEmpty = false) (M : Mem) (nm : Nat) (hqy : q ≠ y) (hqz : q ≠ z) (hyz : y ≠ z) (hq : M q = some ⟨3, [grC y z g last]⟩) (hy : M y = some ⟨6, g.v.map ndC⟩) (hz : M z = some ⟨1, (g.opn ++ junk).map noC⟩) (ho : ∀ w, (M w).isSome = true → w ∈ [q, y, z]) (hqn : q < nm) (hyn : y < nm) (hzn : z < nm) :
    Ev cx 29 nm [.ptr q 0 0, .agg (tkC t)] M (.int .i64 0) [(y, none), (q, some ⟨3, [[.own nm 0 (g.v.length + 1), .own z 0 g.opn.length, .int .u8 last]]⟩), (z, some ⟨1, (g.opn ++ junk).map noC⟩), (nm, some ⟨6, (incG g.v g.opn).map ndC ++ [[.int .u8 2, .str [], .str [], .nils, .str t.text, .int .i64 0]]⟩)] := by
  have ho0 := len_opn g.opn
  rw [hop] at ho0
  have hlt4 : ((last : Int) == 4) = false := by rw [← hl4, Bool.eq_iff_iff]; simp; omega
  refine ev_go (fun cargs w => Tryd.call29 cargs w) Tryd.func29 rfl mixed (by kernel_rfl) rfl ?_; intro b0 hb0
  have lq : q < b0 := below_of hb0 (by rw [hq]; rfl)
  have z0 := lt_ne lq; have z1 := lt_ne_add lq; have z2 := lt_ne' lq; have z3 := lt_ne_add' lq
  have ly : y < b0 := below_of hb0 (by rw [hy]; rfl)
  have y0 := lt_ne ly; have y1 := lt_ne_add ly; have y2 := lt_ne' ly; have y3 := lt_ne_add' ly
  have lz : z < b0 := below_of hb0 (by rw [hz]; rfl)
  have w0 := lt_ne lz; have w1 := lt_ne_add lz; have w2 := lt_ne' lz; have w3 := lt_ne_add' lz
  have n1 := eq_false hqy; have n2 := eq_false hqz; have n3 := eq_false hyz
  have n4 := eq_false (Ne.symm hqy); have n5 := eq_false (Ne.symm hqz); have n6 := eq_false (Ne.symm hyz)
  have e1 := hq; have e2 := hy; have e3 := hz
  have hadd := fun (M' : Mem) (a : M' q = some ⟨3, [grC y z g last]⟩) (b : M' y = some ⟨6, g.v.map ndC⟩) (c : M' z = some ⟨1, (g.opn ++ junk).map noC⟩) (d : ∀ w, (M' w).isSome = true → w ∈ [q, y, z]) (m : Nat) (h1 : q < m) (h2 : y < m) (h3 : z < m) => addP_ev g n hg hn junk last q y z (textN t.text) M' m hqy hqz hyz a b c d h1 h2 h3
  repeat' first | simp only [Tryd.results29, Tryd.ntmps29, κt, wks, tkC, grC, textN, ho0, hlt4, hq, hy, hz, fresh_selfU, z0, z1, z2, z3, y0, y1, y2, y3, w0, w1, w2, w3, n1, n2, n3, n4, n5, n6, Bool.not_true, Bool.not_false, List.length_map, vcs, κa, κb, κc, κd, κe, κf, κg, κh, κi, κj, κk, κl, κm, reduceCtorEq, reduceIte, κn, κo, κp, κq, κr, κs, tys] | exact rfl | ((refine call_fn_full ?_ [q, y, z] (hadd _ ?_ ?_ ?_ only_mem _ (by omega) (by omega) (by omega)) ?_ ?_); iterate 5 (focus (simp only [mems, Tryd.results29, Tryd.ntmps29, κt, wks, tkC, grC, textN, ho0, hlt4, hq, hy, hz, fresh_selfU, z0, z1, z2, z3, y0, y1, y2, y3, w0, w1, w2, w3, n1, n2, n3, n4, n5, n6, Bool.not_true, Bool.not_false, List.length_map, vcs, κa, κb, κc, κd, κe, κf, κg, κh, κi, κj, κk, κl, κm, reduceCtorEq, reduceIte, κn, κo, κp, κq, κr, κs, tys] <;> exact rfl))) | (refine call_off (v := .any) ?_) | ((first | (refine call_val (g := ?_) ?_ ?_) | (refine call_valg (g := ?_) ?_ ?_)); rotate_left 1; (focus (simp only [Tryd.results29, Tryd.ntmps29, κt, wks, tkC, grC, textN, ho0, hlt4, hq, hy, hz, fresh_selfU, z0, z1, z2, z3, y0, y1, y2, y3, w0, w1, w2, w3, n1, n2, n3, n4, n5, n6, Bool.not_true, Bool.not_false, List.length_map, vcs, κa, κb, κc, κd, κe, κf, κg, κh, κi, κj, κk, κl, κm, reduceCtorEq, reduceIte, κn, κo, κp, κq, κr, κs, tys] <;> exact rfl))) | refine draw_end (by decide +kernel) ?_ | refine cond_bool (fun hb => ?_) (fun hb => ?_) | refine cond_bit (fun hb => ?_) (fun hb => ?_) | refine And.intro (by omega) ?_ | refine And.intro (fun hb => ?_) (fun hb => ?_) | fail
  all_goals ((refine Fin.give [(q, none), (z, none), (b0 + 464, some 0)] [y] ?_ ?_ ?_ ?_ ?_ (fun q hq => by have hqq := ho q hq; first | (simp only [gives, tgt, List.map_cons, List.map_nil, List.mem_cons, List.not_mem_nil, or_false] at hqq ⊢; omega) | (simp only [gives, tgt, List.map_cons, List.map_nil, List.mem_cons, List.not_mem_nil, or_false] at hqq)) <;> (try simp only [Tryd.results29, Tryd.ntmps29, wks, tkC, grC, hq, hy, hz, z0, z1, z2, z3, y0, y1, y2, y3, w0, w1, w2, w3, n1, n2, n3, n4, n5, n6, Bool.and_self, Bool.false_and, plainLL_append, plain_nd, plain_no, List.length_map, giv, vcs, κa, κb, κc, κd, κe, κf, κg, κh, κi, κj, κk, κl, κm, reduceCtorEq, reduceIte, κn, κo, κp, κq, κr, κs, tys]) <;> (try simp only [injs]) <;> (try omega)))
set_option maxRecDepth 100000 in
set_option maxHeartbeats 4000000 in
theorem shut_no (g : Gr) (n : Nat) (hg : g.Ok n) (hn : n ≤ 1000) (junk : List Nat) (last q y z : Nat) (t : Tk) (hlast : lastName g ≠ some t.name) (M : Mem) (nm : Nat) (hqy : q ≠ y) (hqz : q ≠ z) (hyz : y ≠ z) (hq : M q = some ⟨3, [grC y z g last]⟩) (hy : M y = some ⟨6, g.v.map ndC⟩) (hz : M z = some ⟨1, (g.opn ++ junk).map noC⟩) (ho : ∀ w, (M w).isSome = true → w ∈ [q, y, z]) :
    Ev cx 28 nm [.ptr q 0 0, .agg (tkC t)] M (.int .i64 80) [(q, some ⟨3, [grC y z g last]⟩), (y, some ⟨6, g.v.map ndC⟩), (z, some ⟨1, (g.opn ++ junk).map noC⟩)] := by
  have hvl := hg.len
  have hl12 := hg.deep
  have ho0 := len_opn g.opn
  by_cases h0 : g.opn = []
  · have hop : g.opn.isEmpty = true := by rw [h0]; rfl
    rw [hop] at ho0
    refine ev_go (fun cargs w => Tryd.call28 cargs w) Tryd.func28 rfl mixed (by kernel_rfl) rfl ?_; intro b0 hb0
    have lq : q < b0 := below_of hb0 (by rw [hq]; rfl)
    have z0 := lt_ne lq; have z1 := lt_ne_add lq; have z2 := lt_ne' lq; have z3 := lt_ne_add' lq
    have ly : y < b0 := below_of hb0 (by rw [hy]; rfl)
    have y0 := lt_ne ly; have y1 := lt_ne_add ly; have y2 := lt_ne' ly; have y3 := lt_ne_add' ly
    have lz : z < b0 := below_of hb0 (by rw [hz]; rfl)
    have w0 := lt_ne lz; have w1 := lt_ne_add lz; have w2 := lt_ne' lz; have w3 := lt_ne_add' lz
    have n1 := eq_false hqy; have n2 := eq_false hqz; have n3 := eq_false hyz
    have n4 := eq_false (Ne.symm hqy); have n5 := eq_false (Ne.symm hqz); have n6 := eq_false (Ne.symm hyz)
    repeat' first | simp only [Tryd.results28, Tryd.ntmps28, κt, wks, tkC, grC, ho0, hq, hy, hz, z0, z1, z2, z3, y0, y1, y2, y3, w0, w1, w2, w3, n1, n2, n3, n4, n5, n6, Bool.not_true, Bool.not_false, List.length_map, vcs, κa, κb, κc, κd, κe, κf, κg, κh, κi, κj, κk, κl, κm, reduceCtorEq, reduceIte, κn, κo, κp, κq, κr, κs, tys] | exact rfl | ((first | (refine call_val (g := ?_) ?_ ?_) | (refine call_valg (g := ?_) ?_ ?_)); rotate_left 1; (focus (simp only [Tryd.results28, Tryd.ntmps28, κt, wks, tkC, grC, ho0, hq, hy, hz, z0, z1, z2, z3, y0, y1, y2, y3, w0, w1, w2, w3, n1, n2, n3, n4, n5, n6, Bool.not_true, Bool.not_false, List.length_map, vcs, κa, κb, κc, κd, κe, κf, κg, κh, κi, κj, κk, κl, κm, reduceCtorEq, reduceIte, κn, κo, κp, κq, κr, κs, tys] <;> exact rfl))) | refine draw_end (by decide +kernel) ?_ | refine cond_bool (fun hb => ?_) (fun hb => ?_) | refine cond_bit (fun hb => ?_) (fun hb => ?_) | refine And.intro (by omega) ?_ | refine And.intro (fun hb => ?_) (fun hb => ?_) | fail
    all_goals ((refine Fin.give [(q, none), (y, none), (z, none)] [] ?_ ?_ ?_ ?_ ?_ (fun q hq => by have hqq := ho q hq; first | (simp only [gives, tgt, List.map_cons, List.map_nil, List.mem_cons, List.not_mem_nil, or_false] at hqq ⊢; omega) | (simp only [gives, tgt, List.map_cons, List.map_nil, List.mem_cons, List.not_mem_nil, or_false] at hqq)) <;> (try simp only [Tryd.results28, Tryd.ntmps28, wks, tkC, grC, hq, hy, hz, z0, z1, z2, z3, y0, y1, y2, y3, w0, w1, w2, w3, n1, n2, n3, n4, n5, n6, Bool.and_self, Bool.false_and, plain_nd, plain_no, List.length_map, giv, vcs, κa, κb, κc, κd, κe, κf, κg, κh, κi, κj, κk, κl, κm, reduceCtorEq, reduceIte, κn, κo, κp, κq, κr, κs, tys]) <;> (try simp only [injs]) <;> (try omega)))
  · obtain ⟨k, hk⟩ := last_some h0
    obtain ⟨_, hk2, hk3⟩ := last_get hk
    have hop : g.opn.isEmpty = false := by simpa using h0
    rw [hop] at ho0
    have hkv := hg.in_ k (List.mem_of_getElem? hk2)
    obtain ⟨x0, hx0⟩ : ∃ x0, g.v[k]? = some x0 := ⟨_, List.getElem?_eq_getElem hkv⟩
    have hwl : IntKind.i64.wrap ((g.opn.length : Int) - 1) = ((g.opn.length - 1 : Nat) : Int) := by rw [wrap_in (by omega) (by omega)]; omega
    have hlt : g.opn.length - 1 < g.opn.length := by omega
    have hno := no_at (m := junk) hk2
    have hnd := nd_at hx0
    have hne : (x0.name == t.name) = false := beq_false_of_ne (fun e => hlast (by unfold lastName; rw [hk]; simp [hx0, e]))
    refine ev_go (fun cargs w => Tryd.call28 cargs w) Tryd.func28 rfl mixed (by kernel_rfl) rfl ?_; intro b0 hb0
    have lq : q < b0 := below_of hb0 (by rw [hq]; rfl)
    have z0 := lt_ne lq; have z1 := lt_ne_add lq; have z2 := lt_ne' lq; have z3 := lt_ne_add' lq
    have ly : y < b0 := below_of hb0 (by rw [hy]; rfl)
    have y0 := lt_ne ly; have y1 := lt_ne_add ly; have y2 := lt_ne' ly; have y3 := lt_ne_add' ly
    have lz : z < b0 := below_of hb0 (by rw [hz]; rfl)
    have w0 := lt_ne lz; have w1 := lt_ne_add lz; have w2 := lt_ne' lz; have w3 := lt_ne_add' lz
    have n1 := eq_false hqy; have n2 := eq_false hqz; have n3 := eq_false hyz
    have n4 := eq_false (Ne.symm hqy); have n5 := eq_false (Ne.symm hqz); have n6 := eq_false (Ne.symm hyz)
    repeat' first | simp only [Tryd.results28, Tryd.ntmps28, κt, wks, tkC, grC, ho0, hwl, hlt, hno, noC, hnd, ndC, hkv, hne, hq, hy, hz, z0, z1, z2, z3, y0, y1, y2, y3, w0, w1, w2, w3, n1, n2, n3, n4, n5, n6, Bool.not_true, Bool.not_false, List.length_map, vcs, κa, κb, κc, κd, κe, κf, κg, κh, κi, κj, κk, κl, κm, reduceCtorEq, reduceIte, κn, κo, κp, κq, κr, κs, tys] | exact rfl | ((first | (refine call_val (g := ?_) ?_ ?_) | (refine call_valg (g := ?_) ?_ ?_)); rotate_left 1; (focus (simp only [Tryd.results28, Tryd.ntmps28, κt, wks, tkC, grC, ho0, hwl, hlt, hno, noC, hnd, ndC, hkv, hne, hq, hy, hz, z0, z1, z2, z3, y0, y1, y2, y3, w0, w1, w2, w3, n1, n2, n3, n4, n5, n6, Bool.not_true, Bool.not_false, List.length_map, vcs, κa, κb, κc, κd, κe, κf, κg, κh, κi, κj, κk, κl, κm, reduceCtorEq, reduceIte, κn, κo, κp, κq, κr, κs, tys] <;> exact rfl))) | refine draw_end (by decide +kernel) ?_ | refine cond_bool (fun hb => ?_) (fun hb => ?_) | refine cond_bit (fun hb => ?_) (fun hb => ?_) | refine And.intro (by omega) ?_ | refine And.intro (fun hb => ?_) (fun hb => ?_) | fail
    all_goals ((refine Fin.give [(q, none), (y, none), (z, none)] [] ?_ ?_ ?_ ?_ ?_ (fun q hq => by have hqq := ho q hq; first | (simp only [gives, tgt, List.map_cons, List.map_nil, List.mem_cons, List.not_mem_nil, or_false] at hqq ⊢; omega) | (simp only [gives, tgt, List.map_cons, List.map_nil, List.mem_cons, List.not_mem_nil, or_false] at hqq)) <;> (try simp only [Tryd.results28, Tryd.ntmps28, wks, tkC, grC, hq, hy, hz, z0, z1, z2, z3, y0, y1, y2, y3, w0, w1, w2, w3, n1, n2, n3, n4, n5, n6, Bool.and_self, Bool.false_and, plain_nd, plain_no, List.length_map, giv, vcs, κa, κb, κc, κd, κe, κf, κg, κh, κi, κj, κk, κl, κm, reduceCtorEq, reduceIte, κn, κo, κp, κq, κr, κs, tys]) <;> (try simp only [injs]) <;> (try omega)))
set_option maxRecDepth 100000 in
set_option maxHeartbeats 4000000 in
theorem shut_yes (g : Gr) (n : Nat) (hg : g.Ok n) (hn : n ≤ 1000) (junk : List Nat) (last q y z : Nat) (t : Tk) (hlast : lastName g = some t.name) (M : Mem) (nm : Nat) (hqy : q ≠ y) (hqz : q ≠ z) (hyz : y ≠ z) (hq : M q = some ⟨3, [grC y z g last]⟩) (hy : M y = some ⟨6, g.v.map ndC⟩) (hz : M z = some ⟨1, (g.opn ++ junk).map noC⟩) (ho : ∀ w, (M w).isSome = true → w ∈ [q, y, z]) :
    Ev cx 28 nm [.ptr q 0 0, .agg (tkC t)] M (.int .i64 0) [(q, some ⟨3, [[.own y 0 g.v.length, .own z 0 (g.opn.length - 1), .int .u8 last]]⟩), (y, some ⟨6, g.v.map ndC⟩), (z, some ⟨1, (g.opn ++ junk).map noC⟩)] := by
  have hvl := hg.len
  have hl12 := hg.deep
  have ho0 := len_opn g.opn
  obtain ⟨k, hk, hkn⟩ := Option.bind_eq_some_iff.1 hlast
  obtain ⟨x0, hx0, hxn⟩ := Option.map_eq_some_iff.1 hkn
  obtain ⟨h0, hk2, hk3⟩ := last_get hk
  have hop : g.opn.isEmpty = false := by simpa using h0
  rw [hop] at ho0
  have hkv := hg.in_ k (List.mem_of_getElem? hk2)
  have hwl : IntKind.i64.wrap ((g.opn.length : Int) - 1) = ((g.opn.length - 1 : Nat) : Int) := by rw [wrap_in (by omega) (by omega)]; omega
  have hlt : g.opn.length - 1 < g.opn.length := by omega
  have hle : g.opn.length - 1 ≤ g.opn.length := by omega
  have hle2 : ((g.opn.length - 1 : Nat) : Int) ≤ (g.opn.length : Int) := by omega
  have hno := no_at (m := junk) hk2
  have hnd := nd_at hx0
  have hne : (x0.name == t.name) = true := by rw [hxn]; simp
  refine ev_go (fun cargs w => Tryd.call28 cargs w) Tryd.func28 rfl mixed (by kernel_rfl) rfl ?_; intro b0 hb0
  have lq : q < b0 := below_of hb0 (by rw [hq]; rfl)
  have z0 := lt_ne lq; have z1 := lt_ne_add lq; have z2 := lt_ne' lq; have z3 := lt_ne_add' lq
  have ly : y < b0 := below_of hb0 (by rw [hy]; rfl)
  have y0 := lt_ne ly; have y1 := lt_ne_add ly; have y2 := lt_ne' ly; have y3 := lt_ne_add' ly
  have lz : z < b0 := below_of hb0 (by rw [hz]; rfl)
  have w0 := lt_ne lz; have w1 := lt_ne_add lz; have w2 := lt_ne' lz; have w3 := lt_ne_add' lz
  have n1 := eq_false hqy; have n2 := eq_false hqz; have n3 := eq_false hyz
  have n4 := eq_false (Ne.symm hqy); have n5 := eq_false (Ne.symm hqz); have n6 := eq_false (Ne.symm hyz)
  repeat' first | simp only [Tryd.results28, Tryd.ntmps28, κt, wks, tkC, grC, ho0, hwl, hlt, hle, hle2, hno, noC, hnd, ndC, hkv, hne, hq, hy, hz, z0, z1, z2, z3, y0, y1, y2, y3, w0, w1, w2, w3, n1, n2, n3, n4, n5, n6, Bool.not_true, Bool.not_false, List.length_map, vcs, κa, κb, κc, κd, κe, κf, κg, κh, κi, κj, κk, κl, κm, reduceCtorEq, reduceIte, κn, κo, κp, κq, κr, κs, tys] | exact rfl | ((first | (refine call_val (g := ?_) ?_ ?_) | (refine call_valg (g := ?_) ?_ ?_)); rotate_left 1; (focus (simp only [Tryd.results28, Tryd.ntmps28, κt, wks, tkC, grC, ho0, hwl, hlt, hle, hle2, hno, noC, hnd, ndC, hkv, hne, hq, hy, hz, z0, z1, z2, z3, y0, y1, y2, y3, w0, w1, w2, w3, n1, n2, n3, n4, n5, n6, Bool.not_true, Bool.not_false, List.length_map, vcs, κa, κb, κc, κd, κe, κf, κg, κh, κi, κj, κk, κl, κm, reduceCtorEq, reduceIte, κn, κo, κp, κq, κr, κs, tys] <;> exact rfl))) | refine draw_end (by decide +kernel) ?_ | refine cond_bool (fun hb => ?_) (fun hb => ?_) | refine cond_bit (fun hb => ?_) (fun hb => ?_) | refine And.intro (by omega) ?_ | refine And.intro (fun hb => ?_) (fun hb => ?_) | fail
  all_goals ((refine Fin.give [(q, none), (y, none), (z, none)] [] ?_ ?_ ?_ ?_ ?_ (fun q hq => by have hqq := ho q hq; first | (simp only [gives, tgt, List.map_cons, List.map_nil, List.mem_cons, List.not_mem_nil, or_false] at hqq ⊢; omega) | (simp only [gives, tgt, List.map_cons, List.map_nil, List.mem_cons, List.not_mem_nil, or_false] at hqq)) <;> (try simp only [Tryd.results28, Tryd.ntmps28, wks, tkC, grC, hq, hy, hz, z0, z1, z2, z3, y0, y1, y2, y3, w0, w1, w2, w3, n1, n2, n3, n4, n5, n6, Bool.and_self, Bool.false_and, plain_nd, plain_no, List.length_map, giv, vcs, κa, κb, κc, κd, κe, κf, κg, κh, κi, κj, κk, κl, κm, reduceCtorEq, reduceIte, κn, κo, κp, κq, κr, κs, tys]) <;> (try simp only [injs]) <;> (try omega)))
end Go.Proofs.YtanahnknjboplaaDoor
/-
  Layer 10 by the machine: an element taken by a tree under way.
-/
namespace Go.Proofs.YtanahnknjboplaaDoor
set_option linter.unusedSimpArgs false
set_option linter.unusedVariables false
open Nat renaming reduceAdd → κa, reduceMul → κb, reduceEqDiff → κc, reduceLeDiff → κd, reduceSub → κe, reduceLT → κf, reduceBEq → κr, reduceBNe → κs, reducePow → κt
open Int renaming reduceToNat → κg, reduceLE → κh, reduceLT → κi, reduceAdd → κj, reduceSub → κk, reduceMul → κl, reduceNeg → κm, reduceBEq → κn, reduceBNe → κo, reduceEq → κp, reduceNe → κq
open Go Go.RowKit Go.Proofs.YtanahnknjboplaaDoor.Vm Go.Lib

theorem given_take {l : List Pr} {k : Nat} {a : Pr} (h : l[k]? = some a) : givenL (l.take (k + 1)) = givenL (l.take k) ++ [⟨[], a.name, a.value⟩] := by
  obtain ⟨hk, rfl⟩ := List.getElem?_eq_some_iff.1 h
  unfold givenL
  rw [List.take_succ_eq_append_getElem hk, List.map_append]; rfl
theorem given_length (l : List Pr) : (givenL l).length = l.length := by simp [givenL]
theorem given_snoc {l : List Pr} {k : Nat} {a : Pr} (h : l[k]? = some a) : (givenL (l.take k)).map atC ++ [[.str [], .str a.name, .str a.value]] = (givenL (l.take (k + 1))).map atC := by
  rw [given_take h, List.map_append]; rfl
theorem given_zero : givenL [] = [] := rfl
set_option maxRecDepth 100000 in
set_option maxHeartbeats 4000000 in
theorem elem_no (g : Gr) (n : Nat) (hg : g.Ok n) (hn : n ≤ 1000) (junk : List Nat) (last q y z : Nat) (t : Tk) (e : Int) (he : ((g.opn.isEmpty && !g.v.isEmpty) = true ∧ e = 80) ∨ ((g.opn.isEmpty && !g.v.isEmpty) = false ∧ 12 ≤ g.opn.length ∧ e = 100)) (M : Mem) (nm : Nat) (hqy : q ≠ y) (hqz : q ≠ z) (hyz : y ≠ z) (hq : M q = some ⟨3, [grC y z g last]⟩) (hy : M y = some ⟨6, g.v.map ndC⟩) (hz : M z = some ⟨1, (g.opn ++ junk).map noC⟩) (ho : ∀ w, (M w).isSome = true → w ∈ [q, y, z]) :
    Ev cx 27 nm [.ptr q 0 0, .agg (tkC t)] M (.int .i64 e) [(q, some ⟨3, [grC y z g last]⟩), (y, some ⟨6, g.v.map ndC⟩), (z, some ⟨1, (g.opn ++ junk).map noC⟩)] := by
  have hvl := hg.len
  have hl12 := hg.deep
  have ho0 := len_opn g.opn
  have hv0 : decide ((0 : Int) < (g.v.length : Int)) = !g.v.isEmpty := by
    cases h : g.v with
    | nil => rfl
    | cons a b => simp
  have h12 : 12 ≤ g.opn.length → decide ((12 : Int) ≤ (g.opn.length : Int)) = true := fun h => decide_eq_true (by omega)
  have hop : g.opn.isEmpty = true → g.opn.length = 0 := fun h => by rw [List.isEmpty_iff.1 h]; rfl
  generalize hA : g.opn.isEmpty = bA at he ho0 hop
  generalize hB : g.v.isEmpty = bB at he hv0
  have hcs : (bA = true ∧ bB = false ∧ e = 80) ∨ (bA = false ∧ 12 ≤ g.opn.length ∧ e = 100) := by
    rcases he with ⟨h1, h2⟩ | ⟨h1, h2, h3⟩
    · cases bA <;> cases bB <;> simp at h1 ⊢; exact h2
    · cases bA with
      | true => have := hop rfl; omega
      | false => right; exact ⟨rfl, h2, h3⟩
  clear he
  rcases hcs with ⟨rfl, rfl, rfl⟩ | ⟨rfl, h12', rfl⟩
  · refine ev_go (fun cargs w => Tryd.call27 cargs w) Tryd.func27 rfl mixed (by kernel_rfl) rfl ?_; intro b0 hb0
    have lq : q < b0 := below_of hb0 (by rw [hq]; rfl)
    have z0 := lt_ne lq; have z1 := lt_ne_add lq; have z2 := lt_ne' lq; have z3 := lt_ne_add' lq
    have ly : y < b0 := below_of hb0 (by rw [hy]; rfl)
    have y0 := lt_ne ly; have y1 := lt_ne_add ly; have y2 := lt_ne' ly; have y3 := lt_ne_add' ly
    have lz : z < b0 := below_of hb0 (by rw [hz]; rfl)
    have w0 := lt_ne lz; have w1 := lt_ne_add lz; have w2 := lt_ne' lz; have w3 := lt_ne_add' lz
    have n1 := eq_false hqy; have n2 := eq_false hqz; have n3 := eq_false hyz
    have n4 := eq_false (Ne.symm hqy); have n5 := eq_false (Ne.symm hqz); have n6 := eq_false (Ne.symm hyz)
    repeat' first | simp only [Tryd.results27, Tryd.ntmps27, κt, wks, tkC, grC, ho0, hv0, hq, hy, hz, z0, z1, z2, z3, y0, y1, y2, y3, w0, w1, w2, w3, n1, n2, n3, n4, n5, n6, Bool.not_true, Bool.not_false, List.length_map, vcs, κa, κb, κc, κd, κe, κf, κg, κh, κi, κj, κk, κl, κm, reduceCtorEq, reduceIte, κn, κo, κp, κq, κr, κs, tys] | exact rfl | ((first | (refine call_val (g := ?_) ?_ ?_) | (refine call_valg (g := ?_) ?_ ?_)); rotate_left 1; (focus (simp only [Tryd.results27, Tryd.ntmps27, κt, wks, tkC, grC, ho0, hv0, hq, hy, hz, z0, z1, z2, z3, y0, y1, y2, y3, w0, w1, w2, w3, n1, n2, n3, n4, n5, n6, Bool.not_true, Bool.not_false, List.length_map, vcs, κa, κb, κc, κd, κe, κf, κg, κh, κi, κj, κk, κl, κm, reduceCtorEq, reduceIte, κn, κo, κp, κq, κr, κs, tys] <;> exact rfl))) | refine draw_end' (ps := [(4, 11)]) (by decide +kernel) (by simp only [List.forall_mem_cons, List.getD_cons_zero, List.getD_cons_succ, Tryd.results27, Tryd.ntmps27, κt, wks, tkC, grC, ho0, hv0, hq, hy, hz, z0, z1, z2, z3, y0, y1, y2, y3, w0, w1, w2, w3, n1, n2, n3, n4, n5, n6, Bool.not_true, Bool.not_false, List.length_map, vcs, κa, κb, κc, κd, κe, κf, κg, κh, κi, κj, κk, κl, κm, reduceCtorEq, reduceIte, κn, κo, κp, κq, κr, κs, tys] <;> (try simp) <;> (try omega)) ?_ | refine draw_end (by decide +kernel) ?_ | refine cond_bool (fun hb => ?_) (fun hb => ?_) | refine cond_bit (fun hb => ?_) (fun hb => ?_) | refine And.intro (by omega) ?_ | refine And.intro (fun hb => ?_) (fun hb => ?_) | fail
    all_goals ((refine Fin.give [(q, none), (y, none), (z, none)] [] ?_ ?_ ?_ ?_ ?_ (fun q hq => by have hqq := ho q hq; first | (simp only [gives, tgt, List.map_cons, List.map_nil, List.mem_cons, List.not_mem_nil, or_false] at hqq ⊢; omega) | (simp only [gives, tgt, List.map_cons, List.map_nil, List.mem_cons, List.not_mem_nil, or_false] at hqq)) <;> (try simp only [Tryd.results27, Tryd.ntmps27, wks, tkC, grC, hq, hy, hz, z0, z1, z2, z3, y0, y1, y2, y3, w0, w1, w2, w3, n1, n2, n3, n4, n5, n6, Bool.and_self, Bool.false_and, plain_nd, plain_no, List.length_map, giv, vcs, κa, κb, κc, κd, κe, κf, κg, κh, κi, κj, κk, κl, κm, reduceCtorEq, reduceIte, κn, κo, κp, κq, κr, κs, tys]) <;> (try simp only [injs]) <;> (try omega)))
  · have hd12 := h12 h12'
    refine ev_go (fun cargs w => Tryd.call27 cargs w) Tryd.func27 rfl mixed (by kernel_rfl) rfl ?_; intro b0 hb0
    have lq : q < b0 := below_of hb0 (by rw [hq]; rfl)
    have z0 := lt_ne lq; have z1 := lt_ne_add lq; have z2 := lt_ne' lq; have z3 := lt_ne_add' lq
    have ly : y < b0 := below_of hb0 (by rw [hy]; rfl)
    have y0 := lt_ne ly; have y1 := lt_ne_add ly; have y2 := lt_ne' ly; have y3 := lt_ne_add' ly
    have lz : z < b0 := below_of hb0 (by rw [hz]; rfl)
    have w0 := lt_ne lz; have w1 := lt_ne_add lz; have w2 := lt_ne' lz; have w3 := lt_ne_add' lz
    have n1 := eq_false hqy; have n2 := eq_false hqz; have n3 := eq_false hyz
    have n4 := eq_false (Ne.symm hqy); have n5 := eq_false (Ne.symm hqz); have n6 := eq_false (Ne.symm hyz)
    repeat' first | simp only [Tryd.results27, Tryd.ntmps27, κt, wks, tkC, grC, ho0, hd12, hq, hy, hz, z0, z1, z2, z3, y0, y1, y2, y3, w0, w1, w2, w3, n1, n2, n3, n4, n5, n6, Bool.not_true, Bool.not_false, List.length_map, vcs, κa, κb, κc, κd, κe, κf, κg, κh, κi, κj, κk, κl, κm, reduceCtorEq, reduceIte, κn, κo, κp, κq, κr, κs, tys] | exact rfl | ((first | (refine call_val (g := ?_) ?_ ?_) | (refine call_valg (g := ?_) ?_ ?_)); rotate_left 1; (focus (simp only [Tryd.results27, Tryd.ntmps27, κt, wks, tkC, grC, ho0, hd12, hq, hy, hz, z0, z1, z2, z3, y0, y1, y2, y3, w0, w1, w2, w3, n1, n2, n3, n4, n5, n6, Bool.not_true, Bool.not_false, List.length_map, vcs, κa, κb, κc, κd, κe, κf, κg, κh, κi, κj, κk, κl, κm, reduceCtorEq, reduceIte, κn, κo, κp, κq, κr, κs, tys] <;> exact rfl))) | refine draw_end' (ps := [(4, 11)]) (by decide +kernel) (by simp only [List.forall_mem_cons, List.getD_cons_zero, List.getD_cons_succ, Tryd.results27, Tryd.ntmps27, κt, wks, tkC, grC, ho0, hd12, hq, hy, hz, z0, z1, z2, z3, y0, y1, y2, y3, w0, w1, w2, w3, n1, n2, n3, n4, n5, n6, Bool.not_true, Bool.not_false, List.length_map, vcs, κa, κb, κc, κd, κe, κf, κg, κh, κi, κj, κk, κl, κm, reduceCtorEq, reduceIte, κn, κo, κp, κq, κr, κs, tys] <;> (try simp) <;> (try omega)) ?_ | refine draw_end (by decide +kernel) ?_ | refine cond_bool (fun hb => ?_) (fun hb => ?_) | refine cond_bit (fun hb => ?_) (fun hb => ?_) | refine And.intro (by omega) ?_ | refine And.intro (fun hb => ?_) (fun hb => ?_) | fail
    all_goals ((refine Fin.give [(q, none), (y, none), (z, none)] [] ?_ ?_ ?_ ?_ ?_ (fun q hq => by have hqq := ho q hq; first | (simp only [gives, tgt, List.map_cons, List.map_nil, List.mem_cons, List.not_mem_nil, or_false] at hqq ⊢; omega) | (simp only [gives, tgt, List.map_cons, List.map_nil, List.mem_cons, List.not_mem_nil, or_false] at hqq)) <;> (try simp only [Tryd.results27, Tryd.ntmps27, wks, tkC, grC, hq, hy, hz, z0, z1, z2, z3, y0, y1, y2, y3, w0, w1, w2, w3, n1, n2, n3, n4, n5, n6, Bool.and_self, Bool.false_and, plain_nd, plain_no, List.length_map, giv, vcs, κa, κb, κc, κd, κe, κf, κg, κh, κi, κj, κk, κl, κm, reduceCtorEq, reduceIte, κn, κo, κp, κq, κr, κs, tys]) <;> (try simp only [injs]) <;> (try omega)))
/-- What an element's node is, its attributes in a block of their own. -/
def elC (a : Nat) (t : Tk) : List V := [.int .u8 1, .str [], .str t.name, .own a 0 t.attrs.length, .str [], .int .i64 0]
def elemE (g : Gr) (junk : List Nat) (last q y z nm : Nat) (t : Tk) : List (Nat × Option Blk) :=
  if t.kind = 1 then [(y, none), (z, none), (q, some ⟨3, [[.own nm 0 (g.v.length + 1), .own (nm + 2) 0 (g.opn.length + 1), .int .u8 last]]⟩), (nm, some ⟨6, (incG g.v g.opn).map ndC ++ [elC (nm + 1) t]⟩), (nm + 1, some ⟨3, (givenL t.attrs).map atC⟩), (nm + 2, some ⟨1, g.opn.map noC ++ [noC g.v.length]⟩)]
  else [(y, none), (q, some ⟨3, [[.own nm 0 (g.v.length + 1), .own z 0 g.opn.length, .int .u8 last]]⟩), (z, some ⟨1, (g.opn ++ junk).map noC⟩), (nm, some ⟨6, (incG g.v g.opn).map ndC ++ [elC (nm + 1) t]⟩), (nm + 1, some ⟨3, (givenL t.attrs).map atC⟩)]
set_option maxRecDepth 100000 in
set_option maxHeartbeats 8000000 in
theorem elem_yes (g : Gr) (n : Nat) (hg : g.Ok n) (hn : n ≤ 1000) (junk : List Nat) (last q y z : Nat) (t : Tk) (ht : t.attrs.length ≤ 1000) (h1 : (g.opn.isEmpty && !g.v.isEmpty) = false) (h2 : g.opn.length < 12) (M : Mem) (nm : Nat) (hqy : q ≠ y) (hqz : q ≠ z) (hyz : y ≠ z) (hq : M q = some ⟨3, [grC y z g last]⟩) (hy : M y = some ⟨6, g.v.map ndC⟩) (hz : M z = some ⟨1, (g.opn ++ junk).map noC⟩) (ho : ∀ w, (M w).isSome = true → w ∈ [q, y, z]) (hqn : q < nm) (hyn : y < nm) (hzn : z < nm) :
    Ev cx 27 nm [.ptr q 0 0, .agg (tkC t)] M (.int .i64 0) (elemE g junk last q y z nm t) := by
  have hvl := hg.len
  have hl12 := hg.deep
  have ho0 := len_opn g.opn
  have hv0 : decide ((0 : Int) < (g.v.length : Int)) = !g.v.isEmpty := by
    cases h : g.v with
    | nil => rfl
    | cons a b => simp
  have hd12 : decide ((12 : Int) ≤ (g.opn.length : Int)) = false := decide_eq_false (by omega)
  have hlj : g.opn.length ≤ (g.opn ++ junk).length := by simp
  have htk : ((g.opn ++ junk).map noC).take g.opn.length = g.opn.map noC := by rw [← List.map_take, List.take_left]
  generalize hA : g.opn.isEmpty = bA at h1 ho0
  generalize hB : g.v.isEmpty = bB at h1 hv0
  have hcs : bA = false ∨ (bA = true ∧ bB = true) := by cases bA <;> cases bB <;> simp at h1 ⊢
  clear h1
  have hpn0 : plainLL (g.opn.map noC ++ junk.map noC) = true := by rw [← List.map_append]; exact plain_no _
  unfold elemE
  refine ev_go (fun cargs w => Tryd.call27 cargs w) Tryd.func27 rfl mixed (by kernel_rfl) rfl ?_; intro b0 hb0
  have lq : q < b0 := below_of hb0 (by rw [hq]; rfl)
  have z0 := lt_ne lq; have z1 := lt_ne_add lq; have z2 := lt_ne' lq; have z3 := lt_ne_add' lq
  have ly : y < b0 := below_of hb0 (by rw [hy]; rfl)
  have y0 := lt_ne ly; have y1 := lt_ne_add ly; have y2 := lt_ne' ly; have y3 := lt_ne_add' ly
  have lz : z < b0 := below_of hb0 (by rw [hz]; rfl)
  have w0 := lt_ne lz; have w1 := lt_ne_add lz; have w2 := lt_ne' lz; have w3 := lt_ne_add' lz
  have n1 := eq_false hqy; have n2 := eq_false hqz; have n3 := eq_false hyz
  have n4 := eq_false (Ne.symm hqy); have n5 := eq_false (Ne.symm hqz); have n6 := eq_false (Ne.symm hyz)
  rcases hcs with rfl | ⟨rfl, rfl⟩
  all_goals (
    repeat' first | simp only [Tryd.results27, Tryd.ntmps27, κt, wks, tkC, grC, ho0, hv0, hd12, hq, hy, hz, z0, z1, z2, z3, y0, y1, y2, y3, w0, w1, w2, w3, n1, n2, n3, n4, n5, n6, Bool.not_true, Bool.not_false, List.length_map, vcs, κa, κb, κc, κd, κe, κf, κg, κh, κi, κj, κk, κl, κm, reduceCtorEq, reduceIte, κn, κo, κp, κq, κr, κs, tys] | exact rfl | ((first | (refine call_val (g := ?_) ?_ ?_) | (refine call_valg (g := ?_) ?_ ?_)); rotate_left 1; (focus (simp only [Tryd.results27, Tryd.ntmps27, κt, wks, tkC, grC, ho0, hv0, hd12, hq, hy, hz, z0, z1, z2, z3, y0, y1, y2, y3, w0, w1, w2, w3, n1, n2, n3, n4, n5, n6, Bool.not_true, Bool.not_false, List.length_map, vcs, κa, κb, κc, κd, κe, κf, κg, κh, κi, κj, κk, κl, κm, reduceCtorEq, reduceIte, κn, κo, κp, κq, κr, κs, tys] <;> exact rfl))) | refine draw_end' (ps := [(4, 11)]) (by decide +kernel) (by simp only [List.forall_mem_cons, List.getD_cons_zero, List.getD_cons_succ, Tryd.results27, Tryd.ntmps27, κt, wks, tkC, grC, ho0, hv0, hd12, hq, hy, hz, z0, z1, z2, z3, y0, y1, y2, y3, w0, w1, w2, w3, n1, n2, n3, n4, n5, n6, Bool.not_true, Bool.not_false, List.length_map, vcs, κa, κb, κc, κd, κe, κf, κg, κh, κi, κj, κk, κl, κm, reduceCtorEq, reduceIte, κn, κo, κp, κq, κr, κs, tys] <;> (try simp) <;> (try omega)) ?_ | refine draw_end (by decide +kernel) ?_ | refine cond_bool (fun hb => ?_) (fun hb => ?_) | refine cond_bit (fun hb => ?_) (fun hb => ?_) | refine And.intro (by omega) ?_ | refine And.intro (fun hb => ?_) (fun hb => ?_) | fail
    (refine loop_can2 cxG (fun x : Nat => t.attrs.length - x) (fun x => x ≤ t.attrs.length) (b0 + 16) (fun x => [(0, .ptr q 0 0), (3, .ptr b0 0 0), (6, .ptr (b0 + 1) 0 0), (32, .sl false 2 (t.attrs.map prC)), (33, .int .i64 t.attrs.length), (34, .int .i64 x)]) (fun x => [(b0, ⟨4, [tkC t]⟩), (b0 + 1, ⟨6, [[.int .u8 1, .str [], .str t.name, .own (b0 + 2) 0 x, .str [], .int .i64 0]]⟩), (b0 + 2, ⟨3, (givenL (t.attrs.take x)).map atC⟩), (q, ⟨3, [grC y z g last]⟩), (y, ⟨6, g.v.map ndC⟩), (z, ⟨1, (g.opn ++ junk).map noC⟩)]) (0) [some b0, some (b0 + 400), none, some q, some y, some z] ?_ ?_ ?_ ?_; rotate_left 1; (focus (show b0 ≤ _; omega)); (focus (refine ⟨?_, ?_⟩ <;> (try simp only [cans, plain_pr, plain_tkR, tkC, grC, hq, hy, hz, Bool.and_self, Bool.false_and, plain_nd, plain_no, isRow_inst, given_zero, List.take_zero, List.map_nil, z0, z1, z2, z3, y0, y1, y2, y3, w0, w1, w2, w3, n1, n2, n3, n4, n5, n6, List.length_map, vcs, κa, κb, κc, κd, κe, κf, κg, κh, κi, κj, κk, κl, κm, reduceCtorEq, reduceIte, κn, κo, κp, κq, κr, κs, tys, injs]) <;> (try omega))); rotate_left 1)
    · exact Nat.zero_le _
    · intro k hk
      by_cases hlt : k < t.attrs.length
      · obtain ⟨a, ha⟩ : ∃ a, t.attrs[k]? = some a := ⟨_, List.getElem?_eq_getElem hlt⟩
        have hat := pr_at ha
        have hd : decide (k < t.attrs.length) = true := decide_eq_true hlt
        have hwk : IntKind.i64.wrap ((k : Int) + 1) = ((k + 1 : Nat) : Int) := wrap_in (by omega) (by omega)
        have hgl : (givenL (t.attrs.take k)).length = k := by rw [given_length, List.length_take]; omega
        have htl : ((givenL (t.attrs.take k)).map atC).take k = (givenL (t.attrs.take k)).map atC := List.take_of_length_le (by rw [List.length_map, hgl]; omega)
        have hgs := given_snoc ha
        repeat' first | simp only [Tryd.results27, Tryd.ntmps27, κt, wks, plain_pr, tkC, grC, hat, prC, hd, hlt, hgl, htl, hgs, z0, z1, z2, z3, y0, y1, y2, y3, w0, w1, w2, w3, n1, n2, n3, n4, n5, n6, List.length_map, vcs, κa, κb, κc, κd, κe, κf, κg, κh, κi, κj, κk, κl, κm, reduceCtorEq, reduceIte, κn, κo, κp, κq, κr, κs, tys] | exact rfl | ((first | (refine call_val (g := ?_) ?_ ?_) | (refine call_valg (g := ?_) ?_ ?_)); rotate_left 1; (focus (simp only [Tryd.results27, Tryd.ntmps27, κt, wks, plain_pr, tkC, grC, hat, prC, hd, hlt, hgl, htl, hgs, z0, z1, z2, z3, y0, y1, y2, y3, w0, w1, w2, w3, n1, n2, n3, n4, n5, n6, List.length_map, vcs, κa, κb, κc, κd, κe, κf, κg, κh, κi, κj, κk, κl, κm, reduceCtorEq, reduceIte, κn, κo, κp, κq, κr, κs, tys] <;> exact rfl))) | refine draw_end' (ps := [(4, 11)]) (by decide +kernel) (by simp only [List.forall_mem_cons, List.getD_cons_zero, List.getD_cons_succ, Tryd.results27, Tryd.ntmps27, κt, wks, plain_pr, tkC, grC, hat, prC, hd, hlt, hgl, htl, hgs, z0, z1, z2, z3, y0, y1, y2, y3, w0, w1, w2, w3, n1, n2, n3, n4, n5, n6, List.length_map, vcs, κa, κb, κc, κd, κe, κf, κg, κh, κi, κj, κk, κl, κm, reduceCtorEq, reduceIte, κn, κo, κp, κq, κr, κs, tys] <;> (try simp) <;> (try omega)) ?_ | refine draw_end (by decide +kernel) ?_ | refine cond_bool (fun hb => ?_) (fun hb => ?_) | refine cond_bit (fun hb => ?_) (fun hb => ?_) | refine And.intro (by omega) ?_ | refine And.intro (fun hb => ?_) (fun hb => ?_) | fail
        all_goals ((refine again_can2 cxG (k + 1) [some b0, some (b0 + 1), some (b0 + 224), some q, some y, some z] ?_ ?_ ?_ ?_; rotate_left 2; (focus (show b0 ≤ _; omega)); (focus (refine ⟨?_, ?_⟩ <;> (try simp only [cans, plain_pr, plain_tkR, tkC, grC, hwk, Bool.and_self, Bool.false_and, plain_nd, plain_no, plain_at, isRow_inst, z0, z1, z2, z3, y0, y1, y2, y3, w0, w1, w2, w3, n1, n2, n3, n4, n5, n6, List.length_map, vcs, κa, κb, κc, κd, κe, κf, κg, κh, κi, κj, κk, κl, κm, reduceCtorEq, reduceIte, κn, κo, κp, κq, κr, κs, tys, injs]) <;> (try omega)))))
        all_goals (first | (show t.attrs.length - (k + 1) < t.attrs.length - k; omega) | (show k + 1 ≤ t.attrs.length; omega) | skip)
      · have hke : k = t.attrs.length := by omega
        subst hke
        have hd : decide (t.attrs.length < t.attrs.length) = false := decide_eq_false (by omega)
        have hadd := fun (M' : Mem) (a : M' q = some ⟨3, [grC y z g last]⟩) (b : M' y = some ⟨6, g.v.map ndC⟩) (c : M' z = some ⟨1, (g.opn ++ junk).map noC⟩) (e : M' (b0 + 2) = some ⟨3, (givenL t.attrs).map atC⟩) (d : ∀ w, (M' w).isSome = true → w ∈ [q, y, z, b0 + 2]) (m : Nat) (h1 : q < m) (h2 : y < m) (h3 : z < m) (h4 : b0 + 2 < m) => addA_ev g n hg hn junk last q y z ⟨1, [], t.name, [], [], 0⟩ (b0 + 2) (givenL t.attrs) M' m hqy hqz hyz (by omega) (by omega) (by omega) e a b c d h1 h2 h3 h4
        simp only [given_length] at hadd
        have hwv : IntKind.i64.wrap (((g.v.length + 1 : Nat) : Int) - 1) = (g.v.length : Int) := by rw [wrap_in (by omega) (by omega)]; omega
        have hwv2 : IntKind.i64.wrap ((g.v.length : Int) + 1 - 1) = (g.v.length : Int) := by rw [wrap_in (by omega) (by omega)]; omega
        by_cases hk1 : t.kind = 1
        · have hkb : ((t.kind : Int) == 1) = true := by rw [hk1]; rfl
          rw [if_pos hk1]
          repeat' first | simp only [Tryd.results27, Tryd.ntmps27, κt, wks, plain_pr, tkC, grC, hd, hkb, hwv, hwv2, htk, hlj, fresh_selfU, z0, z1, z2, z3, y0, y1, y2, y3, w0, w1, w2, w3, n1, n2, n3, n4, n5, n6, List.take_length, List.length_map, vcs, κa, κb, κc, κd, κe, κf, κg, κh, κi, κj, κk, κl, κm, reduceCtorEq, reduceIte, κn, κo, κp, κq, κr, κs, tys] | exact rfl | ((refine call_fn_full ?_ [q, y, z, b0 + 2] (hadd _ ?_ ?_ ?_ ?_ only_mem _ (by omega) (by omega) (by omega) (by omega)) ?_ ?_); iterate 6 (focus (simp only [mems, Tryd.results27, Tryd.ntmps27, κt, wks, plain_pr, tkC, grC, hd, hkb, hwv, hwv2, htk, hlj, fresh_selfU, z0, z1, z2, z3, y0, y1, y2, y3, w0, w1, w2, w3, n1, n2, n3, n4, n5, n6, List.take_length, List.length_map, vcs, κa, κb, κc, κd, κe, κf, κg, κh, κi, κj, κk, κl, κm, reduceCtorEq, reduceIte, κn, κo, κp, κq, κr, κs, tys] <;> exact rfl))) | ((first | (refine call_val (g := ?_) ?_ ?_) | (refine call_valg (g := ?_) ?_ ?_)); rotate_left 1; (focus (simp only [Tryd.results27, Tryd.ntmps27, κt, wks, plain_pr, tkC, grC, hd, hkb, hwv, hwv2, htk, hlj, fresh_selfU, z0, z1, z2, z3, y0, y1, y2, y3, w0, w1, w2, w3, n1, n2, n3, n4, n5, n6, List.take_length, List.length_map, vcs, κa, κb, κc, κd, κe, κf, κg, κh, κi, κj, κk, κl, κm, reduceCtorEq, reduceIte, κn, κo, κp, κq, κr, κs, tys] <;> exact rfl))) | refine draw_end' (ps := [(4, 11)]) (by decide +kernel) (by simp only [List.forall_mem_cons, List.getD_cons_zero, List.getD_cons_succ, Tryd.results27, Tryd.ntmps27, κt, wks, plain_pr, tkC, grC, hd, hkb, hwv, hwv2, htk, hlj, fresh_selfU, z0, z1, z2, z3, y0, y1, y2, y3, w0, w1, w2, w3, n1, n2, n3, n4, n5, n6, List.take_length, List.length_map, vcs, κa, κb, κc, κd, κe, κf, κg, κh, κi, κj, κk, κl, κm, reduceCtorEq, reduceIte, κn, κo, κp, κq, κr, κs, tys] <;> (try simp) <;> (try omega)) ?_ | refine draw_end (by decide +kernel) ?_ | refine cond_bool (fun hb => ?_) (fun hb => ?_) | refine cond_bit (fun hb => ?_) (fun hb => ?_) | refine And.intro (by omega) ?_ | refine And.intro (fun hb => ?_) (fun hb => ?_) | fail
          all_goals ((refine Fin.give [(q, none), (b0 + 64, some 0), (b0 + 2, some 1), (b0 + 320, some 2)] [y, z] ?_ ?_ ?_ ?_ ?_ (fun q hq => by have hqq := ho q hq; first | (simp only [gives, tgt, List.map_cons, List.map_nil, List.mem_cons, List.not_mem_nil, or_false] at hqq ⊢; omega) | (simp only [gives, tgt, List.map_cons, List.map_nil, List.mem_cons, List.not_mem_nil, or_false] at hqq)) <;> (try simp only [Tryd.results27, Tryd.ntmps27, wks, tkC, grC, hq, hy, hz, elC, noC, z0, z1, z2, z3, y0, y1, y2, y3, w0, w1, w2, w3, n1, n2, n3, n4, n5, n6, ren_nds, renOk_nds, hpn0, List.map_append, List.all_append, Bool.and_self, Bool.false_and, plainLL_append, plain_at, plain_nd, plain_no, List.length_map, giv, vcs, κa, κb, κc, κd, κe, κf, κg, κh, κi, κj, κk, κl, κm, reduceCtorEq, reduceIte, κn, κo, κp, κq, κr, κs, tys]) <;> (try simp only [injs]) <;> (try omega)))
        · have hkb : ((t.kind : Int) == 1) = false := beq_false_of_ne (by omega)
          rw [if_neg hk1]
          repeat' first | simp only [Tryd.results27, Tryd.ntmps27, κt, wks, plain_pr, tkC, grC, hd, hkb, fresh_selfU, z0, z1, z2, z3, y0, y1, y2, y3, w0, w1, w2, w3, n1, n2, n3, n4, n5, n6, List.take_length, List.length_map, vcs, κa, κb, κc, κd, κe, κf, κg, κh, κi, κj, κk, κl, κm, reduceCtorEq, reduceIte, κn, κo, κp, κq, κr, κs, tys] | exact rfl | ((refine call_fn_full ?_ [q, y, z, b0 + 2] (hadd _ ?_ ?_ ?_ ?_ only_mem _ (by omega) (by omega) (by omega) (by omega)) ?_ ?_); iterate 6 (focus (simp only [mems, Tryd.results27, Tryd.ntmps27, κt, wks, plain_pr, tkC, grC, hd, hkb, fresh_selfU, z0, z1, z2, z3, y0, y1, y2, y3, w0, w1, w2, w3, n1, n2, n3, n4, n5, n6, List.take_length, List.length_map, vcs, κa, κb, κc, κd, κe, κf, κg, κh, κi, κj, κk, κl, κm, reduceCtorEq, reduceIte, κn, κo, κp, κq, κr, κs, tys] <;> exact rfl))) | ((first | (refine call_val (g := ?_) ?_ ?_) | (refine call_valg (g := ?_) ?_ ?_)); rotate_left 1; (focus (simp only [Tryd.results27, Tryd.ntmps27, κt, wks, plain_pr, tkC, grC, hd, hkb, fresh_selfU, z0, z1, z2, z3, y0, y1, y2, y3, w0, w1, w2, w3, n1, n2, n3, n4, n5, n6, List.take_length, List.length_map, vcs, κa, κb, κc, κd, κe, κf, κg, κh, κi, κj, κk, κl, κm, reduceCtorEq, reduceIte, κn, κo, κp, κq, κr, κs, tys] <;> exact rfl))) | refine draw_end' (ps := [(4, 11)]) (by decide +kernel) (by simp only [List.forall_mem_cons, List.getD_cons_zero, List.getD_cons_succ, Tryd.results27, Tryd.ntmps27, κt, wks, plain_pr, tkC, grC, hd, hkb, fresh_selfU, z0, z1, z2, z3, y0, y1, y2, y3, w0, w1, w2, w3, n1, n2, n3, n4, n5, n6, List.take_length, List.length_map, vcs, κa, κb, κc, κd, κe, κf, κg, κh, κi, κj, κk, κl, κm, reduceCtorEq, reduceIte, κn, κo, κp, κq, κr, κs, tys] <;> (try simp) <;> (try omega)) ?_ | refine draw_end (by decide +kernel) ?_ | refine cond_bool (fun hb => ?_) (fun hb => ?_) | refine cond_bit (fun hb => ?_) (fun hb => ?_) | refine And.intro (by omega) ?_ | refine And.intro (fun hb => ?_) (fun hb => ?_) | fail
          all_goals ((refine Fin.give [(q, none), (z, none), (b0 + 64, some 0), (b0 + 2, some 1)] [y] ?_ ?_ ?_ ?_ ?_ (fun q hq => by have hqq := ho q hq; first | (simp only [gives, tgt, List.map_cons, List.map_nil, List.mem_cons, List.not_mem_nil, or_false] at hqq ⊢; omega) | (simp only [gives, tgt, List.map_cons, List.map_nil, List.mem_cons, List.not_mem_nil, or_false] at hqq)) <;> (try simp only [Tryd.results27, Tryd.ntmps27, wks, tkC, grC, hq, hy, hz, elC, noC, z0, z1, z2, z3, y0, y1, y2, y3, w0, w1, w2, w3, n1, n2, n3, n4, n5, n6, ren_nds, renOk_nds, hpn0, List.map_append, List.all_append, Bool.and_self, Bool.false_and, plainLL_append, plain_at, plain_nd, plain_no, List.length_map, giv, vcs, κa, κb, κc, κd, κe, κf, κg, κh, κi, κj, κk, κl, κm, reduceCtorEq, reduceIte, κn, κo, κp, κq, κr, κs, tys]) <;> (try simp only [injs]) <;> (try omega))))
end Go.Proofs.YtanahnknjboplaaDoor
