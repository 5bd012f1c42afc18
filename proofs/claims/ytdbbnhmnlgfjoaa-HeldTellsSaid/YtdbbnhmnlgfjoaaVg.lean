/-
  The machine of plain values: arithmetic and comparisons. No program in sight.
-/
import Derived.Test.YtdbbnhmnlgfjoaaVf
import Derived.Laws.StructEq
import Derived.WalkSpells
namespace Go.Proofs.Ytdbbnhmnlgfjoaa.Vm
set_option linter.unusedSimpArgs false
set_option linter.unusedVariables false
open Go Go.RowKit

section
variable {P : Program} {G : Nat → V} {X : Nat → Prop} {w0 : World} {I : Nat → Prop} {ρ : Names} {M : Mem} {w : World} {D : Nat → Prop}

def intBin (op : BinOp) (k : IntKind) (a b : Int) : V := match op with
  | .add => .int k (k.wrap (a + b))
  | .sub => .int k (k.wrap (a - b))
  | .mul => .int k (k.wrap (a * b))
  | .quo => .int k (k.wrap (a.tdiv b))
  | .rem => .int k (a.tmod b)
  | .and => .int k (k.wrap (BitVec.ofInt k.bits a &&& BitVec.ofInt k.bits b).toNat)
  | .or => .int k (k.wrap (BitVec.ofInt k.bits a ||| BitVec.ofInt k.bits b).toNat)
  | .xor => .int k (k.wrap (BitVec.ofInt k.bits a ^^^ BitVec.ofInt k.bits b).toNat)
  | .andNot => .int k (k.wrap (BitVec.ofInt k.bits a &&& ~~~ BitVec.ofInt k.bits b).toNat)
  | .shl => .int k (k.wrap (a * 2 ^ (min b.toNat k.bits)))
  | .shr => .int k (a.fdiv (2 ^ (min b.toNat k.bits)))
  | .eql => .bool (a == b)
  | .neq => .bool (a != b)
  | .lss => .bool (decide (a < b))
  | .leq => .bool (decide (a ≤ b))
  | .gtr => .bool (decide (a > b))
  | .geq => .bool (decide (a ≥ b))
def intBinOk (op : BinOp) (k k' : IntKind) (b : Int) : Prop := match op with
  | .shl | .shr => 0 ≤ b
  | .quo | .rem => k = k' ∧ b ≠ 0
  | _ => k = k'
theorem intBin_sound (op : BinOp) (t : TypeId) (k k' : IntKind) (a b : Int) (hok : intBinOk op k k' b) : ∃ c, (binOp op t (.int k a) (.int k' b)).run P w = .ok c w ∧ Is ρ D w (intBin op k a b) c := by
  cases op <;> simp only [intBinOk] at hok <;> first
    | (obtain ⟨rfl, hb⟩ := hok; simp [binOp, Op.intDiv, hb, intBin]; exact .int _ _)
    | (subst hok; simp [binOp, Op.intArith, Op.intBits, Op.intCmp, intBin]; first | exact .int _ _ | exact .bool _)
    | (have : ¬ b < 0 := by omega
       simp [binOp, Op.shift, this, intBin]; exact .int _ _)
def strBin (op : BinOp) (a b : List UInt8) : V := match op with
  | .add => .str (a ++ b)
  | .eql => .bool (a == b)
  | .neq => .bool (!(a == b))
  | .lss => .bool (Op.bytesLess a b)
  | .leq => .bool (Op.bytesLess a b || a == b)
  | .gtr => .bool (!(Op.bytesLess a b || a == b))
  | .geq => .bool (!(Op.bytesLess a b))
  | _ => .any
def strBinOk (op : BinOp) (a b : List UInt8) : Prop := match op with
  | .add => a.length + b.length ≤ 9223372036854775807
  | .eql | .neq | .lss | .leq | .gtr | .geq => True
  | _ => False
theorem mk_append (a b : List UInt8) : ((⟨a.toArray⟩ : ByteArray) ++ ⟨b.toArray⟩) = ⟨(a ++ b).toArray⟩ := by
  apply ByteArray.ext
  apply Array.ext'
  simp
theorem strBin_sound (op : BinOp) (t : TypeId) (a b : List UInt8) (hok : strBinOk op a b) : ∃ c, (binOp op t (.string ⟨a.toArray⟩) (.string ⟨b.toArray⟩)).run P w = .ok c w ∧ Is ρ D w (strBin op a b) c := by
  cases op <;> simp only [strBinOk] at hok <;> try (exact hok.elim)
  case add =>
    have h : (⟨a.toArray⟩ : ByteArray).size + (⟨b.toArray⟩ : ByteArray).size ≤ 9223372036854775807 := by simpa [ByteArray.size] using hok
    refine ⟨.string ⟨(a ++ b).toArray⟩, ?_, .str _⟩
    simp only [binOp, run_string_add_sum w _ _ h, mk_append]
  all_goals
    refine ⟨_, (by simp only [binOp, Op.stringOp, ByteArray.toList_mk, Sem.run_pure]; rfl), ?_⟩
    exact .bool _

/-! ### structs of plain fields -/
/-- The fields of a struct type whose fields are all numbers, texts and Bools: place and kind. -/
def flatEq (P : Program) (t : TypeId) : Option (List (Nat × Nat)) :=
  match P.stoodInHeld t, P.eqGuardType P.depth t, P.underlying t with
  | false, false, some (.struct fs) => fs.toList.mapM fun f => if f.name = "_" then none else match P.underlying f.type, ty P f.type with
      | some (.int _), some (1, false) => some (f.offset, 0)
      | some .string, some (1, false) => some (f.offset, 1)
      | some .bool, some (1, false) => some (f.offset, 2)
      | _, _ => none
  | _, _, _ => none
def eqS (kd : Nat) (x y : Option V) : Option Bool := match kd, x, y with
  | 0, some (.int k a), some (.int k' b) => if k = k' then some (a == b) else none
  | 1, some (.str a), some (.str b) => some (a == b)
  | 2, some (.bool a), some (.bool b) => some (a == b)
  | _, _, _ => none
def eqL (xs ys : List V) : List (Nat × Nat) → Bool
  | [] => true
  | (o, kd) :: r => (eqS kd xs[o]? ys[o]?).getD false && eqL xs ys r
def eqLOk (xs ys : List V) : List (Nat × Nat) → Prop
  | [] => True
  | (o, kd) :: r => (eqS kd xs[o]? ys[o]?).isSome = true ∧ eqLOk xs ys r
theorem eqS_int {x y : Option V} (h : (eqS 0 x y).isSome = true) : ∃ k a b, x = some (.int k a) ∧ y = some (.int k b) := by
  unfold eqS at h
  split at h <;> try (simp at *; done)
  split at h
  · rename_i hk; subst hk; exact ⟨_, _, _, rfl, rfl⟩
  · cases h
theorem eqS_str {x y : Option V} (h : (eqS 1 x y).isSome = true) : ∃ a b, x = some (.str a) ∧ y = some (.str b) := by
  unfold eqS at h
  split at h <;> first | exact ⟨_, _, rfl, rfl⟩ | (simp at *; done)
theorem eqS_bool {x y : Option V} (h : (eqS 2 x y).isSome = true) : ∃ a b, x = some (.bool a) ∧ y = some (.bool b) := by
  unfold eqS at h
  split at h <;> first | exact ⟨_, _, rfl, rfl⟩ | (simp at *; done)
theorem eqFields_sound {xs ys : List V} {cx cy : Array Value} (d : Nat) (hx : Is ρ D w (.agg xs) (.agg cx)) (hy : Is ρ D w (.agg ys) (.agg cy)) : ∀ (fs : List Field) (l : List (Nat × Nat)),
    fs.mapM (fun f => if f.name = "_" then none else match P.underlying f.type, ty P f.type with
      | some (.int _), some (1, false) => some (f.offset, 0)
      | some .string, some (1, false) => some (f.offset, 1)
      | some .bool, some (1, false) => some (f.offset, 2)
      | _, _ => none) = some l → eqLOk xs ys l → (Op.eqFields (d + 1) cx cy fs).run P w = .ok (eqL xs ys l) w
  | [], l, h, _ => by simp at h; subst h; simp [Op.eqFields, eqL]
  | f :: fs, l, h, hok => by
    simp only [List.mapM_cons, Option.bind_eq_bind, Option.pure_def] at h
    obtain ⟨y, hy1, h⟩ := Option.bind_eq_some_iff.1 h
    obtain ⟨l', hl', h⟩ := Option.bind_eq_some_iff.1 h
    cases h
    obtain ⟨o, kd⟩ := y
    obtain ⟨hs, hr⟩ := hok
    have ih := eqFields_sound d hx hy fs l' hl' hr
    split at hy1
    · cases hy1
    rename_i hname
    have part1 : ∀ {zs : List V} {cz : Array Value}, Is ρ D w (.agg zs) (.agg cz) → ∀ (g : Nat × Bool), ty P f.type = some (1, false) → ∀ u, zs[f.offset]? = some u → ∃ c, (part f.type cz f.offset).run P w = .ok c w ∧ Is ρ D w u c := by
      intro zs cz hz _ hty u hu
      cases hz with
      | agg hn hc =>
        have hlt := (List.getElem?_eq_some_iff.1 hu).1
        obtain ⟨c, c1, c2⟩ := part_sound (P := P) (w := w) hty hn hc (o := f.offset) (by omega) (by omega)
        refine ⟨c, c1, ?_⟩
        simpa [partV, hu] using c2
    have fin : ∀ (b : Bool), (∃ a1 a2, (part f.type cx f.offset).run P w = .ok a1 w ∧ (part f.type cy f.offset).run P w = .ok a2 w ∧ (Op.equalIn (d + 1) f.type a1 a2).run P w = .ok b w) →
        (Op.eqFields (d + 1) cx cy (f :: fs)).run P w = .ok (b && eqL xs ys l') w := by
      rintro b ⟨a1, a2, h1, h2, h3⟩
      simp only [Op.eqFields, hname, ne_eq, not_false_eq_true, if_true, Sem.run_bind, h1, h2, h3, Result.andThen_ok]
      cases b
      · simp
      · simpa using ih
    simp only [eqL]
    split at hy1
    · rename_i k0 hu hty
      cases hy1
      obtain ⟨ka, a, b, e1, e2⟩ := eqS_int hs
      simp only [e1, e2, eqS, if_true]
      obtain ⟨c1, h1, h2⟩ := part1 hx (0, true) hty _ e1
      obtain ⟨c2, h3, h4⟩ := part1 hy (0, true) hty _ e2
      cases h2; cases h4
      exact fin _ ⟨_, _, h1, h3, run_equalIn_int w d f.type ka k0 a b hu⟩
    · rename_i hu hty
      cases hy1
      obtain ⟨a, b, e1, e2⟩ := eqS_str hs
      simp only [e1, e2, eqS]
      obtain ⟨c1, h1, h2⟩ := part1 hx (0, true) hty _ e1
      obtain ⟨c2, h3, h4⟩ := part1 hy (0, true) hty _ e2
      cases h2; cases h4
      refine fin _ ⟨_, _, h1, h3, ?_⟩
      rw [run_equalIn_string w d f.type _ _ hu]
      simp
    · rename_i hu hty
      cases hy1
      obtain ⟨a, b, e1, e2⟩ := eqS_bool hs
      simp only [e1, e2, eqS]
      obtain ⟨c1, h1, h2⟩ := part1 hx (0, true) hty _ e1
      obtain ⟨c2, h3, h4⟩ := part1 hy (0, true) hty _ e2
      cases h2; cases h4
      exact fin _ ⟨_, _, h1, h3, run_equalIn_bool' w d f.type a b hu⟩
    · cases hy1

/-! ### all binary operations -/
def binV (P : Program) (op : BinOp) (t : TypeId) (x y : V) : V := match x, y with
  | .int k a, .int _ b => intBin op k a b
  | .str a, .str b => strBin op a b
  | .bool a, .bool b => .bool (if op = .eql then a == b else a != b)
  | .agg xs, .agg ys => match flatEq P t with
    | some l => .bool (if op = .eql then eqL xs ys l else !(eqL xs ys l))
    | none => .any
  | .nils, .nils => .bool (decide (op = .eql))
  | .sl _ _ rows, .nils => if op = .eql then .bit rows.isEmpty true else .bit true rows.isEmpty
  | .own _ _ n, .nils => if op = .eql then .bit (decide (n = 0)) true else .bit true (decide (n = 0))
  | _, .nils => .bool (decide (op = .neq))
  | .nilp, .nilp => .bool (decide (op = .eql))
  | _, .nilp => .bool (decide (op = .neq))
  | _, _ => .any
def binOk (P : Program) (op : BinOp) (t : TypeId) (x y : V) : Prop := match x, y with
  | .int k _, .int k' b => intBinOk op k k' b
  | .str a, .str b => strBinOk op a b
  | .bool _, .bool _ => (op = .eql ∨ op = .neq) ∧ P.underlying t = some .bool
  | .agg xs, .agg ys => (op = .eql ∨ op = .neq) ∧ match flatEq P t with
    | some l => eqLOk xs ys l
    | none => False
  | .nils, .nils => (op = .eql ∨ op = .neq) ∧ lenKind P t = true ∧ P.underlying t ≠ some .string
  | .sl _ _ _, .nils => (op = .eql ∨ op = .neq) ∧ lenKind P t = true ∧ P.underlying t ≠ some .string
  | .own _ _ _, .nils => (op = .eql ∨ op = .neq) ∧ lenKind P t = true ∧ P.underlying t ≠ some .string
  | .nilp, .nilp => (op = .eql ∨ op = .neq) ∧ ∃ e, P.underlying t = some (.pointer e)
  | .ptr _ _ _, .nilp => (op = .eql ∨ op = .neq) ∧ ∃ e, P.underlying t = some (.pointer e)
  | .rp _, .nilp => (op = .eql ∨ op = .neq) ∧ ∃ e, P.underlying t = some (.pointer e)
  | _, _ => False
theorem run_guard_plain (op : BinOp) (t : TypeId) (ox oy : Operand) (a b : Value) (h1 : a ≠ .nilIface) (h2 : ∀ c, a ≠ .agg c) : (eqGuard op t ox oy a b).run P w = .ok () w := by
  unfold eqGuard
  cases op <;> cases a <;> simp_all
theorem run_equalIn_pointers (d : Nat) (t e : TypeId) (a b : Option Addr) (hu : P.underlying t = some (.pointer e)) (h : a = none ∨ b = none) : (Op.equalIn (d + 1) t (.pointer a) (.pointer b)).run P w = .ok (a.isNone && b.isNone) w := by
  rcases h with rfl | rfl
  · simp [Op.equalIn, run_underlying hu]
  · cases a <;> simp [Op.equalIn, run_underlying hu]
theorem run_equalIn_slices (d : Nat) (t e : TypeId) (a : Option Addr) (n c : Nat) (hu : P.underlying t = some (.slice e)) : (Op.equalIn (d + 1) t (.slice a n c) (.slice none 0 0)).run P w = .ok a.isNone w := by
  cases a <;> simp [Op.equalIn, run_underlying hu]
theorem slice_kind {t : TypeId} (h1 : lenKind P t = true) (h2 : P.underlying t ≠ some .string) : ∃ e, P.underlying t = some (.slice e) := by
  unfold lenKind at h1
  split at h1
  · exact absurd ‹_› h2
  · exact ⟨_, ‹_›⟩
  · cases h1
theorem run_eql_of {op : BinOp} (ho : op = .eql ∨ op = .neq) (t : TypeId) (a b : Value) (hb : binOp .eql t a b = (do pure (.bool (← Op.equal t a b)))) (hb' : binOp .neq t a b = (do pure (.bool (!(← Op.equal t a b))))) (r : Bool)
    (h : (Op.equalIn 10000 t a b).run P w = .ok r w) : (binOp op t a b).run P w = .ok (.bool (if op = .eql then r else !r)) w := by
  rcases ho with rfl | rfl
  · rw [hb]; simp [Op.equal, Op.maxDepth, h]
  · rw [hb']; simp [Op.equal, Op.maxDepth, h]
theorem bin_sound (op : BinOp) (t : TypeId) (ox oy : Operand) {x y : V} {cx cy : Value} (hx : Is ρ D w x cx) (hy : Is ρ D w y cy) (hok : binOk P op t x y) :
    ∃ c, (do eqGuard op t ox oy cx cy; binOp op t cx cy : Sem Value).run P w = .ok c w ∧ Is ρ D w (binV P op t x y) c := by
  have start : ∀ c, cx ≠ .nilIface → (∀ c, cx ≠ .agg c) → (binOp op t cx cy).run P w = .ok c w → (do eqGuard op t ox oy cx cy; binOp op t cx cy : Sem Value).run P w = .ok c w := fun c h1 h2 h3 => by
    rw [Sem.run_bind, run_guard_plain op t ox oy cx cy h1 h2, Result.andThen_ok, h3]
  cases hx <;> cases hy <;> simp only [binOk] at hok <;> try (exact hok.elim)
  case bool.bool a b =>
    obtain ⟨ho, hu⟩ := hok
    refine ⟨_, start _ (by simp) (by simp) (run_eql_of ho t _ _ (by simp [binOp]) (by simp [binOp]) _ (run_equalIn_bool' w 9999 t a b hu)), ?_⟩
    simp only [binV]
    rcases ho with rfl | rfl
    · exact .bool _
    · simp only [reduceCtorEq, if_false]
      exact .bool _
  case int.int k a k' b =>
    obtain ⟨c, h1, h2⟩ := intBin_sound (P := P) (w := w) (ρ := ρ) (D := D) op t k k' a b hok
    exact ⟨c, start _ (by simp) (by simp) h1, h2⟩
  case str.str a b =>
    obtain ⟨c, h1, h2⟩ := strBin_sound (P := P) (w := w) (ρ := ρ) (D := D) op t a b hok
    exact ⟨c, start _ (by simp) (by simp) h1, h2⟩
  case agg.agg xs cvx hn1 hu1 ys cvy hn2 hu2 =>
    obtain ⟨ho, hok⟩ := hok
    cases hfl : flatEq P t with
    | none => rw [hfl] at hok; exact hok.elim
    | some l =>
      rw [hfl] at hok
      have hfl' := hfl
      unfold flatEq at hfl
      split at hfl
      · rename_i fs c1 c2 c3'
        have c3 : P.underlying t = some (.struct (P.fieldsOf t)) := by simp [Program.fieldsOf, c3']
        have cf : P.fieldsOf t = fs := by simp [Program.fieldsOf, c3']
        rw [← cf] at hfl
        have he := eqFields_sound (P := P) (w := w) (ρ := ρ) (D := D) 9998 (.agg hn1 hu1) (.agg hn2 hu2) _ l hfl hok
        have hq := run_equalIn_agg (P := P) w 9999 t cvx cvy c3 c1
        rw [he] at hq
        refine ⟨_, by rw [Sem.run_bind, run_eqGuard_agg (P := P) w op t ox oy cvx cvy c2, Result.andThen_ok]; exact run_eql_of ho t _ _ (by simp [binOp]) (by simp [binOp]) _ hq, ?_⟩
        simp only [binV, hfl']
        exact .bool _
      · cases hfl
  case nilp.nilp =>
    obtain ⟨ho, e, hu⟩ := hok
    refine ⟨_, start _ (by simp) (by simp) (run_eql_of ho t _ _ (by simp [binOp]) (by simp [binOp]) true (run_equalIn_pointers 9999 t e _ _ hu (.inr rfl))), ?_⟩
    rcases ho with rfl | rfl <;> exact .bool _
  case ptr.nilp =>
    obtain ⟨ho, e, hu⟩ := hok
    refine ⟨_, start _ (by simp) (by simp) (run_eql_of ho t _ _ (by simp [binOp]) (by simp [binOp]) false (run_equalIn_pointers 9999 t e _ _ hu (.inr rfl))), ?_⟩
    rcases ho with rfl | rfl <;> exact .bool _
  case rp.nilp =>
    obtain ⟨ho, e, hu⟩ := hok
    refine ⟨_, start _ (by simp) (by simp) (run_eql_of ho t _ _ (by simp [binOp]) (by simp [binOp]) false (run_equalIn_pointers 9999 t e _ _ hu (.inr rfl))), ?_⟩
    rcases ho with rfl | rfl <;> exact .bool _
  case nils.nils =>
    obtain ⟨ho, h1, h2⟩ := hok
    obtain ⟨e, hu⟩ := slice_kind h1 h2
    refine ⟨_, start _ (by simp) (by simp) (run_eql_of ho t _ _ (by simp [binOp]) (by simp [binOp]) true (run_equalIn_slices 9999 t e _ _ _ hu)), ?_⟩
    rcases ho with rfl | rfl <;> exact .bool _
  case sl0.nils A _ _ =>
    obtain ⟨ho, h1, h2⟩ := hok
    obtain ⟨e, hu⟩ := slice_kind h1 h2
    refine ⟨_, start _ (by simp) (by simp) (run_eql_of ho t _ _ (by simp [binOp]) (by simp [binOp]) A.isNone (run_equalIn_slices 9999 t e _ _ _ hu)), ?_⟩
    rcases ho with rfl | rfl <;> exact .bit _ (fun _ => rfl) (fun _ => rfl)
  case sl.nils =>
    obtain ⟨ho, h1, h2⟩ := hok
    obtain ⟨e, hu⟩ := slice_kind h1 h2
    refine ⟨_, start _ (by simp) (by simp) (run_eql_of ho t _ _ (by simp [binOp]) (by simp [binOp]) false (run_equalIn_slices 9999 t e _ _ _ hu)), ?_⟩
    rcases ho with rfl | rfl
    · exact .bit _ (fun h => by cases h) (fun _ => rfl)
    · exact .bit _ (fun _ => rfl) (fun h => by cases h)
  case own0.nils A =>
    obtain ⟨ho, h1, h2⟩ := hok
    obtain ⟨e, hu⟩ := slice_kind h1 h2
    refine ⟨_, start _ (by simp) (by simp) (run_eql_of ho t _ _ (by simp [binOp]) (by simp [binOp]) A.isNone (run_equalIn_slices 9999 t e _ _ _ hu)), ?_⟩
    rcases ho with rfl | rfl <;> exact .bit _ (fun _ => rfl) (fun _ => rfl)
  case own.nils =>
    obtain ⟨ho, h1, h2⟩ := hok
    obtain ⟨e, hu⟩ := slice_kind h1 h2
    refine ⟨_, start _ (by simp) (by simp) (run_eql_of ho t _ _ (by simp [binOp]) (by simp [binOp]) false (run_equalIn_slices 9999 t e _ _ _ hu)), ?_⟩
    rcases ho with rfl | rfl
    · exact .bit _ (fun h => by cases h) (fun _ => rfl)
    · exact .bit _ (fun _ => rfl) (fun h => by cases h)
end
end Go.Proofs.Ytdbbnhmnlgfjoaa.Vm
