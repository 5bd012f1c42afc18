/-
  Texts joined: XTy, XEp, XEq, XEr, XEs, XEx, XEn, XLa, XEa, XEb, XEf.
-/
import Derived.Test.YtanahnknjboplaaChecked
import Derived.Lib.RuneBytes
import Derived.Lib.MapLaws
import Derived.Lib.RuneCountTail
import Derived.Lib.IndexLaws
import Derived.Test.YtanahnknjboplaaMe
/-
  Facts on the program's types. (Printed by Facts.lean.)
-/
namespace Go.Proofs.Ytanahnknjboplaa
open Go Go.RowKit Go.Proofs.Ytanahnknjboplaa.Vm
noncomputable def cx : Cx := ⟨Try.prog, fun _ => .any⟩
theorem cxG : ∀ g, (cx.G g).plain = true := fun _ => rfl
theorem mixed : cx.P.follows .mixedOrders = true := by kernel_rfl
theorem lenKind_string {P : Program} {t : TypeId} (h : P.underlying t = some .string) : lenKind P t = true := by simp [lenKind, h]
theorem und_25 : cx.P.underlying 25 = some (.slice 27) := by kernel_rfl
theorem el_25 : elInfo cx.P 25 = some ([.nils], 24) := by kernel_rfl
theorem lk_25 : lenKind cx.P 25 = true := by kernel_rfl
theorem et_25 : elemT cx.P 25 = some 27 := by kernel_rfl
theorem bet_25 : betT cx.P 25 = none := by kernel_rfl
theorem und_3 : cx.P.underlying 3 = some (.int .i64) := by kernel_rfl
theorem ty_24 : ty cx.P 24 = some (6, true) := by kernel_rfl
theorem el_27 : elInfo cx.P 27 = some ([.int .u8 0, .str [], .str [], .nils, .str [], .int .i64 0], 88) := by kernel_rfl
theorem elm_25 : elm cx.P 25 = some (none, 1, false) := by kernel_rfl
theorem ty_27 : ty cx.P 27 = some (1, false) := by kernel_rfl
theorem und_37 : cx.P.underlying 37 = some (.slice 41) := by kernel_rfl
theorem el_37 : elInfo cx.P 37 = some ([.int .u8 0, .str [], .nils, .str []], 64) := by kernel_rfl
theorem lk_37 : lenKind cx.P 37 = true := by kernel_rfl
theorem et_37 : elemT cx.P 37 = some 41 := by kernel_rfl
theorem bet_37 : betT cx.P 37 = none := by kernel_rfl
theorem elm_37 : elm cx.P 37 = some (none, 4, true) := by kernel_rfl
theorem ty_41 : ty cx.P 41 = some (4, true) := by kernel_rfl
theorem zero_41 : zeroL cx.P 41 = some [.int .u8 0, .str [], .nils, .str []] := by kernel_rfl
theorem bld_41 : bldT cx.P 41 = none := by kernel_rfl
theorem el_39 : elInfo cx.P 39 = some ([.str [], .str []], 32) := by kernel_rfl
theorem fld_41_2 : fld cx.P 41 2 = some (2, 1, false) := by kernel_rfl
theorem ty_39 : ty cx.P 39 = some (1, false) := by kernel_rfl
theorem und_39 : cx.P.underlying 39 = some (.slice 75) := by kernel_rfl
theorem lk_39 : lenKind cx.P 39 = true := by kernel_rfl
theorem et_39 : elemT cx.P 39 = some 75 := by kernel_rfl
theorem bet_39 : betT cx.P 39 = none := by kernel_rfl
theorem und_9 : cx.P.underlying 9 = some .string := by kernel_rfl
theorem lk_9 : lenKind cx.P 9 = true := by kernel_rfl
theorem und_27 : cx.P.underlying 27 = some (.slice 24) := by kernel_rfl
theorem lk_27 : lenKind cx.P 27 = true := by kernel_rfl
theorem et_27 : elemT cx.P 27 = some 24 := by kernel_rfl
theorem bet_27 : betT cx.P 27 = none := by kernel_rfl
theorem und_4 : cx.P.underlying 4 = some .bool := by kernel_rfl
theorem elm_27 : elm cx.P 27 = some (none, 6, true) := by kernel_rfl
theorem fld_24_2 : fld cx.P 24 2 = some (2, 1, false) := by kernel_rfl
theorem ty_9 : ty cx.P 9 = some (1, false) := by kernel_rfl
theorem fld_24_1 : fld cx.P 24 1 = some (1, 1, false) := by kernel_rfl
theorem fld_24_4 : fld cx.P 24 4 = some (4, 1, false) := by kernel_rfl
theorem fld_24_3 : fld cx.P 24 3 = some (3, 1, false) := by kernel_rfl
theorem ty_22 : ty cx.P 22 = some (1, false) := by kernel_rfl
theorem und_22 : cx.P.underlying 22 = some (.slice 68) := by kernel_rfl
theorem el_22 : elInfo cx.P 22 = some ([.str [], .str [], .str []], 48) := by kernel_rfl
theorem lk_22 : lenKind cx.P 22 = true := by kernel_rfl
theorem et_22 : elemT cx.P 22 = some 68 := by kernel_rfl
theorem bet_22 : betT cx.P 22 = none := by kernel_rfl
theorem elm_22 : elm cx.P 22 = some (none, 3, true) := by kernel_rfl
theorem ty_68 : ty cx.P 68 = some (3, true) := by kernel_rfl
theorem zero_68 : zeroL cx.P 68 = some [.str [], .str [], .str []] := by kernel_rfl
theorem bld_68 : bldT cx.P 68 = none := by kernel_rfl
theorem fld_68_1 : fld cx.P 68 1 = some (1, 1, false) := by kernel_rfl
theorem fld_68_0 : fld cx.P 68 0 = some (0, 1, false) := by kernel_rfl
theorem fld_68_2 : fld cx.P 68 2 = some (2, 1, false) := by kernel_rfl
theorem zero_24 : zeroL cx.P 24 = some [.int .u8 0, .str [], .str [], .nils, .str [], .int .i64 0] := by kernel_rfl
theorem bld_24 : bldT cx.P 24 = none := by kernel_rfl
theorem fld_24_5 : fld cx.P 24 5 = some (5, 1, false) := by kernel_rfl
theorem ty_3 : ty cx.P 3 = some (1, false) := by kernel_rfl
theorem und_54 : cx.P.underlying 54 = some (.slice 3) := by kernel_rfl
theorem lk_54 : lenKind cx.P 54 = true := by kernel_rfl
theorem zero_71 : zeroL cx.P 71 = some [.val .nilFunc] := by kernel_rfl
theorem bld_71 : bldT cx.P 71 = none := by kernel_rfl
theorem ty_71 : ty cx.P 71 = some (1, false) := by kernel_rfl
theorem und_29 : cx.P.underlying 29 = some (.int .i64) := by kernel_rfl
theorem fld_24_0 : fld cx.P 24 0 = some (0, 1, false) := by kernel_rfl
theorem ty_5 : ty cx.P 5 = some (1, false) := by kernel_rfl
theorem und_5 : cx.P.underlying 5 = some (.int .u8) := by kernel_rfl
theorem fld_41_1 : fld cx.P 41 1 = some (1, 1, false) := by kernel_rfl
theorem fld_41_3 : fld cx.P 41 3 = some (3, 1, false) := by kernel_rfl
theorem elm_39 : elm cx.P 39 = some (none, 2, true) := by kernel_rfl
theorem fld_75_0 : fld cx.P 75 0 = some (0, 1, false) := by kernel_rfl
theorem fld_75_1 : fld cx.P 75 1 = some (1, 1, false) := by kernel_rfl
theorem fld_41_0 : fld cx.P 41 0 = some (0, 1, false) := by kernel_rfl
theorem ty_75 : ty cx.P 75 = some (2, true) := by kernel_rfl
theorem zero_75 : zeroL cx.P 75 = some [.str [], .str []] := by kernel_rfl
theorem bld_75 : bldT cx.P 75 = none := by kernel_rfl
theorem zero_85 : zeroL cx.P 85 = some [.nilp, .nils] := by kernel_rfl
theorem bld_85 : bldT cx.P 85 = some 85 := by kernel_rfl
theorem zero_37 : zeroL cx.P 37 = some [.nils] := by kernel_rfl
theorem bld_37 : bldT cx.P 37 = none := by kernel_rfl
theorem zero_54 : zeroL cx.P 54 = some [.nils] := by kernel_rfl
theorem bld_54 : bldT cx.P 54 = none := by kernel_rfl
theorem ty_54 : ty cx.P 54 = some (1, false) := by kernel_rfl
theorem ty_37 : ty cx.P 37 = some (1, false) := by kernel_rfl
theorem zero_4 : zeroL cx.P 4 = some [.bool false] := by kernel_rfl
theorem bld_4 : bldT cx.P 4 = none := by kernel_rfl
theorem ty_4 : ty cx.P 4 = some (1, false) := by kernel_rfl
theorem zero_94 : zeroL cx.P 94 = some [.val .nilFunc] := by kernel_rfl
theorem bld_94 : bldT cx.P 94 = none := by kernel_rfl
theorem ty_94 : ty cx.P 94 = some (1, false) := by kernel_rfl
theorem elm_54 : elm cx.P 54 = some (none, 1, false) := by kernel_rfl
theorem el_54 : elInfo cx.P 54 = some ([.int .i64 0], 8) := by kernel_rfl
theorem et_54 : elemT cx.P 54 = some 3 := by kernel_rfl
theorem bet_54 : betT cx.P 54 = none := by kernel_rfl
theorem zero_103 : zeroL cx.P 103 = some [.val .nilFunc] := by kernel_rfl
theorem bld_103 : bldT cx.P 103 = none := by kernel_rfl
theorem ty_103 : ty cx.P 103 = some (1, false) := by kernel_rfl
theorem zero_107 : zeroL cx.P 107 = some [.val .nilFunc] := by kernel_rfl
theorem bld_107 : bldT cx.P 107 = none := by kernel_rfl
theorem ty_107 : ty cx.P 107 = some (1, false) := by kernel_rfl
theorem feq_68 : flatEq cx.P 68 = some [(0, 1), (1, 1), (2, 1)] := by kernel_rfl
theorem fld_85_1 : fld cx.P 85 1 = some (1, 1, false) := by kernel_rfl
theorem ty_83 : ty cx.P 83 = some (1, false) := by kernel_rfl
theorem und_83 : cx.P.underlying 83 = some (.slice 5) := by kernel_rfl
theorem el_83 : elInfo cx.P 83 = some ([.int .u8 0], 1) := by kernel_rfl
theorem lk_83 : lenKind cx.P 83 = true := by kernel_rfl
theorem et_83 : elemT cx.P 83 = some 5 := by kernel_rfl
theorem bet_83 : betT cx.P 83 = some 5 := by kernel_rfl
theorem und_120 : cx.P.underlying 120 = some (.pointer 5) := by kernel_rfl
theorem feq_75 : flatEq cx.P 75 = some [(0, 1), (1, 1)] := by kernel_rfl
theorem shape_41 : shapeT cx.P 41 = some ([.int .u8 0, .str [], .nils, .str []], [(0, 1), (1, 1), (2, 1), (3, 1)]) := by kernel_rfl
theorem shape_75 : shapeT cx.P 75 = some ([.str [], .str []], [(0, 1), (1, 1)]) := by kernel_rfl
theorem und_21 : cx.P.underlying 21 = some (.int .i32) := by kernel_rfl
theorem fld_85_0 : fld cx.P 85 0 = some (0, 1, false) := by kernel_rfl
theorem ty_82 : ty cx.P 82 = some (1, false) := by kernel_rfl
theorem und_82 : cx.P.underlying 82 = some (.pointer 85) := by kernel_rfl
theorem und_128 : cx.P.underlying 128 = some .unsafePointer := by kernel_rfl
theorem bt_83 : bytesT cx.P 83 = true := by kernel_rfl
theorem elm_83 : elm cx.P 83 = some (none, 1, false) := by kernel_rfl
theorem zero_140 : zeroL cx.P 140 = some [.str []] := by kernel_rfl
theorem bld_140 : bldT cx.P 140 = none := by kernel_rfl
theorem ty_140 : ty cx.P 140 = some (1, true) := by kernel_rfl
theorem fld_140_0 : fld cx.P 140 0 = some (0, 1, false) := by kernel_rfl
theorem shape_140 : shapeT cx.P 140 = some ([.str []], [(0, 1)]) := by kernel_rfl
theorem und_149 : cx.P.underlying 149 = some (.int .u32) := by kernel_rfl
set_option linter.defProp false in
def tys := (And.intro und_25 (And.intro el_25 (And.intro lk_25 (And.intro et_25 (And.intro bet_25 (And.intro und_3 (And.intro ty_24 (And.intro el_27 (And.intro elm_25 (And.intro ty_27 (And.intro und_37 (And.intro el_37 (And.intro lk_37 (And.intro et_37 (And.intro bet_37 (And.intro elm_37 (And.intro ty_41 (And.intro zero_41 (And.intro bld_41 (And.intro el_39 (And.intro fld_41_2 (And.intro ty_39 (And.intro und_39 (And.intro lk_39 (And.intro et_39 (And.intro bet_39 (And.intro und_9 (And.intro lk_9 (And.intro und_27 (And.intro lk_27 (And.intro et_27 (And.intro bet_27 (And.intro und_4 (And.intro elm_27 (And.intro fld_24_2 (And.intro ty_9 (And.intro fld_24_1 (And.intro fld_24_4 (And.intro fld_24_3 (And.intro ty_22 (And.intro und_22 (And.intro el_22 (And.intro lk_22 (And.intro et_22 (And.intro bet_22 (And.intro elm_22 (And.intro ty_68 (And.intro zero_68 (And.intro bld_68 (And.intro fld_68_1 (And.intro fld_68_0 (And.intro fld_68_2 (And.intro zero_24 (And.intro bld_24 (And.intro fld_24_5 (And.intro ty_3 (And.intro und_54 (And.intro lk_54 (And.intro zero_71 (And.intro bld_71 (And.intro ty_71 (And.intro und_29 (And.intro fld_24_0 (And.intro ty_5 (And.intro und_5 (And.intro fld_41_1 (And.intro fld_41_3 (And.intro elm_39 (And.intro fld_75_0 (And.intro fld_75_1 (And.intro fld_41_0 (And.intro ty_75 (And.intro zero_75 (And.intro bld_75 (And.intro zero_85 (And.intro bld_85 (And.intro zero_37 (And.intro bld_37 (And.intro zero_54 (And.intro bld_54 (And.intro ty_54 (And.intro ty_37 (And.intro zero_4 (And.intro bld_4 (And.intro ty_4 (And.intro zero_94 (And.intro bld_94 (And.intro ty_94 (And.intro elm_54 (And.intro el_54 (And.intro et_54 (And.intro bet_54 (And.intro zero_103 (And.intro bld_103 (And.intro ty_103 (And.intro zero_107 (And.intro bld_107 (And.intro ty_107 (And.intro feq_68 (And.intro fld_85_1 (And.intro ty_83 (And.intro und_83 (And.intro el_83 (And.intro lk_83 (And.intro et_83 (And.intro bet_83 (And.intro und_120 (And.intro feq_75 (And.intro shape_41 (And.intro shape_75 (And.intro und_21 (And.intro fld_85_0 (And.intro ty_82 (And.intro und_82 (And.intro und_128 (And.intro bt_83 (And.intro elm_83 (And.intro zero_140 (And.intro bld_140 (And.intro ty_140 (And.intro fld_140_0 (And.intro shape_140 (And.intro und_149 True.intro)))))))))))))))))))))))))))))))))))))))))))))))))))))))))))))))))))))))))))))))))))))))))))))))))))))))))))))))))))))))))))
theorem kind_27 : kindT cx.P 27 = some (.slice 24 6 88) := by kernel_rfl
theorem kind_25 : kindT cx.P 25 = some (.slice 27 1 24) := by kernel_rfl
theorem kind_3 : kindT cx.P 3 = some (.int .i64) := by kernel_rfl
theorem kind_68 : kindT cx.P 68 = some (.struct [9, 9, 9]) := by kernel_rfl
theorem kind_22 : kindT cx.P 22 = some (.slice 68 3 48) := by kernel_rfl
theorem kind_9 : kindT cx.P 9 = some .str := by kernel_rfl
theorem kind_5 : kindT cx.P 5 = some (.int .u8) := by kernel_rfl
theorem kind_24 : kindT cx.P 24 = some (.struct [5, 9, 9, 22, 9, 3]) := by kernel_rfl
theorem kind_75 : kindT cx.P 75 = some (.struct [9, 9]) := by kernel_rfl
theorem kind_39 : kindT cx.P 39 = some (.slice 75 2 32) := by kernel_rfl
theorem kind_41 : kindT cx.P 41 = some (.struct [5, 9, 39, 9]) := by kernel_rfl
theorem kind_37 : kindT cx.P 37 = some (.slice 41 4 64) := by kernel_rfl
end Go.Proofs.Ytanahnknjboplaa
/-
  Plain law of layer 5: the bytes of a list of code points. No program in sight.
-/
namespace Go.Proofs.Ytanahnknjboplaa
set_option linter.unusedSimpArgs false
set_option linter.unusedVariables false
open Go Go.RowKit

/-- May a code point stand in a text? -/
def may (n : Int) : Bool := decide (n = 9 ∨ n = 10 ∨ n = 13 ∨ (32 ≤ n ∧ n ≤ 1114111 ∧ ¬ (55296 ≤ n ∧ n ≤ 57343) ∧ n ≠ 65534 ∧ n ≠ 65535))
theorem may_iff (n : Int) : may n = true ↔ (n = 9 ∨ n = 10 ∨ n = 13 ∨ (32 ≤ n ∧ n ≤ 1114111 ∧ ¬ (55296 ≤ n ∧ n ≤ 57343) ∧ n ≠ 65534 ∧ n ≠ 65535)) := by
  unfold may; exact decide_eq_true_iff
theorem may_t {n : Int} (h : n = 9 ∨ n = 10 ∨ n = 13 ∨ (32 ≤ n ∧ n ≤ 1114111 ∧ ¬ (55296 ≤ n ∧ n ≤ 57343) ∧ n ≠ 65534 ∧ n ≠ 65535)) : true = may n := ((may_iff n).2 h).symm
theorem may_f {n : Int} (h : ¬ (n = 9 ∨ n = 10 ∨ n = 13 ∨ (32 ≤ n ∧ n ≤ 1114111 ∧ ¬ (55296 ≤ n ∧ n ≤ 57343) ∧ n ≠ 65534 ∧ n ≠ 65535))) : false = may n := by
  unfold may; symm; exact decide_eq_false_iff_not.2 h
theorem may_range {n : Int} (h : may n = true) : 0 ≤ n ∧ n ≤ 1114111 ∧ (2048 ≤ n → n ≤ 65535 → (2048 ≤ n ∧ n < 55296) ∨ (57343 < n ∧ n ≤ 65535)) := by
  have := (may_iff n).1 h
  refine ⟨by omega, by omega, fun a b => by omega⟩

/-- The bytes of code points, one behind the other. -/
def enc (l : List Int) : List UInt8 := l.flatMap Lib.encodeRune
def u8 (b : UInt8) : Value := .int .u8 (b.toNat : Int)
def ofErr (l : List Int) : Int := if l.all may then (if 16384 < (enc l).length then 4 else 0) else 50
def ofText (l : List Int) : List UInt8 := if ofErr l = 0 then enc l else []

theorem enc_append (a b : List Int) : enc (a ++ b) = enc a ++ enc b := by simp [enc]
theorem enc_snoc (a : List Int) (x : Int) : enc (a ++ [x]) = enc a ++ Lib.encodeRune x := by simp [enc]
theorem encodeRune_length (x : Int) : 1 ≤ (Lib.encodeRune x).length ∧ (Lib.encodeRune x).length ≤ 4 := by
  unfold Lib.encodeRune Lib.encodeRuneZ
  repeat' split
  all_goals simp
theorem enc_length (l : List Int) : (enc l).length ≤ 4 * l.length := by
  induction l with
  | nil => simp [enc]
  | cons x l ih =>
    have := (encodeRune_length x).2
    simp only [enc, List.flatMap_cons, List.length_append, List.length_cons] at ih ⊢
    omega
theorem runeCells_eq (x : Int) : Lib.runeCells x = (Lib.encodeRune x).map u8 := by
  unfold Lib.runeCells Lib.encodeRune
  rw [List.map_map]
  apply List.map_congr_left
  intro y hy
  have := Lib.encodeRuneZ_byte x y hy
  simp only [Function.comp, u8]
  congr 1
  have : (y.toNat.toUInt8).toNat = y.toNat := by
    simp; omega
  rw [this]; omega
theorem runeCells_length (x : Int) : (Lib.runeCells x).length = (Lib.encodeRune x).length := by rw [runeCells_eq]; simp
theorem enc_cells (l : List Int) (x : Int) : (enc l).map u8 ++ Lib.runeCells x = (enc (l ++ [x])).map u8 := by
  rw [runeCells_eq, enc_snoc, List.map_append]
theorem oneCell_u8 (l : List UInt8) : ∀ u ∈ l.map u8, u.oneCell' = true := by
  intro u hu; obtain ⟨b, _, rfl⟩ := List.mem_map.1 hu; rfl
theorem ofErr_bad {l : List Int} {k : Nat} (hk : k < l.length) (h : may (l.getD k 0) = false) : ofErr l = 50 := by
  unfold ofErr
  rw [if_neg]
  intro hall
  have := List.all_eq_true.1 hall (l[k]) (List.getElem_mem hk)
  simp [List.getD_eq_getElem?_getD, hk] at h
  rw [h] at this; cases this
theorem all_snoc {l : List Int} {k : Nat} (hk : k < l.length) (h : (l.take k).all may = true) (hm : may (l.getD k 0) = true) : (l.take (k + 1)).all may = true := by
  rw [List.take_succ_eq_append_getElem hk, List.all_append, h]
  simp [List.getD_eq_getElem?_getD, hk] at hm
  simp [hm]
theorem take_snoc {l : List Int} {k : Nat} (hk : k < l.length) : l.take (k + 1) = l.take k ++ [l.getD k 0] := by
  rw [List.take_succ_eq_append_getElem hk]; simp [List.getD_eq_getElem?_getD, hk]
end Go.Proofs.Ytanahnknjboplaa
/-
  Plain laws of layer 5: how bytes are cut into code points, and that this undoes how they are put. No program in sight.
-/
namespace Go.Proofs.Ytanahnknjboplaa
set_option linter.unusedSimpArgs false
set_option linter.unusedVariables false
open Go Go.RowKit Go.Lib

/-- The code point that may be with which bytes begin, and how many bytes it has. -/
def one (l : List UInt8) : Option (Int × Nat) :=
  if l = [] then none
  else if (decodeL l).1 = 65533 ∧ (decodeL l).2 = 1 then none
  else if may ((decodeL l).1 : Int) then some (((decodeL l).1 : Int), (decodeL l).2) else none

/-- All code points of bytes. -/
def decF : Nat → List UInt8 → Option (List Int)
  | _, [] => some []
  | 0, _ => none
  | f + 1, l => match one l with
    | none => none
    | some (z, k) => (decF f (l.drop k)).map (z :: ·)
def dec (l : List UInt8) : Option (List Int) := decF l.length l

theorem one_some {l : List UInt8} {z : Int} {k : Nat} (h : one l = some (z, k)) : l ≠ [] ∧ may z = true ∧ encodeRune z = l.take k ∧ 1 ≤ k ∧ k ≤ l.length := by
  unfold one at h
  split at h
  · cases h
  rename_i hne
  split at h
  · cases h
  rename_i hv
  split at h
  · rename_i hm
    simp only [Option.some.injEq, Prod.mk.injEq] at h
    obtain ⟨rfl, rfl⟩ := h
    have he := encode_decode l hne hv
    have hle := decodeL_le l hne
    refine ⟨hne, hm, he, ?_, hle⟩
    have := (encodeRune_length ((decodeL l).1 : Int)).1
    rw [he, List.length_take] at this
    omega
  · cases h

theorem mod64 {x : Int} (h0 : 0 ≤ x) (h1 : x < 256) : (x.toNat.toUInt8).toNat = x.toNat := by simp; omega

/-- What is put is what is read first. -/
theorem one_enc {z : Int} (hm : may z = true) (rest : List UInt8) : one (encodeRune z ++ rest) = some (z, (encodeRune z).length) := by
  have hmz := (may_iff z).1 hm
  have key : decodeL (encodeRune z ++ rest) = (z.toNat, (encodeRune z).length) := by
    rw [decodeL_N]
    by_cases c1 : 0 ≤ z ∧ z ≤ 127
    · have e : encodeRune z = [z.toNat.toUInt8] := by simp [encodeRune, encodeRuneZ_one c1.1 c1.2]
      rw [e]
      have a := mod64 (x := z) (by omega) (by omega)
      simp only [List.cons_append, List.nil_append, List.getD_cons_zero, List.length_cons, List.length_nil, a, decodeN]
      rw [if_pos (by omega)]
    · by_cases c2 : 128 ≤ z ∧ z ≤ 2047
      · have e : encodeRune z = [(192 + z / 64).toNat.toUInt8, (128 + z % 64).toNat.toUInt8] := by simp [encodeRune, encodeRuneZ_two c2.1 c2.2]
        rw [e]
        have a := mod64 (x := 192 + z / 64) (by omega) (by omega)
        have b := mod64 (x := 128 + z % 64) (by omega) (by omega)
        simp only [List.cons_append, List.nil_append, List.getD_cons_zero, List.getD_cons_succ, List.length_cons, List.length_nil, a, b, decodeN]
        rw [if_neg (by omega), if_pos (by omega), if_pos (by omega)]
        simp only [Prod.mk.injEq, and_true]; omega
      · by_cases c3 : z ≤ 65535
        · have e : encodeRune z = [(224 + z / 4096).toNat.toUInt8, (128 + z / 64 % 64).toNat.toUInt8, (128 + z % 64).toNat.toUInt8] := by simp [encodeRune, encodeRuneZ_three (r := z) (by omega)]
          rw [e]
          have a := mod64 (x := 224 + z / 4096) (by omega) (by omega)
          have b := mod64 (x := 128 + z / 64 % 64) (by omega) (by omega)
          have c := mod64 (x := 128 + z % 64) (by omega) (by omega)
          simp only [List.cons_append, List.nil_append, List.getD_cons_zero, List.getD_cons_succ, List.length_cons, List.length_nil, a, b, c, decodeN]
          rw [if_neg (by omega), if_neg (by omega), if_pos (by omega), if_pos (by omega)]
          simp only [Prod.mk.injEq, and_true]; omega
        · have e : encodeRune z = [(240 + z / 262144).toNat.toUInt8, (128 + z / 4096 % 64).toNat.toUInt8, (128 + z / 64 % 64).toNat.toUInt8, (128 + z % 64).toNat.toUInt8] := by simp [encodeRune, encodeRuneZ_four (r := z) (by omega) (by omega)]
          rw [e]
          have a := mod64 (x := 240 + z / 262144) (by omega) (by omega)
          have b := mod64 (x := 128 + z / 4096 % 64) (by omega) (by omega)
          have c := mod64 (x := 128 + z / 64 % 64) (by omega) (by omega)
          have d := mod64 (x := 128 + z % 64) (by omega) (by omega)
          simp only [List.cons_append, List.nil_append, List.getD_cons_zero, List.getD_cons_succ, List.length_cons, List.length_nil, a, b, c, d, decodeN]
          rw [if_neg (by omega), if_neg (by omega), if_neg (by omega), if_pos (by omega), if_pos (by omega)]
          simp only [Prod.mk.injEq, and_true]; omega
  have hne : encodeRune z ++ rest ≠ [] := by
    intro h
    have := (encodeRune_length z).1
    rw [List.append_eq_nil_iff] at h
    rw [h.1] at this; simp at this
  unfold one
  rw [if_neg hne, key]
  have hz : ((z.toNat : Nat) : Int) = z := by omega
  simp only [hz, hm, if_true]
  rw [if_neg]
  rintro ⟨h1, h2⟩
  have hz2 : z = 65533 := by omega
  subst hz2
  revert h2
  decide

theorem decF_fuel : ∀ (f g : Nat) (l : List UInt8), l.length ≤ f → l.length ≤ g → decF f l = decF g l
  | _, _, [], _, _ => by simp [decF]
  | 0, _, x :: l, h, _ => by simp at h
  | _, 0, x :: l, _, h => by simp at h
  | f + 1, g + 1, x :: l, hf, hg => by
    simp only [decF]
    cases h1 : one (x :: l) with
    | none => rfl
    | some p =>
      obtain ⟨z, k⟩ := p
      obtain ⟨_, _, _, hk, _⟩ := one_some h1
      simp only
      rw [decF_fuel f g ((x :: l).drop k) (by simp at hf ⊢; omega) (by simp at hg ⊢; omega)]

theorem dec_nil : dec [] = some [] := rfl
theorem dec_step {l : List UInt8} {z : Int} {k : Nat} (h : one l = some (z, k)) : dec l = (dec (l.drop k)).map (z :: ·) := by
  obtain ⟨hne, _, _, hk, hkl⟩ := one_some h
  obtain ⟨x, l', rfl⟩ := List.exists_cons_of_ne_nil hne
  unfold dec
  rw [show (x :: l').length = l'.length + 1 from rfl]
  simp only [decF, h]
  rw [decF_fuel l'.length ((x :: l').drop k).length _ (by simp; omega) (Nat.le_refl _)]
theorem dec_bad {l : List UInt8} (hne : l ≠ []) (h : one l = none) : dec l = none := by
  obtain ⟨x, l', rfl⟩ := List.exists_cons_of_ne_nil hne
  unfold dec
  rw [show (x :: l').length = l'.length + 1 from rfl]
  simp only [decF, h]

/-- What is put is got. -/
theorem dec_enc : ∀ (zs : List Int), zs.all may = true → dec (enc zs) = some zs
  | [], _ => rfl
  | z :: zs, h => by
    simp only [List.all_cons, Bool.and_eq_true] at h
    have e : enc (z :: zs) = encodeRune z ++ enc zs := by simp [enc]
    rw [e, dec_step (one_enc h.1 (enc zs)), List.drop_left, dec_enc zs h.2]
    rfl
/-- What is got is put as just this text. -/
theorem dec_some : ∀ (n : Nat) (l : List UInt8) (zs : List Int), l.length ≤ n → dec l = some zs → zs.all may = true ∧ enc zs = l
  | 0, l, zs, hn, h => by
    have : l = [] := List.eq_nil_of_length_eq_zero (by omega)
    subst this
    rw [dec_nil] at h
    cases h
    exact ⟨rfl, rfl⟩
  | n + 1, l, zs, hn, h => by
    by_cases hne : l = []
    · subst hne
      rw [dec_nil] at h
      cases h
      exact ⟨rfl, rfl⟩
    · cases h1 : one l with
      | none => rw [dec_bad hne h1] at h; cases h
      | some p =>
        obtain ⟨z, k⟩ := p
        obtain ⟨_, hm, he, hk, hkl⟩ := one_some h1
        rw [dec_step h1] at h
        obtain ⟨zs', h2, rfl⟩ := Option.map_eq_some_iff.1 h
        obtain ⟨ha, hb⟩ := dec_some n (l.drop k) zs' (by simp; omega) h2
        refine ⟨by simp [hm, ha], ?_⟩
        show encodeRune z ++ enc zs' = l
        rw [he, hb, List.take_append_drop]
theorem dec_iff (l : List UInt8) (zs : List Int) : dec l = some zs ↔ zs.all may = true ∧ enc zs = l :=
  ⟨fun h => dec_some l.length l zs (Nat.le_refl _) h, fun ⟨h1, h2⟩ => by rw [← h2, dec_enc zs h1]⟩
theorem dec_length {l : List UInt8} {zs : List Int} (h : dec l = some zs) : zs.length ≤ l.length := by
  obtain ⟨_, rfl⟩ := (dec_iff l zs).1 h
  induction zs with
  | nil => simp
  | cons z zs ih =>
    rename_i hall
    have := (encodeRune_length z).1
    have h2 : dec (enc zs) = some zs := dec_enc zs (by simp only [List.all_cons, Bool.and_eq_true] at hall; exact hall.2)
    have ih' := ih (by simp only [List.all_cons, Bool.and_eq_true] at hall; exact hall.2) h2
    have e : enc (z :: zs) = encodeRune z ++ enc zs := by simp [enc]
    rw [e, List.length_append, List.length_cons]
    omega

theorem odd_prefix {l : List UInt8} (h : hasPrefix l [239, 191, 189] = true) : ∃ rest, l = encodeRune 65533 ++ rest := by
  unfold hasPrefix at h
  obtain ⟨rest, hr⟩ := List.isPrefixOf_iff_prefix.1 h
  exact ⟨rest, by rw [← hr]; congr 1⟩
theorem decodeL_odd {l : List UInt8} (h : hasPrefix l [239, 191, 189] = true) : (decodeL l).2 ≠ 1 := by
  obtain ⟨rest, rfl⟩ := odd_prefix h
  have h1 := one_enc (z := 65533) (by decide) rest
  unfold one at h1
  split at h1
  · cases h1
  split at h1
  · cases h1
  rename_i hv
  split at h1
  · simp only [Option.some.injEq, Prod.mk.injEq] at h1
    rw [h1.2]
    decide
  · cases h1
/-- How a range over a string tells it. -/
theorem one_of_decode {l : List UInt8} (hne : l ≠ []) : one l = if ((decodeL l).1 = 65533 ∧ hasPrefix l [239, 191, 189] = false) ∨ may ((decodeL l).1 : Int) = false then none else some (((decodeL l).1 : Int), (decodeL l).2) := by
  unfold one
  rw [if_neg hne]
  by_cases h1 : (decodeL l).1 = 65533 ∧ (decodeL l).2 = 1
  · rw [if_pos h1, if_pos]
    left
    refine ⟨h1.1, ?_⟩
    cases hp : hasPrefix l [239, 191, 189] with
    | false => rfl
    | true => exact absurd h1.2 (decodeL_odd hp)
  · rw [if_neg h1]
    by_cases h2 : (decodeL l).1 = 65533
    · have he := encode_decode l hne h1
      rw [h2] at he
      have hp : hasPrefix l [239, 191, 189] = true := by
        unfold hasPrefix
        rw [List.isPrefixOf_iff_prefix, show ([239, 191, 189] : List UInt8) = encodeRune ((65533 : Nat) : Int) from by decide, he]
        exact List.take_prefix _ _
      rw [hp]
      by_cases hm : may ((decodeL l).1 : Int) = true
      · simp [hm]
      · simp [hm]
    · by_cases hm : may ((decodeL l).1 : Int) = true
      · simp [hm, h2]
      · simp [hm, h2]
theorem decode_drop (s : ByteArray) (pos : Nat) : Utf8.decode s pos = decodeL (s.data.toList.drop pos) := by
  have h := tail_decode s pos 0
  rw [Nat.add_zero] at h
  rw [← h]
  unfold decodeL
  congr 1
  have h2 : (s.extract pos s.size).data.toList = s.data.toList.drop pos := by
    rw [extract_data, List.take_of_length_le]
    simp
  apply ByteArray.ext
  apply Array.ext'
  simpa using h2
end Go.Proofs.Ytanahnknjboplaa
/-
  Plain laws of layer 5: the document's own way to cut bytes into code points is layer 5's. No program in sight.
-/
namespace Go.Proofs.Ytanahnknjboplaa
set_option linter.unusedSimpArgs false
set_option linter.unusedVariables false
open Go Go.RowKit Go.Lib

def headS (c : Int) : Int := if c < 128 then 1 else if 192 ≤ c ∧ c < 224 then 2 else if 224 ≤ c ∧ c < 240 then 3 else if 240 ≤ c ∧ c < 248 then 4 else 0
def headN (c : Int) : Int := if c < 128 then c else if 192 ≤ c ∧ c < 224 then c - 192 else if 224 ≤ c ∧ c < 240 then c - 224 else if 240 ≤ c ∧ c < 248 then c - 240 else 0
def contN (n : Int) (l : List UInt8) : Int := l.foldl (fun n b => 64 * n + (b.toNat : Int) % 64) n
def oneZ (l : List UInt8) : Int := match one l with | some (z, _) => z | none => 0
def oneK (l : List UInt8) : Int := match one l with | some (_, k) => (k : Int) | none => 0

theorem headS_range (c : Int) : 0 ≤ headS c ∧ headS c ≤ 4 := by
  unfold headS; repeat' split
  all_goals omega
theorem headN_range {c : Int} (h : 0 ≤ c ∧ c < 256) : 0 ≤ headN c ∧ headN c ≤ 127 ∧ (headS c ≠ 1 → headN c ≤ 31) := by
  unfold headN headS; repeat' split
  all_goals omega
theorem contN_snoc (n : Int) (l : List UInt8) (b : UInt8) : contN n (l ++ [b]) = 64 * contN n l + (b.toNat : Int) % 64 := by simp [contN]

/-- What is written as a code point that may be, is read so from its head. -/
theorem head_enc {z : Int} (hm : may z = true) : ∃ b rest, encodeRune z = b :: rest ∧ headS (b.toNat : Int) = ((encodeRune z).length : Nat) ∧ contN (headN (b.toNat : Int)) rest = z := by
  have hmz := (may_iff z).1 hm
  by_cases c1 : 0 ≤ z ∧ z ≤ 127
  · have e : encodeRune z = [z.toNat.toUInt8] := by simp [encodeRune, encodeRuneZ_one c1.1 c1.2]
    have a := mod64 (x := z) (by omega) (by omega)
    refine ⟨_, _, e, ?_, ?_⟩
    · rw [e, a]; unfold headS; rw [if_pos (by omega)]; rfl
    · rw [a]; unfold headN; rw [if_pos (by omega)]; simp [contN]; omega
  · by_cases c2 : 128 ≤ z ∧ z ≤ 2047
    · have e : encodeRune z = [(192 + z / 64).toNat.toUInt8, (128 + z % 64).toNat.toUInt8] := by simp [encodeRune, encodeRuneZ_two c2.1 c2.2]
      have a := mod64 (x := 192 + z / 64) (by omega) (by omega)
      have b := mod64 (x := 128 + z % 64) (by omega) (by omega)
      refine ⟨_, _, e, ?_, ?_⟩
      · rw [e, a]; unfold headS; rw [if_neg (by omega), if_pos (by omega)]; rfl
      · rw [a]; unfold headN; rw [if_neg (by omega), if_pos (by omega)]; simp only [contN, List.foldl_cons, List.foldl_nil, b]; omega
    · by_cases c3 : z ≤ 65535
      · have e : encodeRune z = [(224 + z / 4096).toNat.toUInt8, (128 + z / 64 % 64).toNat.toUInt8, (128 + z % 64).toNat.toUInt8] := by simp [encodeRune, encodeRuneZ_three (r := z) (by omega)]
        have a := mod64 (x := 224 + z / 4096) (by omega) (by omega)
        have b := mod64 (x := 128 + z / 64 % 64) (by omega) (by omega)
        have c := mod64 (x := 128 + z % 64) (by omega) (by omega)
        refine ⟨_, _, e, ?_, ?_⟩
        · rw [e, a]; unfold headS; rw [if_neg (by omega), if_neg (by omega), if_pos (by omega)]; rfl
        · rw [a]; unfold headN; rw [if_neg (by omega), if_neg (by omega), if_pos (by omega)]; simp only [contN, List.foldl_cons, List.foldl_nil, b, c]; omega
      · have e : encodeRune z = [(240 + z / 262144).toNat.toUInt8, (128 + z / 4096 % 64).toNat.toUInt8, (128 + z / 64 % 64).toNat.toUInt8, (128 + z % 64).toNat.toUInt8] := by simp [encodeRune, encodeRuneZ_four (r := z) (by omega) (by omega)]
        have a := mod64 (x := 240 + z / 262144) (by omega) (by omega)
        have b := mod64 (x := 128 + z / 4096 % 64) (by omega) (by omega)
        have c := mod64 (x := 128 + z / 64 % 64) (by omega) (by omega)
        have d := mod64 (x := 128 + z % 64) (by omega) (by omega)
        refine ⟨_, _, e, ?_, ?_⟩
        · rw [e, a]; unfold headS; rw [if_neg (by omega), if_neg (by omega), if_neg (by omega), if_pos (by omega)]; rfl
        · rw [a]; unfold headN; rw [if_neg (by omega), if_neg (by omega), if_neg (by omega), if_pos (by omega)]; simp only [contN, List.foldl_cons, List.foldl_nil, b, c, d]; omega

/-- The document's way: yes. -/
theorem one_yes {l : List UInt8} {n : Int} {k : Nat} (hm : may n = true) (he : encodeRune n = l.take k) (hk : k ≤ l.length) : one l = some (n, k) := by
  have h := one_enc hm (l.drop k)
  have hlen : (encodeRune n).length = k := by rw [he, List.length_take]; omega
  rw [hlen, he, List.take_append_drop] at h
  exact h
/-- The document's way: no. -/
theorem one_no {b : UInt8} {l : List UInt8} {k : Nat} (hs : headS (b.toNat : Int) = k) (hno : k = 0 ∨ (b :: l).length < k ∨ (k ≤ (b :: l).length ∧ ∀ n, n = contN (headN (b.toNat : Int)) (l.take (k - 1)) → may n = true → encodeRune n ≠ (b :: l).take k)) : one (b :: l) = none := by
  cases h : one (b :: l) with
  | none => rfl
  | some p =>
    obtain ⟨z, j⟩ := p
    obtain ⟨_, hm, he, hj1, hj2⟩ := one_some h
    obtain ⟨b', rest, e1, e2, e3⟩ := head_enc hm
    have hlen : (encodeRune z).length = j := by rw [he, List.length_take]; omega
    obtain ⟨j', rfl⟩ : ∃ j', j = j' + 1 := ⟨j - 1, by omega⟩
    rw [he, List.take_succ_cons] at e1
    obtain ⟨e4, e5⟩ := List.cons.inj e1
    subst e4
    rw [hlen] at e2
    have hkj : k = j' + 1 := by rw [hs] at e2; exact Int.ofNat.inj e2
    subst hkj
    rcases hno with h0 | h0 | ⟨_, h0⟩
    · omega
    · omega
    · refine absurd he (h0 z ?_ hm)
      rw [← e3, ← e5]; rfl
end Go.Proofs.Ytanahnknjboplaa
/-
  Plain laws of layer 8: how a text is written. No program in sight.
-/
namespace Go.Proofs.Ytanahnknjboplaa
set_option linter.unusedSimpArgs false
set_option linter.unusedVariables false
open Go Go.RowKit Go.Lib

/-- Which errors checking a text has. -/
def ptsErr (l : List UInt8) : Int := if 16384 < l.length then 4 else match dec l with | none => 50 | some _ => 0
theorem ptsErr_len {s : List UInt8} (h : ptsErr s = 0) : s.length ≤ 16384 := by
  unfold ptsErr at h
  split at h
  · omega
  · omega
/-- How a byte is written. -/
def escB (q : Bool) (c : UInt8) : List UInt8 :=
  if c = 38 then [38, 97, 109, 112, 59] else if c = 60 then [38, 108, 116, 59] else if c = 62 then [38, 103, 116, 59] else if c = 13 then [38, 35, 49, 51, 59]
  else if q = true then (if c = 34 then [38, 113, 117, 111, 116, 59] else if c = 9 then [38, 35, 57, 59] else if c = 10 then [38, 35, 49, 48, 59] else [c]) else [c]
/-- How a text is written. -/
def escW (q : Bool) (s : List UInt8) : List UInt8 := s.flatMap (escB q)
theorem escW_nil (q : Bool) : escW q [] = [] := rfl
theorem escW_append (q : Bool) (a b : List UInt8) : escW q (a ++ b) = escW q a ++ escW q b := by simp [escW]
theorem escW_snoc (q : Bool) (a : List UInt8) (c : UInt8) : escW q (a ++ [c]) = escW q a ++ escB q c := by simp [escW]
theorem escB_length (q : Bool) (c : UInt8) : 1 ≤ (escB q c).length ∧ (escB q c).length ≤ 6 := by
  unfold escB
  repeat' split
  all_goals simp
theorem escB_ne (q : Bool) (c : UInt8) : escB q c ≠ [] := by
  intro h
  have := (escB_length q c).1
  rw [h] at this; simp at this
theorem escW_length (q : Bool) (s : List UInt8) : s.length ≤ (escW q s).length ∧ (escW q s).length ≤ 6 * s.length := by
  induction s with
  | nil => simp [escW]
  | cons c s ih =>
    have := escB_length q c
    simp only [escW, List.flatMap_cons, List.length_append, List.length_cons] at ih ⊢
    omega
theorem escW_take (q : Bool) {s : List UInt8} {k : Nat} {c : UInt8} (h : s[k]? = some c) : escW q (s.take (k + 1)) = escW q (s.take k) ++ escB q c := by
  obtain ⟨hk, rfl⟩ := List.getElem?_eq_some_iff.1 h
  rw [List.take_succ_eq_append_getElem hk, escW_snoc]
end Go.Proofs.Ytanahnknjboplaa
/-
  Plain law of layer 5: a text is cut between code points, and nowhere else. No program in sight.
-/
namespace Go.Proofs.Ytanahnknjboplaa
set_option linter.unusedSimpArgs false
set_option linter.unusedVariables false
open Go Go.RowKit Go.Lib

theorem dec_app : ∀ (p : List Int) (r : List UInt8), p.all may = true → dec (enc p ++ r) = (dec r).map (p ++ ·)
  | [], r, _ => by simp [enc]
  | z :: p, r, h => by
    simp only [List.all_cons, Bool.and_eq_true] at h
    have e : enc (z :: p) ++ r = encodeRune z ++ (enc p ++ r) := by simp [enc]
    rw [e, dec_step (one_enc h.1 _), List.drop_left, dec_app p r h.2, Option.map_map]
    congr 1
theorem dec_both {a b : List UInt8} {x y : List Int} (ha : dec a = some x) (hb : dec b = some y) : dec (a ++ b) = some (x ++ y) := by
  obtain ⟨h1, rfl⟩ := (dec_iff a x).1 ha
  rw [dec_app x b h1, hb]; rfl

/-- What stands behind a code point's first byte is no first byte. -/
theorem tail_cont {z : Int} {k : Nat} (h1 : 1 ≤ k) (h2 : k < (encodeRune z).length) : ∃ b t, (encodeRune z).drop k = b :: t ∧ 128 ≤ b.toNat ∧ b.toNat < 192 := by
  have key : ∀ x : Int, 0 ≤ x → ∀ y, (128 + x % 64).toNat.toUInt8 = y → 128 ≤ y.toNat ∧ y.toNat < 192 := by
    intro x _ y hy
    subst hy
    rw [mod64 (by omega) (by omega)]
    omega
  unfold encodeRune encodeRuneZ at h2 ⊢
  repeat' split
  · rename_i c; rw [if_pos c] at h2; simp at h2; omega
  · rename_i c1 c2; rw [if_neg c1, if_pos c2] at h2
    have : k = 1 := by simp at h2; omega
    subst this
    exact ⟨_, _, rfl, key z (by omega) _ rfl⟩
  · rename_i c1 c2 c3; rw [if_neg c1, if_neg c2, if_pos c3] at h2
    have : k = 1 ∨ k = 2 := by simp at h2; omega
    rcases this with rfl | rfl
    · exact ⟨_, _, rfl, key (z / 64) (by omega) _ rfl⟩
    · exact ⟨_, _, rfl, key z (by omega) _ rfl⟩
  · rename_i c1 c2 c3 c4; rw [if_neg c1, if_neg c2, if_neg c3, if_pos c4] at h2
    have : k = 1 ∨ k = 2 ∨ k = 3 := by simp at h2; omega
    rcases this with rfl | rfl | rfl
    · exact ⟨_, _, rfl, key (z / 4096) (by omega) _ rfl⟩
    · exact ⟨_, _, rfl, key (z / 64) (by omega) _ rfl⟩
    · exact ⟨_, _, rfl, key z (by omega) _ rfl⟩
  · rename_i c1 c2 c3 c4; rw [if_neg c1, if_neg c2, if_neg c3, if_neg c4] at h2
    have : k = 1 ∨ k = 2 := by simp at h2; omega
    rcases this with rfl | rfl
    · exact ⟨_, _, rfl, by decide⟩
    · exact ⟨_, _, rfl, by decide⟩
theorem cut_or : ∀ (zs : List Int) (k : Nat), k ≤ (enc zs).length → (∃ p q, zs = p ++ q ∧ (enc zs).take k = enc p ∧ (enc zs).drop k = enc q) ∨ ∃ b t, (enc zs).drop k = b :: t ∧ 128 ≤ b.toNat ∧ b.toNat < 192
  | [], k, h => by
    have : k = 0 := by simpa [enc] using h
    subst this
    exact .inl ⟨[], [], rfl, rfl, rfl⟩
  | z :: zs, k, h => by
    have e : enc (z :: zs) = encodeRune z ++ enc zs := by simp [enc]
    rw [e] at h ⊢
    by_cases h0 : k = 0
    · subst h0
      exact .inl ⟨[], z :: zs, rfl, rfl, by rw [e]; rfl⟩
    by_cases h1 : k < (encodeRune z).length
    · obtain ⟨b, t, ht, hb⟩ := tail_cont (by omega) h1
      exact .inr ⟨b, t ++ enc zs, by rw [List.drop_append_of_le_length (by omega), ht]; rfl, hb⟩
    · obtain ⟨j, rfl⟩ : ∃ j, k = (encodeRune z).length + j := ⟨k - (encodeRune z).length, by omega⟩
      have hj : j ≤ (enc zs).length := by simp at h; omega
      rcases cut_or zs j hj with ⟨p, q, rfl, h3, h4⟩ | ⟨b, t, h3, hb⟩
      · refine .inl ⟨z :: p, q, rfl, ?_, ?_⟩
        · rw [List.take_length_add_append, h3]; simp [enc]
        · rw [List.drop_length_add_append, h4]
      · exact .inr ⟨b, t, by rw [List.drop_length_add_append, h3], hb⟩

/-- A text that is cut. -/
theorem cut_same {s : List UInt8} {zs : List Int} (h : dec s = some zs) {k : Nat} (hk : k < s.length) :
    (one (s.drop k)).isSome = (dec (s.take k)).isSome ∧ (one (s.drop k)).isSome = (dec (s.drop k)).isSome := by
  obtain ⟨hm, rfl⟩ := (dec_iff s zs).1 h
  have hne : (enc zs).drop k ≠ [] := by
    intro h
    have := congrArg List.length h
    simp at this; omega
  rcases cut_or zs k (by omega) with ⟨p, q, rfl, h3, h4⟩ | ⟨b, t, h3, hb1, hb2⟩
  · rw [List.all_append, Bool.and_eq_true] at hm
    rw [h3, h4, dec_enc p hm.1, dec_enc q hm.2]
    cases h1 : one (enc q) with
    | some p => exact ⟨rfl, rfl⟩
    | none =>
      have := dec_bad (by rw [← h4]; exact hne) h1
      rw [dec_enc q hm.2] at this; cases this
  · have hs : headS (b.toNat : Int) = 0 := by
      unfold headS; rw [if_neg (by omega), if_neg (by omega), if_neg (by omega), if_neg (by omega)]
    have h1 : one ((enc zs).drop k) = none := by rw [h3]; exact one_no (k := 0) hs (.inl rfl)
    have h2 : dec ((enc zs).drop k) = none := dec_bad hne h1
    have h4 : dec ((enc zs).take k) = none := by
      cases h5 : dec ((enc zs).take k) with
      | none => rfl
      | some p =>
        obtain ⟨hp, he⟩ := (dec_iff _ p).1 h5
        have := dec_app p ((enc zs).drop k) hp
        rw [he, List.take_append_drop, h, h2] at this
        cases this
    rw [h1, h2, h4]
    exact ⟨rfl, rfl⟩
end Go.Proofs.Ytanahnknjboplaa
/-
  Plain laws of layer 9: names; a text cut at a byte. No program in sight.
-/
namespace Go.Proofs.Ytanahnknjboplaa
set_option linter.unusedSimpArgs false
set_option linter.unusedVariables false
open Go Go.RowKit Go.Lib

/-- May a byte stand in a name; first: at its beginning. -/
def letB (c : UInt8) : Bool := (decide (97 ≤ c.toNat) && decide (c.toNat ≤ 122)) || (decide (65 ≤ c.toNat) && decide (c.toNat ≤ 90)) || decide (c = 95)
def partB (first : Bool) (c : UInt8) : Bool := letB c || (!first && ((decide (48 ≤ c.toNat) && decide (c.toNat ≤ 57)) || decide (c = 46) || decide (c = 45)))
def nameL : List UInt8 → Bool
  | [] => false
  | c :: r => partB true c && r.all (partB false)
/-- A text cut at the first of these bytes. -/
def cut1 (d : UInt8) : List UInt8 → Option (List UInt8 × List UInt8)
  | [] => none
  | c :: r => if c = d then some ([], r) else (cut1 d r).map (fun p => (c :: p.1, p.2))
def fullL (s : List UInt8) : Bool := match cut1 58 s with
  | none => nameL s
  | some (a, b) => nameL a && nameL b
theorem cut1_none {d : UInt8} : ∀ {s : List UInt8}, cut1 d s = none ↔ d ∉ s
  | [] => by simp [cut1]
  | c :: r => by
    simp only [cut1]
    by_cases h : c = d
    · simp [h]
    · rw [if_neg h]
      simp only [Option.map_eq_none_iff, cut1_none (s := r), List.mem_cons, not_or]
      constructor
      · intro h2; exact ⟨fun e => h e.symm, h2⟩
      · intro h2; exact h2.2
theorem cut1_some {d : UInt8} : ∀ {s a b : List UInt8}, cut1 d s = some (a, b) → s = a ++ d :: b ∧ d ∉ a
  | [], a, b, h => by simp [cut1] at h
  | c :: r, a, b, h => by
    simp only [cut1] at h
    by_cases hc : c = d
    · rw [if_pos hc] at h; cases h; subst hc; simp
    · rw [if_neg hc] at h
      obtain ⟨⟨a', b'⟩, h1, h2⟩ := Option.map_eq_some_iff.1 h
      cases h2
      obtain ⟨e1, e2⟩ := cut1_some h1
      refine ⟨by rw [e1]; rfl, ?_⟩
      simp only [List.mem_cons, not_or]
      exact ⟨fun e => hc e.symm, e2⟩
theorem cut1_of {d : UInt8} : ∀ {a b : List UInt8}, d ∉ a → cut1 d (a ++ d :: b) = some (a, b)
  | [], b, _ => by simp [cut1]
  | c :: a, b, h => by
    simp only [List.mem_cons, not_or] at h
    simp only [List.cons_append, cut1]
    rw [if_neg (fun e => h.1 e.symm), cut1_of h.2]; rfl
theorem cut1_at {d : UInt8} {s : List UInt8} {i : Nat} (h1 : d ∉ s.take i) (h2 : s[i]? = some d) : cut1 d s = some (s.take i, s.drop (i + 1)) := by
  obtain ⟨hi, he⟩ := List.getElem?_eq_some_iff.1 h2
  have : s = s.take i ++ d :: s.drop (i + 1) := by
    conv => lhs; rw [← List.take_append_drop i s]
    rw [List.drop_eq_getElem_cons hi, he]
  have h3 := cut1_of (b := s.drop (i + 1)) h1
  rwa [← this] at h3
theorem index1_none {d : UInt8} {s : List UInt8} : indexByte s d = -1 ↔ cut1 d s = none := by
  rw [cut1_none]
  constructor
  · intro h hm
    obtain ⟨k, hk, rfl⟩ := List.getElem_of_mem hm
    exact indexByte_none h k (List.getElem?_eq_getElem hk)
  · intro h
    have hge := indexByte_ge s d
    by_cases hneg : indexByte s d = -1
    · exact hneg
    · obtain ⟨o, ho⟩ : ∃ o : Nat, indexByte s d = o := ⟨(indexByte s d).toNat, by omega⟩
      exact absurd (List.mem_of_getElem? (indexByte_some ho).1) h
theorem index1_some {d : UInt8} {s a b : List UInt8} (h : cut1 d s = some (a, b)) : indexByte s d = a.length ∧ s.take a.length = a ∧ s.drop (a.length + 1) = b ∧ a.length + 1 + b.length = s.length := by
  obtain ⟨h1, h2⟩ := cut1_some h
  have hne : indexByte s d ≠ -1 := fun e => by rw [index1_none.1 e] at h; cases h
  have hge := indexByte_ge s d
  obtain ⟨o, ho⟩ : ∃ o : Nat, indexByte s d = o := ⟨(indexByte s d).toNat, by omega⟩
  obtain ⟨g1, g2⟩ := indexByte_some ho
  have hat := cut1_at (i := o) (fun hm => by
    obtain ⟨k, hk, he⟩ := List.getElem_of_mem hm
    rw [List.length_take] at hk
    rw [List.getElem_take] at he
    exact g2 k (by omega) (by rw [List.getElem?_eq_getElem (by omega), he])) g1
  rw [h] at hat
  cases hat
  have hlt := (List.getElem?_eq_some_iff.1 g1).1
  have hl : (s.take o).length = o := by rw [List.length_take]; omega
  rw [hl]
  refine ⟨ho, rfl, rfl, ?_⟩
  rw [List.length_drop]; omega
/-- Where names go on. -/
theorem name_all {s : List UInt8} : nameL s = (!s.isEmpty && (s.zipIdx).all fun p => partB (p.2 == 0) p.1) := by
  cases s with
  | nil => rfl
  | cons c r =>
    simp only [nameL, List.isEmpty_cons, Bool.not_false, Bool.true_and, List.zipIdx_cons, List.all_cons, beq_self_eq_true]
    congr 1
    rw [Bool.eq_iff_iff, List.all_eq_true, List.all_eq_true]
    constructor
    · intro h p hp
      have h1 := List.mem_zipIdx hp
      have h3 : (p.2 == 0) = false := beq_false_of_ne (by omega)
      rw [h3]
      refine h _ ?_
      rw [h1.2.2]
      exact List.getElem_mem _
    · intro h c hc
      obtain ⟨k, hk, rfl⟩ := List.getElem_of_mem hc
      have := h (r[k], 0 + 1 + k) (by
        rw [List.mem_iff_getElem]
        exact ⟨k, by simpa using hk, by simp⟩)
      have h3 : ((0 + 1 + k) == 0) = false := beq_false_of_ne (by omega)
      simp only [h3] at this
      exact this
/-- The bytes up to a place may all stand there. -/
def namedTo (s : List UInt8) (k : Nat) : Prop := ∀ (i : Nat) (c : UInt8), i < k → s[i]? = some c → partB (i == 0) c = true
theorem nameL_true {s : List UInt8} (hne : s ≠ []) (h : namedTo s s.length) : nameL s = true := by
  cases s with
  | nil => exact absurd rfl hne
  | cons c r =>
    have h0 := h 0 c (by simp) (by simp)
    simp only [beq_self_eq_true] at h0
    simp only [nameL, h0, Bool.true_and, List.all_eq_true]
    intro x hx
    obtain ⟨k, hk, rfl⟩ := List.getElem_of_mem hx
    have := h (k + 1) r[k] (by simp; omega) (by simp [hk])
    have h3 : ((k + 1) == 0) = false := beq_false_of_ne (by omega)
    rwa [h3] at this
theorem nameL_false {s : List UInt8} {k : Nat} {c : UInt8} (hc : s[k]? = some c) (h : partB (k == 0) c = false) : nameL s = false := by
  cases s with
  | nil => simp at hc
  | cons x r =>
    cases k with
    | zero =>
      simp at hc; subst hc
      simp only [beq_self_eq_true] at h
      simp [nameL, h]
    | succ k =>
      have h3 : ((k + 1) == 0) = false := beq_false_of_ne (by omega)
      rw [h3] at h
      simp only [List.getElem?_cons_succ] at hc
      simp only [nameL, Bool.and_eq_false_iff, List.all_eq_false]
      right
      exact ⟨c, List.mem_of_getElem? hc, by rw [h]; simp⟩
end Go.Proofs.Ytanahnknjboplaa
/-
  Plain laws of layer 9: tokens, which may be, and their text. No program in sight.
-/
namespace Go.Proofs.Ytanahnknjboplaa
set_option linter.unusedSimpArgs false
set_option linter.unusedVariables false
open Go Go.RowKit Go.Lib

/-- Is a byte one that goes on a code point. -/
def contB (b : UInt8) : Bool := decide (128 ≤ b.toNat) && decide (b.toNat < 192)
theorem cut_near : ∀ (zs : List Int) (k : Nat), k ≤ (enc zs).length → ∃ j, k ≤ j ∧ j ≤ k + 3 ∧ j ≤ (enc zs).length ∧ ∃ p q, zs = p ++ q ∧ (enc zs).take j = enc p ∧ (enc zs).drop j = enc q
  | [], k, h => by
    have : k = 0 := by simpa [enc] using h
    subst this
    exact ⟨0, Nat.le_refl _, by omega, by simp, [], [], rfl, rfl, rfl⟩
  | z :: zs, k, h => by
    have e : enc (z :: zs) = encodeRune z ++ enc zs := by simp [enc]
    have hl := encodeRune_length z
    rw [e] at h ⊢
    by_cases h0 : k = 0
    · subst h0
      exact ⟨0, Nat.le_refl _, by omega, by omega, [], z :: zs, rfl, rfl, by rw [e]; rfl⟩
    by_cases h1 : k < (encodeRune z).length
    · refine ⟨(encodeRune z).length, by omega, by omega, by simp, [z], zs, rfl, ?_, ?_⟩
      · rw [List.take_left]; simp [enc]
      · rw [List.drop_left]
    · obtain ⟨j, rfl⟩ : ∃ j, k = (encodeRune z).length + j := ⟨k - (encodeRune z).length, by omega⟩
      have hj : j ≤ (enc zs).length := by simp at h; omega
      obtain ⟨i, i1, i2, i3, p, q, rfl, h3, h4⟩ := cut_near zs j hj
      refine ⟨(encodeRune z).length + i, by omega, by omega, by simp at i3 ⊢; omega, z :: p, q, rfl, ?_, ?_⟩
      · rw [List.take_length_add_append, h3]; simp [enc]
      · rw [List.drop_length_add_append, h4]
theorem enc_head {zs : List Int} (hm : zs.all may = true) {b : UInt8} (h : (enc zs)[0]? = some b) : contB b = false := by
  cases zs with
  | nil => simp [enc] at h
  | cons z zs =>
    simp only [List.all_cons, Bool.and_eq_true] at hm
    obtain ⟨c, rest, e1, e2, _⟩ := head_enc hm.1
    have e : enc (z :: zs) = encodeRune z ++ enc zs := by simp [enc]
    rw [e, e1] at h
    simp at h; subst h
    have hl := (encodeRune_length z).1
    unfold contB
    by_cases hc : 128 ≤ c.toNat ∧ c.toNat < 192
    · exfalso
      have : headS (c.toNat : Int) = 0 := by
        unfold headS; rw [if_neg (by omega), if_neg (by omega), if_neg (by omega), if_neg (by omega)]
      omega
    · simp only [Bool.and_eq_false_iff, decide_eq_false_iff_not]; omega
/-- Where a text may be cut behind a place. -/
theorem text_near {r : List UInt8} (h : (dec r).isSome = true) {k : Nat} (hk : k ≤ r.length) : ∃ j, k ≤ j ∧ j ≤ k + 3 ∧ j ≤ r.length ∧ ∀ b, r[j]? = some b → contB b = false := by
  obtain ⟨zs, hz⟩ := Option.isSome_iff_exists.1 h
  obtain ⟨hm, rfl⟩ := (dec_iff r zs).1 hz
  obtain ⟨j, j1, j2, j3, p, q, rfl, h3, h4⟩ := cut_near zs k hk
  rw [List.all_append, Bool.and_eq_true] at hm
  refine ⟨j, j1, j2, j3, fun b hb => enc_head hm.2 ?_⟩
  rw [← h4, List.getElem?_drop]; simpa using hb
theorem text_cut {r : List UInt8} (h : (dec r).isSome = true) {k : Nat} (hk : k ≤ r.length) (hc : ∀ b, r[k]? = some b → contB b = false) : (dec (r.take k)).isSome = true ∧ (dec (r.drop k)).isSome = true := by
  obtain ⟨zs, hz⟩ := Option.isSome_iff_exists.1 h
  obtain ⟨hm, rfl⟩ := (dec_iff r zs).1 hz
  rcases cut_or zs k hk with ⟨p, q, rfl, h3, h4⟩ | ⟨b, t, h3, hb1, hb2⟩
  · rw [List.all_append, Bool.and_eq_true] at hm
    rw [h3, h4, dec_enc p hm.1, dec_enc q hm.2]
    exact ⟨rfl, rfl⟩
  · exfalso
    have : (enc zs)[k]? = some b := by
      have := congrArg (fun l => l[0]?) h3
      simpa using this
    have := hc b this
    simp only [contB, Bool.and_eq_false_iff, decide_eq_false_iff_not] at this
    omega
theorem ptsErr_iff {s : List UInt8} : ptsErr s = 0 ↔ s.length ≤ 16384 ∧ (dec s).isSome = true := by
  unfold ptsErr
  split
  · constructor
    · intro h; omega
    · rintro ⟨h, _⟩; omega
  · rename_i hl
    cases dec s with
    | none => simp
    | some z => simp; omega

/-- A pair; a token. -/
structure Pr where
  name : List UInt8
  value : List UInt8
deriving DecidableEq
structure Tk where
  kind : Nat
  name : List UInt8
  attrs : List Pr
  text : List UInt8
deriving DecidableEq
def okP (l : List Pr) (a : Pr) : Bool := !(l.any fun b => a.name == b.name) && fullL a.name && decide (ptsErr a.value = 0)
/-- May attributes be. -/
def attrsTo (l : List Pr) (k : Nat) : Prop := ∀ (i : Nat) (a : Pr), i < k → l[i]? = some a → okP (l.take i) a = true
def attrsL (l : List Pr) : Bool := decide (l.length ≤ 16) && l.zipIdx.all fun p => okP (l.take p.2) p.1
theorem attrs_iff {l : List Pr} : attrsL l = true ↔ l.length ≤ 16 ∧ attrsTo l l.length := by
  unfold attrsL attrsTo
  simp only [Bool.and_eq_true, decide_eq_true_eq, List.all_eq_true]
  refine and_congr_right fun _ => ⟨fun h i a hi ha => ?_, fun h p hp => ?_⟩
  · refine h (a, i) ?_
    rw [List.mem_zipIdx_iff_getElem?]; exact ha
  · have := (List.mem_zipIdx_iff_getElem?).1 hp
    exact h p.2 p.1 (List.getElem?_eq_some_iff.1 this).1 this
/-- May a token be. -/
def tokL (t : Tk) : Bool :=
  if t.kind = 1 ∨ t.kind = 3 then fullL t.name && attrsL t.attrs && t.text.isEmpty
  else if t.kind = 2 then fullL t.name && t.attrs.isEmpty && t.text.isEmpty
  else if t.kind = 4 then t.name.isEmpty && t.attrs.isEmpty && !t.text.isEmpty && decide (ptsErr t.text = 0)
  else false
def tokE (t : Tk) : Int := if tokL t = true then 0 else 8
/-- The text of attributes; of a token. -/
def attrW (a : Pr) : List UInt8 := [32] ++ a.name ++ [61, 34] ++ escW true a.value ++ [34]
def attrsW (l : List Pr) : List UInt8 := l.flatMap attrW
def tokW (t : Tk) : List UInt8 :=
  if t.kind = 4 then escW false t.text
  else if t.kind = 2 then [60, 47] ++ t.name ++ [62]
  else [60] ++ t.name ++ attrsW t.attrs ++ (if t.kind = 3 then [47, 62] else [62])
def toksW (l : List Tk) : List UInt8 := l.flatMap tokW
theorem toksW_take {l : List Tk} {k : Nat} {t : Tk} (h : l[k]? = some t) : toksW (l.take (k + 1)) = toksW (l.take k) ++ tokW t := by
  obtain ⟨hk, rfl⟩ := List.getElem?_eq_some_iff.1 h
  rw [List.take_succ_eq_append_getElem hk]; unfold toksW; rw [List.flatMap_append]; simp
theorem attrsW_take {l : List Pr} {k : Nat} {t : Pr} (h : l[k]? = some t) : attrsW (l.take (k + 1)) = attrsW (l.take k) ++ attrW t := by
  obtain ⟨hk, rfl⟩ := List.getElem?_eq_some_iff.1 h
  rw [List.take_succ_eq_append_getElem hk]; unfold attrsW; rw [List.flatMap_append]; simp
/-- Two texts side by side. -/
def adjL : List Tk → Bool
  | a :: b :: r => (a.kind == 4 && b.kind == 4) || adjL (b :: r)
  | _ => false
def adjTo (l : List Tk) (k : Nat) : Prop := ∀ (i : Nat) (a b : Tk), i + 1 < k → l[i]? = some a → l[i + 1]? = some b → ¬ (a.kind = 4 ∧ b.kind = 4)
theorem adj_false : ∀ {l : List Tk}, adjL l = false ↔ adjTo l l.length
  | [] => by simp [adjL, adjTo]
  | [a] => by simp [adjL, adjTo]
  | a :: b :: r => by
    simp only [adjL, Bool.or_eq_false_iff, adj_false (l := b :: r)]
    constructor
    · rintro ⟨h1, h2⟩ i x y hi hx hy
      cases i with
      | zero =>
        simp at hx hy; subst hx; subst hy
        intro ⟨e1, e2⟩
        simp [e1, e2] at h1
      | succ i => exact h2 i x y (by simp at hi ⊢; omega) (by simpa using hx) (by simpa using hy)
    · intro h
      refine ⟨?_, fun i x y hi hx hy => h (i + 1) x y (by simp at hi ⊢; omega) (by simpa using hx) (by simpa using hy)⟩
      have := h 0 a b (by simp) (by simp) (by simp)
      simp only [Bool.and_eq_false_iff, beq_eq_false_iff_ne]
      by_cases e : a.kind = 4
      · right; exact fun e2 => this ⟨e, e2⟩
      · left; exact e
theorem adj_true {l : List Tk} {i : Nat} {a b : Tk} (ha : l[i]? = some a) (hb : l[i + 1]? = some b) (h1 : a.kind = 4) (h2 : b.kind = 4) : adjL l = true := by
  cases h : adjL l with
  | true => rfl
  | false =>
    have := adj_false.1 h
    exact absurd ⟨h1, h2⟩ (this i a b (List.getElem?_eq_some_iff.1 hb).1 ha hb)
def joinE (l : List Tk) : Int := if (l.any fun t => !tokL t) = true ∨ adjL l = true then 8 else if 512 < l.length ∨ 16384 < (toksW l).length then 4 else 0
def joinT (l : List Tk) : List UInt8 := if joinE l = 0 then toksW l else []
/-- Are tokens more than statements go through. -/
def prN (a : Pr) : Nat := min a.name.length 20000 + min a.value.length 20000
def prsN (l : List Pr) : Nat := (l.map prN).sum
def tkN (t : Tk) : Nat := min t.name.length 20000 + min t.text.length 20000 + prsN (t.attrs.take 30)
def tksN (l : List Tk) : Nat := (l.map tkN).sum
def greatTo (l : List Tk) (most k : Nat) : Prop := ∀ (i : Nat) (t : Tk), i < k → l[i]? = some t → t.attrs.length ≤ 30 ∧ tksN (l.take (i + 1)) ≤ most
def greatL (l : List Tk) (most : Nat) : Bool := ((l.take 600).any fun t => decide (30 < t.attrs.length)) || (decide (0 < (l.take 600).length) && decide (most < tksN (l.take 600))) || decide (600 < l.length)
theorem sum_map_le {α : Type} {f : α → Nat} {l : List α} {x : α} (h : x ∈ l) : f x ≤ (l.map f).sum := by
  induction l with
  | nil => simp at h
  | cons y l ih =>
    simp only [List.map_cons, List.sum_cons]
    rcases List.mem_cons.1 h with rfl | h
    · omega
    · have := ih h; omega
theorem sum_snoc {α : Type} {f : α → Nat} {l : List α} {k : Nat} {x : α} (h : l[k]? = some x) : ((l.take (k + 1)).map f).sum = ((l.take k).map f).sum + f x := by
  obtain ⟨hk, rfl⟩ := List.getElem?_eq_some_iff.1 h
  rw [List.take_succ_eq_append_getElem hk, List.map_append, List.sum_append]; simp
theorem sum_take_le {α : Type} {f : α → Nat} (l : List α) (k : Nat) : ((l.take k).map f).sum ≤ (l.map f).sum := by
  conv => rhs; rw [← List.take_append_drop k l, List.map_append, List.sum_append]
  omega
theorem prs_small {l : List Pr} {n : Nat} (h : prsN l ≤ n) (hn : n < 20000) : ∀ a ∈ l, a.name.length ≤ n ∧ a.value.length ≤ n := by
  intro a ha
  have := sum_map_le (f := prN) ha
  unfold prsN at h
  simp only [prN] at *
  omega
/-- What is not great is small. -/
theorem great_small {l : List Tk} {most : Nat} (hm : most < 20000) (h : greatL l most = false) : l.length ≤ 600 ∧ ∀ t ∈ l, t.attrs.length ≤ 30 ∧ t.name.length ≤ most ∧ t.text.length ≤ most ∧ ∀ a ∈ t.attrs, a.name.length ≤ most ∧ a.value.length ≤ most := by
  unfold greatL at h
  simp only [Bool.or_eq_false_iff, Bool.and_eq_false_iff, decide_eq_false_iff_not, List.any_eq_false, decide_eq_true_eq] at h
  obtain ⟨⟨h1, h2⟩, h3⟩ := h
  have hl : l.length ≤ 600 := by omega
  rw [List.take_of_length_le hl] at h1 h2
  refine ⟨hl, fun t ht => ?_⟩
  have ha := h1 t ht
  have h0 : 0 < l.length := List.length_pos_of_mem ht
  have hs : tksN l ≤ most := by omega
  have := sum_map_le (f := tkN) ht
  unfold tksN at hs
  have h30 : t.attrs.take 30 = t.attrs := List.take_of_length_le (by omega)
  simp only [tkN, h30] at *
  exact ⟨by omega, by omega, by omega, prs_small (by omega) hm⟩
theorem attrW_length (a : Pr) : (attrW a).length ≤ 4 + a.name.length + 6 * a.value.length := by
  have := escW_length true a.value
  simp only [attrW, List.length_append, List.length_cons, List.length_nil]; omega
theorem flatMap_le {α : Type} {f : α → List UInt8} {n : Nat} : ∀ {l : List α}, (∀ x ∈ l, (f x).length ≤ n) → (l.flatMap f).length ≤ l.length * n
  | [], _ => by simp
  | x :: l, h => by
    have h1 := h x (by simp)
    have h2 := flatMap_le (l := l) (fun y hy => h y (by simp [hy]))
    simp only [List.flatMap_cons, List.length_append, List.length_cons, Nat.succ_mul]; omega
/-- Bounds on what is written. -/
theorem tokW_length {t : Tk} {n : Nat} (h1 : t.attrs.length ≤ 30) (h2 : t.name.length ≤ n) (h3 : t.text.length ≤ n) (h4 : ∀ a ∈ t.attrs, a.name.length ≤ n ∧ a.value.length ≤ n) : (attrsW t.attrs).length ≤ 30 * (4 + 7 * n) ∧ (tokW t).length ≤ 124 + 217 * n := by
  have e := escW_length false t.text
  have ha : (attrsW t.attrs).length ≤ t.attrs.length * (4 + 7 * n) := flatMap_le (fun a ha => by
    have := attrW_length a
    have := h4 a ha
    omega)
  have hb : t.attrs.length * (4 + 7 * n) ≤ 30 * (4 + 7 * n) := Nat.mul_le_mul_right _ h1
  refine ⟨by omega, ?_⟩
  unfold tokW
  split
  · omega
  · split
    · simp only [List.length_append, List.length_cons, List.length_nil]; omega
    · simp only [List.length_append, List.length_cons, List.length_nil]
      split <;> simp only [List.length_cons, List.length_nil] <;> omega
end Go.Proofs.Ytanahnknjboplaa
/-
  Layer 5 by the machine: code points that may be; beginnings of texts.
-/
namespace Go.Proofs.Ytanahnknjboplaa
set_option linter.unusedSimpArgs false
set_option linter.unusedVariables false
open Go Go.RowKit Go.Proofs.Ytanahnknjboplaa.Vm

def validB (r : Int) : Bool := (decide (0 ≤ r) && decide (r < 55296)) || (decide (57343 < r) && decide (r ≤ 1114111))
theorem valid_ev (r : Int) (nm : Nat) : Ev cx 106 nm [.int .i32 r] Mem.nil (.bool (validB r)) [] := by
  unfold validB
  refine ev_go (fun cargs w => Try.call106 cargs w) Try.func106 rfl mixed (by kernel_rfl) rfl ?_; intro b0 hb0
  ((repeat' first | simp only [Try.results106, Try.ntmps106, Nat.reducePow, wks, vcs, Nat.reduceAdd, Nat.reduceMul, Nat.reduceEqDiff, Nat.reduceLeDiff, Nat.reduceSub, Nat.reduceLT, Int.reduceToNat, Int.reduceLE, Int.reduceLT, Int.reduceAdd, Int.reduceSub, Int.reduceMul, Int.reduceNeg, reduceCtorEq, reduceIte, Int.reduceBEq, Int.reduceBNe, Int.reduceEq, Int.reduceNe, Nat.reduceBEq, Nat.reduceBNe, tys, pick_false, pick_true, goGuard_sgd] | exact rfl | (first | (refine call_val (g := ?_) ?_ ?_) | (refine call_valg (g := ?_) ?_ ?_); rotate_left 1; (focus (simp only [Try.results106, Try.ntmps106, Nat.reducePow, wks, vcs, Nat.reduceAdd, Nat.reduceMul, Nat.reduceEqDiff, Nat.reduceLeDiff, Nat.reduceSub, Nat.reduceLT, Int.reduceToNat, Int.reduceLE, Int.reduceLT, Int.reduceAdd, Int.reduceSub, Int.reduceMul, Int.reduceNeg, reduceCtorEq, reduceIte, Int.reduceBEq, Int.reduceBNe, Int.reduceEq, Int.reduceNe, Nat.reduceBEq, Nat.reduceBNe, tys, pick_false, pick_true, goGuard_sgd] <;> exact rfl))) | refine draw_end (by decide +kernel) ?_ | refine cond_bool (fun hb => ?_) (fun hb => ?_) | refine cond_bit (fun hb => ?_) (fun hb => ?_) | refine And.intro (by omega) ?_ | refine And.intro (fun hb => ?_) (fun hb => ?_) | fail); (all_goals (first | (refine Fin.pure ?_ ?_ ?_ <;> (try simp only [Try.results106, Try.ntmps106, vcs, Nat.reduceAdd, Nat.reduceMul, Nat.reduceEqDiff, Nat.reduceLeDiff, Nat.reduceSub, Nat.reduceLT, Int.reduceToNat, Int.reduceLE, Int.reduceLT, Int.reduceAdd, Int.reduceSub, Int.reduceMul, Int.reduceNeg, reduceCtorEq, reduceIte, Int.reduceBEq, Int.reduceBNe, Int.reduceEq, Int.reduceNe, Nat.reduceBEq, Nat.reduceBNe, tys, pick_false, pick_true, goGuard_sgd]) <;> (try simp only [injs])) | skip)))
  all_goals simp_all
theorem tMay_ev (n : Int) (nm : Nat) : Ev cx 97 nm [.int .i64 n] Mem.nil (.bool (may n)) [] := by
  refine ev_go (fun cargs w => Try.call97 cargs w) Try.func97 rfl mixed (by kernel_rfl) rfl ?_; intro b0 hb0
  ((repeat' first | simp only [Try.results97, Try.ntmps97, Nat.reducePow, wks, vcs, Nat.reduceAdd, Nat.reduceMul, Nat.reduceEqDiff, Nat.reduceLeDiff, Nat.reduceSub, Nat.reduceLT, Int.reduceToNat, Int.reduceLE, Int.reduceLT, Int.reduceAdd, Int.reduceSub, Int.reduceMul, Int.reduceNeg, reduceCtorEq, reduceIte, Int.reduceBEq, Int.reduceBNe, Int.reduceEq, Int.reduceNe, Nat.reduceBEq, Nat.reduceBNe, tys, pick_false, pick_true, goGuard_sgd] | exact rfl | (first | (refine call_val (g := ?_) ?_ ?_) | (refine call_valg (g := ?_) ?_ ?_); rotate_left 1; (focus (simp only [Try.results97, Try.ntmps97, Nat.reducePow, wks, vcs, Nat.reduceAdd, Nat.reduceMul, Nat.reduceEqDiff, Nat.reduceLeDiff, Nat.reduceSub, Nat.reduceLT, Int.reduceToNat, Int.reduceLE, Int.reduceLT, Int.reduceAdd, Int.reduceSub, Int.reduceMul, Int.reduceNeg, reduceCtorEq, reduceIte, Int.reduceBEq, Int.reduceBNe, Int.reduceEq, Int.reduceNe, Nat.reduceBEq, Nat.reduceBNe, tys, pick_false, pick_true, goGuard_sgd] <;> exact rfl))) | refine draw_end (by decide +kernel) ?_ | refine cond_bool (fun hb => ?_) (fun hb => ?_) | refine cond_bit (fun hb => ?_) (fun hb => ?_) | refine And.intro (by omega) ?_ | refine And.intro (fun hb => ?_) (fun hb => ?_) | fail); (all_goals (first | (refine Fin.pure ?_ ?_ ?_ <;> (try simp only [Try.results97, Try.ntmps97, vcs, Nat.reduceAdd, Nat.reduceMul, Nat.reduceEqDiff, Nat.reduceLeDiff, Nat.reduceSub, Nat.reduceLT, Int.reduceToNat, Int.reduceLE, Int.reduceLT, Int.reduceAdd, Int.reduceSub, Int.reduceMul, Int.reduceNeg, reduceCtorEq, reduceIte, Int.reduceBEq, Int.reduceBNe, Int.reduceEq, Int.reduceNe, Nat.reduceBEq, Nat.reduceBNe, tys, pick_false, pick_true, goGuard_sgd]) <;> (try simp only [injs])) | skip)))
  all_goals simp only [decide_eq_true_eq, decide_eq_false_iff_not, beq_iff_eq, beq_eq_false_iff_ne, ne_eq] at *
  all_goals (first | (exfalso; omega) | (exact may_t (by omega)) | (exact may_f (by omega)) | skip)
  have hw : IntKind.i32.wrap n = n := IntWalk.i32_in _ (by omega)
  rw [hw]
  have hv : validB n = may n := by
    cases h : may n with
    | true =>
      have := (may_iff n).1 h
      unfold validB
      simp only [Bool.or_eq_true, Bool.and_eq_true, decide_eq_true_eq]; omega
    | false =>
      have h' : ¬ _ := fun q => by rw [(may_iff n).2 q] at h; cases h
      unfold validB
      simp only [Bool.or_eq_false_iff, Bool.and_eq_false_iff, decide_eq_false_iff_not]; omega
  ((repeat' first | simp only [Try.results97, Try.ntmps97, Nat.reducePow, wks, hv, vcs, Nat.reduceAdd, Nat.reduceMul, Nat.reduceEqDiff, Nat.reduceLeDiff, Nat.reduceSub, Nat.reduceLT, Int.reduceToNat, Int.reduceLE, Int.reduceLT, Int.reduceAdd, Int.reduceSub, Int.reduceMul, Int.reduceNeg, reduceCtorEq, reduceIte, Int.reduceBEq, Int.reduceBNe, Int.reduceEq, Int.reduceNe, Nat.reduceBEq, Nat.reduceBNe, tys, pick_false, pick_true, goGuard_sgd] | exact rfl | ((first | (refine call_fn ?_ (valid_ev n _) ?_) | (refine call_fn_g ?_ (fun _ => valid_ev n _) ?_)); (focus (simp only [Try.results97, Try.ntmps97, Nat.reducePow, wks, hv, vcs, Nat.reduceAdd, Nat.reduceMul, Nat.reduceEqDiff, Nat.reduceLeDiff, Nat.reduceSub, Nat.reduceLT, Int.reduceToNat, Int.reduceLE, Int.reduceLT, Int.reduceAdd, Int.reduceSub, Int.reduceMul, Int.reduceNeg, reduceCtorEq, reduceIte, Int.reduceBEq, Int.reduceBNe, Int.reduceEq, Int.reduceNe, Nat.reduceBEq, Nat.reduceBNe, tys, pick_false, pick_true, goGuard_sgd] <;> exact rfl))) | (first | (refine call_val (g := ?_) ?_ ?_) | (refine call_valg (g := ?_) ?_ ?_); rotate_left 1; (focus (simp only [Try.results97, Try.ntmps97, Nat.reducePow, wks, hv, vcs, Nat.reduceAdd, Nat.reduceMul, Nat.reduceEqDiff, Nat.reduceLeDiff, Nat.reduceSub, Nat.reduceLT, Int.reduceToNat, Int.reduceLE, Int.reduceLT, Int.reduceAdd, Int.reduceSub, Int.reduceMul, Int.reduceNeg, reduceCtorEq, reduceIte, Int.reduceBEq, Int.reduceBNe, Int.reduceEq, Int.reduceNe, Nat.reduceBEq, Nat.reduceBNe, tys, pick_false, pick_true, goGuard_sgd] <;> exact rfl))) | refine draw_end (by decide +kernel) ?_ | refine cond_bool (fun hb => ?_) (fun hb => ?_) | refine cond_bit (fun hb => ?_) (fun hb => ?_) | refine And.intro (by omega) ?_ | refine And.intro (fun hb => ?_) (fun hb => ?_) | fail); (all_goals (first | (refine Fin.pure ?_ ?_ ?_ <;> (try simp only [Try.results97, Try.ntmps97, hv, vcs, Nat.reduceAdd, Nat.reduceMul, Nat.reduceEqDiff, Nat.reduceLeDiff, Nat.reduceSub, Nat.reduceLT, Int.reduceToNat, Int.reduceLE, Int.reduceLT, Int.reduceAdd, Int.reduceSub, Int.reduceMul, Int.reduceNeg, reduceCtorEq, reduceIte, Int.reduceBEq, Int.reduceBNe, Int.reduceEq, Int.reduceNe, Nat.reduceBEq, Nat.reduceBNe, tys, pick_false, pick_true, goGuard_sgd]) <;> (try simp only [injs])) | skip)))
def preB (s p : List UInt8) : Bool := decide (p.length ≤ s.length) && (s.take p.length == p)
theorem hasPre_ev (s p : List UInt8) (hs : s.length ≤ lim) (hp : p.length ≤ lim) (nm : Nat) : Ev cx 105 nm [.str s, .str p] Mem.nil (.bool (preB s p)) [] := by
  unfold lim at hs hp
  unfold preB
  refine ev_go (fun cargs w => Try.call105 cargs w) Try.func105 rfl mixed (by kernel_rfl) rfl ?_; intro b0 hb0
  ((repeat' first | simp only [Try.results105, Try.ntmps105, Nat.reducePow, wks, decide_eq_true_eq, imp_self, vcs, Nat.reduceAdd, Nat.reduceMul, Nat.reduceEqDiff, Nat.reduceLeDiff, Nat.reduceSub, Nat.reduceLT, Int.reduceToNat, Int.reduceLE, Int.reduceLT, Int.reduceAdd, Int.reduceSub, Int.reduceMul, Int.reduceNeg, reduceCtorEq, reduceIte, Int.reduceBEq, Int.reduceBNe, Int.reduceEq, Int.reduceNe, Nat.reduceBEq, Nat.reduceBNe, tys, pick_false, pick_true, goGuard_sgd] | exact rfl | (first | (refine call_val (g := ?_) ?_ ?_) | (refine call_valg (g := ?_) ?_ ?_); rotate_left 1; (focus (simp only [Try.results105, Try.ntmps105, Nat.reducePow, wks, decide_eq_true_eq, imp_self, vcs, Nat.reduceAdd, Nat.reduceMul, Nat.reduceEqDiff, Nat.reduceLeDiff, Nat.reduceSub, Nat.reduceLT, Int.reduceToNat, Int.reduceLE, Int.reduceLT, Int.reduceAdd, Int.reduceSub, Int.reduceMul, Int.reduceNeg, reduceCtorEq, reduceIte, Int.reduceBEq, Int.reduceBNe, Int.reduceEq, Int.reduceNe, Nat.reduceBEq, Nat.reduceBNe, tys, pick_false, pick_true, goGuard_sgd] <;> exact rfl))) | refine draw_end (by decide +kernel) ?_ | refine cond_bool (fun hb => ?_) (fun hb => ?_) | refine cond_bit (fun hb => ?_) (fun hb => ?_) | refine And.intro (by omega) ?_ | refine And.intro (fun hb => ?_) (fun hb => ?_) | fail); (all_goals (first | (refine Fin.pure ?_ ?_ ?_ <;> (try simp only [Try.results105, Try.ntmps105, decide_eq_true_eq, imp_self, vcs, Nat.reduceAdd, Nat.reduceMul, Nat.reduceEqDiff, Nat.reduceLeDiff, Nat.reduceSub, Nat.reduceLT, Int.reduceToNat, Int.reduceLE, Int.reduceLT, Int.reduceAdd, Int.reduceSub, Int.reduceMul, Int.reduceNeg, reduceCtorEq, reduceIte, Int.reduceBEq, Int.reduceBNe, Int.reduceEq, Int.reduceNe, Nat.reduceBEq, Nat.reduceBNe, tys, pick_false, pick_true, goGuard_sgd]) <;> (try simp only [injs])) | skip)))
theorem pre_ev (s p : List UInt8) (hs : s.length ≤ lim) (hp : p.length ≤ lim) (nm : Nat) : Ev cx 96 nm [.str s, .str p] Mem.nil (.bool (preB s p)) [] := by
  refine ev_go (fun cargs w => Try.call96 cargs w) Try.func96 rfl mixed (by kernel_rfl) rfl ?_; intro b0 hb0
  ((repeat' first | simp only [Try.results96, Try.ntmps96, Nat.reducePow, wks, vcs, Nat.reduceAdd, Nat.reduceMul, Nat.reduceEqDiff, Nat.reduceLeDiff, Nat.reduceSub, Nat.reduceLT, Int.reduceToNat, Int.reduceLE, Int.reduceLT, Int.reduceAdd, Int.reduceSub, Int.reduceMul, Int.reduceNeg, reduceCtorEq, reduceIte, Int.reduceBEq, Int.reduceBNe, Int.reduceEq, Int.reduceNe, Nat.reduceBEq, Nat.reduceBNe, tys, pick_false, pick_true, goGuard_sgd] | exact rfl | ((first | (refine call_fn ?_ (hasPre_ev s p hs hp _) ?_) | (refine call_fn_g ?_ (fun _ => hasPre_ev s p hs hp _) ?_)); (focus (simp only [Try.results96, Try.ntmps96, Nat.reducePow, wks, vcs, Nat.reduceAdd, Nat.reduceMul, Nat.reduceEqDiff, Nat.reduceLeDiff, Nat.reduceSub, Nat.reduceLT, Int.reduceToNat, Int.reduceLE, Int.reduceLT, Int.reduceAdd, Int.reduceSub, Int.reduceMul, Int.reduceNeg, reduceCtorEq, reduceIte, Int.reduceBEq, Int.reduceBNe, Int.reduceEq, Int.reduceNe, Nat.reduceBEq, Nat.reduceBNe, tys, pick_false, pick_true, goGuard_sgd] <;> exact rfl))) | (first | (refine call_val (g := ?_) ?_ ?_) | (refine call_valg (g := ?_) ?_ ?_); rotate_left 1; (focus (simp only [Try.results96, Try.ntmps96, Nat.reducePow, wks, vcs, Nat.reduceAdd, Nat.reduceMul, Nat.reduceEqDiff, Nat.reduceLeDiff, Nat.reduceSub, Nat.reduceLT, Int.reduceToNat, Int.reduceLE, Int.reduceLT, Int.reduceAdd, Int.reduceSub, Int.reduceMul, Int.reduceNeg, reduceCtorEq, reduceIte, Int.reduceBEq, Int.reduceBNe, Int.reduceEq, Int.reduceNe, Nat.reduceBEq, Nat.reduceBNe, tys, pick_false, pick_true, goGuard_sgd] <;> exact rfl))) | refine draw_end (by decide +kernel) ?_ | refine cond_bool (fun hb => ?_) (fun hb => ?_) | refine cond_bit (fun hb => ?_) (fun hb => ?_) | refine And.intro (by omega) ?_ | refine And.intro (fun hb => ?_) (fun hb => ?_) | fail); (all_goals (first | (refine Fin.pure ?_ ?_ ?_ <;> (try simp only [Try.results96, Try.ntmps96, vcs, Nat.reduceAdd, Nat.reduceMul, Nat.reduceEqDiff, Nat.reduceLeDiff, Nat.reduceSub, Nat.reduceLT, Int.reduceToNat, Int.reduceLE, Int.reduceLT, Int.reduceAdd, Int.reduceSub, Int.reduceMul, Int.reduceNeg, reduceCtorEq, reduceIte, Int.reduceBEq, Int.reduceBNe, Int.reduceEq, Int.reduceNe, Nat.reduceBEq, Nat.reduceBNe, tys, pick_false, pick_true, goGuard_sgd]) <;> (try simp only [injs])) | skip)))
end Go.Proofs.Ytanahnknjboplaa
/-
  strings.Builder by the machine.
-/
namespace Go.Proofs.Ytanahnknjboplaa
set_option linter.unusedSimpArgs false
set_option linter.unusedVariables false
open Go Go.RowKit Go.Proofs.Ytanahnknjboplaa.Vm

set_option maxRecDepth 100000 in
theorem noEsc_ev (v : V) (M : Mem) (nm : Nat) : Ev cx 99 nm [v] M v [] :=
  Ev.noEscape Try.func99 (by kernel_rfl) (by kernel_rfl) (by kernel_rfl) (by kernel_rfl) v M nm
theorem fresh_self (n : Nat) : Fresh n n = True := eq_true ⟨Nat.le_refl _, by omega⟩
/-- A builder's block: used or not; what it has. -/
def bK (used : Bool) (q : Nat) (c : V) : Blk := if used then ⟨2, [[.ptr q 0 0, c]]⟩ else @Blk.mk 2 [[.nilp, c]] (.typed 85)
theorem bK_t (q : Nat) (c : V) : bK true q c = ⟨2, [[.ptr q 0 0, c]]⟩ := rfl
theorem bK_f (q : Nat) (c : V) : bK false q c = @Blk.mk 2 [[.nilp, c]] (.typed 85) := rfl
theorem inf_b : (cx.P.info? 85).isSome = true := by kernel_rfl
set_option maxRecDepth 100000 in
set_option maxHeartbeats 2000000 in
theorem copyN_ev (used : Bool) (q : Nat) (M : Mem) (nm : Nat) (hq : M q = some (bK used q .nils)) (ho : ∀ z, (M z).isSome = true → z ∈ [q]) (hn : q < nm) :
    Ev cx 82 nm [.ptr q 0 0] M (.tup []) [(q, some (bK true q .nils))] := by
  cases used with
  | false =>
    refine ev_go (fun cargs w => Try.call82 cargs w) Try.func82 rfl mixed (by kernel_rfl) rfl ?_; intro b0 hb0
    have lq : q < b0 := below_of hb0 (by rw [hq]; rfl)
    have z0 := lt_ne lq; have z1 := lt_ne_add lq; have z2 := lt_ne' lq; have z3 := lt_ne_add' lq
    repeat' first | simp only [Try.results82, Try.ntmps82, Nat.reducePow, wks, inf_b, bK_t, bK_f, hq, z0, z1, z2, z3, vcs, Nat.reduceAdd, Nat.reduceMul, Nat.reduceEqDiff, Nat.reduceLeDiff, Nat.reduceSub, Nat.reduceLT, Int.reduceToNat, Int.reduceLE, Int.reduceLT, Int.reduceAdd, Int.reduceSub, Int.reduceMul, Int.reduceNeg, reduceCtorEq, reduceIte, Int.reduceBEq, Int.reduceBNe, Int.reduceEq, Int.reduceNe, Nat.reduceBEq, Nat.reduceBNe, tys, pick_false, pick_true, goGuard_sgd, TypeDesc.pointer.injEq, exists_eq_left'] | exact rfl | ((first | (refine call_fn ?_ (noEsc_ev (.ptr q 0 0) Mem.nil _) ?_) | (refine call_fn_g ?_ (fun _ => noEsc_ev (.ptr q 0 0) Mem.nil _) ?_)); (focus (simp only [Try.results82, Try.ntmps82, Nat.reducePow, wks, inf_b, bK_t, bK_f, hq, z0, z1, z2, z3, vcs, Nat.reduceAdd, Nat.reduceMul, Nat.reduceEqDiff, Nat.reduceLeDiff, Nat.reduceSub, Nat.reduceLT, Int.reduceToNat, Int.reduceLE, Int.reduceLT, Int.reduceAdd, Int.reduceSub, Int.reduceMul, Int.reduceNeg, reduceCtorEq, reduceIte, Int.reduceBEq, Int.reduceBNe, Int.reduceEq, Int.reduceNe, Nat.reduceBEq, Nat.reduceBNe, tys, pick_false, pick_true, goGuard_sgd, TypeDesc.pointer.injEq, exists_eq_left'] <;> exact rfl))) | (refine ext_toUnsafe (y := ?_) (sz := ?_) (row := ?_) (rows := ?_) (o := ?_) (te := ?_) ?_ ?_ ?_ ?_ ?_ ?_ ?_ ?_; rotate_left 6; (iterate 2 (focus (simp only [Try.results82, Try.ntmps82, Nat.reducePow, wks, inf_b, bK_t, bK_f, hq, z0, z1, z2, z3, vcs, Nat.reduceAdd, Nat.reduceMul, Nat.reduceEqDiff, Nat.reduceLeDiff, Nat.reduceSub, Nat.reduceLT, Int.reduceToNat, Int.reduceLE, Int.reduceLT, Int.reduceAdd, Int.reduceSub, Int.reduceMul, Int.reduceNeg, reduceCtorEq, reduceIte, Int.reduceBEq, Int.reduceBNe, Int.reduceEq, Int.reduceNe, Nat.reduceBEq, Nat.reduceBNe, tys, pick_false, pick_true, goGuard_sgd, TypeDesc.pointer.injEq, exists_eq_left'] <;> exact rfl))); (focus (exact rfl)); (focus (omega)); (iterate 2 (focus (simp only [Try.results82, Try.ntmps82, Nat.reducePow, wks, inf_b, bK_t, bK_f, hq, z0, z1, z2, z3, vcs, Nat.reduceAdd, Nat.reduceMul, Nat.reduceEqDiff, Nat.reduceLeDiff, Nat.reduceSub, Nat.reduceLT, Int.reduceToNat, Int.reduceLE, Int.reduceLT, Int.reduceAdd, Int.reduceSub, Int.reduceMul, Int.reduceNeg, reduceCtorEq, reduceIte, Int.reduceBEq, Int.reduceBNe, Int.reduceEq, Int.reduceNe, Nat.reduceBEq, Nat.reduceBNe, tys, pick_false, pick_true, goGuard_sgd, TypeDesc.pointer.injEq, exists_eq_left'] <;> exact rfl))); (focus (kernel_rfl))) | (refine extG_true ?_) | (refine extG_false ?_) | (refine ext_fromUnsafe (y := ?_) (sz := ?_) (row := ?_) (rows := ?_) (u := ?_) ?_ ?_ ?_ ?_ ?_ ?_ ?_ ?_; rotate_left 5; (iterate 2 (focus (simp only [Try.results82, Try.ntmps82, Nat.reducePow, wks, inf_b, bK_t, bK_f, hq, z0, z1, z2, z3, vcs, Nat.reduceAdd, Nat.reduceMul, Nat.reduceEqDiff, Nat.reduceLeDiff, Nat.reduceSub, Nat.reduceLT, Int.reduceToNat, Int.reduceLE, Int.reduceLT, Int.reduceAdd, Int.reduceSub, Int.reduceMul, Int.reduceNeg, reduceCtorEq, reduceIte, Int.reduceBEq, Int.reduceBNe, Int.reduceEq, Int.reduceNe, Nat.reduceBEq, Nat.reduceBNe, tys, pick_false, pick_true, goGuard_sgd, TypeDesc.pointer.injEq, exists_eq_left'] <;> exact rfl))); (focus (omega)); (iterate 2 (focus (simp only [Try.results82, Try.ntmps82, Nat.reducePow, wks, inf_b, bK_t, bK_f, hq, z0, z1, z2, z3, vcs, Nat.reduceAdd, Nat.reduceMul, Nat.reduceEqDiff, Nat.reduceLeDiff, Nat.reduceSub, Nat.reduceLT, Int.reduceToNat, Int.reduceLE, Int.reduceLT, Int.reduceAdd, Int.reduceSub, Int.reduceMul, Int.reduceNeg, reduceCtorEq, reduceIte, Int.reduceBEq, Int.reduceBNe, Int.reduceEq, Int.reduceNe, Nat.reduceBEq, Nat.reduceBNe, tys, pick_false, pick_true, goGuard_sgd, TypeDesc.pointer.injEq, exists_eq_left'] <;> exact rfl))); (iterate 2 (focus (kernel_rfl)))) | (first | (refine call_val (g := ?_) ?_ ?_) | (refine call_valg (g := ?_) ?_ ?_); rotate_left 1; (focus (simp only [Try.results82, Try.ntmps82, Nat.reducePow, wks, inf_b, bK_t, bK_f, hq, z0, z1, z2, z3, vcs, Nat.reduceAdd, Nat.reduceMul, Nat.reduceEqDiff, Nat.reduceLeDiff, Nat.reduceSub, Nat.reduceLT, Int.reduceToNat, Int.reduceLE, Int.reduceLT, Int.reduceAdd, Int.reduceSub, Int.reduceMul, Int.reduceNeg, reduceCtorEq, reduceIte, Int.reduceBEq, Int.reduceBNe, Int.reduceEq, Int.reduceNe, Nat.reduceBEq, Nat.reduceBNe, tys, pick_false, pick_true, goGuard_sgd, TypeDesc.pointer.injEq, exists_eq_left'] <;> exact rfl))) | refine draw_end (by decide +kernel) ?_ | refine cond_bool (fun hb => ?_) (fun hb => ?_) | refine cond_bit (fun hb => ?_) (fun hb => ?_) | refine And.intro (by omega) ?_ | refine And.intro (fun hb => ?_) (fun hb => ?_) | fail
    all_goals ((refine Fin.give [(q, none)] [] ?_ ?_ ?_ ?_ ?_ (fun q hq => by have hqq := ho q hq; first | (simp only [gives, tgt, List.map_cons, List.map_nil, List.mem_cons, List.not_mem_nil, or_false] at hqq ⊢; omega) | (simp only [gives, tgt, List.map_cons, List.map_nil, List.mem_cons, List.not_mem_nil, or_false] at hqq)) <;> (try simp only [Try.results82, Try.ntmps82, inf_b, bK_t, bK_f, hq, z0, z1, z2, z3, giv, vcs, Nat.reduceAdd, Nat.reduceMul, Nat.reduceEqDiff, Nat.reduceLeDiff, Nat.reduceSub, Nat.reduceLT, Int.reduceToNat, Int.reduceLE, Int.reduceLT, Int.reduceAdd, Int.reduceSub, Int.reduceMul, Int.reduceNeg, reduceCtorEq, reduceIte, Int.reduceBEq, Int.reduceBNe, Int.reduceEq, Int.reduceNe, Nat.reduceBEq, Nat.reduceBNe, tys, pick_false, pick_true, goGuard_sgd, TypeDesc.pointer.injEq, exists_eq_left']) <;> (try simp only [injs]) <;> (try omega)))
  | true =>
    refine ev_go (fun cargs w => Try.call82 cargs w) Try.func82 rfl mixed (by kernel_rfl) rfl ?_; intro b0 hb0
    have lq : q < b0 := below_of hb0 (by rw [hq]; rfl)
    have z0 := lt_ne lq; have z1 := lt_ne_add lq; have z2 := lt_ne' lq; have z3 := lt_ne_add' lq
    repeat' first | simp only [Try.results82, Try.ntmps82, Nat.reducePow, wks, inf_b, bK_t, bK_f, hq, z0, z1, z2, z3, vcs, Nat.reduceAdd, Nat.reduceMul, Nat.reduceEqDiff, Nat.reduceLeDiff, Nat.reduceSub, Nat.reduceLT, Int.reduceToNat, Int.reduceLE, Int.reduceLT, Int.reduceAdd, Int.reduceSub, Int.reduceMul, Int.reduceNeg, reduceCtorEq, reduceIte, Int.reduceBEq, Int.reduceBNe, Int.reduceEq, Int.reduceNe, Nat.reduceBEq, Nat.reduceBNe, tys, pick_false, pick_true, goGuard_sgd, TypeDesc.pointer.injEq, exists_eq_left'] | exact rfl | (first | (refine call_val (g := ?_) ?_ ?_) | (refine call_valg (g := ?_) ?_ ?_); rotate_left 1; (focus (simp only [Try.results82, Try.ntmps82, Nat.reducePow, wks, inf_b, bK_t, bK_f, hq, z0, z1, z2, z3, vcs, Nat.reduceAdd, Nat.reduceMul, Nat.reduceEqDiff, Nat.reduceLeDiff, Nat.reduceSub, Nat.reduceLT, Int.reduceToNat, Int.reduceLE, Int.reduceLT, Int.reduceAdd, Int.reduceSub, Int.reduceMul, Int.reduceNeg, reduceCtorEq, reduceIte, Int.reduceBEq, Int.reduceBNe, Int.reduceEq, Int.reduceNe, Nat.reduceBEq, Nat.reduceBNe, tys, pick_false, pick_true, goGuard_sgd, TypeDesc.pointer.injEq, exists_eq_left'] <;> exact rfl))) | refine draw_end (by decide +kernel) ?_ | refine cond_bool (fun hb => ?_) (fun hb => ?_) | refine cond_bit (fun hb => ?_) (fun hb => ?_) | refine And.intro (by omega) ?_ | refine And.intro (fun hb => ?_) (fun hb => ?_) | fail
    all_goals ((refine Fin.give [(q, none)] [] ?_ ?_ ?_ ?_ ?_ (fun q hq => by have hqq := ho q hq; first | (simp only [gives, tgt, List.map_cons, List.map_nil, List.mem_cons, List.not_mem_nil, or_false] at hqq ⊢; omega) | (simp only [gives, tgt, List.map_cons, List.map_nil, List.mem_cons, List.not_mem_nil, or_false] at hqq)) <;> (try simp only [Try.results82, Try.ntmps82, inf_b, bK_t, bK_f, hq, z0, z1, z2, z3, giv, vcs, Nat.reduceAdd, Nat.reduceMul, Nat.reduceEqDiff, Nat.reduceLeDiff, Nat.reduceSub, Nat.reduceLT, Int.reduceToNat, Int.reduceLE, Int.reduceLT, Int.reduceAdd, Int.reduceSub, Int.reduceMul, Int.reduceNeg, reduceCtorEq, reduceIte, Int.reduceBEq, Int.reduceBNe, Int.reduceEq, Int.reduceNe, Nat.reduceBEq, Nat.reduceBNe, tys, pick_false, pick_true, goGuard_sgd, TypeDesc.pointer.injEq, exists_eq_left']) <;> (try simp only [injs]) <;> (try omega)))
theorem ren_bytes (σ : List (Nat × Nat)) (bs : List UInt8) (t : TypeId) : Blk.ren σ (@Blk.mk 1 (bs.map byteRow) (.typed t)) = @Blk.mk 1 (bs.map byteRow) (.typed t) := by
  have h : plainLL (bs.map byteRow) = true := plainLL_map _ (fun _ => rfl) bs
  simp only [Blk.ren, renLL, h, if_true]
theorem renOk_bytes (σ : List (Nat × Nat)) (bs : List UInt8) (t : TypeId) : Blk.renOk σ (@Blk.mk 1 (bs.map byteRow) (.typed t)) = true := by
  have h : plainLL (bs.map byteRow) = true := plainLL_map _ (fun _ => rfl) bs
  simp only [Blk.renOk, renOkLL, h, Bool.true_or, Bool.true_and]
  rfl
theorem ren_cons (σ : List (Nat × Nat)) (c : UInt8) (bs : List UInt8) (t : TypeId) : Blk.ren σ (@Blk.mk 1 (byteRow c :: bs.map byteRow) (.typed t)) = @Blk.mk 1 (byteRow c :: bs.map byteRow) (.typed t) := ren_bytes σ (c :: bs) t
theorem renOk_cons (σ : List (Nat × Nat)) (c : UInt8) (bs : List UInt8) (t : TypeId) : Blk.renOk σ (@Blk.mk 1 (byteRow c :: bs.map byteRow) (.typed t)) = true := renOk_bytes σ (c :: bs) t
theorem ren_snoc (σ : List (Nat × Nat)) (c : UInt8) (bs : List UInt8) (t : TypeId) : Blk.ren σ (@Blk.mk 1 (bs.map byteRow ++ [[.int .u8 c.toNat]]) (.typed t)) = @Blk.mk 1 (bs.map byteRow ++ [[.int .u8 c.toNat]]) (.typed t) := by
  have := ren_bytes σ (bs ++ [c]) t
  rwa [List.map_append] at this
theorem renOk_snoc (σ : List (Nat × Nat)) (c : UInt8) (bs : List UInt8) (t : TypeId) : Blk.renOk σ (@Blk.mk 1 (bs.map byteRow ++ [[.int .u8 c.toNat]]) (.typed t)) = true := by
  have := renOk_bytes σ (bs ++ [c]) t
  rwa [List.map_append] at this
theorem ren_mkT (σ : List (Nat × Nat)) (s : Nat) (rows : List (List V)) (t : TypeId) : Blk.ren σ (@Blk.mk s rows (.typed t)) = @Blk.mk s (renLL σ rows) (.typed t) := rfl
theorem renOk_mkT (σ : List (Nat × Nat)) (s : Nat) (rows : List (List V)) (t : TypeId) : Blk.renOk σ (@Blk.mk s rows (.typed t)) = renOkLL σ rows := by
  simp only [Blk.renOk, Ob.renOk, Bool.and_true]
theorem plain_bs (bs : List UInt8) : plainLL (bs.map byteRow) = true := plainLL_map _ (fun _ => rfl) bs
theorem one_b (c : UInt8) : (byteRow c).all V.one = true := rfl
theorem one_bs (bs : List UInt8) : ((bs.map byteRow).all fun r => r.all V.one) = true := by
  rw [List.all_eq_true]
  intro r hr
  obtain ⟨c, _, rfl⟩ := List.mem_map.1 hr
  rfl
def rK (bs : List UInt8) : Blk := @Blk.mk 1 (bs.map byteRow) (.typed 5)
set_option maxRecDepth 100000 in
set_option maxHeartbeats 2000000 in
theorem copyO_ev (used : Bool) (q y n : Nat) (bs : List UInt8) (M : Mem) (nm : Nat) (hqy : q ≠ y) (hq : M q = some (bK used q (.own y 0 n))) (hy : M y = some (rK bs)) (ho : ∀ z, (M z).isSome = true → z ∈ [q, y]) (hn : q < nm) (hny : y < nm) :
    Ev cx 82 nm [.ptr q 0 0] M (.tup []) [(q, some (bK true q (.own y 0 n))), (y, some (rK bs))] := by
  have yz : (y = q) = False := eq_false (fun h => hqy h.symm)
  have zy : (q = y) = False := eq_false hqy
  cases used with
  | false =>
    refine ev_go (fun cargs w => Try.call82 cargs w) Try.func82 rfl mixed (by kernel_rfl) rfl ?_; intro b0 hb0
    have lq : q < b0 := below_of hb0 (by rw [hq]; rfl)
    have ly : y < b0 := below_of hb0 (by rw [hy]; rfl)
    have y0 := lt_ne ly; have y1 := lt_ne_add ly; have y2 := lt_ne' ly; have y3 := lt_ne_add' ly
    have z0 := lt_ne lq; have z1 := lt_ne_add lq; have z2 := lt_ne' lq; have z3 := lt_ne_add' lq
    repeat' first | simp only [Try.results82, Try.ntmps82, Nat.reducePow, wks, inf_b, bK_t, bK_f, hq, hy, y0, y1, y2, y3, yz, zy, z0, z1, z2, z3, vcs, Nat.reduceAdd, Nat.reduceMul, Nat.reduceEqDiff, Nat.reduceLeDiff, Nat.reduceSub, Nat.reduceLT, Int.reduceToNat, Int.reduceLE, Int.reduceLT, Int.reduceAdd, Int.reduceSub, Int.reduceMul, Int.reduceNeg, reduceCtorEq, reduceIte, Int.reduceBEq, Int.reduceBNe, Int.reduceEq, Int.reduceNe, Nat.reduceBEq, Nat.reduceBNe, tys, pick_false, pick_true, goGuard_sgd, TypeDesc.pointer.injEq, exists_eq_left'] | exact rfl | ((first | (refine call_fn ?_ (noEsc_ev (.ptr q 0 0) Mem.nil _) ?_) | (refine call_fn_g ?_ (fun _ => noEsc_ev (.ptr q 0 0) Mem.nil _) ?_)); (focus (simp only [Try.results82, Try.ntmps82, Nat.reducePow, wks, inf_b, bK_t, bK_f, hq, hy, y0, y1, y2, y3, yz, zy, z0, z1, z2, z3, vcs, Nat.reduceAdd, Nat.reduceMul, Nat.reduceEqDiff, Nat.reduceLeDiff, Nat.reduceSub, Nat.reduceLT, Int.reduceToNat, Int.reduceLE, Int.reduceLT, Int.reduceAdd, Int.reduceSub, Int.reduceMul, Int.reduceNeg, reduceCtorEq, reduceIte, Int.reduceBEq, Int.reduceBNe, Int.reduceEq, Int.reduceNe, Nat.reduceBEq, Nat.reduceBNe, tys, pick_false, pick_true, goGuard_sgd, TypeDesc.pointer.injEq, exists_eq_left'] <;> exact rfl))) | (refine ext_toUnsafe (y := ?_) (sz := ?_) (row := ?_) (rows := ?_) (o := ?_) (te := ?_) ?_ ?_ ?_ ?_ ?_ ?_ ?_ ?_; rotate_left 6; (iterate 2 (focus (simp only [Try.results82, Try.ntmps82, Nat.reducePow, wks, inf_b, bK_t, bK_f, hq, hy, y0, y1, y2, y3, yz, zy, z0, z1, z2, z3, vcs, Nat.reduceAdd, Nat.reduceMul, Nat.reduceEqDiff, Nat.reduceLeDiff, Nat.reduceSub, Nat.reduceLT, Int.reduceToNat, Int.reduceLE, Int.reduceLT, Int.reduceAdd, Int.reduceSub, Int.reduceMul, Int.reduceNeg, reduceCtorEq, reduceIte, Int.reduceBEq, Int.reduceBNe, Int.reduceEq, Int.reduceNe, Nat.reduceBEq, Nat.reduceBNe, tys, pick_false, pick_true, goGuard_sgd, TypeDesc.pointer.injEq, exists_eq_left'] <;> exact rfl))); (focus (exact rfl)); (focus (omega)); (iterate 2 (focus (simp only [Try.results82, Try.ntmps82, Nat.reducePow, wks, inf_b, bK_t, bK_f, hq, hy, y0, y1, y2, y3, yz, zy, z0, z1, z2, z3, vcs, Nat.reduceAdd, Nat.reduceMul, Nat.reduceEqDiff, Nat.reduceLeDiff, Nat.reduceSub, Nat.reduceLT, Int.reduceToNat, Int.reduceLE, Int.reduceLT, Int.reduceAdd, Int.reduceSub, Int.reduceMul, Int.reduceNeg, reduceCtorEq, reduceIte, Int.reduceBEq, Int.reduceBNe, Int.reduceEq, Int.reduceNe, Nat.reduceBEq, Nat.reduceBNe, tys, pick_false, pick_true, goGuard_sgd, TypeDesc.pointer.injEq, exists_eq_left'] <;> exact rfl))); (focus (kernel_rfl))) | (refine extG_true ?_) | (refine extG_false ?_) | (refine ext_fromUnsafe (y := ?_) (sz := ?_) (row := ?_) (rows := ?_) (u := ?_) ?_ ?_ ?_ ?_ ?_ ?_ ?_ ?_; rotate_left 5; (iterate 2 (focus (simp only [Try.results82, Try.ntmps82, Nat.reducePow, wks, inf_b, bK_t, bK_f, hq, hy, y0, y1, y2, y3, yz, zy, z0, z1, z2, z3, vcs, Nat.reduceAdd, Nat.reduceMul, Nat.reduceEqDiff, Nat.reduceLeDiff, Nat.reduceSub, Nat.reduceLT, Int.reduceToNat, Int.reduceLE, Int.reduceLT, Int.reduceAdd, Int.reduceSub, Int.reduceMul, Int.reduceNeg, reduceCtorEq, reduceIte, Int.reduceBEq, Int.reduceBNe, Int.reduceEq, Int.reduceNe, Nat.reduceBEq, Nat.reduceBNe, tys, pick_false, pick_true, goGuard_sgd, TypeDesc.pointer.injEq, exists_eq_left'] <;> exact rfl))); (focus (omega)); (iterate 2 (focus (simp only [Try.results82, Try.ntmps82, Nat.reducePow, wks, inf_b, bK_t, bK_f, hq, hy, y0, y1, y2, y3, yz, zy, z0, z1, z2, z3, vcs, Nat.reduceAdd, Nat.reduceMul, Nat.reduceEqDiff, Nat.reduceLeDiff, Nat.reduceSub, Nat.reduceLT, Int.reduceToNat, Int.reduceLE, Int.reduceLT, Int.reduceAdd, Int.reduceSub, Int.reduceMul, Int.reduceNeg, reduceCtorEq, reduceIte, Int.reduceBEq, Int.reduceBNe, Int.reduceEq, Int.reduceNe, Nat.reduceBEq, Nat.reduceBNe, tys, pick_false, pick_true, goGuard_sgd, TypeDesc.pointer.injEq, exists_eq_left'] <;> exact rfl))); (iterate 2 (focus (kernel_rfl)))) | (first | (refine call_val (g := ?_) ?_ ?_) | (refine call_valg (g := ?_) ?_ ?_); rotate_left 1; (focus (simp only [Try.results82, Try.ntmps82, Nat.reducePow, wks, inf_b, bK_t, bK_f, hq, hy, y0, y1, y2, y3, yz, zy, z0, z1, z2, z3, vcs, Nat.reduceAdd, Nat.reduceMul, Nat.reduceEqDiff, Nat.reduceLeDiff, Nat.reduceSub, Nat.reduceLT, Int.reduceToNat, Int.reduceLE, Int.reduceLT, Int.reduceAdd, Int.reduceSub, Int.reduceMul, Int.reduceNeg, reduceCtorEq, reduceIte, Int.reduceBEq, Int.reduceBNe, Int.reduceEq, Int.reduceNe, Nat.reduceBEq, Nat.reduceBNe, tys, pick_false, pick_true, goGuard_sgd, TypeDesc.pointer.injEq, exists_eq_left'] <;> exact rfl))) | refine draw_end (by decide +kernel) ?_ | refine cond_bool (fun hb => ?_) (fun hb => ?_) | refine cond_bit (fun hb => ?_) (fun hb => ?_) | refine And.intro (by omega) ?_ | refine And.intro (fun hb => ?_) (fun hb => ?_) | fail
    all_goals ((refine Fin.give [(q, none), (y, none)] [] ?_ ?_ ?_ ?_ ?_ (fun q hq => by have hqq := ho q hq; first | (simp only [gives, tgt, List.map_cons, List.map_nil, List.mem_cons, List.not_mem_nil, or_false] at hqq ⊢; omega) | (simp only [gives, tgt, List.map_cons, List.map_nil, List.mem_cons, List.not_mem_nil, or_false] at hqq)) <;> (try simp only [Try.results82, Try.ntmps82, rK, ren_bytes, renOk_bytes, ite_self, Bool.false_and, Bool.false_eq_true, if_false, bK_t, bK_f, hq, hy, y0, y1, y2, y3, yz, zy, z0, z1, z2, z3, giv, vcs, Nat.reduceAdd, Nat.reduceMul, Nat.reduceEqDiff, Nat.reduceLeDiff, Nat.reduceSub, Nat.reduceLT, Int.reduceToNat, Int.reduceLE, Int.reduceLT, Int.reduceAdd, Int.reduceSub, Int.reduceMul, Int.reduceNeg, reduceCtorEq, reduceIte, Int.reduceBEq, Int.reduceBNe, Int.reduceEq, Int.reduceNe, Nat.reduceBEq, Nat.reduceBNe, tys, pick_false, pick_true, goGuard_sgd, TypeDesc.pointer.injEq, exists_eq_left']) <;> (try simp only [injs]) <;> (try omega)))
  | true =>
    refine ev_go (fun cargs w => Try.call82 cargs w) Try.func82 rfl mixed (by kernel_rfl) rfl ?_; intro b0 hb0
    have lq : q < b0 := below_of hb0 (by rw [hq]; rfl)
    have ly : y < b0 := below_of hb0 (by rw [hy]; rfl)
    have y0 := lt_ne ly; have y1 := lt_ne_add ly; have y2 := lt_ne' ly; have y3 := lt_ne_add' ly
    have z0 := lt_ne lq; have z1 := lt_ne_add lq; have z2 := lt_ne' lq; have z3 := lt_ne_add' lq
    repeat' first | simp only [Try.results82, Try.ntmps82, Nat.reducePow, wks, inf_b, bK_t, bK_f, hq, hy, y0, y1, y2, y3, yz, zy, z0, z1, z2, z3, vcs, Nat.reduceAdd, Nat.reduceMul, Nat.reduceEqDiff, Nat.reduceLeDiff, Nat.reduceSub, Nat.reduceLT, Int.reduceToNat, Int.reduceLE, Int.reduceLT, Int.reduceAdd, Int.reduceSub, Int.reduceMul, Int.reduceNeg, reduceCtorEq, reduceIte, Int.reduceBEq, Int.reduceBNe, Int.reduceEq, Int.reduceNe, Nat.reduceBEq, Nat.reduceBNe, tys, pick_false, pick_true, goGuard_sgd, TypeDesc.pointer.injEq, exists_eq_left'] | exact rfl | (first | (refine call_val (g := ?_) ?_ ?_) | (refine call_valg (g := ?_) ?_ ?_); rotate_left 1; (focus (simp only [Try.results82, Try.ntmps82, Nat.reducePow, wks, inf_b, bK_t, bK_f, hq, hy, y0, y1, y2, y3, yz, zy, z0, z1, z2, z3, vcs, Nat.reduceAdd, Nat.reduceMul, Nat.reduceEqDiff, Nat.reduceLeDiff, Nat.reduceSub, Nat.reduceLT, Int.reduceToNat, Int.reduceLE, Int.reduceLT, Int.reduceAdd, Int.reduceSub, Int.reduceMul, Int.reduceNeg, reduceCtorEq, reduceIte, Int.reduceBEq, Int.reduceBNe, Int.reduceEq, Int.reduceNe, Nat.reduceBEq, Nat.reduceBNe, tys, pick_false, pick_true, goGuard_sgd, TypeDesc.pointer.injEq, exists_eq_left'] <;> exact rfl))) | refine draw_end (by decide +kernel) ?_ | refine cond_bool (fun hb => ?_) (fun hb => ?_) | refine cond_bit (fun hb => ?_) (fun hb => ?_) | refine And.intro (by omega) ?_ | refine And.intro (fun hb => ?_) (fun hb => ?_) | fail
    all_goals ((refine Fin.give [(q, none), (y, none)] [] ?_ ?_ ?_ ?_ ?_ (fun q hq => by have hqq := ho q hq; first | (simp only [gives, tgt, List.map_cons, List.map_nil, List.mem_cons, List.not_mem_nil, or_false] at hqq ⊢; omega) | (simp only [gives, tgt, List.map_cons, List.map_nil, List.mem_cons, List.not_mem_nil, or_false] at hqq)) <;> (try simp only [Try.results82, Try.ntmps82, rK, ren_bytes, renOk_bytes, ite_self, Bool.false_and, Bool.false_eq_true, if_false, bK_t, bK_f, hq, hy, y0, y1, y2, y3, yz, zy, z0, z1, z2, z3, giv, vcs, Nat.reduceAdd, Nat.reduceMul, Nat.reduceEqDiff, Nat.reduceLeDiff, Nat.reduceSub, Nat.reduceLT, Int.reduceToNat, Int.reduceLE, Int.reduceLT, Int.reduceAdd, Int.reduceSub, Int.reduceMul, Int.reduceNeg, reduceCtorEq, reduceIte, Int.reduceBEq, Int.reduceBNe, Int.reduceEq, Int.reduceNe, Nat.reduceBEq, Nat.reduceBNe, tys, pick_false, pick_true, goGuard_sgd, TypeDesc.pointer.injEq, exists_eq_left']) <;> (try simp only [injs]) <;> (try omega)))
set_option maxRecDepth 100000 in
set_option maxHeartbeats 2000000 in
theorem wStrN_ev (used : Bool) (q : Nat) (s : List UInt8) (hs : s ≠ []) (hl : s.length ≤ lim) (M : Mem) (nm : Nat) (hq : M q = some (bK used q .nils)) (ho : ∀ z, (M z).isSome = true → z ∈ [q]) (hn : q < nm) :
    Ev cx 46 nm [.ptr q 0 0, .str s] M (.tup [.int .i64 s.length, .val .nilIface]) [(q, some (bK true q (.own nm 0 s.length))), (nm, some (rK s))] := by
  unfold lim at hl
  refine ev_go (fun cargs w => Try.call46 cargs w) Try.func46 rfl mixed (by kernel_rfl) rfl ?_; intro b0 hb0
  have lq : q < b0 := below_of hb0 (by rw [hq]; rfl)
  have z0 := lt_ne lq; have z1 := lt_ne_add lq; have z2 := lt_ne' lq; have z3 := lt_ne_add' lq
  obtain ⟨c, s, rfl⟩ := List.exists_cons_of_ne_nil hs
  repeat' first | simp only [Try.results46, Try.ntmps46, Nat.reducePow, wks, bK_t, hq, z0, z1, z2, z3, vcs, Nat.reduceAdd, Nat.reduceMul, Nat.reduceEqDiff, Nat.reduceLeDiff, Nat.reduceSub, Nat.reduceLT, Int.reduceToNat, Int.reduceLE, Int.reduceLT, Int.reduceAdd, Int.reduceSub, Int.reduceMul, Int.reduceNeg, reduceCtorEq, reduceIte, Int.reduceBEq, Int.reduceBNe, Int.reduceEq, Int.reduceNe, Nat.reduceBEq, Nat.reduceBNe, tys, pick_false, pick_true, goGuard_sgd, TypeDesc.pointer.injEq, exists_eq_left'] | exact rfl | ((refine call_fn_full ?_ [[q]] (copyN_ev used q _ _ ?_ only_mem (by omega)) ?_ ?_); iterate 3 (focus (simp only [mems, Try.results46, Try.ntmps46, Nat.reducePow, wks, bK_t, hq, z0, z1, z2, z3, vcs, Nat.reduceAdd, Nat.reduceMul, Nat.reduceEqDiff, Nat.reduceLeDiff, Nat.reduceSub, Nat.reduceLT, Int.reduceToNat, Int.reduceLE, Int.reduceLT, Int.reduceAdd, Int.reduceSub, Int.reduceMul, Int.reduceNeg, reduceCtorEq, reduceIte, Int.reduceBEq, Int.reduceBNe, Int.reduceEq, Int.reduceNe, Nat.reduceBEq, Nat.reduceBNe, tys, pick_false, pick_true, goGuard_sgd, TypeDesc.pointer.injEq, exists_eq_left'] <;> exact rfl))) | (first | (refine call_val (g := ?_) ?_ ?_) | (refine call_valg (g := ?_) ?_ ?_); rotate_left 1; (focus (simp only [Try.results46, Try.ntmps46, Nat.reducePow, wks, bK_t, hq, z0, z1, z2, z3, vcs, Nat.reduceAdd, Nat.reduceMul, Nat.reduceEqDiff, Nat.reduceLeDiff, Nat.reduceSub, Nat.reduceLT, Int.reduceToNat, Int.reduceLE, Int.reduceLT, Int.reduceAdd, Int.reduceSub, Int.reduceMul, Int.reduceNeg, reduceCtorEq, reduceIte, Int.reduceBEq, Int.reduceBNe, Int.reduceEq, Int.reduceNe, Nat.reduceBEq, Nat.reduceBNe, tys, pick_false, pick_true, goGuard_sgd, TypeDesc.pointer.injEq, exists_eq_left'] <;> exact rfl))) | refine draw_end (by decide +kernel) ?_ | refine cond_bool (fun hb => ?_) (fun hb => ?_) | refine cond_bit (fun hb => ?_) (fun hb => ?_) | refine And.intro (by omega) ?_ | refine And.intro (fun hb => ?_) (fun hb => ?_) | fail
  refine call_fn_full ?_ [q] (copyN_ev used q _ _ ?_ only_mem (by omega)) ?_ ?_
  · simp only [vcs, Nat.reduceAdd, Nat.reduceMul, Nat.reduceEqDiff, Nat.reduceLeDiff, Nat.reduceSub, Nat.reduceLT, Int.reduceToNat, Int.reduceLE, Int.reduceLT, Int.reduceAdd, Int.reduceSub, Int.reduceMul, Int.reduceNeg, reduceCtorEq, reduceIte, Int.reduceBEq, Int.reduceBNe, Int.reduceEq, Int.reduceNe, Nat.reduceBEq, Nat.reduceBNe, tys, pick_false, pick_true, goGuard_sgd, TypeDesc.pointer.injEq, exists_eq_left']
  · simp only [only_at, List.mem_cons, List.not_mem_nil, hq, vcs, Nat.reduceAdd, Nat.reduceMul, Nat.reduceEqDiff, Nat.reduceLeDiff, Nat.reduceSub, Nat.reduceLT, Int.reduceToNat, Int.reduceLE, Int.reduceLT, Int.reduceAdd, Int.reduceSub, Int.reduceMul, Int.reduceNeg, reduceCtorEq, reduceIte, Int.reduceBEq, Int.reduceBNe, Int.reduceEq, Int.reduceNe, Nat.reduceBEq, Nat.reduceBNe, tys, pick_false, pick_true, goGuard_sgd, TypeDesc.pointer.injEq, exists_eq_left']
  · simp only [List.mem_cons, List.not_mem_nil, forall_eq, forall_eq_or_imp, hq, vcs, Nat.reduceAdd, Nat.reduceMul, Nat.reduceEqDiff, Nat.reduceLeDiff, Nat.reduceSub, Nat.reduceLT, Int.reduceToNat, Int.reduceLE, Int.reduceLT, Int.reduceAdd, Int.reduceSub, Int.reduceMul, Int.reduceNeg, reduceCtorEq, reduceIte, Int.reduceBEq, Int.reduceBNe, Int.reduceEq, Int.reduceNe, Nat.reduceBEq, Nat.reduceBNe, tys, pick_false, pick_true, goGuard_sgd, TypeDesc.pointer.injEq, exists_eq_left']
  simp only [List.length_cons] at hl
  repeat' first | simp only [Try.results46, Try.ntmps46, Nat.reducePow, wks, bK_t, hq, z0, z1, z2, z3, one_b, one_bs, List.length_map, vcs, Nat.reduceAdd, Nat.reduceMul, Nat.reduceEqDiff, Nat.reduceLeDiff, Nat.reduceSub, Nat.reduceLT, Int.reduceToNat, Int.reduceLE, Int.reduceLT, Int.reduceAdd, Int.reduceSub, Int.reduceMul, Int.reduceNeg, reduceCtorEq, reduceIte, Int.reduceBEq, Int.reduceBNe, Int.reduceEq, Int.reduceNe, Nat.reduceBEq, Nat.reduceBNe, tys, pick_false, pick_true, goGuard_sgd, TypeDesc.pointer.injEq, exists_eq_left'] | exact rfl | (first | (refine call_val (g := ?_) ?_ ?_) | (refine call_valg (g := ?_) ?_ ?_); rotate_left 1; (focus (simp only [Try.results46, Try.ntmps46, Nat.reducePow, wks, bK_t, hq, z0, z1, z2, z3, one_b, one_bs, List.length_map, vcs, Nat.reduceAdd, Nat.reduceMul, Nat.reduceEqDiff, Nat.reduceLeDiff, Nat.reduceSub, Nat.reduceLT, Int.reduceToNat, Int.reduceLE, Int.reduceLT, Int.reduceAdd, Int.reduceSub, Int.reduceMul, Int.reduceNeg, reduceCtorEq, reduceIte, Int.reduceBEq, Int.reduceBNe, Int.reduceEq, Int.reduceNe, Nat.reduceBEq, Nat.reduceBNe, tys, pick_false, pick_true, goGuard_sgd, TypeDesc.pointer.injEq, exists_eq_left'] <;> exact rfl))) | refine draw_end (by decide +kernel) ?_ | refine cond_bool (fun hb => ?_) (fun hb => ?_) | refine cond_bit (fun hb => ?_) (fun hb => ?_) | refine And.intro (by omega) ?_ | refine And.intro (fun hb => ?_) (fun hb => ?_) | fail
  all_goals ((refine Fin.give [(q, none), (b0 + 160, some 0)] [] ?_ ?_ ?_ ?_ ?_ (fun q hq => by have hqq := ho q hq; first | (simp only [gives, tgt, List.map_cons, List.map_nil, List.mem_cons, List.not_mem_nil, or_false] at hqq ⊢; omega) | (simp only [gives, tgt, List.map_cons, List.map_nil, List.mem_cons, List.not_mem_nil, or_false] at hqq)) <;> (try simp only [Try.results46, Try.ntmps46, rK, ren_cons, renOk_cons, ren_bytes, renOk_bytes, ite_self, Bool.false_and, Bool.false_eq_true, if_false, bK_t, hq, z0, z1, z2, z3, fresh_self, giv, vcs, Nat.reduceAdd, Nat.reduceMul, Nat.reduceEqDiff, Nat.reduceLeDiff, Nat.reduceSub, Nat.reduceLT, Int.reduceToNat, Int.reduceLE, Int.reduceLT, Int.reduceAdd, Int.reduceSub, Int.reduceMul, Int.reduceNeg, reduceCtorEq, reduceIte, Int.reduceBEq, Int.reduceBNe, Int.reduceEq, Int.reduceNe, Nat.reduceBEq, Nat.reduceBNe, tys, pick_false, pick_true, goGuard_sgd, TypeDesc.pointer.injEq, exists_eq_left']) <;> (try simp only [injs]) <;> (try omega)))
set_option maxRecDepth 100000 in
set_option maxHeartbeats 2000000 in
theorem wStrO_ev (used : Bool) (q y : Nat) (bs s : List UInt8) (hl : bs.length + s.length ≤ lim) (M : Mem) (nm : Nat) (hqy : q ≠ y) (hq : M q = some (bK used q (.own y 0 bs.length))) (hy : M y = some (rK bs)) (ho : ∀ z, (M z).isSome = true → z ∈ [q, y]) (hn : q < nm) (hny : y < nm) :
    Ev cx 46 nm [.ptr q 0 0, .str s] M (.tup [.int .i64 s.length, .val .nilIface]) [(y, none), (q, some (bK true q (.own nm 0 (bs.length + s.length)))), (nm, some (rK (bs ++ s)))] := by
  unfold lim at hl
  have yz : (y = q) = False := eq_false (fun h => hqy h.symm)
  have zy : (q = y) = False := eq_false hqy
  refine ev_go (fun cargs w => Try.call46 cargs w) Try.func46 rfl mixed (by kernel_rfl) rfl ?_; intro b0 hb0
  have lq : q < b0 := below_of hb0 (by rw [hq]; rfl)
  have ly : y < b0 := below_of hb0 (by rw [hy]; rfl)
  have y0 := lt_ne ly; have y1 := lt_ne_add ly; have y2 := lt_ne' ly; have y3 := lt_ne_add' ly
  have z0 := lt_ne lq; have z1 := lt_ne_add lq; have z2 := lt_ne' lq; have z3 := lt_ne_add' lq
  repeat' first | simp only [Try.results46, Try.ntmps46, Nat.reducePow, wks, bK_t, hq, z0, z1, z2, z3, vcs, Nat.reduceAdd, Nat.reduceMul, Nat.reduceEqDiff, Nat.reduceLeDiff, Nat.reduceSub, Nat.reduceLT, Int.reduceToNat, Int.reduceLE, Int.reduceLT, Int.reduceAdd, Int.reduceSub, Int.reduceMul, Int.reduceNeg, reduceCtorEq, reduceIte, Int.reduceBEq, Int.reduceBNe, Int.reduceEq, Int.reduceNe, Nat.reduceBEq, Nat.reduceBNe, tys, pick_false, pick_true, goGuard_sgd, TypeDesc.pointer.injEq, exists_eq_left'] | exact rfl | (first | (refine call_val (g := ?_) ?_ ?_) | (refine call_valg (g := ?_) ?_ ?_); rotate_left 1; (focus (simp only [Try.results46, Try.ntmps46, Nat.reducePow, wks, bK_t, hq, z0, z1, z2, z3, vcs, Nat.reduceAdd, Nat.reduceMul, Nat.reduceEqDiff, Nat.reduceLeDiff, Nat.reduceSub, Nat.reduceLT, Int.reduceToNat, Int.reduceLE, Int.reduceLT, Int.reduceAdd, Int.reduceSub, Int.reduceMul, Int.reduceNeg, reduceCtorEq, reduceIte, Int.reduceBEq, Int.reduceBNe, Int.reduceEq, Int.reduceNe, Nat.reduceBEq, Nat.reduceBNe, tys, pick_false, pick_true, goGuard_sgd, TypeDesc.pointer.injEq, exists_eq_left'] <;> exact rfl))) | refine draw_end (by decide +kernel) ?_ | refine cond_bool (fun hb => ?_) (fun hb => ?_) | refine cond_bit (fun hb => ?_) (fun hb => ?_) | refine And.intro (by omega) ?_ | refine And.intro (fun hb => ?_) (fun hb => ?_) | fail
  refine call_fn_full ?_ [q, y] (copyO_ev used q y bs.length bs _ _ hqy ?_ ?_ only_mem (by omega) (by omega)) ?_ ?_
  · simp only [vcs, Nat.reduceAdd, Nat.reduceMul, Nat.reduceEqDiff, Nat.reduceLeDiff, Nat.reduceSub, Nat.reduceLT, Int.reduceToNat, Int.reduceLE, Int.reduceLT, Int.reduceAdd, Int.reduceSub, Int.reduceMul, Int.reduceNeg, reduceCtorEq, reduceIte, Int.reduceBEq, Int.reduceBNe, Int.reduceEq, Int.reduceNe, Nat.reduceBEq, Nat.reduceBNe, tys, pick_false, pick_true, goGuard_sgd, TypeDesc.pointer.injEq, exists_eq_left']
  · simp only [only_at, List.mem_cons, List.not_mem_nil, true_or, or_true, hq, hy, yz, zy, vcs, Nat.reduceAdd, Nat.reduceMul, Nat.reduceEqDiff, Nat.reduceLeDiff, Nat.reduceSub, Nat.reduceLT, Int.reduceToNat, Int.reduceLE, Int.reduceLT, Int.reduceAdd, Int.reduceSub, Int.reduceMul, Int.reduceNeg, reduceCtorEq, reduceIte, Int.reduceBEq, Int.reduceBNe, Int.reduceEq, Int.reduceNe, Nat.reduceBEq, Nat.reduceBNe, tys, pick_false, pick_true, goGuard_sgd, TypeDesc.pointer.injEq, exists_eq_left']
  · simp only [only_at, List.mem_cons, List.not_mem_nil, true_or, or_true, hq, hy, yz, zy, vcs, Nat.reduceAdd, Nat.reduceMul, Nat.reduceEqDiff, Nat.reduceLeDiff, Nat.reduceSub, Nat.reduceLT, Int.reduceToNat, Int.reduceLE, Int.reduceLT, Int.reduceAdd, Int.reduceSub, Int.reduceMul, Int.reduceNeg, reduceCtorEq, reduceIte, Int.reduceBEq, Int.reduceBNe, Int.reduceEq, Int.reduceNe, Nat.reduceBEq, Nat.reduceBNe, tys, pick_false, pick_true, goGuard_sgd, TypeDesc.pointer.injEq, exists_eq_left']
  · simp only [List.mem_cons, List.not_mem_nil, forall_eq, forall_eq_or_imp, true_or, or_true, hq, hy, yz, zy, vcs, Nat.reduceAdd, Nat.reduceMul, Nat.reduceEqDiff, Nat.reduceLeDiff, Nat.reduceSub, Nat.reduceLT, Int.reduceToNat, Int.reduceLE, Int.reduceLT, Int.reduceAdd, Int.reduceSub, Int.reduceMul, Int.reduceNeg, reduceCtorEq, reduceIte, Int.reduceBEq, Int.reduceBNe, Int.reduceEq, Int.reduceNe, Nat.reduceBEq, Nat.reduceBNe, tys, pick_false, pick_true, goGuard_sgd, TypeDesc.pointer.injEq, exists_eq_left']
  repeat' first | simp only [Try.results46, Try.ntmps46, Nat.reducePow, wks, rK, bK_t, hq, hy, yz, zy, y0, y1, y2, y3, z0, z1, z2, z3, one_b, one_bs, List.length_map, List.take_of_length_le, Nat.le_refl, List.map_append.symm, vcs, Nat.reduceAdd, Nat.reduceMul, Nat.reduceEqDiff, Nat.reduceLeDiff, Nat.reduceSub, Nat.reduceLT, Int.reduceToNat, Int.reduceLE, Int.reduceLT, Int.reduceAdd, Int.reduceSub, Int.reduceMul, Int.reduceNeg, reduceCtorEq, reduceIte, Int.reduceBEq, Int.reduceBNe, Int.reduceEq, Int.reduceNe, Nat.reduceBEq, Nat.reduceBNe, tys, pick_false, pick_true, goGuard_sgd, TypeDesc.pointer.injEq, exists_eq_left'] | exact rfl | (first | (refine call_val (g := ?_) ?_ ?_) | (refine call_valg (g := ?_) ?_ ?_); rotate_left 1; (focus (simp only [Try.results46, Try.ntmps46, Nat.reducePow, wks, rK, bK_t, hq, hy, yz, zy, y0, y1, y2, y3, z0, z1, z2, z3, one_b, one_bs, List.length_map, List.take_of_length_le, Nat.le_refl, List.map_append.symm, vcs, Nat.reduceAdd, Nat.reduceMul, Nat.reduceEqDiff, Nat.reduceLeDiff, Nat.reduceSub, Nat.reduceLT, Int.reduceToNat, Int.reduceLE, Int.reduceLT, Int.reduceAdd, Int.reduceSub, Int.reduceMul, Int.reduceNeg, reduceCtorEq, reduceIte, Int.reduceBEq, Int.reduceBNe, Int.reduceEq, Int.reduceNe, Nat.reduceBEq, Nat.reduceBNe, tys, pick_false, pick_true, goGuard_sgd, TypeDesc.pointer.injEq, exists_eq_left'] <;> exact rfl))) | refine draw_end (by decide +kernel) ?_ | refine cond_bool (fun hb => ?_) (fun hb => ?_) | refine cond_bit (fun hb => ?_) (fun hb => ?_) | refine And.intro (by omega) ?_ | refine And.intro (fun hb => ?_) (fun hb => ?_) | fail
  all_goals ((refine Fin.give [(q, none), (b0 + 160, some 0)] [y] ?_ ?_ ?_ ?_ ?_ (fun q hq => by have hqq := ho q hq; first | (simp only [gives, tgt, List.map_cons, List.map_nil, List.mem_cons, List.not_mem_nil, or_false] at hqq ⊢; omega) | (simp only [gives, tgt, List.map_cons, List.map_nil, List.mem_cons, List.not_mem_nil, or_false] at hqq)) <;> (try simp only [Try.results46, Try.ntmps46, rK, Option.bind_some, ren_bytes, renOk_bytes, ite_self, Bool.false_and, Bool.false_eq_true, if_false, bK_t, hq, hy, yz, zy, y0, y1, y2, y3, z0, z1, z2, z3, fresh_self, giv, vcs, Nat.reduceAdd, Nat.reduceMul, Nat.reduceEqDiff, Nat.reduceLeDiff, Nat.reduceSub, Nat.reduceLT, Int.reduceToNat, Int.reduceLE, Int.reduceLT, Int.reduceAdd, Int.reduceSub, Int.reduceMul, Int.reduceNeg, reduceCtorEq, reduceIte, Int.reduceBEq, Int.reduceBNe, Int.reduceEq, Int.reduceNe, Nat.reduceBEq, Nat.reduceBNe, tys, pick_false, pick_true, goGuard_sgd, TypeDesc.pointer.injEq, exists_eq_left']) <;> (try simp only [injs]) <;> (try omega)))
set_option maxRecDepth 100000 in
set_option maxHeartbeats 2000000 in
theorem wByteO_ev (used : Bool) (q y : Nat) (bs : List UInt8) (c : UInt8) (hl : bs.length + 1 ≤ lim) (M : Mem) (nm : Nat) (hqy : q ≠ y) (hq : M q = some (bK used q (.own y 0 bs.length))) (hy : M y = some (rK bs)) (ho : ∀ z, (M z).isSome = true → z ∈ [q, y]) (hn : q < nm) (hny : y < nm) :
    Ev cx 84 nm [.ptr q 0 0, .int .u8 c.toNat] M (.val .nilIface) [(y, none), (q, some (bK true q (.own nm 0 (bs.length + 1)))), (nm, some (rK (bs ++ [c])))] := by
  unfold lim at hl
  have yz : (y = q) = False := eq_false (fun h => hqy h.symm)
  have zy : (q = y) = False := eq_false hqy
  refine ev_go (fun cargs w => Try.call84 cargs w) Try.func84 rfl mixed (by kernel_rfl) rfl ?_; intro b0 hb0
  have lq : q < b0 := below_of hb0 (by rw [hq]; rfl)
  have ly : y < b0 := below_of hb0 (by rw [hy]; rfl)
  have y0 := lt_ne ly; have y1 := lt_ne_add ly; have y2 := lt_ne' ly; have y3 := lt_ne_add' ly
  have z0 := lt_ne lq; have z1 := lt_ne_add lq; have z2 := lt_ne' lq; have z3 := lt_ne_add' lq
  repeat' first | simp only [Try.results84, Try.ntmps84, Nat.reducePow, wks, bK_t, hq, z0, z1, z2, z3, vcs, Nat.reduceAdd, Nat.reduceMul, Nat.reduceEqDiff, Nat.reduceLeDiff, Nat.reduceSub, Nat.reduceLT, Int.reduceToNat, Int.reduceLE, Int.reduceLT, Int.reduceAdd, Int.reduceSub, Int.reduceMul, Int.reduceNeg, reduceCtorEq, reduceIte, Int.reduceBEq, Int.reduceBNe, Int.reduceEq, Int.reduceNe, Nat.reduceBEq, Nat.reduceBNe, tys, pick_false, pick_true, goGuard_sgd, TypeDesc.pointer.injEq, exists_eq_left'] | exact rfl | (first | (refine call_val (g := ?_) ?_ ?_) | (refine call_valg (g := ?_) ?_ ?_); rotate_left 1; (focus (simp only [Try.results84, Try.ntmps84, Nat.reducePow, wks, bK_t, hq, z0, z1, z2, z3, vcs, Nat.reduceAdd, Nat.reduceMul, Nat.reduceEqDiff, Nat.reduceLeDiff, Nat.reduceSub, Nat.reduceLT, Int.reduceToNat, Int.reduceLE, Int.reduceLT, Int.reduceAdd, Int.reduceSub, Int.reduceMul, Int.reduceNeg, reduceCtorEq, reduceIte, Int.reduceBEq, Int.reduceBNe, Int.reduceEq, Int.reduceNe, Nat.reduceBEq, Nat.reduceBNe, tys, pick_false, pick_true, goGuard_sgd, TypeDesc.pointer.injEq, exists_eq_left'] <;> exact rfl))) | refine draw_end (by decide +kernel) ?_ | refine cond_bool (fun hb => ?_) (fun hb => ?_) | refine cond_bit (fun hb => ?_) (fun hb => ?_) | refine And.intro (by omega) ?_ | refine And.intro (fun hb => ?_) (fun hb => ?_) | fail
  refine call_fn_full ?_ [q, y] (copyO_ev used q y bs.length bs _ _ hqy ?_ ?_ only_mem (by omega) (by omega)) ?_ ?_
  · simp only [vcs, Nat.reduceAdd, Nat.reduceMul, Nat.reduceEqDiff, Nat.reduceLeDiff, Nat.reduceSub, Nat.reduceLT, Int.reduceToNat, Int.reduceLE, Int.reduceLT, Int.reduceAdd, Int.reduceSub, Int.reduceMul, Int.reduceNeg, reduceCtorEq, reduceIte, Int.reduceBEq, Int.reduceBNe, Int.reduceEq, Int.reduceNe, Nat.reduceBEq, Nat.reduceBNe, tys, pick_false, pick_true, goGuard_sgd, TypeDesc.pointer.injEq, exists_eq_left']
  · simp only [only_at, List.mem_cons, List.not_mem_nil, true_or, or_true, hq, hy, yz, zy, vcs, Nat.reduceAdd, Nat.reduceMul, Nat.reduceEqDiff, Nat.reduceLeDiff, Nat.reduceSub, Nat.reduceLT, Int.reduceToNat, Int.reduceLE, Int.reduceLT, Int.reduceAdd, Int.reduceSub, Int.reduceMul, Int.reduceNeg, reduceCtorEq, reduceIte, Int.reduceBEq, Int.reduceBNe, Int.reduceEq, Int.reduceNe, Nat.reduceBEq, Nat.reduceBNe, tys, pick_false, pick_true, goGuard_sgd, TypeDesc.pointer.injEq, exists_eq_left']
  · simp only [only_at, List.mem_cons, List.not_mem_nil, true_or, or_true, hq, hy, yz, zy, vcs, Nat.reduceAdd, Nat.reduceMul, Nat.reduceEqDiff, Nat.reduceLeDiff, Nat.reduceSub, Nat.reduceLT, Int.reduceToNat, Int.reduceLE, Int.reduceLT, Int.reduceAdd, Int.reduceSub, Int.reduceMul, Int.reduceNeg, reduceCtorEq, reduceIte, Int.reduceBEq, Int.reduceBNe, Int.reduceEq, Int.reduceNe, Nat.reduceBEq, Nat.reduceBNe, tys, pick_false, pick_true, goGuard_sgd, TypeDesc.pointer.injEq, exists_eq_left']
  · simp only [List.mem_cons, List.not_mem_nil, forall_eq, forall_eq_or_imp, true_or, or_true, hq, hy, yz, zy, vcs, Nat.reduceAdd, Nat.reduceMul, Nat.reduceEqDiff, Nat.reduceLeDiff, Nat.reduceSub, Nat.reduceLT, Int.reduceToNat, Int.reduceLE, Int.reduceLT, Int.reduceAdd, Int.reduceSub, Int.reduceMul, Int.reduceNeg, reduceCtorEq, reduceIte, Int.reduceBEq, Int.reduceBNe, Int.reduceEq, Int.reduceNe, Nat.reduceBEq, Nat.reduceBNe, tys, pick_false, pick_true, goGuard_sgd, TypeDesc.pointer.injEq, exists_eq_left']
  repeat' first | simp only [Try.results84, Try.ntmps84, Nat.reducePow, wks, rK, bK_t, hq, hy, yz, zy, y0, y1, y2, y3, z0, z1, z2, z3, one_b, one_bs, List.length_map, List.take_of_length_le, Nat.le_refl, vcs, Nat.reduceAdd, Nat.reduceMul, Nat.reduceEqDiff, Nat.reduceLeDiff, Nat.reduceSub, Nat.reduceLT, Int.reduceToNat, Int.reduceLE, Int.reduceLT, Int.reduceAdd, Int.reduceSub, Int.reduceMul, Int.reduceNeg, reduceCtorEq, reduceIte, Int.reduceBEq, Int.reduceBNe, Int.reduceEq, Int.reduceNe, Nat.reduceBEq, Nat.reduceBNe, tys, pick_false, pick_true, goGuard_sgd, TypeDesc.pointer.injEq, exists_eq_left'] | exact rfl | (first | (refine call_val (g := ?_) ?_ ?_) | (refine call_valg (g := ?_) ?_ ?_); rotate_left 1; (focus (simp only [Try.results84, Try.ntmps84, Nat.reducePow, wks, rK, bK_t, hq, hy, yz, zy, y0, y1, y2, y3, z0, z1, z2, z3, one_b, one_bs, List.length_map, List.take_of_length_le, Nat.le_refl, vcs, Nat.reduceAdd, Nat.reduceMul, Nat.reduceEqDiff, Nat.reduceLeDiff, Nat.reduceSub, Nat.reduceLT, Int.reduceToNat, Int.reduceLE, Int.reduceLT, Int.reduceAdd, Int.reduceSub, Int.reduceMul, Int.reduceNeg, reduceCtorEq, reduceIte, Int.reduceBEq, Int.reduceBNe, Int.reduceEq, Int.reduceNe, Nat.reduceBEq, Nat.reduceBNe, tys, pick_false, pick_true, goGuard_sgd, TypeDesc.pointer.injEq, exists_eq_left'] <;> exact rfl))) | refine draw_end (by decide +kernel) ?_ | refine cond_bool (fun hb => ?_) (fun hb => ?_) | refine cond_bit (fun hb => ?_) (fun hb => ?_) | refine And.intro (by omega) ?_ | refine And.intro (fun hb => ?_) (fun hb => ?_) | fail
  all_goals ((refine Fin.give [(q, none), (b0 + 160, some 0)] [y] ?_ ?_ ?_ ?_ ?_ (fun q hq => by have hqq := ho q hq; first | (simp only [gives, tgt, List.map_cons, List.map_nil, List.mem_cons, List.not_mem_nil, or_false] at hqq ⊢; omega) | (simp only [gives, tgt, List.map_cons, List.map_nil, List.mem_cons, List.not_mem_nil, or_false] at hqq)) <;> (try simp only [Try.results84, Try.ntmps84, rK, ren_snoc, renOk_snoc, byteRow, List.map_append, List.map_cons, List.map_nil, Option.bind_some, ren_bytes, renOk_bytes, ite_self, Bool.false_and, Bool.false_eq_true, if_false, bK_t, hq, hy, yz, zy, y0, y1, y2, y3, z0, z1, z2, z3, fresh_self, giv, vcs, Nat.reduceAdd, Nat.reduceMul, Nat.reduceEqDiff, Nat.reduceLeDiff, Nat.reduceSub, Nat.reduceLT, Int.reduceToNat, Int.reduceLE, Int.reduceLT, Int.reduceAdd, Int.reduceSub, Int.reduceMul, Int.reduceNeg, reduceCtorEq, reduceIte, Int.reduceBEq, Int.reduceBNe, Int.reduceEq, Int.reduceNe, Nat.reduceBEq, Nat.reduceBNe, tys, pick_false, pick_true, goGuard_sgd, TypeDesc.pointer.injEq, exists_eq_left']) <;> (try simp only [injs]) <;> (try omega)))
set_option maxRecDepth 100000 in
set_option maxHeartbeats 2000000 in
theorem bLenO_ev (used : Bool) (q y : Nat) (bs : List UInt8) (M : Mem) (nm : Nat) (hqy : q ≠ y) (hq : M q = some (bK used q (.own y 0 bs.length))) (hy : M y = some (rK bs)) (ho : ∀ z, (M z).isSome = true → z ∈ [q, y]) (hn : q < nm) (hny : y < nm) :
    Ev cx 48 nm [.ptr q 0 0] M (.int .i64 bs.length) [(q, some (bK used q (.own y 0 bs.length))), (y, some (rK bs))] := by
  have yz : (y = q) = False := eq_false (fun h => hqy h.symm)
  have zy : (q = y) = False := eq_false hqy
  refine ev_go (fun cargs w => Try.call48 cargs w) Try.func48 rfl mixed (by kernel_rfl) rfl ?_; intro b0 hb0
  have lq : q < b0 := below_of hb0 (by rw [hq]; rfl)
  have ly : y < b0 := below_of hb0 (by rw [hy]; rfl)
  have y0 := lt_ne ly; have y1 := lt_ne_add ly; have y2 := lt_ne' ly; have y3 := lt_ne_add' ly
  have z0 := lt_ne lq; have z1 := lt_ne_add lq; have z2 := lt_ne' lq; have z3 := lt_ne_add' lq
  cases used <;> (repeat' first | simp only [Try.results48, Try.ntmps48, Nat.reducePow, wks, bK_t, bK_f, hq, hy, yz, zy, y0, y1, y2, y3, z0, z1, z2, z3, vcs, Nat.reduceAdd, Nat.reduceMul, Nat.reduceEqDiff, Nat.reduceLeDiff, Nat.reduceSub, Nat.reduceLT, Int.reduceToNat, Int.reduceLE, Int.reduceLT, Int.reduceAdd, Int.reduceSub, Int.reduceMul, Int.reduceNeg, reduceCtorEq, reduceIte, Int.reduceBEq, Int.reduceBNe, Int.reduceEq, Int.reduceNe, Nat.reduceBEq, Nat.reduceBNe, tys, pick_false, pick_true, goGuard_sgd, TypeDesc.pointer.injEq, exists_eq_left'] | exact rfl | (first | (refine call_val (g := ?_) ?_ ?_) | (refine call_valg (g := ?_) ?_ ?_); rotate_left 1; (focus (simp only [Try.results48, Try.ntmps48, Nat.reducePow, wks, bK_t, bK_f, hq, hy, yz, zy, y0, y1, y2, y3, z0, z1, z2, z3, vcs, Nat.reduceAdd, Nat.reduceMul, Nat.reduceEqDiff, Nat.reduceLeDiff, Nat.reduceSub, Nat.reduceLT, Int.reduceToNat, Int.reduceLE, Int.reduceLT, Int.reduceAdd, Int.reduceSub, Int.reduceMul, Int.reduceNeg, reduceCtorEq, reduceIte, Int.reduceBEq, Int.reduceBNe, Int.reduceEq, Int.reduceNe, Nat.reduceBEq, Nat.reduceBNe, tys, pick_false, pick_true, goGuard_sgd, TypeDesc.pointer.injEq, exists_eq_left'] <;> exact rfl))) | refine draw_end (by decide +kernel) ?_ | refine cond_bool (fun hb => ?_) (fun hb => ?_) | refine cond_bit (fun hb => ?_) (fun hb => ?_) | refine And.intro (by omega) ?_ | refine And.intro (fun hb => ?_) (fun hb => ?_) | fail)
  all_goals ((refine Fin.give [(q, none), (y, none)] [] ?_ ?_ ?_ ?_ ?_ (fun q hq => by have hqq := ho q hq; first | (simp only [gives, tgt, List.map_cons, List.map_nil, List.mem_cons, List.not_mem_nil, or_false] at hqq ⊢; omega) | (simp only [gives, tgt, List.map_cons, List.map_nil, List.mem_cons, List.not_mem_nil, or_false] at hqq)) <;> (try simp only [Try.results48, Try.ntmps48, rK, ren_mkT, renOk_mkT, plain_bs, ite_self, Bool.false_and, Bool.false_eq_true, if_false, bK_t, bK_f, hq, hy, yz, zy, y0, y1, y2, y3, z0, z1, z2, z3, fresh_self, giv, vcs, Nat.reduceAdd, Nat.reduceMul, Nat.reduceEqDiff, Nat.reduceLeDiff, Nat.reduceSub, Nat.reduceLT, Int.reduceToNat, Int.reduceLE, Int.reduceLT, Int.reduceAdd, Int.reduceSub, Int.reduceMul, Int.reduceNeg, reduceCtorEq, reduceIte, Int.reduceBEq, Int.reduceBNe, Int.reduceEq, Int.reduceNe, Nat.reduceBEq, Nat.reduceBNe, tys, pick_false, pick_true, goGuard_sgd, TypeDesc.pointer.injEq, exists_eq_left']) <;> (try simp only [injs]) <;> (try omega)))
set_option maxRecDepth 100000 in
set_option maxHeartbeats 2000000 in
theorem bStrO_ev (used : Bool) (q y : Nat) (bs : List UInt8) (hb : bs ≠ []) (hl : bs.length ≤ lim) (M : Mem) (nm : Nat) (hqy : q ≠ y) (hq : M q = some (bK used q (.own y 0 bs.length))) (hy : M y = some (rK bs)) (ho : ∀ z, (M z).isSome = true → z ∈ [q, y]) (hn : q < nm) (hny : y < nm) :
    Ev cx 49 nm [.ptr q 0 0] M (.str bs) [(q, none), (y, none)] := by
  unfold lim at hl
  have hp : 0 < bs.length := List.length_pos_iff.2 hb
  have yz : (y = q) = False := eq_false (fun h => hqy h.symm)
  have zy : (q = y) = False := eq_false hqy
  refine ev_go (fun cargs w => Try.call49 cargs w) Try.func49 rfl mixed (by kernel_rfl) rfl ?_; intro b0 hb0
  have lq : q < b0 := below_of hb0 (by rw [hq]; rfl)
  have ly : y < b0 := below_of hb0 (by rw [hy]; rfl)
  have y0 := lt_ne ly; have y1 := lt_ne_add ly; have y2 := lt_ne' ly; have y3 := lt_ne_add' ly
  have z0 := lt_ne lq; have z1 := lt_ne_add lq; have z2 := lt_ne' lq; have z3 := lt_ne_add' lq
  cases used <;> (repeat' first | simp only [Try.results49, Try.ntmps49, Nat.reducePow, wks, rK, bK_t, bK_f, hq, hy, yz, zy, y0, y1, y2, y3, z0, z1, z2, z3, hb, ne_eq, not_false_eq_true, vcs, Nat.reduceAdd, Nat.reduceMul, Nat.reduceEqDiff, Nat.reduceLeDiff, Nat.reduceSub, Nat.reduceLT, Int.reduceToNat, Int.reduceLE, Int.reduceLT, Int.reduceAdd, Int.reduceSub, Int.reduceMul, Int.reduceNeg, reduceCtorEq, reduceIte, Int.reduceBEq, Int.reduceBNe, Int.reduceEq, Int.reduceNe, Nat.reduceBEq, Nat.reduceBNe, tys, pick_false, pick_true, goGuard_sgd, TypeDesc.pointer.injEq, exists_eq_left'] | exact rfl | (refine ext_sliceData (y := ?_) (n := ?_) rfl ?_ ?_ ?_; rotate_left 2; (focus (simp only [Try.results49, Try.ntmps49, Nat.reducePow, wks, rK, bK_t, bK_f, hq, hy, yz, zy, y0, y1, y2, y3, z0, z1, z2, z3, hb, ne_eq, not_false_eq_true, vcs, Nat.reduceAdd, Nat.reduceMul, Nat.reduceEqDiff, Nat.reduceLeDiff, Nat.reduceSub, Nat.reduceLT, Int.reduceToNat, Int.reduceLE, Int.reduceLT, Int.reduceAdd, Int.reduceSub, Int.reduceMul, Int.reduceNeg, reduceCtorEq, reduceIte, Int.reduceBEq, Int.reduceBNe, Int.reduceEq, Int.reduceNe, Nat.reduceBEq, Nat.reduceBNe, tys, pick_false, pick_true, goGuard_sgd, TypeDesc.pointer.injEq, exists_eq_left'] <;> exact rfl)); (focus (first | omega | (simp only [Try.results49, Try.ntmps49, Nat.reducePow, wks, rK, bK_t, bK_f, hq, hy, yz, zy, y0, y1, y2, y3, z0, z1, z2, z3, hb, ne_eq, not_false_eq_true, vcs, Nat.reduceAdd, Nat.reduceMul, Nat.reduceEqDiff, Nat.reduceLeDiff, Nat.reduceSub, Nat.reduceLT, Int.reduceToNat, Int.reduceLE, Int.reduceLT, Int.reduceAdd, Int.reduceSub, Int.reduceMul, Int.reduceNeg, reduceCtorEq, reduceIte, Int.reduceBEq, Int.reduceBNe, Int.reduceEq, Int.reduceNe, Nat.reduceBEq, Nat.reduceBNe, tys, pick_false, pick_true, goGuard_sgd, TypeDesc.pointer.injEq, exists_eq_left'] <;> omega)))) | (refine extG_true ?_) | (refine extG_false ?_) | (refine ext_unsafeString (y := ?_) (bs := ?_) (u := ?_) rfl ?_ ?_ ?_ ?_ ?_ ?_ ?_ ?_; rotate_left 3; (iterate 3 (focus (simp only [Try.results49, Try.ntmps49, Nat.reducePow, wks, rK, bK_t, bK_f, hq, hy, yz, zy, y0, y1, y2, y3, z0, z1, z2, z3, hb, ne_eq, not_false_eq_true, vcs, Nat.reduceAdd, Nat.reduceMul, Nat.reduceEqDiff, Nat.reduceLeDiff, Nat.reduceSub, Nat.reduceLT, Int.reduceToNat, Int.reduceLE, Int.reduceLT, Int.reduceAdd, Int.reduceSub, Int.reduceMul, Int.reduceNeg, reduceCtorEq, reduceIte, Int.reduceBEq, Int.reduceBNe, Int.reduceEq, Int.reduceNe, Nat.reduceBEq, Nat.reduceBNe, tys, pick_false, pick_true, goGuard_sgd, TypeDesc.pointer.injEq, exists_eq_left'] <;> exact rfl))); (focus (first | assumption | (simp only [Try.results49, Try.ntmps49, Nat.reducePow, wks, rK, bK_t, bK_f, hq, hy, yz, zy, y0, y1, y2, y3, z0, z1, z2, z3, hb, ne_eq, not_false_eq_true, vcs, Nat.reduceAdd, Nat.reduceMul, Nat.reduceEqDiff, Nat.reduceLeDiff, Nat.reduceSub, Nat.reduceLT, Int.reduceToNat, Int.reduceLE, Int.reduceLT, Int.reduceAdd, Int.reduceSub, Int.reduceMul, Int.reduceNeg, reduceCtorEq, reduceIte, Int.reduceBEq, Int.reduceBNe, Int.reduceEq, Int.reduceNe, Nat.reduceBEq, Nat.reduceBNe, tys, pick_false, pick_true, goGuard_sgd, TypeDesc.pointer.injEq, exists_eq_left']; done))); (focus (first | omega | (simp only [Try.results49, Try.ntmps49, Nat.reducePow, wks, rK, bK_t, bK_f, hq, hy, yz, zy, y0, y1, y2, y3, z0, z1, z2, z3, hb, ne_eq, not_false_eq_true, vcs, Nat.reduceAdd, Nat.reduceMul, Nat.reduceEqDiff, Nat.reduceLeDiff, Nat.reduceSub, Nat.reduceLT, Int.reduceToNat, Int.reduceLE, Int.reduceLT, Int.reduceAdd, Int.reduceSub, Int.reduceMul, Int.reduceNeg, reduceCtorEq, reduceIte, Int.reduceBEq, Int.reduceBNe, Int.reduceEq, Int.reduceNe, Nat.reduceBEq, Nat.reduceBNe, tys, pick_false, pick_true, goGuard_sgd, TypeDesc.pointer.injEq, exists_eq_left'] <;> omega))); (focus (simp only [Try.results49, Try.ntmps49, Nat.reducePow, wks, rK, bK_t, bK_f, hq, hy, yz, zy, y0, y1, y2, y3, z0, z1, z2, z3, hb, ne_eq, not_false_eq_true, vcs, Nat.reduceAdd, Nat.reduceMul, Nat.reduceEqDiff, Nat.reduceLeDiff, Nat.reduceSub, Nat.reduceLT, Int.reduceToNat, Int.reduceLE, Int.reduceLT, Int.reduceAdd, Int.reduceSub, Int.reduceMul, Int.reduceNeg, reduceCtorEq, reduceIte, Int.reduceBEq, Int.reduceBNe, Int.reduceEq, Int.reduceNe, Nat.reduceBEq, Nat.reduceBNe, tys, pick_false, pick_true, goGuard_sgd, TypeDesc.pointer.injEq, exists_eq_left'] <;> exact rfl)); (focus (kernel_rfl))) | (first | (refine call_val (g := ?_) ?_ ?_) | (refine call_valg (g := ?_) ?_ ?_); rotate_left 1; (focus (simp only [Try.results49, Try.ntmps49, Nat.reducePow, wks, rK, bK_t, bK_f, hq, hy, yz, zy, y0, y1, y2, y3, z0, z1, z2, z3, hb, ne_eq, not_false_eq_true, vcs, Nat.reduceAdd, Nat.reduceMul, Nat.reduceEqDiff, Nat.reduceLeDiff, Nat.reduceSub, Nat.reduceLT, Int.reduceToNat, Int.reduceLE, Int.reduceLT, Int.reduceAdd, Int.reduceSub, Int.reduceMul, Int.reduceNeg, reduceCtorEq, reduceIte, Int.reduceBEq, Int.reduceBNe, Int.reduceEq, Int.reduceNe, Nat.reduceBEq, Nat.reduceBNe, tys, pick_false, pick_true, goGuard_sgd, TypeDesc.pointer.injEq, exists_eq_left'] <;> exact rfl))) | refine draw_end' (ps := [(4, 8)]) (by decide +kernel) (by simp only [List.forall_mem_cons, List.getD_cons_zero, List.getD_cons_succ, Try.results49, Try.ntmps49, Nat.reducePow, wks, rK, bK_t, bK_f, hq, hy, yz, zy, y0, y1, y2, y3, z0, z1, z2, z3, hb, ne_eq, not_false_eq_true, vcs, Nat.reduceAdd, Nat.reduceMul, Nat.reduceEqDiff, Nat.reduceLeDiff, Nat.reduceSub, Nat.reduceLT, Int.reduceToNat, Int.reduceLE, Int.reduceLT, Int.reduceAdd, Int.reduceSub, Int.reduceMul, Int.reduceNeg, reduceCtorEq, reduceIte, Int.reduceBEq, Int.reduceBNe, Int.reduceEq, Int.reduceNe, Nat.reduceBEq, Nat.reduceBNe, tys, pick_false, pick_true, goGuard_sgd, TypeDesc.pointer.injEq, exists_eq_left'] <;> (try simp) <;> (try omega)) ?_ | refine draw_end (by decide +kernel) ?_ | refine cond_bool (fun hb => ?_) (fun hb => ?_) | refine cond_bit (fun hb => ?_) (fun hb => ?_) | refine And.intro (by omega) ?_ | refine And.intro (fun hb => ?_) (fun hb => ?_) | fail)
  all_goals ((refine Fin.give [] [q, y] ?_ ?_ ?_ ?_ ?_ (fun q hq => by have hqq := ho q hq; first | (simp only [gives, tgt, List.map_cons, List.map_nil, List.mem_cons, List.not_mem_nil, or_false] at hqq ⊢; omega) | (simp only [gives, tgt, List.map_cons, List.map_nil, List.mem_cons, List.not_mem_nil, or_false] at hqq)) <;> (try simp only [Try.results49, Try.ntmps49, rK, ite_self, Bool.false_and, Bool.false_eq_true, if_false, bK_t, bK_f, hq, hy, yz, zy, y0, y1, y2, y3, z0, z1, z2, z3, fresh_self, giv, vcs, Nat.reduceAdd, Nat.reduceMul, Nat.reduceEqDiff, Nat.reduceLeDiff, Nat.reduceSub, Nat.reduceLT, Int.reduceToNat, Int.reduceLE, Int.reduceLT, Int.reduceAdd, Int.reduceSub, Int.reduceMul, Int.reduceNeg, reduceCtorEq, reduceIte, Int.reduceBEq, Int.reduceBNe, Int.reduceEq, Int.reduceNe, Nat.reduceBEq, Nat.reduceBNe, tys, pick_false, pick_true, goGuard_sgd, TypeDesc.pointer.injEq, exists_eq_left']) <;> (try simp only [injs]) <;> (try omega)))
set_option maxRecDepth 100000 in
set_option maxHeartbeats 2000000 in
theorem wByteN_ev (used : Bool) (q : Nat) (c : UInt8) (M : Mem) (nm : Nat) (hq : M q = some (bK used q .nils)) (ho : ∀ z, (M z).isSome = true → z ∈ [q]) (hn : q < nm) :
    Ev cx 84 nm [.ptr q 0 0, .int .u8 c.toNat] M (.val .nilIface) [(q, some (bK true q (.own nm 0 1))), (nm, some (rK [c]))] := by
  refine ev_go (fun cargs w => Try.call84 cargs w) Try.func84 rfl mixed (by kernel_rfl) rfl ?_; intro b0 hb0
  have lq : q < b0 := below_of hb0 (by rw [hq]; rfl)
  have z0 := lt_ne lq; have z1 := lt_ne_add lq; have z2 := lt_ne' lq; have z3 := lt_ne_add' lq
  repeat' first | simp only [Try.results84, Try.ntmps84, Nat.reducePow, wks, bK_t, hq, z0, z1, z2, z3, vcs, Nat.reduceAdd, Nat.reduceMul, Nat.reduceEqDiff, Nat.reduceLeDiff, Nat.reduceSub, Nat.reduceLT, Int.reduceToNat, Int.reduceLE, Int.reduceLT, Int.reduceAdd, Int.reduceSub, Int.reduceMul, Int.reduceNeg, reduceCtorEq, reduceIte, Int.reduceBEq, Int.reduceBNe, Int.reduceEq, Int.reduceNe, Nat.reduceBEq, Nat.reduceBNe, tys, pick_false, pick_true, goGuard_sgd, TypeDesc.pointer.injEq, exists_eq_left'] | exact rfl | (first | (refine call_val (g := ?_) ?_ ?_) | (refine call_valg (g := ?_) ?_ ?_); rotate_left 1; (focus (simp only [Try.results84, Try.ntmps84, Nat.reducePow, wks, bK_t, hq, z0, z1, z2, z3, vcs, Nat.reduceAdd, Nat.reduceMul, Nat.reduceEqDiff, Nat.reduceLeDiff, Nat.reduceSub, Nat.reduceLT, Int.reduceToNat, Int.reduceLE, Int.reduceLT, Int.reduceAdd, Int.reduceSub, Int.reduceMul, Int.reduceNeg, reduceCtorEq, reduceIte, Int.reduceBEq, Int.reduceBNe, Int.reduceEq, Int.reduceNe, Nat.reduceBEq, Nat.reduceBNe, tys, pick_false, pick_true, goGuard_sgd, TypeDesc.pointer.injEq, exists_eq_left'] <;> exact rfl))) | refine draw_end (by decide +kernel) ?_ | refine cond_bool (fun hb => ?_) (fun hb => ?_) | refine cond_bit (fun hb => ?_) (fun hb => ?_) | refine And.intro (by omega) ?_ | refine And.intro (fun hb => ?_) (fun hb => ?_) | fail
  refine call_fn_full ?_ [q] (copyN_ev used q _ _ ?_ only_mem (by omega)) ?_ ?_
  · simp only [vcs, Nat.reduceAdd, Nat.reduceMul, Nat.reduceEqDiff, Nat.reduceLeDiff, Nat.reduceSub, Nat.reduceLT, Int.reduceToNat, Int.reduceLE, Int.reduceLT, Int.reduceAdd, Int.reduceSub, Int.reduceMul, Int.reduceNeg, reduceCtorEq, reduceIte, Int.reduceBEq, Int.reduceBNe, Int.reduceEq, Int.reduceNe, Nat.reduceBEq, Nat.reduceBNe, tys, pick_false, pick_true, goGuard_sgd, TypeDesc.pointer.injEq, exists_eq_left']
  · simp only [only_at, List.mem_cons, List.not_mem_nil, hq, vcs, Nat.reduceAdd, Nat.reduceMul, Nat.reduceEqDiff, Nat.reduceLeDiff, Nat.reduceSub, Nat.reduceLT, Int.reduceToNat, Int.reduceLE, Int.reduceLT, Int.reduceAdd, Int.reduceSub, Int.reduceMul, Int.reduceNeg, reduceCtorEq, reduceIte, Int.reduceBEq, Int.reduceBNe, Int.reduceEq, Int.reduceNe, Nat.reduceBEq, Nat.reduceBNe, tys, pick_false, pick_true, goGuard_sgd, TypeDesc.pointer.injEq, exists_eq_left']
  · simp only [List.mem_cons, List.not_mem_nil, forall_eq, forall_eq_or_imp, hq, vcs, Nat.reduceAdd, Nat.reduceMul, Nat.reduceEqDiff, Nat.reduceLeDiff, Nat.reduceSub, Nat.reduceLT, Int.reduceToNat, Int.reduceLE, Int.reduceLT, Int.reduceAdd, Int.reduceSub, Int.reduceMul, Int.reduceNeg, reduceCtorEq, reduceIte, Int.reduceBEq, Int.reduceBNe, Int.reduceEq, Int.reduceNe, Nat.reduceBEq, Nat.reduceBNe, tys, pick_false, pick_true, goGuard_sgd, TypeDesc.pointer.injEq, exists_eq_left']
  repeat' first | simp only [Try.results84, Try.ntmps84, Nat.reducePow, wks, bK_t, hq, z0, z1, z2, z3, vcs, Nat.reduceAdd, Nat.reduceMul, Nat.reduceEqDiff, Nat.reduceLeDiff, Nat.reduceSub, Nat.reduceLT, Int.reduceToNat, Int.reduceLE, Int.reduceLT, Int.reduceAdd, Int.reduceSub, Int.reduceMul, Int.reduceNeg, reduceCtorEq, reduceIte, Int.reduceBEq, Int.reduceBNe, Int.reduceEq, Int.reduceNe, Nat.reduceBEq, Nat.reduceBNe, tys, pick_false, pick_true, goGuard_sgd, TypeDesc.pointer.injEq, exists_eq_left'] | exact rfl | (first | (refine call_val (g := ?_) ?_ ?_) | (refine call_valg (g := ?_) ?_ ?_); rotate_left 1; (focus (simp only [Try.results84, Try.ntmps84, Nat.reducePow, wks, bK_t, hq, z0, z1, z2, z3, vcs, Nat.reduceAdd, Nat.reduceMul, Nat.reduceEqDiff, Nat.reduceLeDiff, Nat.reduceSub, Nat.reduceLT, Int.reduceToNat, Int.reduceLE, Int.reduceLT, Int.reduceAdd, Int.reduceSub, Int.reduceMul, Int.reduceNeg, reduceCtorEq, reduceIte, Int.reduceBEq, Int.reduceBNe, Int.reduceEq, Int.reduceNe, Nat.reduceBEq, Nat.reduceBNe, tys, pick_false, pick_true, goGuard_sgd, TypeDesc.pointer.injEq, exists_eq_left'] <;> exact rfl))) | refine draw_end (by decide +kernel) ?_ | refine cond_bool (fun hb => ?_) (fun hb => ?_) | refine cond_bit (fun hb => ?_) (fun hb => ?_) | refine And.intro (by omega) ?_ | refine And.intro (fun hb => ?_) (fun hb => ?_) | fail
  all_goals ((refine Fin.give [(q, none), (b0 + 160, some 0)] [] ?_ ?_ ?_ ?_ ?_ (fun q hq => by have hqq := ho q hq; first | (simp only [gives, tgt, List.map_cons, List.map_nil, List.mem_cons, List.not_mem_nil, or_false] at hqq ⊢; omega) | (simp only [gives, tgt, List.map_cons, List.map_nil, List.mem_cons, List.not_mem_nil, or_false] at hqq)) <;> (try simp only [Try.results84, Try.ntmps84, rK, ren_mkT, renOk_mkT, byteRow, List.map_append, List.map_cons, List.map_nil, ite_self, Bool.false_and, Bool.false_eq_true, if_false, bK_t, hq, z0, z1, z2, z3, fresh_self, giv, vcs, Nat.reduceAdd, Nat.reduceMul, Nat.reduceEqDiff, Nat.reduceLeDiff, Nat.reduceSub, Nat.reduceLT, Int.reduceToNat, Int.reduceLE, Int.reduceLT, Int.reduceAdd, Int.reduceSub, Int.reduceMul, Int.reduceNeg, reduceCtorEq, reduceIte, Int.reduceBEq, Int.reduceBNe, Int.reduceEq, Int.reduceNe, Nat.reduceBEq, Nat.reduceBNe, tys, pick_false, pick_true, goGuard_sgd, TypeDesc.pointer.injEq, exists_eq_left']) <;> (try simp only [injs]) <;> (try omega)))
set_option maxRecDepth 100000 in
set_option maxHeartbeats 2000000 in
theorem bLenN_ev (used : Bool) (q : Nat) (M : Mem) (nm : Nat) (hq : M q = some (bK used q .nils)) (ho : ∀ z, (M z).isSome = true → z ∈ [q]) (hn : q < nm) :
    Ev cx 48 nm [.ptr q 0 0] M (.int .i64 0) [(q, some (bK used q .nils))] := by
  refine ev_go (fun cargs w => Try.call48 cargs w) Try.func48 rfl mixed (by kernel_rfl) rfl ?_; intro b0 hb0
  have lq : q < b0 := below_of hb0 (by rw [hq]; rfl)
  have z0 := lt_ne lq; have z1 := lt_ne_add lq; have z2 := lt_ne' lq; have z3 := lt_ne_add' lq
  cases used <;> (repeat' first | simp only [Try.results48, Try.ntmps48, Nat.reducePow, wks, bK_t, bK_f, hq, z0, z1, z2, z3, vcs, Nat.reduceAdd, Nat.reduceMul, Nat.reduceEqDiff, Nat.reduceLeDiff, Nat.reduceSub, Nat.reduceLT, Int.reduceToNat, Int.reduceLE, Int.reduceLT, Int.reduceAdd, Int.reduceSub, Int.reduceMul, Int.reduceNeg, reduceCtorEq, reduceIte, Int.reduceBEq, Int.reduceBNe, Int.reduceEq, Int.reduceNe, Nat.reduceBEq, Nat.reduceBNe, tys, pick_false, pick_true, goGuard_sgd, TypeDesc.pointer.injEq, exists_eq_left'] | exact rfl | (first | (refine call_val (g := ?_) ?_ ?_) | (refine call_valg (g := ?_) ?_ ?_); rotate_left 1; (focus (simp only [Try.results48, Try.ntmps48, Nat.reducePow, wks, bK_t, bK_f, hq, z0, z1, z2, z3, vcs, Nat.reduceAdd, Nat.reduceMul, Nat.reduceEqDiff, Nat.reduceLeDiff, Nat.reduceSub, Nat.reduceLT, Int.reduceToNat, Int.reduceLE, Int.reduceLT, Int.reduceAdd, Int.reduceSub, Int.reduceMul, Int.reduceNeg, reduceCtorEq, reduceIte, Int.reduceBEq, Int.reduceBNe, Int.reduceEq, Int.reduceNe, Nat.reduceBEq, Nat.reduceBNe, tys, pick_false, pick_true, goGuard_sgd, TypeDesc.pointer.injEq, exists_eq_left'] <;> exact rfl))) | refine draw_end (by decide +kernel) ?_ | refine cond_bool (fun hb => ?_) (fun hb => ?_) | refine cond_bit (fun hb => ?_) (fun hb => ?_) | refine And.intro (by omega) ?_ | refine And.intro (fun hb => ?_) (fun hb => ?_) | fail)
  all_goals ((refine Fin.give [(q, none)] [] ?_ ?_ ?_ ?_ ?_ (fun q hq => by have hqq := ho q hq; first | (simp only [gives, tgt, List.map_cons, List.map_nil, List.mem_cons, List.not_mem_nil, or_false] at hqq ⊢; omega) | (simp only [gives, tgt, List.map_cons, List.map_nil, List.mem_cons, List.not_mem_nil, or_false] at hqq)) <;> (try simp only [Try.results48, Try.ntmps48, ren_mkT, renOk_mkT, ite_self, Bool.false_and, Bool.false_eq_true, if_false, bK_t, bK_f, hq, z0, z1, z2, z3, fresh_self, giv, vcs, Nat.reduceAdd, Nat.reduceMul, Nat.reduceEqDiff, Nat.reduceLeDiff, Nat.reduceSub, Nat.reduceLT, Int.reduceToNat, Int.reduceLE, Int.reduceLT, Int.reduceAdd, Int.reduceSub, Int.reduceMul, Int.reduceNeg, reduceCtorEq, reduceIte, Int.reduceBEq, Int.reduceBNe, Int.reduceEq, Int.reduceNe, Nat.reduceBEq, Nat.reduceBNe, tys, pick_false, pick_true, goGuard_sgd, TypeDesc.pointer.injEq, exists_eq_left']) <;> (try simp only [injs]) <;> (try omega)))
set_option maxRecDepth 100000 in
set_option maxHeartbeats 2000000 in
theorem bStrN_ev (used : Bool) (q : Nat) (M : Mem) (nm : Nat) (hq : M q = some (bK used q .nils)) (ho : ∀ z, (M z).isSome = true → z ∈ [q]) (hn : q < nm) :
    Ev cx 49 nm [.ptr q 0 0] M (.str []) [(q, none)] := by
  refine ev_go (fun cargs w => Try.call49 cargs w) Try.func49 rfl mixed (by kernel_rfl) rfl ?_; intro b0 hb0
  have lq : q < b0 := below_of hb0 (by rw [hq]; rfl)
  have z0 := lt_ne lq; have z1 := lt_ne_add lq; have z2 := lt_ne' lq; have z3 := lt_ne_add' lq
  cases used <;> (repeat' first | simp only [Try.results49, Try.ntmps49, Nat.reducePow, wks, bK_t, bK_f, hq, z0, z1, z2, z3, vcs, Nat.reduceAdd, Nat.reduceMul, Nat.reduceEqDiff, Nat.reduceLeDiff, Nat.reduceSub, Nat.reduceLT, Int.reduceToNat, Int.reduceLE, Int.reduceLT, Int.reduceAdd, Int.reduceSub, Int.reduceMul, Int.reduceNeg, reduceCtorEq, reduceIte, Int.reduceBEq, Int.reduceBNe, Int.reduceEq, Int.reduceNe, Nat.reduceBEq, Nat.reduceBNe, tys, pick_false, pick_true, goGuard_sgd, TypeDesc.pointer.injEq, exists_eq_left'] | exact rfl | (refine ext_sliceData_nil rfl ?_ ?_; (focus (simp only [Try.results49, Try.ntmps49, Nat.reducePow, wks, bK_t, bK_f, hq, z0, z1, z2, z3, vcs, Nat.reduceAdd, Nat.reduceMul, Nat.reduceEqDiff, Nat.reduceLeDiff, Nat.reduceSub, Nat.reduceLT, Int.reduceToNat, Int.reduceLE, Int.reduceLT, Int.reduceAdd, Int.reduceSub, Int.reduceMul, Int.reduceNeg, reduceCtorEq, reduceIte, Int.reduceBEq, Int.reduceBNe, Int.reduceEq, Int.reduceNe, Nat.reduceBEq, Nat.reduceBNe, tys, pick_false, pick_true, goGuard_sgd, TypeDesc.pointer.injEq, exists_eq_left'] <;> exact rfl))) | (refine extG_true ?_) | (refine extG_false ?_) | (refine ext_unsafeString_nil rfl ?_ ?_ ?_; (iterate 2 (focus (simp only [Try.results49, Try.ntmps49, Nat.reducePow, wks, bK_t, bK_f, hq, z0, z1, z2, z3, vcs, Nat.reduceAdd, Nat.reduceMul, Nat.reduceEqDiff, Nat.reduceLeDiff, Nat.reduceSub, Nat.reduceLT, Int.reduceToNat, Int.reduceLE, Int.reduceLT, Int.reduceAdd, Int.reduceSub, Int.reduceMul, Int.reduceNeg, reduceCtorEq, reduceIte, Int.reduceBEq, Int.reduceBNe, Int.reduceEq, Int.reduceNe, Nat.reduceBEq, Nat.reduceBNe, tys, pick_false, pick_true, goGuard_sgd, TypeDesc.pointer.injEq, exists_eq_left'] <;> exact rfl)))) | (first | (refine call_val (g := ?_) ?_ ?_) | (refine call_valg (g := ?_) ?_ ?_); rotate_left 1; (focus (simp only [Try.results49, Try.ntmps49, Nat.reducePow, wks, bK_t, bK_f, hq, z0, z1, z2, z3, vcs, Nat.reduceAdd, Nat.reduceMul, Nat.reduceEqDiff, Nat.reduceLeDiff, Nat.reduceSub, Nat.reduceLT, Int.reduceToNat, Int.reduceLE, Int.reduceLT, Int.reduceAdd, Int.reduceSub, Int.reduceMul, Int.reduceNeg, reduceCtorEq, reduceIte, Int.reduceBEq, Int.reduceBNe, Int.reduceEq, Int.reduceNe, Nat.reduceBEq, Nat.reduceBNe, tys, pick_false, pick_true, goGuard_sgd, TypeDesc.pointer.injEq, exists_eq_left'] <;> exact rfl))) | refine draw_end' (ps := [(4, 8)]) (by decide +kernel) (by simp only [List.forall_mem_cons, List.getD_cons_zero, List.getD_cons_succ, Try.results49, Try.ntmps49, Nat.reducePow, wks, bK_t, bK_f, hq, z0, z1, z2, z3, vcs, Nat.reduceAdd, Nat.reduceMul, Nat.reduceEqDiff, Nat.reduceLeDiff, Nat.reduceSub, Nat.reduceLT, Int.reduceToNat, Int.reduceLE, Int.reduceLT, Int.reduceAdd, Int.reduceSub, Int.reduceMul, Int.reduceNeg, reduceCtorEq, reduceIte, Int.reduceBEq, Int.reduceBNe, Int.reduceEq, Int.reduceNe, Nat.reduceBEq, Nat.reduceBNe, tys, pick_false, pick_true, goGuard_sgd, TypeDesc.pointer.injEq, exists_eq_left'] <;> (try simp) <;> (try omega)) ?_ | refine draw_end (by decide +kernel) ?_ | refine cond_bool (fun hb => ?_) (fun hb => ?_) | refine cond_bit (fun hb => ?_) (fun hb => ?_) | refine And.intro (by omega) ?_ | refine And.intro (fun hb => ?_) (fun hb => ?_) | fail)
  all_goals ((refine Fin.give [] [q] ?_ ?_ ?_ ?_ ?_ (fun q hq => by have hqq := ho q hq; first | (simp only [gives, tgt, List.map_cons, List.map_nil, List.mem_cons, List.not_mem_nil, or_false] at hqq ⊢; omega) | (simp only [gives, tgt, List.map_cons, List.map_nil, List.mem_cons, List.not_mem_nil, or_false] at hqq)) <;> (try simp only [Try.results49, Try.ntmps49, ite_self, Bool.false_and, Bool.false_eq_true, if_false, bK_t, bK_f, hq, z0, z1, z2, z3, fresh_self, giv, vcs, Nat.reduceAdd, Nat.reduceMul, Nat.reduceEqDiff, Nat.reduceLeDiff, Nat.reduceSub, Nat.reduceLT, Int.reduceToNat, Int.reduceLE, Int.reduceLT, Int.reduceAdd, Int.reduceSub, Int.reduceMul, Int.reduceNeg, reduceCtorEq, reduceIte, Int.reduceBEq, Int.reduceBNe, Int.reduceEq, Int.reduceNe, Nat.reduceBEq, Nat.reduceBNe, tys, pick_false, pick_true, goGuard_sgd, TypeDesc.pointer.injEq, exists_eq_left']) <;> (try simp only [injs]) <;> (try omega)))
end Go.Proofs.Ytanahnknjboplaa
/-
  strings.Builder by the machine: one telling for a builder that has nothing yet and for one that has.
-/
namespace Go.Proofs.Ytanahnknjboplaa
set_option linter.unusedSimpArgs false
set_option linter.unusedVariables false
open Go Go.RowKit Go.Proofs.Ytanahnknjboplaa.Vm

/-- A builder's block that has these bytes, in the block y. -/
def bS (u : Bool) (q y : Nat) (bs : List UInt8) : Blk := if bs = [] then bK u q .nils else bK true q (.own y 0 bs.length)
theorem bS_nil (u : Bool) (q y : Nat) : bS u q y [] = bK u q .nils := by unfold bS; rw [if_pos rfl]
theorem bS_ne (u : Bool) (q y : Nat) {bs : List UInt8} (h : bs ≠ []) : bS u q y bs = bK true q (.own y 0 bs.length) := by unfold bS; rw [if_neg h]
theorem bS_new (q y : Nat) : bS false q y [] = @Blk.mk 2 [[.nilp, .nils]] (.typed 85) := by rw [bS_nil]; rfl
theorem ren_bS (σ : List (Nat × Nat)) (u : Bool) (q y : Nat) (bs : List UInt8) : Blk.ren σ (bS u q y bs) = bS u ((newName σ q).getD q) ((newName σ y).getD y) bs := by
  unfold bS
  by_cases h : bs = []
  · rw [if_pos h, if_pos h]
    cases u <;> simp [bK, Blk.ren, renLL, renL, V.ren, plainLL, plainL, V.plain, Ob.ren, instCells]
  · rw [if_neg h, if_neg h]
    simp [bK, Blk.ren, renLL, renL, V.ren, plainLL, plainL, V.plain, Ob.ren, instCells]
theorem renOk_bS (σ : List (Nat × Nat)) (u : Bool) (q y : Nat) (bs : List UInt8) (h1 : (newName σ q).isSome = true) (h2 : (newName σ y).isSome = true) : Blk.renOk σ (bS u q y bs) = true := by
  unfold bS
  by_cases h : bs = []
  · rw [if_pos h]
    cases u <;> simp [bK, Blk.renOk, renOkLL, renOkL, V.renOk, h1, Ob.renOk, instCells]
  · rw [if_neg h]
    simp [bK, Blk.renOk, renOkLL, renOkL, V.renOk, h1, h2, Ob.renOk, instCells]
theorem rK_rows (bs : List UInt8) : (rK bs).rows = bs.map byteRow := rfl
theorem rK_row (bs : List UInt8) : (rK bs).ob.isRow = true := rfl
theorem rK_nil : (rK []).rows = [] := rfl
theorem ren_rK (σ : List (Nat × Nat)) (bs : List UInt8) : Blk.ren σ (rK bs) = rK bs := ren_bytes σ bs _
theorem renOk_rK (σ : List (Nat × Nat)) (bs : List UInt8) : Blk.renOk σ (rK bs) = true := renOk_bytes σ bs _
theorem only_sub {M : Mem} {l : List Nat} (h : ∀ z, (M z).isSome = true → z ∈ l) : M.only l = M := by
  funext x
  unfold Mem.only
  by_cases hx : x ∈ l
  · rw [if_pos hx]
  · rw [if_neg hx]
    cases hm : M x with
    | none => rfl
    | some k => exact absurd (h x (by rw [hm]; rfl)) hx
theorem fresh_out {M : Mem} {q y nm : Nat} (ho : ∀ z, (M z).isSome = true → z ∈ [q, y]) (hn : q < nm) (hny : y < nm) : ∀ x, Fresh nm x → M x = none := fun x hx => by
  cases hm : M x with
  | none => rfl
  | some k =>
    have := ho x (by rw [hm]; rfl)
    simp only [List.mem_cons, List.not_mem_nil, or_false] at this
    have := hx.1
    omega
theorem nil_ho {l : List Nat} : ∀ z, ((Mem.nil : Mem) z).isSome = true → z ∈ l := fun z h => by cases h
theorem only1 {M : Mem} {q : Nat} {k : Blk} (h : M q = some k) : (M.only [q]) q = some k := only_eq.2 ⟨h, by simp⟩
section
variable (u : Bool) (q y : Nat) (bs : List UInt8) (M : Mem) (nm : Nat)
theorem wStr_ev (s : List UInt8) (hs : s ≠ []) (hl : bs.length + s.length ≤ lim) (hqy : q ≠ y) (hq : M q = some (bS u q y bs)) (hy : M y = some (rK bs)) (ho : ∀ z, (M z).isSome = true → z ∈ [q, y]) (hn : q < nm) (hny : y < nm) :
    Ev cx 46 nm [.ptr q 0 0, .str s] M (.tup [.int .i64 s.length, .val .nilIface]) [(y, none), (q, some (bS false q nm (bs ++ s))), (nm, some (rK (bs ++ s)))] := by
  rw [bS_ne false q nm (bs := bs ++ s) (by simp [hs]), List.length_append]
  by_cases hb : bs = []
  · subst hb
    rw [bS_nil] at hq
    simp only [List.nil_append, List.length_nil, Nat.zero_add] at hl ⊢
    refine Ev.dropM y (Ev.frame [q] (wStrN_ev u q s hs hl _ nm (only1 hq) only_mem hn) (fun x hx => ?_) (fresh_out ho hn hny))
    simp only [effNames, List.map_cons, List.map_nil, List.mem_cons, List.not_mem_nil, or_false] at hx
    rcases hx with rfl | rfl
    · left; simp
    · right; exact ⟨Nat.le_refl _, by omega⟩
  · rw [bS_ne u q y hb] at hq
    exact wStrO_ev true q y bs s hl M nm hqy hq hy ho hn hny
theorem wByte_ev (c : UInt8) (hl : bs.length + 1 ≤ lim) (hqy : q ≠ y) (hq : M q = some (bS u q y bs)) (hy : M y = some (rK bs)) (ho : ∀ z, (M z).isSome = true → z ∈ [q, y]) (hn : q < nm) (hny : y < nm) :
    Ev cx 84 nm [.ptr q 0 0, .int .u8 c.toNat] M (.val .nilIface) [(y, none), (q, some (bS false q nm (bs ++ [c]))), (nm, some (rK (bs ++ [c])))] := by
  rw [bS_ne false q nm (bs := bs ++ [c]) (by simp), List.length_append, List.length_singleton]
  by_cases hb : bs = []
  · subst hb
    rw [bS_nil] at hq
    simp only [List.nil_append, List.length_nil, Nat.zero_add] at hl ⊢
    refine Ev.dropM y (Ev.frame [q] (wByteN_ev u q c _ nm (only1 hq) only_mem hn) (fun x hx => ?_) (fresh_out ho hn hny))
    simp only [effNames, List.map_cons, List.map_nil, List.mem_cons, List.not_mem_nil, or_false] at hx
    rcases hx with rfl | rfl
    · left; simp
    · right; exact ⟨Nat.le_refl _, by omega⟩
  · rw [bS_ne u q y hb] at hq
    exact wByteO_ev true q y bs c hl M nm hqy hq hy ho hn hny
theorem app_self {M : Mem} {q y : Nat} {a b : Blk} (hq : M q = some a) (hy : M y = some b) : M.app [(q, some a)] = M.app [(q, some a), (y, some b)] := by
  funext x
  simp only [Mem.app, Mem.put]
  by_cases e : x = y
  · subst e
    by_cases e2 : x = q
    · subst e2; rw [hq] at hy; cases hy; simp
    · simp [e2, hy]
  · simp [e]
theorem bLen_ev (hqy : q ≠ y) (hq : M q = some (bS u q y bs)) (hy : M y = some (rK bs)) (ho : ∀ z, (M z).isSome = true → z ∈ [q, y]) (hn : q < nm) (hny : y < nm) :
    Ev cx 48 nm [.ptr q 0 0] M (.int .i64 bs.length) [(q, some (bS u q y bs)), (y, some (rK bs))] := by
  by_cases hb : bs = []
  · subst hb
    refine Ev.eff_eq ?_ (app_self hq hy)
    rw [bS_nil] at hq ⊢
    refine Ev.frame [q] (bLenN_ev u q _ nm (only1 hq) only_mem hn) (fun x hx => ?_) (fresh_out ho hn hny)
    simp only [effNames, List.map_cons, List.map_nil, List.mem_cons, List.not_mem_nil, or_false] at hx
    subst hx; left; simp
  · rw [bS_ne u q y hb] at hq ⊢
    exact bLenO_ev true q y bs M nm hqy hq hy ho hn hny
theorem bStr_ev (hl : bs.length ≤ lim) (hqy : q ≠ y) (hq : M q = some (bS u q y bs)) (hy : M y = some (rK bs)) (ho : ∀ z, (M z).isSome = true → z ∈ [q, y]) (hn : q < nm) (hny : y < nm) :
    Ev cx 49 nm [.ptr q 0 0] M (.str bs) [(q, none), (y, none)] := by
  by_cases hb : bs = []
  · subst hb
    rw [bS_nil] at hq
    have h1 : Ev cx 49 nm [.ptr q 0 0] M (.str []) [(q, none)] := by
      refine Ev.frame [q] (bStrN_ev u q _ nm (only1 hq) only_mem hn) (fun x hx => ?_) (fresh_out ho hn hny)
      simp only [effNames, List.map_cons, List.map_nil, List.mem_cons, List.not_mem_nil, or_false] at hx
      subst hx; left; simp
    refine Ev.eff_eq (Ev.dropM y h1) ?_
    funext x
    simp only [Mem.app, Mem.put]
    by_cases e : x = y <;> by_cases e2 : x = q <;> simp [e, e2]
  · rw [bS_ne u q y hb] at hq
    exact bStrO_ev true q y bs hb hl M nm hqy hq hy ho hn hny
end
end Go.Proofs.Ytanahnknjboplaa
