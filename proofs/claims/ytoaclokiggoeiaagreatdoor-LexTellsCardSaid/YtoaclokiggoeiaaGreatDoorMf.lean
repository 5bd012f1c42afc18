/-
  Texts joined: XTy, XEp, XEq, XEr, XEs, XEx, XEn, XLa, XUa, XGa, XGb, XNa, XEa, XEc, XEd, XEh, XEt, XGc, XGd.
-/
import Derived.Test.YtoaclokiggoeiaaGreatDoorChecked
import Derived.Lib.LaidU8
import Derived.Lib.ItoaNum
import Derived.Lib.RuneBytes
import Derived.Lib.MapLaws
import Derived.Lib.RuneCountTail
import Derived.Lib.IndexLaws
import Derived.Test.YtoaclokiggoeiaaGreatDoorMe
namespace Go.Proofs.YtoaclokiggoeiaaGreatDoor
set_option maxRecDepth 100000
set_option maxHeartbeats 32000000
open Go Go.RowKit Go.Proofs.YtoaclokiggoeiaaGreatDoor.Vm
def firstV : V := .rp (Lib.firstTab.map fun z => .int .u8 z)
def accV : V := .rp ((List.range 16).flatMap fun i => [V.int .u8 (Lib.accLo i), .int .u8 (Lib.accHi i)])
def tensV : V := .rp (Lib.pow10Tab.map fun z => .int .u64 z)
def tabsG (g : Nat) : V := if g = 1 then firstV else if g = 2 then accV else if g = 5 then tensV else .any
theorem tabs_plain : firstV.plain = true ∧ accV.plain = true ∧ tensV.plain = true := by decide +kernel
noncomputable def cx : Cx := ⟨Tryz.prog, tabsG, []⟩
theorem cxG : ∀ g, (cx.G g).plain = true := fun g => by
  show (tabsG g).plain = true
  unfold tabsG
  split
  · exact tabs_plain.1
  · split
    · exact tabs_plain.2.1
    · split
      · exact tabs_plain.2.2
      · rfl
theorem mixed : cx.P.follows .mixedOrders = true := by kernel_rfl
theorem und_9 : cx.P.underlying 9 = some .string := by kernel_rfl
theorem lk_9 : lenKind cx.P 9 = true := by kernel_rfl
theorem und_3 : cx.P.underlying 3 = some (.int .i64) := by kernel_rfl
theorem und_4 : cx.P.underlying 4 = some .bool := by kernel_rfl
theorem und_30 : cx.P.underlying 30 = some (.slice 5) := by kernel_rfl
theorem el_30 : elInfo cx.P 30 = some ([.int .u8 0], 1) := by kernel_rfl
theorem lk_30 : lenKind cx.P 30 = true := by kernel_rfl
theorem et_30 : elemT cx.P 30 = some 5 := by kernel_rfl
theorem bet_30 : betT cx.P 30 = some 5 := by kernel_rfl
theorem elm_30 : elm cx.P 30 = some (none, 1, false) := by kernel_rfl
theorem ty_5 : ty cx.P 5 = some (1, false) := by kernel_rfl
theorem und_5 : cx.P.underlying 5 = some (.int .u8) := by kernel_rfl
theorem bt_30 : bytesT cx.P 30 = true := by kernel_rfl
theorem shape_33 : shapeT cx.P 33 = some ([.str [], .str []], [(0, 1), (1, 1)]) := by kernel_rfl
theorem zero_33 : zeroL cx.P 33 = some [.str [], .str []] := by kernel_rfl
theorem bld_33 : bldT cx.P 33 = none := by kernel_rfl
theorem ty_33 : ty cx.P 33 = some (2, true) := by kernel_rfl
theorem el_35 : elInfo cx.P 35 = some ([.str [], .str []], 32) := by kernel_rfl
theorem el_22 : elInfo cx.P 22 = some ([.int .u8 0, .str [], .nils, .str []], 64) := by kernel_rfl
theorem shape_37 : shapeT cx.P 37 = some ([.int .u8 0, .str [], .nils, .str []], [(0, 1), (1, 1), (2, 1), (3, 1)]) := by kernel_rfl
theorem und_23 : cx.P.underlying 23 = some (.int .i64) := by kernel_rfl
theorem und_22 : cx.P.underlying 22 = some (.slice 37) := by kernel_rfl
theorem lk_22 : lenKind cx.P 22 = true := by kernel_rfl
theorem et_22 : elemT cx.P 22 = some 37 := by kernel_rfl
theorem bet_22 : betT cx.P 22 = none := by kernel_rfl
theorem elm_22 : elm cx.P 22 = some (none, 4, true) := by kernel_rfl
theorem fld_37_0 : fld cx.P 37 0 = some (0, 1, false) := by kernel_rfl
theorem ty_37 : ty cx.P 37 = some (4, true) := by kernel_rfl
theorem shape_49 : shapeT cx.P 49 = some ([.str []], [(0, 1)]) := by kernel_rfl
theorem shape_51 : shapeT cx.P 51 = some ([.str []], [(0, 1)]) := by kernel_rfl
theorem fld_51_0 : fld cx.P 51 0 = some (0, 1, true) := by kernel_rfl
theorem fld_49_0 : fld cx.P 49 0 = some (0, 1, false) := by kernel_rfl
theorem ty_9 : ty cx.P 9 = some (1, false) := by kernel_rfl
theorem zero_37 : zeroL cx.P 37 = some [.int .u8 0, .str [], .nils, .str []] := by kernel_rfl
theorem bld_37 : bldT cx.P 37 = none := by kernel_rfl
theorem fld_37_2 : fld cx.P 37 2 = some (2, 1, false) := by kernel_rfl
theorem ty_35 : ty cx.P 35 = some (1, false) := by kernel_rfl
theorem und_35 : cx.P.underlying 35 = some (.slice 33) := by kernel_rfl
theorem lk_35 : lenKind cx.P 35 = true := by kernel_rfl
theorem et_35 : elemT cx.P 35 = some 33 := by kernel_rfl
theorem bet_35 : betT cx.P 35 = none := by kernel_rfl
theorem fld_37_1 : fld cx.P 37 1 = some (1, 1, false) := by kernel_rfl
theorem fld_37_3 : fld cx.P 37 3 = some (3, 1, false) := by kernel_rfl
theorem elm_35 : elm cx.P 35 = some (none, 2, true) := by kernel_rfl
theorem fld_33_0 : fld cx.P 33 0 = some (0, 1, false) := by kernel_rfl
theorem fld_33_1 : fld cx.P 33 1 = some (1, 1, false) := by kernel_rfl
theorem zero_69 : zeroL cx.P 69 = some [.nilp, .nils] := by kernel_rfl
theorem bld_69 : bldT cx.P 69 = some 69 := by kernel_rfl
theorem zero_23 : zeroL cx.P 23 = some [.int .i64 0] := by kernel_rfl
theorem bld_23 : bldT cx.P 23 = none := by kernel_rfl
theorem ty_23 : ty cx.P 23 = some (1, false) := by kernel_rfl
theorem feq_33 : flatEq cx.P 33 = some [(0, 1), (1, 1)] := by kernel_rfl
theorem fld_69_1 : fld cx.P 69 1 = some (1, 1, false) := by kernel_rfl
theorem ty_30 : ty cx.P 30 = some (1, false) := by kernel_rfl
theorem und_89 : cx.P.underlying 89 = some (.pointer 5) := by kernel_rfl
theorem und_21 : cx.P.underlying 21 = some (.int .i32) := by kernel_rfl
theorem el_77 : elInfo cx.P 77 = some ([.int .i64 0], 8) := by kernel_rfl
theorem und_77 : cx.P.underlying 77 = some (.slice 3) := by kernel_rfl
theorem lk_77 : lenKind cx.P 77 = true := by kernel_rfl
theorem et_77 : elemT cx.P 77 = some 3 := by kernel_rfl
theorem bet_77 : betT cx.P 77 = none := by kernel_rfl
theorem shape_96 : shapeT cx.P 96 = some ([.str [], .nils], [(0, 1), (1, 1)]) := by kernel_rfl
theorem fld_96_0 : fld cx.P 96 0 = some (0, 1, false) := by kernel_rfl
theorem fld_96_1 : fld cx.P 96 1 = some (1, 1, false) := by kernel_rfl
theorem fld_69_0 : fld cx.P 69 0 = some (0, 1, false) := by kernel_rfl
theorem ty_67 : ty cx.P 67 = some (1, false) := by kernel_rfl
theorem und_67 : cx.P.underlying 67 = some (.pointer 69) := by kernel_rfl
theorem und_105 : cx.P.underlying 105 = some .unsafePointer := by kernel_rfl
theorem zero_114 : zeroL cx.P 114 = some [.str []] := by kernel_rfl
theorem bld_114 : bldT cx.P 114 = none := by kernel_rfl
theorem ty_114 : ty cx.P 114 = some (1, true) := by kernel_rfl
theorem fld_114_0 : fld cx.P 114 0 = some (0, 1, false) := by kernel_rfl
theorem shape_120 : shapeT cx.P 120 = some ([.str [], .val .nilFunc], [(0, 1), (1, 1)]) := by kernel_rfl
theorem el_121 : elInfo cx.P 121 = some ([.str [], .val .nilFunc], 24) := by kernel_rfl
theorem und_121 : cx.P.underlying 121 = some (.slice 120) := by kernel_rfl
theorem lk_121 : lenKind cx.P 121 = true := by kernel_rfl
theorem et_121 : elemT cx.P 121 = some 120 := by kernel_rfl
theorem bet_121 : betT cx.P 121 = none := by kernel_rfl
theorem elm_121 : elm cx.P 121 = some (none, 2, true) := by kernel_rfl
theorem ty_120 : ty cx.P 120 = some (2, true) := by kernel_rfl
theorem zero_120 : zeroL cx.P 120 = some [.str [], .val .nilFunc] := by kernel_rfl
theorem bld_120 : bldT cx.P 120 = none := by kernel_rfl
theorem fld_120_0 : fld cx.P 120 0 = some (0, 1, false) := by kernel_rfl
theorem fld_120_1 : fld cx.P 120 1 = some (1, 1, false) := by kernel_rfl
theorem ty_118 : ty cx.P 118 = some (1, false) := by kernel_rfl
theorem ty_3 : ty cx.P 3 = some (1, false) := by kernel_rfl
theorem zero_132 : zeroL cx.P 132 = some [.bool false, .bool false, .bool false, .bool false, .bool false, .bool false, .bool false, .bool false, .bool false, .bool false, .bool false, .bool false, .bool false, .bool false, .bool false, .bool false, .bool false, .bool false, .bool false, .bool false, .bool false, .bool false, .bool false, .bool false, .bool false, .bool false, .bool false, .bool false, .bool false, .bool false, .bool false, .bool false, .bool false, .bool false, .bool false, .bool false, .bool false, .bool false, .bool false, .bool false, .bool false, .bool false, .bool false, .bool false, .bool false, .bool false, .bool false, .bool false, .bool false, .bool false, .bool false, .bool false, .bool false, .bool false, .bool false, .bool false, .bool false, .bool false, .bool false, .bool false, .bool false, .bool false, .bool false, .bool false, .bool false, .bool false, .bool false, .bool false, .bool false, .bool false, .bool false, .bool false, .bool false, .bool false, .bool false, .bool false, .bool false, .bool false, .bool false, .bool false, .bool false, .bool false, .bool false, .bool false, .bool false, .bool false, .bool false, .bool false, .bool false, .bool false, .bool false, .bool false, .bool false, .bool false, .bool false, .bool false, .bool false, .bool false, .bool false, .bool false, .bool false, .bool false, .bool false, .bool false, .bool false, .bool false, .bool false, .bool false, .bool false, .bool false, .bool false, .bool false, .bool false, .bool false, .bool false, .bool false, .bool false, .bool false, .bool false, .bool false, .bool false, .bool false, .bool false, .bool false, .bool false, .bool false, .bool false, .bool false, .bool false, .bool false, .bool false, .bool false, .bool false, .bool false, .bool false, .bool false, .bool false, .bool false, .bool false, .bool false, .bool false, .bool false, .bool false, .bool false, .bool false, .bool false, .bool false, .bool false, .bool false, .bool false, .bool false, .bool false, .bool false, .bool false, .bool false, .bool false, .bool false, .bool false, .bool false, .bool false, .bool false, .bool false, .bool false, .bool false, .bool false, .bool false, .bool false, .bool false, .bool false, .bool false, .bool false, .bool false, .bool false, .bool false, .bool false, .bool false, .bool false, .bool false, .bool false, .bool false, .bool false, .bool false, .bool false, .bool false, .bool false, .bool false, .bool false, .bool false, .bool false, .bool false, .bool false, .bool false, .bool false, .bool false, .bool false, .bool false, .bool false, .bool false, .bool false, .bool false, .bool false, .bool false, .bool false, .bool false, .bool false, .bool false, .bool false, .bool false, .bool false, .bool false, .bool false, .bool false, .bool false, .bool false, .bool false, .bool false, .bool false, .bool false, .bool false, .bool false, .bool false, .bool false, .bool false, .bool false, .bool false, .bool false, .bool false, .bool false, .bool false, .bool false, .bool false, .bool false, .bool false, .bool false, .bool false, .bool false, .bool false, .bool false, .bool false, .bool false, .bool false, .bool false, .bool false, .bool false, .bool false, .bool false, .bool false, .bool false, .bool false, .bool false, .bool false, .bool false, .bool false, .bool false, .bool false, .bool false] := by kernel_rfl
theorem bld_132 : bldT cx.P 132 = none := by kernel_rfl
theorem ty_132 : ty cx.P 132 = some (256, true) := by kernel_rfl
theorem shape_114 : shapeT cx.P 114 = some ([.str []], [(0, 1)]) := by kernel_rfl
theorem und_143 : cx.P.underlying 143 = some (.int .u64) := by kernel_rfl
theorem zero_30 : zeroL cx.P 30 = some [.nils] := by kernel_rfl
theorem bld_30 : bldT cx.P 30 = none := by kernel_rfl
theorem elm_77 : elm cx.P 77 = some (none, 1, false) := by kernel_rfl
theorem und_151 : cx.P.underlying 151 = some (.int .u32) := by kernel_rfl
theorem elm_132 : elm cx.P 132 = some (some 256, 1, false) := by kernel_rfl
theorem ty_4 : ty cx.P 4 = some (1, false) := by kernel_rfl
theorem elm_157 : elm cx.P 157 = some (some 256, 1, false) := by kernel_rfl
theorem elm_160 : elm cx.P 160 = some (some 16, 2, true) := by kernel_rfl
theorem ty_159 : ty cx.P 159 = some (2, true) := by kernel_rfl
theorem zero_159 : zeroL cx.P 159 = some [.int .u8 0, .int .u8 0] := by kernel_rfl
theorem bld_159 : bldT cx.P 159 = none := by kernel_rfl
theorem fld_159_0 : fld cx.P 159 0 = some (0, 1, false) := by kernel_rfl
theorem fld_159_1 : fld cx.P 159 1 = some (1, 1, false) := by kernel_rfl
theorem und_127 : cx.P.underlying 127 = some (.int .u64) := by kernel_rfl
theorem ty_71 : ty cx.P 71 = some (1, false) := by kernel_rfl
theorem shape_168 : shapeT cx.P 168 = some ([.str [], .str [], .val .nilIface], [(0, 1), (1, 1), (2, 1)]) := by kernel_rfl
theorem und_2 : cx.P.underlying 2 = some (.int .i64) := by kernel_rfl
theorem zero_174 : zeroL cx.P 174 = some [.int .u8 0, .int .u8 0, .int .u8 0, .int .u8 0, .int .u8 0, .int .u8 0, .int .u8 0, .int .u8 0, .int .u8 0, .int .u8 0, .int .u8 0, .int .u8 0, .int .u8 0, .int .u8 0, .int .u8 0, .int .u8 0, .int .u8 0, .int .u8 0, .int .u8 0, .int .u8 0, .int .u8 0, .int .u8 0, .int .u8 0, .int .u8 0] := by kernel_rfl
theorem bld_174 : bldT cx.P 174 = none := by kernel_rfl
theorem elm_174 : elm cx.P 174 = some (some 24, 1, false) := by kernel_rfl
theorem elm_180 : elm cx.P 180 = some (some 20, 1, false) := by kernel_rfl
theorem ty_143 : ty cx.P 143 = some (1, false) := by kernel_rfl
theorem zero_181 : zeroL cx.P 181 = some [.int .u8 0, .int .u8 0, .int .u8 0, .int .u8 0, .int .u8 0, .int .u8 0, .int .u8 0, .int .u8 0, .int .u8 0, .int .u8 0, .int .u8 0, .int .u8 0, .int .u8 0, .int .u8 0, .int .u8 0, .int .u8 0, .int .u8 0, .int .u8 0, .int .u8 0, .int .u8 0, .int .u8 0, .int .u8 0, .int .u8 0, .int .u8 0, .int .u8 0, .int .u8 0, .int .u8 0, .int .u8 0, .int .u8 0, .int .u8 0, .int .u8 0, .int .u8 0, .int .u8 0, .int .u8 0, .int .u8 0, .int .u8 0, .int .u8 0, .int .u8 0, .int .u8 0, .int .u8 0, .int .u8 0, .int .u8 0, .int .u8 0, .int .u8 0, .int .u8 0, .int .u8 0, .int .u8 0, .int .u8 0, .int .u8 0, .int .u8 0, .int .u8 0, .int .u8 0, .int .u8 0, .int .u8 0, .int .u8 0, .int .u8 0, .int .u8 0, .int .u8 0, .int .u8 0, .int .u8 0, .int .u8 0, .int .u8 0, .int .u8 0, .int .u8 0, .int .u8 0] := by kernel_rfl
theorem bld_181 : bldT cx.P 181 = none := by kernel_rfl
theorem elm_181 : elm cx.P 181 = some (some 65, 1, false) := by kernel_rfl
theorem elm_184 : elm cx.P 184 = some (some 32, 1, false) := by kernel_rfl
theorem elm_185 : elm cx.P 185 = some (some 64, 1, false) := by kernel_rfl
set_option linter.defProp false in
def tys := (And.intro und_9 (And.intro lk_9 (And.intro und_3 (And.intro und_4 (And.intro und_30 (And.intro el_30 (And.intro lk_30 (And.intro et_30 (And.intro bet_30 (And.intro elm_30 (And.intro ty_5 (And.intro und_5 (And.intro bt_30 (And.intro shape_33 (And.intro zero_33 (And.intro bld_33 (And.intro ty_33 (And.intro el_35 (And.intro el_22 (And.intro shape_37 (And.intro und_23 (And.intro und_22 (And.intro lk_22 (And.intro et_22 (And.intro bet_22 (And.intro elm_22 (And.intro fld_37_0 (And.intro ty_37 (And.intro shape_49 (And.intro shape_51 (And.intro fld_51_0 (And.intro fld_49_0 (And.intro ty_9 (And.intro zero_37 (And.intro bld_37 (And.intro fld_37_2 (And.intro ty_35 (And.intro und_35 (And.intro lk_35 (And.intro et_35 (And.intro bet_35 (And.intro fld_37_1 (And.intro fld_37_3 (And.intro elm_35 (And.intro fld_33_0 (And.intro fld_33_1 (And.intro zero_69 (And.intro bld_69 (And.intro zero_23 (And.intro bld_23 (And.intro ty_23 (And.intro feq_33 (And.intro fld_69_1 (And.intro ty_30 (And.intro und_89 (And.intro und_21 (And.intro el_77 (And.intro und_77 (And.intro lk_77 (And.intro et_77 (And.intro bet_77 (And.intro shape_96 (And.intro fld_96_0 (And.intro fld_96_1 (And.intro fld_69_0 (And.intro ty_67 (And.intro und_67 (And.intro und_105 (And.intro zero_114 (And.intro bld_114 (And.intro ty_114 (And.intro fld_114_0 (And.intro shape_120 (And.intro el_121 (And.intro und_121 (And.intro lk_121 (And.intro et_121 (And.intro bet_121 (And.intro elm_121 (And.intro ty_120 (And.intro zero_120 (And.intro bld_120 (And.intro fld_120_0 (And.intro fld_120_1 (And.intro ty_118 (And.intro ty_3 (And.intro zero_132 (And.intro bld_132 (And.intro ty_132 (And.intro shape_114 (And.intro und_143 (And.intro zero_30 (And.intro bld_30 (And.intro elm_77 (And.intro und_151 (And.intro elm_132 (And.intro ty_4 (And.intro elm_157 (And.intro elm_160 (And.intro ty_159 (And.intro zero_159 (And.intro bld_159 (And.intro fld_159_0 (And.intro fld_159_1 (And.intro und_127 (And.intro ty_71 (And.intro shape_168 (And.intro und_2 (And.intro zero_174 (And.intro bld_174 (And.intro elm_174 (And.intro elm_180 (And.intro ty_143 (And.intro zero_181 (And.intro bld_181 (And.intro elm_181 (And.intro elm_184 (And.intro elm_185 True.intro))))))))))))))))))))))))))))))))))))))))))))))))))))))))))))))))))))))))))))))))))))))))))))))))))))))))))))))))))))))
theorem kind_9 : kindT cx.P 9 = some .str := by kernel_rfl
end Go.Proofs.YtoaclokiggoeiaaGreatDoor
namespace Go.Proofs.YtoaclokiggoeiaaGreatDoor
set_option maxRecDepth 100000
set_option maxHeartbeats 32000000
set_option linter.unusedSimpArgs false
set_option linter.unusedVariables false
open Go Go.RowKit
def may (n : Int) : Bool := decide (n = 9 ∨ n = 10 ∨ n = 13 ∨ (32 ≤ n ∧ n ≤ 1114111 ∧ ¬ (55296 ≤ n ∧ n ≤ 57343) ∧ n ≠ 65534 ∧ n ≠ 65535))
theorem may_iff (n : Int) : may n = true ↔ (n = 9 ∨ n = 10 ∨ n = 13 ∨ (32 ≤ n ∧ n ≤ 1114111 ∧ ¬ (55296 ≤ n ∧ n ≤ 57343) ∧ n ≠ 65534 ∧ n ≠ 65535)) := by
  unfold may; exact decide_eq_true_iff
theorem may_t {n : Int} (h : n = 9 ∨ n = 10 ∨ n = 13 ∨ (32 ≤ n ∧ n ≤ 1114111 ∧ ¬ (55296 ≤ n ∧ n ≤ 57343) ∧ n ≠ 65534 ∧ n ≠ 65535)) : true = may n := ((may_iff n).2 h).symm
theorem may_f {n : Int} (h : ¬ (n = 9 ∨ n = 10 ∨ n = 13 ∨ (32 ≤ n ∧ n ≤ 1114111 ∧ ¬ (55296 ≤ n ∧ n ≤ 57343) ∧ n ≠ 65534 ∧ n ≠ 65535))) : false = may n := by
  unfold may; symm; exact decide_eq_false_iff_not.2 h
theorem may_range {n : Int} (h : may n = true) : 0 ≤ n ∧ n ≤ 1114111 ∧ (2048 ≤ n → n ≤ 65535 → (2048 ≤ n ∧ n < 55296) ∨ (57343 < n ∧ n ≤ 65535)) := by
  have := (may_iff n).1 h
  refine ⟨by omega, by omega, fun a b => by omega⟩
def enc (l : List Int) : List UInt8 := l.flatMap Lib.encodeRune
def u8 (b : UInt8) : Value := .int .u8 (b.toNat : Int)
def ofErr (l : List Int) : Int := if l.all may then (if 16384 < (enc l).length then 4 else 0) else 50
def ofText (l : List Int) : List UInt8 := if ofErr l = 0 then enc l else []
theorem enc_snoc (a : List Int) (x : Int) : enc (a ++ [x]) = enc a ++ Lib.encodeRune x := by simp [enc]
theorem encodeRune_length (x : Int) : 1 ≤ (Lib.encodeRune x).length ∧ (Lib.encodeRune x).length ≤ 4 := by
  unfold Lib.encodeRune Lib.encodeRuneZ
  repeat' split
  all_goals simp
theorem enc_length (l : List Int) : (enc l).length ≤ 4 * l.length := by
  induction l with
  | nil => simp [enc]
  | cons x l ih =>
    have := (encodeRune_length x).2
    simp only [enc,List.flatMap_cons,List.length_append,List.length_cons] at ih ⊢
    omega
theorem ofErr_bad {l : List Int} {k : Nat} (hk : k < l.length) (h : may (l.getD k 0) = false) : ofErr l = 50 := by
  unfold ofErr
  rw [if_neg]
  intro hall
  have := List.all_eq_true.1 hall (l[k]) (List.getElem_mem hk)
  simp [List.getD_eq_getElem?_getD,hk] at h
  rw [h] at this; cases this
theorem all_snoc {l : List Int} {k : Nat} (hk : k < l.length) (h : (l.take k).all may = true) (hm : may (l.getD k 0) = true) : (l.take (k + 1)).all may = true := by
  rw [List.take_succ_eq_append_getElem hk, List.all_append, h]
  simp [List.getD_eq_getElem?_getD,hk] at hm
  simp [hm]
end Go.Proofs.YtoaclokiggoeiaaGreatDoor
namespace Go.Proofs.YtoaclokiggoeiaaGreatDoor
set_option maxRecDepth 100000
set_option maxHeartbeats 32000000
set_option linter.unusedSimpArgs false
set_option linter.unusedVariables false
open Go Go.RowKit Go.Lib
def one (l : List UInt8) : Option (Int × Nat) :=
  if l = [] then none
  else if (decodeL l).1 = 65533 ∧ (decodeL l).2 = 1 then none
  else if may ((decodeL l).1 : Int) then some (((decodeL l).1 : Int), (decodeL l).2) else none
def decF : Nat → List UInt8 → Option (List Int)
  | _, [] => some []
  | 0, _ => none
  | f + 1, l => match one l with
    | none => none
    | some (z, k) => (decF f (l.drop k)).map (z :: ·)
def dec (l : List UInt8) : Option (List Int) := decF l.length l
theorem one_some {l : List UInt8} {z : Int} {k : Nat} (h : one l = some (z, k)) : l ≠ [] ∧ may z = true ∧ encodeRune z = l.take k ∧ 1 ≤ k ∧ k ≤ l.length := by
  unfold one at h
  split at h
  · cases h
  rename_i hne
  split at h
  · cases h
  rename_i hv
  split at h
  · rename_i hm
    simp only [Option.some.injEq,Prod.mk.injEq] at h
    obtain ⟨rfl, rfl⟩ := h
    have he := encode_decode l hne hv
    have hle := decodeL_le l hne
    refine ⟨hne, hm, he, ?_, hle⟩
    have := (encodeRune_length ((decodeL l).1 : Int)).1
    rw [he, List.length_take] at this
    omega
  · cases h
theorem mod64 {x : Int} (h0 : 0 ≤ x) (h1 : x < 256) : (x.toNat.toUInt8).toNat = x.toNat := by simp; omega
theorem one_enc {z : Int} (hm : may z = true) (rest : List UInt8) : one (encodeRune z ++ rest) = some (z, (encodeRune z).length) := by
  have hmz := (may_iff z).1 hm
  have key : decodeL (encodeRune z ++ rest) = (z.toNat, (encodeRune z).length) := by
    rw [decodeL_N]
    by_cases c1 : 0 ≤ z ∧ z ≤ 127
    · have e : encodeRune z = [z.toNat.toUInt8] := by simp [encodeRune,encodeRuneZ_one c1.1 c1.2]
      rw [e]
      have a := mod64 (x := z) (by omega) (by omega)
      simp only [List.cons_append,List.nil_append,List.getD_cons_zero,List.length_cons,List.length_nil,a,decodeN]
      rw [if_pos (by omega)]
    · by_cases c2 : 128 ≤ z ∧ z ≤ 2047
      · have e : encodeRune z = [(192 + z / 64).toNat.toUInt8, (128 + z % 64).toNat.toUInt8] := by simp [encodeRune,encodeRuneZ_two c2.1 c2.2]
        rw [e]
        have a := mod64 (x := 192 + z / 64) (by omega) (by omega)
        have b := mod64 (x := 128 + z % 64) (by omega) (by omega)
        simp only [List.cons_append,List.nil_append,List.getD_cons_zero,List.getD_cons_succ,List.length_cons,List.length_nil,a,b,decodeN]
        rw [if_neg (by omega), if_pos (by omega), if_pos (by omega)]
        simp only [Prod.mk.injEq,and_true]; omega
      · by_cases c3 : z ≤ 65535
        · have e : encodeRune z = [(224 + z / 4096).toNat.toUInt8, (128 + z / 64 % 64).toNat.toUInt8, (128 + z % 64).toNat.toUInt8] := by simp [encodeRune,encodeRuneZ_three (r := z) (by omega)]
          rw [e]
          have a := mod64 (x := 224 + z / 4096) (by omega) (by omega)
          have b := mod64 (x := 128 + z / 64 % 64) (by omega) (by omega)
          have c := mod64 (x := 128 + z % 64) (by omega) (by omega)
          simp only [List.cons_append,List.nil_append,List.getD_cons_zero,List.getD_cons_succ,List.length_cons,List.length_nil,a,b,c,decodeN]
          rw [if_neg (by omega), if_neg (by omega), if_pos (by omega), if_pos (by omega)]
          simp only [Prod.mk.injEq,and_true]; omega
        · have e : encodeRune z = [(240 + z / 262144).toNat.toUInt8, (128 + z / 4096 % 64).toNat.toUInt8, (128 + z / 64 % 64).toNat.toUInt8, (128 + z % 64).toNat.toUInt8] := by simp [encodeRune,encodeRuneZ_four (r := z) (by omega) (by omega)]
          rw [e]
          have a := mod64 (x := 240 + z / 262144) (by omega) (by omega)
          have b := mod64 (x := 128 + z / 4096 % 64) (by omega) (by omega)
          have c := mod64 (x := 128 + z / 64 % 64) (by omega) (by omega)
          have d := mod64 (x := 128 + z % 64) (by omega) (by omega)
          simp only [List.cons_append,List.nil_append,List.getD_cons_zero,List.getD_cons_succ,List.length_cons,List.length_nil,a,b,c,d,decodeN]
          rw [if_neg (by omega), if_neg (by omega), if_neg (by omega), if_pos (by omega), if_pos (by omega)]
          simp only [Prod.mk.injEq,and_true]; omega
  have hne : encodeRune z ++ rest ≠ [] := by
    intro h
    have := (encodeRune_length z).1
    rw [List.append_eq_nil_iff] at h
    rw [h.1] at this; simp at this
  unfold one
  rw [if_neg hne, key]
  have hz : ((z.toNat : Nat) : Int) = z := by omega
  simp only [hz,hm,if_true]
  rw [if_neg]
  rintro ⟨h1, h2⟩
  have hz2 : z = 65533 := by omega
  subst hz2
  revert h2
  decide
theorem decF_fuel : ∀ (f g : Nat) (l : List UInt8), l.length ≤ f → l.length ≤ g → decF f l = decF g l
  | _, _, [], _, _ => by simp [decF]
  | 0, _, x :: l, h, _ => by simp at h
  | _, 0, x :: l, _, h => by simp at h
  | f + 1, g + 1, x :: l, hf, hg => by
    simp only [decF]
    cases h1 : one (x :: l) with
    | none => rfl
    | some p =>
      obtain ⟨z, k⟩ := p
      obtain ⟨_, _, _, hk, _⟩ := one_some h1
      simp only
      rw [decF_fuel f g ((x :: l).drop k) (by simp at hf ⊢; omega) (by simp at hg ⊢; omega)]
theorem dec_nil : dec [] = some [] := rfl
theorem dec_step {l : List UInt8} {z : Int} {k : Nat} (h : one l = some (z, k)) : dec l = (dec (l.drop k)).map (z :: ·) := by
  obtain ⟨hne, _, _, hk, hkl⟩ := one_some h
  obtain ⟨x, l', rfl⟩ := List.exists_cons_of_ne_nil hne
  unfold dec
  rw [show (x :: l').length = l'.length + 1 from rfl]
  simp only [decF,h]
  rw [decF_fuel l'.length ((x :: l').drop k).length _ (by simp; omega) (Nat.le_refl _)]
theorem dec_bad {l : List UInt8} (hne : l ≠ []) (h : one l = none) : dec l = none := by
  obtain ⟨x, l', rfl⟩ := List.exists_cons_of_ne_nil hne
  unfold dec
  rw [show (x :: l').length = l'.length + 1 from rfl]
  simp only [decF,h]
theorem dec_enc : ∀ (zs : List Int), zs.all may = true → dec (enc zs) = some zs
  | [], _ => rfl
  | z :: zs, h => by
    simp only [List.all_cons,Bool.and_eq_true] at h
    have e : enc (z :: zs) = encodeRune z ++ enc zs := by simp [enc]
    rw [e, dec_step (one_enc h.1 (enc zs)), List.drop_left, dec_enc zs h.2]
    rfl
theorem dec_some : ∀ (n : Nat) (l : List UInt8) (zs : List Int), l.length ≤ n → dec l = some zs → zs.all may = true ∧ enc zs = l
  | 0, l, zs, hn, h => by
    have : l = [] := List.eq_nil_of_length_eq_zero (by omega)
    subst this
    rw [dec_nil] at h
    cases h
    exact ⟨rfl, rfl⟩
  | n + 1, l, zs, hn, h => by
    by_cases hne : l = []
    · subst hne
      rw [dec_nil] at h
      cases h
      exact ⟨rfl, rfl⟩
    · cases h1 : one l with
      | none => rw [dec_bad hne h1] at h; cases h
      | some p =>
        obtain ⟨z, k⟩ := p
        obtain ⟨_, hm, he, hk, hkl⟩ := one_some h1
        rw [dec_step h1] at h
        obtain ⟨zs', h2, rfl⟩ := Option.map_eq_some_iff.1 h
        obtain ⟨ha, hb⟩ := dec_some n (l.drop k) zs' (by simp; omega) h2
        refine ⟨by simp [hm,ha], ?_⟩
        show encodeRune z ++ enc zs' = l
        rw [he, hb, List.take_append_drop]
theorem dec_iff (l : List UInt8) (zs : List Int) : dec l = some zs ↔ zs.all may = true ∧ enc zs = l :=
  ⟨fun h => dec_some l.length l zs (Nat.le_refl _) h, fun ⟨h1, h2⟩ => by rw [← h2, dec_enc zs h1]⟩
theorem odd_prefix {l : List UInt8} (h : hasPrefix l [239, 191, 189] = true) : ∃ rest, l = encodeRune 65533 ++ rest := by
  unfold hasPrefix at h
  obtain ⟨rest, hr⟩ := List.isPrefixOf_iff_prefix.1 h
  exact ⟨rest, by rw [← hr]; congr 1⟩
theorem decodeL_odd {l : List UInt8} (h : hasPrefix l [239, 191, 189] = true) : (decodeL l).2 ≠ 1 := by
  obtain ⟨rest, rfl⟩ := odd_prefix h
  have h1 := one_enc (z := 65533) (by decide) rest
  unfold one at h1
  split at h1
  · cases h1
  split at h1
  · cases h1
  rename_i hv
  split at h1
  · simp only [Option.some.injEq,Prod.mk.injEq] at h1
    rw [h1.2]
    decide
  · cases h1
theorem one_of_decode {l : List UInt8} (hne : l ≠ []) : one l = if ((decodeL l).1 = 65533 ∧ hasPrefix l [239, 191, 189] = false) ∨ may ((decodeL l).1 : Int) = false then none else some (((decodeL l).1 : Int), (decodeL l).2) := by
  unfold one
  rw [if_neg hne]
  by_cases h1 : (decodeL l).1 = 65533 ∧ (decodeL l).2 = 1
  · rw [if_pos h1, if_pos]
    left
    refine ⟨h1.1, ?_⟩
    cases hp : hasPrefix l [239, 191, 189] with
    | false => rfl
    | true => exact absurd h1.2 (decodeL_odd hp)
  · rw [if_neg h1]
    by_cases h2 : (decodeL l).1 = 65533
    · have he := encode_decode l hne h1
      rw [h2] at he
      have hp : hasPrefix l [239, 191, 189] = true := by
        unfold hasPrefix
        rw [List.isPrefixOf_iff_prefix, show ([239, 191, 189] : List UInt8) = encodeRune ((65533 : Nat) : Int) from by decide, he]
        exact List.take_prefix _ _
      rw [hp]
      by_cases hm : may ((decodeL l).1 : Int) = true
      · simp [hm]
      · simp [hm]
    · by_cases hm : may ((decodeL l).1 : Int) = true
      · simp [hm,h2]
      · simp [hm,h2]
theorem decode_drop (s : ByteArray) (pos : Nat) : Utf8.decode s pos = decodeL (s.data.toList.drop pos) := by
  have h := tail_decode s pos 0
  rw [Nat.add_zero] at h
  rw [← h]
  unfold decodeL
  congr 1
  have h2 : (s.extract pos s.size).data.toList = s.data.toList.drop pos := by
    rw [extract_data, List.take_of_length_le]
    simp
  apply ByteArray.ext
  apply Array.ext'
  simpa using h2
def headS (c : Int) : Int := if c < 128 then 1 else if 192 ≤ c ∧ c < 224 then 2 else if 224 ≤ c ∧ c < 240 then 3 else if 240 ≤ c ∧ c < 248 then 4 else 0
def headN (c : Int) : Int := if c < 128 then c else if 192 ≤ c ∧ c < 224 then c - 192 else if 224 ≤ c ∧ c < 240 then c - 224 else if 240 ≤ c ∧ c < 248 then c - 240 else 0
def contN (n : Int) (l : List UInt8) : Int := l.foldl (fun n b => 64 * n + (b.toNat : Int) % 64) n
def oneZ (l : List UInt8) : Int := match one l with | some (z, _) => z | none => 0
def oneK (l : List UInt8) : Int := match one l with | some (_, k) => (k : Int) | none => 0
theorem headS_range (c : Int) : 0 ≤ headS c ∧ headS c ≤ 4 := by
  unfold headS; repeat' split
  all_goals omega
theorem headN_range {c : Int} (h : 0 ≤ c ∧ c < 256) : 0 ≤ headN c ∧ headN c ≤ 127 ∧ (headS c ≠ 1 → headN c ≤ 31) := by
  unfold headN headS; repeat' split
  all_goals omega
theorem contN_snoc (n : Int) (l : List UInt8) (b : UInt8) : contN n (l ++ [b]) = 64 * contN n l + (b.toNat : Int) % 64 := by simp [contN]
theorem head_enc {z : Int} (hm : may z = true) : ∃ b rest, encodeRune z = b :: rest ∧ headS (b.toNat : Int) = ((encodeRune z).length : Nat) ∧ contN (headN (b.toNat : Int)) rest = z := by
  have hmz := (may_iff z).1 hm
  by_cases c1 : 0 ≤ z ∧ z ≤ 127
  · have e : encodeRune z = [z.toNat.toUInt8] := by simp [encodeRune,encodeRuneZ_one c1.1 c1.2]
    have a := mod64 (x := z) (by omega) (by omega)
    refine ⟨_, _, e, ?_, ?_⟩
    · rw [e, a]; unfold headS; rw [if_pos (by omega)]; rfl
    · rw [a]; unfold headN; rw [if_pos (by omega)]; simp [contN]; omega
  · by_cases c2 : 128 ≤ z ∧ z ≤ 2047
    · have e : encodeRune z = [(192 + z / 64).toNat.toUInt8, (128 + z % 64).toNat.toUInt8] := by simp [encodeRune,encodeRuneZ_two c2.1 c2.2]
      have a := mod64 (x := 192 + z / 64) (by omega) (by omega)
      have b := mod64 (x := 128 + z % 64) (by omega) (by omega)
      refine ⟨_, _, e, ?_, ?_⟩
      · rw [e, a]; unfold headS; rw [if_neg (by omega), if_pos (by omega)]; rfl
      · rw [a]; unfold headN; rw [if_neg (by omega), if_pos (by omega)]; simp only [contN,List.foldl_cons,List.foldl_nil,b]; omega
    · by_cases c3 : z ≤ 65535
      · have e : encodeRune z = [(224 + z / 4096).toNat.toUInt8, (128 + z / 64 % 64).toNat.toUInt8, (128 + z % 64).toNat.toUInt8] := by simp [encodeRune,encodeRuneZ_three (r := z) (by omega)]
        have a := mod64 (x := 224 + z / 4096) (by omega) (by omega)
        have b := mod64 (x := 128 + z / 64 % 64) (by omega) (by omega)
        have c := mod64 (x := 128 + z % 64) (by omega) (by omega)
        refine ⟨_, _, e, ?_, ?_⟩
        · rw [e, a]; unfold headS; rw [if_neg (by omega), if_neg (by omega), if_pos (by omega)]; rfl
        · rw [a]; unfold headN; rw [if_neg (by omega), if_neg (by omega), if_pos (by omega)]; simp only [contN,List.foldl_cons,List.foldl_nil,b,c]; omega
      · have e : encodeRune z = [(240 + z / 262144).toNat.toUInt8, (128 + z / 4096 % 64).toNat.toUInt8, (128 + z / 64 % 64).toNat.toUInt8, (128 + z % 64).toNat.toUInt8] := by simp [encodeRune,encodeRuneZ_four (r := z) (by omega) (by omega)]
        have a := mod64 (x := 240 + z / 262144) (by omega) (by omega)
        have b := mod64 (x := 128 + z / 4096 % 64) (by omega) (by omega)
        have c := mod64 (x := 128 + z / 64 % 64) (by omega) (by omega)
        have d := mod64 (x := 128 + z % 64) (by omega) (by omega)
        refine ⟨_, _, e, ?_, ?_⟩
        · rw [e, a]; unfold headS; rw [if_neg (by omega), if_neg (by omega), if_neg (by omega), if_pos (by omega)]; rfl
        · rw [a]; unfold headN; rw [if_neg (by omega), if_neg (by omega), if_neg (by omega), if_pos (by omega)]; simp only [contN,List.foldl_cons,List.foldl_nil,b,c,d]; omega
theorem one_yes {l : List UInt8} {n : Int} {k : Nat} (hm : may n = true) (he : encodeRune n = l.take k) (hk : k ≤ l.length) : one l = some (n, k) := by
  have h := one_enc hm (l.drop k)
  have hlen : (encodeRune n).length = k := by rw [he, List.length_take]; omega
  rw [hlen, he, List.take_append_drop] at h
  exact h
theorem one_no {b : UInt8} {l : List UInt8} {k : Nat} (hs : headS (b.toNat : Int) = k) (hno : k = 0 ∨ (b :: l).length < k ∨ (k ≤ (b :: l).length ∧ ∀ n, n = contN (headN (b.toNat : Int)) (l.take (k - 1)) → may n = true → encodeRune n ≠ (b :: l).take k)) : one (b :: l) = none := by
  cases h : one (b :: l) with
  | none => rfl
  | some p =>
    obtain ⟨z, j⟩ := p
    obtain ⟨_, hm, he, hj1, hj2⟩ := one_some h
    obtain ⟨b', rest, e1, e2, e3⟩ := head_enc hm
    have hlen : (encodeRune z).length = j := by rw [he, List.length_take]; omega
    obtain ⟨j', rfl⟩ : ∃ j', j = j' + 1 := ⟨j - 1, by omega⟩
    rw [he, List.take_succ_cons] at e1
    obtain ⟨e4, e5⟩ := List.cons.inj e1
    subst e4
    rw [hlen] at e2
    have hkj : k = j' + 1 := by rw [hs] at e2; exact Int.ofNat.inj e2
    subst hkj
    rcases hno with h0 | h0 | ⟨_, h0⟩
    · omega
    · omega
    · refine absurd he (h0 z ?_ hm)
      rw [← e3, ← e5]; rfl
def ptsErr (l : List UInt8) : Int := if 16384 < l.length then 4 else match dec l with | none => 50 | some _ => 0
theorem ptsErr_len {s : List UInt8} (h : ptsErr s = 0) : s.length ≤ 16384 := by
  unfold ptsErr at h
  split at h
  · omega
  · omega
def escB (q : Bool) (c : UInt8) : List UInt8 :=
  if c = 38 then [38, 97, 109, 112, 59] else if c = 60 then [38, 108, 116, 59] else if c = 62 then [38, 103, 116, 59] else if c = 13 then [38, 35, 49, 51, 59]
  else if q = true then (if c = 34 then [38, 113, 117, 111, 116, 59] else if c = 9 then [38, 35, 57, 59] else if c = 10 then [38, 35, 49, 48, 59] else [c]) else [c]
def escW (q : Bool) (s : List UInt8) : List UInt8 := s.flatMap (escB q)
theorem escB_length (q : Bool) (c : UInt8) : 1 ≤ (escB q c).length ∧ (escB q c).length ≤ 6 := by
  unfold escB
  repeat' split
  all_goals simp
theorem escW_length (q : Bool) (s : List UInt8) : s.length ≤ (escW q s).length ∧ (escW q s).length ≤ 6 * s.length := by
  induction s with
  | nil => simp [escW]
  | cons c s ih =>
    have := escB_length q c
    simp only [escW,List.flatMap_cons,List.length_append,List.length_cons] at ih ⊢
    omega
theorem dec_app : ∀ (p : List Int) (r : List UInt8), p.all may = true → dec (enc p ++ r) = (dec r).map (p ++ ·)
  | [], r, _ => by simp [enc]
  | z :: p, r, h => by
    simp only [List.all_cons,Bool.and_eq_true] at h
    have e : enc (z :: p) ++ r = encodeRune z ++ (enc p ++ r) := by simp [enc]
    rw [e, dec_step (one_enc h.1 _), List.drop_left, dec_app p r h.2, Option.map_map]
    congr 1
theorem dec_both {a b : List UInt8} {x y : List Int} (ha : dec a = some x) (hb : dec b = some y) : dec (a ++ b) = some (x ++ y) := by
  obtain ⟨h1, rfl⟩ := (dec_iff a x).1 ha
  rw [dec_app x b h1, hb]; rfl
def letB (c : UInt8) : Bool := (decide (97 ≤ c.toNat) && decide (c.toNat ≤ 122)) || (decide (65 ≤ c.toNat) && decide (c.toNat ≤ 90)) || decide (c = 95)
def partB (first : Bool) (c : UInt8) : Bool := letB c || (!first && ((decide (48 ≤ c.toNat) && decide (c.toNat ≤ 57)) || decide (c = 46) || decide (c = 45)))
def nameL : List UInt8 → Bool
  | [] => false
  | c :: r => partB true c && r.all (partB false)
def cut1 (d : UInt8) : List UInt8 → Option (List UInt8 × List UInt8)
  | [] => none
  | c :: r => if c = d then some ([], r) else (cut1 d r).map (fun p => (c :: p.1, p.2))
def fullL (s : List UInt8) : Bool := match cut1 58 s with
  | none => nameL s
  | some (a, b) => nameL a && nameL b
theorem cut1_none {d : UInt8} : ∀ {s : List UInt8}, cut1 d s = none ↔ d ∉ s
  | [] => by simp [cut1]
  | c :: r => by
    simp only [cut1]
    by_cases h : c = d
    · simp [h]
    · rw [if_neg h]
      simp only [Option.map_eq_none_iff,cut1_none (s := r),List.mem_cons,not_or]
      constructor
      · intro h2; exact ⟨fun e => h e.symm, h2⟩
      · intro h2; exact h2.2
theorem cut1_some {d : UInt8} : ∀ {s a b : List UInt8}, cut1 d s = some (a, b) → s = a ++ d :: b ∧ d ∉ a
  | [], a, b, h => by simp [cut1] at h
  | c :: r, a, b, h => by
    simp only [cut1] at h
    by_cases hc : c = d
    · rw [if_pos hc] at h; cases h; subst hc; simp
    · rw [if_neg hc] at h
      obtain ⟨⟨a', b'⟩, h1, h2⟩ := Option.map_eq_some_iff.1 h
      cases h2
      obtain ⟨e1, e2⟩ := cut1_some h1
      refine ⟨by rw [e1]; rfl, ?_⟩
      simp only [List.mem_cons,not_or]
      exact ⟨fun e => hc e.symm, e2⟩
theorem cut1_of {d : UInt8} : ∀ {a b : List UInt8}, d ∉ a → cut1 d (a ++ d :: b) = some (a, b)
  | [], b, _ => by simp [cut1]
  | c :: a, b, h => by
    simp only [List.mem_cons,not_or] at h
    simp only [List.cons_append,cut1]
    rw [if_neg (fun e => h.1 e.symm), cut1_of h.2]; rfl
theorem cut1_at {d : UInt8} {s : List UInt8} {i : Nat} (h1 : d ∉ s.take i) (h2 : s[i]? = some d) : cut1 d s = some (s.take i, s.drop (i + 1)) := by
  obtain ⟨hi, he⟩ := List.getElem?_eq_some_iff.1 h2
  have : s = s.take i ++ d :: s.drop (i + 1) := by
    conv => lhs; rw [← List.take_append_drop i s]
    rw [List.drop_eq_getElem_cons hi, he]
  have h3 := cut1_of (b := s.drop (i + 1)) h1
  rwa [← this] at h3
theorem index1_none {d : UInt8} {s : List UInt8} : indexByte s d = -1 ↔ cut1 d s = none := by
  rw [cut1_none]
  constructor
  · intro h hm
    obtain ⟨k, hk, rfl⟩ := List.getElem_of_mem hm
    exact indexByte_none h k (List.getElem?_eq_getElem hk)
  · intro h
    have hge := indexByte_ge s d
    by_cases hneg : indexByte s d = -1
    · exact hneg
    · obtain ⟨o, ho⟩ : ∃ o : Nat, indexByte s d = o := ⟨(indexByte s d).toNat, by omega⟩
      exact absurd (List.mem_of_getElem? (indexByte_some ho).1) h
theorem index1_some {d : UInt8} {s a b : List UInt8} (h : cut1 d s = some (a, b)) : indexByte s d = a.length ∧ s.take a.length = a ∧ s.drop (a.length + 1) = b ∧ a.length + 1 + b.length = s.length := by
  obtain ⟨h1, h2⟩ := cut1_some h
  have hne : indexByte s d ≠ -1 := fun e => by rw [index1_none.1 e] at h; cases h
  have hge := indexByte_ge s d
  obtain ⟨o, ho⟩ : ∃ o : Nat, indexByte s d = o := ⟨(indexByte s d).toNat, by omega⟩
  obtain ⟨g1, g2⟩ := indexByte_some ho
  have hat := cut1_at (i := o) (fun hm => by
    obtain ⟨k, hk, he⟩ := List.getElem_of_mem hm
    rw [List.length_take] at hk
    rw [List.getElem_take] at he
    exact g2 k (by omega) (by rw [List.getElem?_eq_getElem (by omega), he])) g1
  rw [h] at hat
  cases hat
  have hlt := (List.getElem?_eq_some_iff.1 g1).1
  have hl : (s.take o).length = o := by rw [List.length_take]; omega
  rw [hl]
  refine ⟨ho, rfl, rfl, ?_⟩
  rw [List.length_drop]; omega
def namedTo (s : List UInt8) (k : Nat) : Prop := ∀ (i : Nat) (c : UInt8), i < k → s[i]? = some c → partB (i == 0) c = true
theorem nameL_true {s : List UInt8} (hne : s ≠ []) (h : namedTo s s.length) : nameL s = true := by
  cases s with
  | nil => exact absurd rfl hne
  | cons c r =>
    have h0 := h 0 c (by simp) (by simp)
    simp only [beq_self_eq_true] at h0
    simp only [nameL,h0,Bool.true_and,List.all_eq_true]
    intro x hx
    obtain ⟨k, hk, rfl⟩ := List.getElem_of_mem hx
    have := h (k + 1) r[k] (by simp; omega) (by simp [hk])
    have h3 : ((k + 1) == 0) = false := beq_false_of_ne (by omega)
    rwa [h3] at this
theorem nameL_false {s : List UInt8} {k : Nat} {c : UInt8} (hc : s[k]? = some c) (h : partB (k == 0) c = false) : nameL s = false := by
  cases s with
  | nil => simp at hc
  | cons x r =>
    cases k with
    | zero =>
      simp at hc; subst hc
      simp only [beq_self_eq_true] at h
      simp [nameL,h]
    | succ k =>
      have h3 : ((k + 1) == 0) = false := beq_false_of_ne (by omega)
      rw [h3] at h
      simp only [List.getElem?_cons_succ] at hc
      simp only [nameL,Bool.and_eq_false_iff,List.all_eq_false]
      right
      exact ⟨c, List.mem_of_getElem? hc, by rw [h]; simp⟩
theorem beq_byte (c d : UInt8) : ((c.toNat : Int) == (d.toNat : Int)) = decide (c = d) := by
  rw [Bool.eq_iff_iff, beq_iff_eq, decide_eq_true_iff]
  constructor
  · intro h; exact UInt8.toNat_inj.1 (by omega)
  · rintro rfl; rfl
theorem ptsErr_iff {s : List UInt8} : ptsErr s = 0 ↔ s.length ≤ 16384 ∧ (dec s).isSome = true := by
  unfold ptsErr
  split
  · constructor
    · intro h; omega
    · rintro ⟨h, _⟩; omega
  · rename_i hl
    cases dec s with
    | none => simp
    | some z => simp; omega
structure Pr where
  name : List UInt8
  value : List UInt8
deriving DecidableEq
structure Tk where
  kind : Nat
  name : List UInt8
  attrs : List Pr
  text : List UInt8
deriving DecidableEq
def okP (l : List Pr) (a : Pr) : Bool := !(l.any fun b => a.name == b.name) && fullL a.name && decide (ptsErr a.value = 0)
def attrsTo (l : List Pr) (k : Nat) : Prop := ∀ (i : Nat) (a : Pr), i < k → l[i]? = some a → okP (l.take i) a = true
def attrsL (l : List Pr) : Bool := decide (l.length ≤ 16) && l.zipIdx.all fun p => okP (l.take p.2) p.1
theorem attrs_iff {l : List Pr} : attrsL l = true ↔ l.length ≤ 16 ∧ attrsTo l l.length := by
  unfold attrsL attrsTo
  simp only [Bool.and_eq_true,decide_eq_true_eq,List.all_eq_true]
  refine and_congr_right fun _ => ⟨fun h i a hi ha => ?_, fun h p hp => ?_⟩
  · refine h (a, i) ?_
    rw [List.mem_zipIdx_iff_getElem?]; exact ha
  · have := (List.mem_zipIdx_iff_getElem?).1 hp
    exact h p.2 p.1 (List.getElem?_eq_some_iff.1 this).1 this
def tokL (t : Tk) : Bool :=
  if t.kind = 1 ∨ t.kind = 3 then fullL t.name && attrsL t.attrs && t.text.isEmpty
  else if t.kind = 2 then fullL t.name && t.attrs.isEmpty && t.text.isEmpty
  else if t.kind = 4 then t.name.isEmpty && t.attrs.isEmpty && !t.text.isEmpty && decide (ptsErr t.text = 0)
  else false
def attrW (a : Pr) : List UInt8 := [32] ++ a.name ++ [61, 34] ++ escW true a.value ++ [34]
def attrsW (l : List Pr) : List UInt8 := l.flatMap attrW
def tokW (t : Tk) : List UInt8 :=
  if t.kind = 4 then escW false t.text
  else if t.kind = 2 then [60, 47] ++ t.name ++ [62]
  else [60] ++ t.name ++ attrsW t.attrs ++ (if t.kind = 3 then [47, 62] else [62])
def toksW (l : List Tk) : List UInt8 := l.flatMap tokW
def adjL : List Tk → Bool
  | a :: b :: r => (a.kind == 4 && b.kind == 4) || adjL (b :: r)
  | _ => false
structure At where
  space : List UInt8
  name : List UInt8
  value : List UInt8
deriving DecidableEq
structure Nd where
  kind : Nat
  space : List UInt8
  name : List UInt8
  attrs : List At
  text : List UInt8
  many : Int
deriving DecidableEq
structure Gr where
  v : List Nd
  opn : List Nat
def Nd.inc (n : Nd) : Nd := { n with many := n.many + 1 }
def incG (v : List Nd) (opn : List Nat) : List Nd := match opn.getLast? with
  | some k => v.modify k Nd.inc
  | none => v
def addG (g : Gr) (n : Nd) : List Nd := incG g.v g.opn ++ [n]
def blankB (c : UInt8) : Bool := c == 32 || c == 9 || c == 10 || c == 13
def blankL (s : List UInt8) : Bool := s.all blankB
def textN (s : List UInt8) : Nd := ⟨2, [], [], [], s, 0⟩
def givenL (l : List Pr) : List At := l.map fun a => ⟨[], a.name, a.value⟩
def elemN (t : Tk) : Nd := ⟨1, [], t.name, givenL t.attrs, [], 0⟩
def lastName (g : Gr) : Option (List UInt8) := g.opn.getLast?.bind fun k => (g.v[k]?).map Nd.name
def stepG (g : Gr) (t : Tk) (txt : Bool) : Gr × Int :=
  if t.kind = 4 then
    if (txt || (g.opn.isEmpty && !blankL t.text)) = true then (g, 80)
    else if g.opn.isEmpty = true then (g, 0) else (⟨addG g (textN t.text), g.opn⟩, 0)
  else if t.kind = 2 then
    if lastName g = some t.name then (⟨g.v, g.opn.dropLast⟩, 0) else (g, 80)
  else if (g.opn.isEmpty && !g.v.isEmpty) = true then (g, 80)
  else if 12 ≤ g.opn.length then (g, 100)
  else (⟨addG g (elemN t), if t.kind = 1 then g.opn ++ [g.v.length] else g.opn⟩, 0)
def hexD (c : UInt8) : Option Nat := if 48 ≤ c.toNat ∧ c.toNat ≤ 57 then some (c.toNat - 48) else if 97 ≤ c.toNat ∧ c.toNat ≤ 102 then some (c.toNat - 87) else if 65 ≤ c.toNat ∧ c.toNat ≤ 70 then some (c.toNat - 55) else none
def hexV : Nat → List UInt8 → Option Nat
  | n, [] => some n
  | n, c :: r => match hexD c with | none => none | some d => hexV (16 * n + d) r
def hexL (s : List UInt8) : Option Nat := if s = [] ∨ 6 < s.length ∨ s.head? = some 48 then none else hexV 0 s
def decD (c : UInt8) : Option Nat := if 48 ≤ c.toNat ∧ c.toNat ≤ 57 then some (c.toNat - 48) else none
def decV : Nat → List UInt8 → Option Nat
  | n, [] => some n
  | n, c :: r => match decD c with | none => none | some d => decV (10 * n + d) r
def decL (s : List UInt8) : Option Nat := if s = [] ∨ 16 < s.length ∨ (s.head? = some 48 ∧ s ≠ [48]) then none else (decV 0 s).bind fun n => if n ≤ 9007199254740991 then some n else none
def pointW (o : Option Nat) : Option (List UInt8) := o.bind fun n => if may (n : Int) = true then some (encodeRune n) else none
def meantL (s : List UInt8) : Option (List UInt8) :=
  if s = [97, 109, 112] then some [38] else if s = [108, 116] then some [60] else if s = [103, 116] then some [62] else if s = [113, 117, 111, 116] then some [34] else if s = [97, 112, 111, 115] then some [39]
  else if s.head? = some 35 then (if s.tail.head? = some 120 then pointW (hexL s.tail.tail) else pointW (decL s.tail)) else none
theorem cut1_len {d : UInt8} {s a b : List UInt8} (h : cut1 d s = some (a, b)) : b.length < s.length := by
  have := (cut1_some h).1
  rw [this]; simp; omega
def readL : List UInt8 → Option (List UInt8)
  | [] => some []
  | c :: r => if c = 60 then none else if c = 38 then (match h : cut1 59 r with | none => none | some (a, b) => match meantL a with | none => none | some x => (readL b).map (x ++ ·)) else (readL r).map (c :: ·)
termination_by s => s.length
decreasing_by
  · have := cut1_len h; simp; omega
  · simp
theorem readL_nil : readL [] = some [] := by rw [readL]
theorem readL_lt (r : List UInt8) : readL (60 :: r) = none := by rw [readL]; rfl
theorem readL_other {c : UInt8} (h1 : c ≠ 60) (h2 : c ≠ 38) (r : List UInt8) : readL (c :: r) = (readL r).map (c :: ·) := by rw [readL, if_neg h1, if_neg h2]
theorem readL_none {r : List UInt8} (h : cut1 59 r = none) : readL (38 :: r) = none := by
  rw [readL, if_neg (by decide), if_pos rfl]
  split
  · rfl
  · rename_i e; rw [h] at e; cases e
theorem readL_bad {r a b : List UInt8} (h : cut1 59 r = some (a, b)) (hm : meantL a = none) : readL (38 :: r) = none := by
  rw [readL, if_neg (by decide), if_pos rfl]
  split
  · rfl
  · rename_i e; rw [h] at e; cases e; rw [hm]
theorem readL_ref {r a b x : List UInt8} (h : cut1 59 r = some (a, b)) (hm : meantL a = some x) : readL (38 :: r) = (readL b).map (x ++ ·) := by
  rw [readL, if_neg (by decide), if_pos rfl]
  split
  · rename_i e; rw [h] at e; cases e
  · rename_i e; rw [h] at e; cases e; rw [hm]
theorem meant_amp : meantL [97, 109, 112] = some [38] := by decide
theorem meant_lt : meantL [108, 116] = some [60] := by decide
theorem meant_gt : meantL [103, 116] = some [62] := by decide
theorem meant_quot : meantL [113, 117, 111, 116] = some [34] := by decide
theorem enc_low {z : Int} (h0 : 0 ≤ z) (h : z < 128) : encodeRune z = [z.toNat.toUInt8] := by
  unfold encodeRune encodeRuneZ
  rw [if_pos (by omega)]
  rfl
theorem enc_high {z : Int} (h : 128 ≤ z) : ∀ c ∈ encodeRune z, 128 ≤ c.toNat := by
  intro c hc
  unfold encodeRune encodeRuneZ at hc
  rw [if_neg (by omega)] at hc
  repeat' split at hc
  all_goals (
    simp only [List.map_cons,List.map_nil,List.mem_cons,List.not_mem_nil,or_false] at hc
    rcases hc with rfl | rfl | rfl | rfl <;> (rw [mod64 (by omega) (by omega)]; omega))
def digitsL (n : Nat) : List UInt8 := if n ≤ 9 then [UInt8.ofNat (48 + n)] else digitsL (n / 10) ++ [UInt8.ofNat (48 + n % 10)]
termination_by n
decreasing_by omega
theorem digits_low {n : Nat} (h : n ≤ 9) : digitsL n = [UInt8.ofNat (48 + n)] := by rw [digitsL, if_pos h]
theorem digits_high {n : Nat} (h : 9 < n) : digitsL n = digitsL (n / 10) ++ [UInt8.ofNat (48 + n % 10)] := by rw [digitsL, if_neg (by omega)]
theorem digits_ne (n : Nat) : digitsL n ≠ [] := by
  by_cases h : n ≤ 9
  · rw [digits_low h]; simp
  · rw [digits_high (by omega)]; simp
theorem digits_head : ∀ (k n : Nat), n ≤ k → n ≠ 0 → (digitsL n).head? ≠ some 48
  | 0, n, h, h0 => absurd (Nat.le_zero.1 h) h0
  | k + 1, n, h, h0 => by
    by_cases h9 : n ≤ 9
    · rw [digits_low h9]
      simp only [List.head?_cons,ne_eq,Option.some.injEq]
      intro e
      have := congrArg UInt8.toNat e
      simp at this
      omega
    · rw [digits_high (by omega)]
      have ih := digits_head k (n / 10) (by omega) (by omega)
      have hne := digits_ne (n / 10)
      cases hd : digitsL (n / 10) with
      | nil => exact absurd hd hne
      | cons a b => rw [hd] at ih; simpa using ih
theorem decD_range {c : UInt8} {d : Nat} (h : decD c = some d) : d ≤ 9 ∧ c = UInt8.ofNat (48 + d) ∧ c.toNat = 48 + d := by
  unfold decD at h
  split at h
  · cases h
    refine ⟨by omega, ?_, by omega⟩
    have : 48 + (c.toNat - 48) = c.toNat := by omega
    rw [this]; simp
  · cases h
theorem decV_snoc : ∀ (s : List UInt8) (n : Nat) (c : UInt8), decV n (s ++ [c]) = (decV n s).bind fun m => (decD c).map fun d => 10 * m + d
  | [], n, c => by
    simp only [List.nil_append,decV,Option.bind_some]
    cases decD c <;> rfl
  | x :: s, n, c => by
    simp only [List.cons_append,decV]
    cases decD x with
    | none => rfl
    | some d => exact decV_snoc s _ c
theorem decV_le : ∀ (s : List UInt8) (n m : Nat), decV n s = some m → n ≤ m ∧ m < (n + 1) * 10 ^ s.length
  | [], n, m, h => by simp only [decV] at h; cases h; simp
  | x :: s, n, m, h => by
    simp only [decV] at h
    cases hx : decD x with
    | none => rw [hx] at h; cases h
    | some d =>
      rw [hx] at h
      have hd := (decD_range hx).1
      obtain ⟨h1, h2⟩ := decV_le s _ m h
      refine ⟨by omega, Nat.lt_of_lt_of_le h2 ?_⟩
      rw [List.length_cons, Nat.pow_succ', ← Nat.mul_assoc]
      exact Nat.mul_le_mul_right _ (by omega)
theorem decV_pos {s : List UInt8} {m : Nat} (h : decV 0 s = some m) (hne : s ≠ []) (h0 : s.head? ≠ some 48) : m ≠ 0 := by
  cases s with
  | nil => exact absurd rfl hne
  | cons c s =>
    simp only [decV] at h
    cases hx : decD c with
    | none => rw [hx] at h; cases h
    | some d =>
      rw [hx] at h
      have h1 := (decV_le s _ m h).1
      have hd := (decD_range hx).2.2
      have : d ≠ 0 := by
        intro e; subst e
        refine h0 ?_
        simp only [List.head?_cons,Option.some.injEq]
        exact UInt8.toNat_inj.1 (by simpa using hd)
      omega
theorem digits_dec : ∀ (k : Nat) (s : List UInt8) (n : Nat), s.length ≤ k → s ≠ [] → decV 0 s = some n → (digitsL n = s ↔ (s.head? ≠ some 48 ∨ s = [48]))
  | 0, s, n, h, hne, _ => absurd (List.length_eq_zero_iff.1 (Nat.le_zero.1 h)) hne
  | k + 1, s, n, hk, hne, h => by
    obtain ⟨t, c, rfl⟩ : ∃ t c, s = t ++ [c] := ⟨s.dropLast, s.getLast hne, (List.dropLast_concat_getLast hne).symm⟩
    rw [decV_snoc] at h
    obtain ⟨m, hm, h2⟩ := Option.bind_eq_some_iff.1 h
    obtain ⟨d, hd, rfl⟩ := Option.map_eq_some_iff.1 h2
    obtain ⟨d9, hc, hcn⟩ := decD_range hd
    by_cases ht : t = []
    · subst ht
      simp only [decV] at hm; cases hm
      simp only [Nat.mul_zero,Nat.zero_add,List.nil_append,List.head?_cons]
      rw [digits_low d9, ← hc]
      refine ⟨fun _ => ?_, fun _ => rfl⟩
      by_cases e : c = 48
      · subst e; right; rfl
      · left; simp [e]
    · by_cases h0 : t.head? = some 48
      · have hh : (t ++ [c]).head? = some 48 := by cases t with | nil => exact absurd rfl ht | cons a b => simpa using h0
        constructor
        · intro e
          exfalso
          rw [← e] at hh
          by_cases hz : 10 * m + d = 0
          · rw [hz, digits_low (by omega)] at e
            have := congrArg List.length e
            simp at this
            exact ht this
          · exact digits_head _ _ (Nat.le_refl _) hz hh
        · rintro (e | e)
          · exact absurd hh e
          · exfalso
            have := congrArg List.length e
            simp at this
            exact ht this
      · have hm0 := decV_pos hm ht h0
        have ih := (digits_dec k t m (by simp at hk; omega) ht hm).2 (.inl h0)
        have hh : (t ++ [c]).head? ≠ some 48 := by cases t with | nil => exact absurd rfl ht | cons a b => simpa using h0
        refine ⟨fun _ => .inl hh, fun _ => ?_⟩
        rw [digits_high (by omega), show (10 * m + d) / 10 = m by omega, show (10 * m + d) % 10 = d by omega, ih, hc]
def skipL (s : List UInt8) : List UInt8 := s.dropWhile blankB
def wordB (c : UInt8) : Bool := partB false c || c == 58
def wordT (s : List UInt8) : List UInt8 := s.takeWhile wordB
def wordR (s : List UInt8) : List UInt8 := s.dropWhile wordB
def nameO (s : List UInt8) : Option (List UInt8 × List UInt8) := if fullL (wordT s) = true then some (wordT s, wordR s) else none
def flatB (c : UInt8) : UInt8 := if blankB c = true then 32 else c
def toldO (s : List UInt8) : Option (List UInt8) := readL (s.map flatB)
def quoteO : List UInt8 → Option (List UInt8 × List UInt8)
  | [] => none
  | q :: t => if q = 39 ∨ q = 34 then cut1 q t else none
def valueO (s : List UInt8) : Option (List UInt8 × List UInt8) := (quoteO s).bind fun p => (toldO p.1).map fun v => (v, p.2)
def afterO (c : UInt8) : List UInt8 → Option (List UInt8)
  | [] => none
  | d :: t => if d = c then some t else none
def attrO (s : List UInt8) : Option (Pr × List UInt8) := (nameO s).bind fun p => (afterO 61 (skipL p.2)).bind fun t => (valueO (skipL t)).map fun q => (⟨p.1, q.1⟩, q.2)
theorem dropWhile_le {p : UInt8 → Bool} : ∀ s : List UInt8, (s.dropWhile p).length ≤ s.length
  | [] => Nat.le_refl _
  | c :: s => by
    rw [List.dropWhile_cons]
    split
    · have := dropWhile_le (p := p) s; simp; omega
    · exact Nat.le_refl _
theorem skip_le (s : List UInt8) : (skipL s).length ≤ s.length := dropWhile_le s
theorem word_split (s : List UInt8) : s = wordT s ++ wordR s := (List.takeWhile_append_dropWhile).symm
theorem full_ne {s : List UInt8} (h : fullL s = true) : s ≠ [] := by
  intro e; subst e; cases h
theorem name_lt {s n r : List UInt8} (h : nameO s = some (n, r)) : s = n ++ r ∧ n ≠ [] ∧ fullL n = true ∧ r.length < s.length := by
  unfold nameO at h
  split at h
  · rename_i hf
    cases h
    have h1 := word_split s
    have h2 := full_ne hf
    refine ⟨h1, h2, hf, ?_⟩
    have := congrArg List.length h1
    rw [List.length_append] at this
    have := List.length_pos_iff.2 h2
    omega
  · cases h
theorem after_cons (c d : UInt8) (t : List UInt8) : afterO c (d :: t) = if d = c then some t else none := rfl
theorem quote_cons (q : UInt8) (t : List UInt8) : quoteO (q :: t) = if q = 39 ∨ q = 34 then cut1 q t else none := rfl
theorem after_some {c : UInt8} {s t : List UInt8} (h : afterO c s = some t) : s = c :: t := by
  cases s with
  | nil => cases h
  | cons d s =>
    rw [after_cons] at h
    split at h
    · rename_i e; cases h; rw [e]
    · cases h
theorem quote_some {s a b : List UInt8} (h : quoteO s = some (a, b)) : ∃ q, (q = 39 ∨ q = 34) ∧ s = q :: (a ++ q :: b) ∧ q ∉ a := by
  cases s with
  | nil => cases h
  | cons q t =>
    rw [quote_cons] at h
    split at h
    · rename_i hq
      obtain ⟨h1, h2⟩ := cut1_some h
      exact ⟨q, hq, by rw [h1], h2⟩
    · cases h
theorem value_some {s v r : List UInt8} (h : valueO s = some (v, r)) : ∃ a, quoteO s = some (a, r) ∧ toldO a = some v := by
  unfold valueO at h
  obtain ⟨⟨a, b⟩, h1, h2⟩ := Option.bind_eq_some_iff.1 h
  obtain ⟨x, h3, h4⟩ := Option.map_eq_some_iff.1 h2
  cases h4
  exact ⟨a, h1, h3⟩
theorem attr_some {s r : List UInt8} {a : Pr} (h : attrO s = some (a, r)) : ∃ r1 t, nameO s = some (a.name, r1) ∧ skipL r1 = 61 :: t ∧ valueO (skipL t) = some (a.value, r) := by
  unfold attrO at h
  obtain ⟨⟨n, r1⟩, h1, h2⟩ := Option.bind_eq_some_iff.1 h
  obtain ⟨t, h3, h4⟩ := Option.bind_eq_some_iff.1 h2
  obtain ⟨⟨v, r2⟩, h5, h6⟩ := Option.map_eq_some_iff.1 h4
  cases h6
  exact ⟨r1, t, h1, after_some h3, h5⟩
theorem attr_lt {s r : List UInt8} {a : Pr} (h : attrO s = some (a, r)) : r.length < s.length := by
  obtain ⟨r1, t, h1, h2, h3⟩ := attr_some h
  have l1 := (name_lt h1).2.2.2
  have l2 := skip_le r1
  rw [h2] at l2
  have l3 := skip_le t
  obtain ⟨v, h4, _⟩ := value_some h3
  obtain ⟨q, _, h5, _⟩ := quote_some h4
  rw [h5] at l3
  simp only [List.length_cons,List.length_append] at l2 l3
  omega
def endO : List UInt8 → Option (Nat × List UInt8)
  | 62 :: t => some (1, t)
  | 47 :: 62 :: t => some (3, t)
  | _ => none
def tagL (n : List UInt8) (l : List Pr) (s : List UInt8) : Option (Tk × List UInt8) :=
  match endO (skipL s) with
  | some (k, t) => some (⟨k, n, l, []⟩, t)
  | none => if (skipL s).length < s.length then (match h : attrO (skipL s) with
    | none => none
    | some (a, r) => if (l.any fun b => a.name == b.name) = true then none else tagL n (l ++ [a]) r) else none
termination_by s.length
decreasing_by
  have := attr_lt h
  have := skip_le s
  omega
theorem tag_end {n : List UInt8} {l : List Pr} {s t : List UInt8} {k : Nat} (h : endO (skipL s) = some (k, t)) : tagL n l s = some (⟨k, n, l, []⟩, t) := by rw [tagL, h]
theorem tag_gap {n : List UInt8} {l : List Pr} {s : List UInt8} (h : endO (skipL s) = none) (h2 : ¬ (skipL s).length < s.length) : tagL n l s = none := by rw [tagL, h]; simp only [if_neg h2]
theorem tag_bad {n : List UInt8} {l : List Pr} {s : List UInt8} (h : endO (skipL s) = none) (h2 : attrO (skipL s) = none) : tagL n l s = none := by
  rw [tagL, h]; simp only
  split
  · split
    · rfl
    · rename_i e; rw [h2] at e; cases e
  · rfl
theorem tag_twice {n : List UInt8} {l : List Pr} {s r : List UInt8} {a : Pr} (h : endO (skipL s) = none) (h2 : attrO (skipL s) = some (a, r)) (h3 : (l.any fun b => a.name == b.name) = true) : tagL n l s = none := by
  rw [tagL, h]; simp only
  split
  · split
    · rfl
    · rename_i e; rw [h2] at e; cases e; rw [if_pos h3]
  · rfl
theorem tag_attr {n : List UInt8} {l : List Pr} {s r : List UInt8} {a : Pr} (h : endO (skipL s) = none) (hg : (skipL s).length < s.length) (h2 : attrO (skipL s) = some (a, r)) (h3 : (l.any fun b => a.name == b.name) = false) : tagL n l s = tagL n (l ++ [a]) r := by
  rw [tagL, h]; simp only [if_pos hg]
  split
  · rename_i e; rw [h2] at e; cases e
  · rename_i e; rw [h2] at e; cases e; rw [if_neg (by simp [h3])]
def tagO (s : List UInt8) : Option (Tk × List UInt8) :=
  match afterO 47 s with
  | some t => (nameO t).bind fun p => (afterO 62 (skipL p.2)).map fun r => (⟨2, p.1, [], []⟩, r)
  | none => (nameO s).bind fun p => tagL p.1 [] p.2
def textB (c : UInt8) : Bool := c != 60
def textT (s : List UInt8) : List UInt8 := s.takeWhile textB
def textR (s : List UInt8) : List UInt8 := s.dropWhile textB
def oneO (s : List UInt8) : Option (Tk × List UInt8) :=
  match afterO 60 s with
  | some t => tagO t
  | none => (readL (textT s)).map fun x => (⟨4, [], [], x⟩, textR s)
theorem tagL_lt : ∀ (k : Nat) (n : List UInt8) (l : List Pr) (s r : List UInt8) (t : Tk), s.length ≤ k → tagL n l s = some (t, r) → r.length < s.length := by
  intro k
  induction k with
  | zero =>
    intro n l s r t hk h
    obtain rfl := List.length_eq_zero_iff.1 (Nat.le_zero.1 hk)
    rw [tag_gap (by rfl) (by simp [skipL])] at h; cases h
  | succ k ih =>
    intro n l s r t hk h
    have hs := skip_le s
    cases he : endO (skipL s) with
    | some p =>
      obtain ⟨m, u⟩ := p
      rw [tag_end he] at h
      cases h
      unfold endO at he
      split at he
      · rename_i e; cases he; rw [e] at hs; simp at hs; omega
      · rename_i e; cases he; rw [e] at hs; simp at hs; omega
      · cases he
    | none =>
      cases ha : attrO (skipL s) with
      | none => rw [tag_bad he ha] at h; cases h
      | some p =>
        obtain ⟨a, u⟩ := p
        have hl := attr_lt ha
        cases hd : l.any fun b => a.name == b.name with
        | true => rw [tag_twice he ha hd] at h; cases h
        | false =>
          by_cases hg : (skipL s).length < s.length
          · rw [tag_attr he hg ha hd] at h
            have := ih n _ u r t (by omega) h
            omega
          · rw [tag_gap he hg] at h; cases h
theorem tag_lt {s r : List UInt8} {t : Tk} (h : tagO s = some (t, r)) : r.length < s.length := by
  unfold tagO at h
  split at h
  · rename_i u hu
    obtain ⟨⟨n, r1⟩, h1, h2⟩ := Option.bind_eq_some_iff.1 h
    obtain ⟨r2, h3, h4⟩ := Option.map_eq_some_iff.1 h2
    cases h4
    have l1 := (name_lt h1).2.2.2
    have l2 := skip_le r1
    rw [after_some h3] at l2
    rw [after_some hu]
    simp only [List.length_cons] at l2 ⊢
    omega
  · obtain ⟨⟨n, r1⟩, h1, h2⟩ := Option.bind_eq_some_iff.1 h
    have l1 := (name_lt h1).2.2.2
    have l2 := tagL_lt _ n [] r1 r t (Nat.le_refl _) h2
    omega
theorem one_lt {s r : List UInt8} {t : Tk} (hne : s ≠ []) (h : oneO s = some (t, r)) : r.length < s.length := by
  unfold oneO at h
  split at h
  · rename_i u hu
    have := tag_lt h
    rw [after_some hu]; simp; omega
  · rename_i hu
    obtain ⟨x, _, h2⟩ := Option.map_eq_some_iff.1 h
    cases h2
    cases s with
    | nil => exact absurd rfl hne
    | cons c s =>
      have hc : textB c = true := by
        rw [after_cons] at hu
        split at hu
        · cases hu
        · rename_i e; simp [textB,e]
      unfold textR
      rw [List.dropWhile_cons, if_pos hc]
      have := dropWhile_le (p := textB) s
      simp; omega
def lexG (n : Nat) (l : List Tk) (s : List UInt8) : List Tk × Nat × Int :=
  if hn : s = [] then (l, 0, 0) else if 512 ≤ l.length then ([], n - s.length, 4) else match h : oneO s with
    | none => ([], n - s.length, 80)
    | some (t, r) => if 16 < t.attrs.length then ([], n - s.length, 4) else lexG n (l ++ [t]) r
termination_by s.length
decreasing_by exact one_lt hn h
theorem lexG_nil (n : Nat) (l : List Tk) : lexG n l [] = (l, 0, 0) := by rw [lexG, dif_pos rfl]
theorem lexG_many {n : Nat} {l : List Tk} {s : List UInt8} (h : s ≠ []) (h2 : 512 ≤ l.length) : lexG n l s = ([], n - s.length, 4) := by rw [lexG, dif_neg h, if_pos h2]
theorem lexG_bad {n : Nat} {l : List Tk} {s : List UInt8} (h : s ≠ []) (h2 : l.length < 512) (h3 : oneO s = none) : lexG n l s = ([], n - s.length, 80) := by
  rw [lexG, dif_neg h, if_neg (by omega)]
  split
  · rfl
  · rename_i e; rw [h3] at e; cases e
theorem lexG_great {n : Nat} {l : List Tk} {s r : List UInt8} {t : Tk} (h : s ≠ []) (h2 : l.length < 512) (h3 : oneO s = some (t, r)) (h4 : 16 < t.attrs.length) : lexG n l s = ([], n - s.length, 4) := by
  rw [lexG, dif_neg h, if_neg (by omega)]
  split
  · rename_i e; rw [h3] at e; cases e
  · rename_i e; rw [h3] at e; cases e; rw [if_pos h4]
theorem lexG_go {n : Nat} {l : List Tk} {s r : List UInt8} {t : Tk} (h : s ≠ []) (h2 : l.length < 512) (h3 : oneO s = some (t, r)) (h4 : t.attrs.length ≤ 16) : lexG n l s = lexG n (l ++ [t]) r := by
  rw [lexG, dif_neg h, if_neg (by omega)]
  split
  · rename_i e; rw [h3] at e; cases e
  · rename_i e; rw [h3] at e; cases e; rw [if_neg (by omega)]
def lexA (s : List UInt8) : List Tk × Nat × Int := if ptsErr s ≠ 0 then ([], 0, ptsErr s) else lexG s.length [] s
end Go.Proofs.YtoaclokiggoeiaaGreatDoor
namespace Go.Proofs.YtoaclokiggoeiaaGreatDoor
set_option maxRecDepth 100000
set_option maxHeartbeats 32000000
set_option linter.unusedSimpArgs false
set_option linter.unusedVariables false
open Nat renaming reduceAdd → Ka, reduceMul → Kb, reduceEqDiff → Kc, reduceLeDiff → Kd, reduceSub → Ke, reduceLT → Kf, reduceBEq → Kr, reduceBNe → Ks, reducePow → Kt
open Int renaming reduceToNat → Kg, reduceLE → Kh, reduceLT → Ki, reduceAdd → Kj, reduceSub → Kk, reduceMul → Kl, reduceNeg → Km, reduceBEq → Kn, reduceBNe → Ko, reduceEq → Kp, reduceNe → Kq
open Go Go.RowKit Go.Proofs.YtoaclokiggoeiaaGreatDoor.Vm
def validB (r : Int) : Bool := (decide (0 ≤ r) && decide (r < 55296)) || (decide (57343 < r) && decide (r ≤ 1114111))
theorem valid_ev (r : Int) (nm : Nat) : Ev cx 75 nm [.int .i32 r] Mem.nil (.bool (validB r)) [] := by
  unfold validB
  refine ev_go rfl (fun cargs w => Tryz.call75 cargs w) Tryz.func75 rfl mixed (by kernel_rfl) rfl ?_; intro b0 hb0
  (repeat' first | simp only [fins,mems,Tryz.results75,Tryz.ntmps75,Kt,wks,vcs,Ka,Kb,Kc,Kd,Ke,Kf,Kg,Kh,Ki,Kj,Kk,Kl,Km,reduceCtorEq,reduceIte,Kn,Ko,Kp,Kq,Kr,Ks,tys] | exact rfl | refine call_off (v := .any) ?_ | ((first | apply cond_bool | apply cond_bit) <;> intro hb) | refine And.intro (by omega) ?_ | refine And.intro (fun hb => ?_) (fun hb => ?_) | refine Fin.pure ?_ ?_ ?_ | simp only [injs])
  all_goals simp_all
theorem tMay_ev (n : Int) (nm : Nat) : Ev cx 56 nm [.int .i64 n] Mem.nil (.bool (may n)) [] := by
  refine ev_go rfl (fun cargs w => Tryz.call56 cargs w) Tryz.func56 rfl mixed (by kernel_rfl) rfl ?_; intro b0 hb0
  (repeat' first | simp only [fins,mems,Tryz.results56,Tryz.ntmps56,Kt,wks,vcs,Ka,Kb,Kc,Kd,Ke,Kf,Kg,Kh,Ki,Kj,Kk,Kl,Km,reduceCtorEq,reduceIte,Kn,Ko,Kp,Kq,Kr,Ks,tys] | exact rfl | refine call_off (v := .any) ?_ | ((first | apply cond_bool | apply cond_bit) <;> intro hb) | refine And.intro (by omega) ?_ | refine And.intro (fun hb => ?_) (fun hb => ?_) | refine Fin.pure ?_ ?_ ?_ | simp only [injs])
  all_goals simp only [decide_eq_true_eq,decide_eq_false_iff_not,beq_iff_eq,beq_eq_false_iff_ne,ne_eq] at *
  all_goals (first | (exfalso; omega) | (exact may_t (by omega)) | (exact may_f (by omega)) | skip)
  have hw : IntKind.i32.wrap n = n := IntWalk.i32_in _ (by omega)
  rw [hw]
  have hv : validB n = may n := by
    cases h : may n with
    | true =>
      have := (may_iff n).1 h
      unfold validB
      simp only [Bool.or_eq_true,Bool.and_eq_true,decide_eq_true_eq]; omega
    | false =>
      have h' : ¬ _ := fun q => by rw [(may_iff n).2 q] at h; cases h
      unfold validB
      simp only [Bool.or_eq_false_iff,Bool.and_eq_false_iff,decide_eq_false_iff_not]; omega
  (repeat' first | simp only [fins,mems,Tryz.results56,Tryz.ntmps56,Kt,wks,hv,vcs,Ka,Kb,Kc,Kd,Ke,Kf,Kg,Kh,Ki,Kj,Kk,Kl,Km,reduceCtorEq,reduceIte,Kn,Ko,Kp,Kq,Kr,Ks,tys] | exact rfl | refine call_off (v := .any) ?_ | (first | (refine call_fn ?_ (valid_ev n _) ?_) | (refine call_fn_g ?_ (fun _ => valid_ev n _) ?_)) | ((first | apply cond_bool | apply cond_bit) <;> intro hb) | refine And.intro (by omega) ?_ | refine And.intro (fun hb => ?_) (fun hb => ?_) | refine Fin.pure ?_ ?_ ?_ | simp only [injs])
def preB (s p : List UInt8) : Bool := decide (p.length ≤ s.length) && (s.take p.length == p)
theorem hasPre_ev (s p : List UInt8) (hs : s.length ≤ lim) (hp : p.length ≤ lim) (nm : Nat) : Ev cx 74 nm [.str s, .str p] Mem.nil (.bool (preB s p)) [] := by
  unfold lim at hs hp
  unfold preB
  refine ev_go rfl (fun cargs w => Tryz.call74 cargs w) Tryz.func74 rfl mixed (by kernel_rfl) rfl ?_; intro b0 hb0
  (repeat' first | simp only [fins,mems,Tryz.results74,Tryz.ntmps74,Kt,wks,decide_eq_true_eq,imp_self,vcs,Ka,Kb,Kc,Kd,Ke,Kf,Kg,Kh,Ki,Kj,Kk,Kl,Km,reduceCtorEq,reduceIte,Kn,Ko,Kp,Kq,Kr,Ks,tys] | exact rfl | refine call_off (v := .any) ?_ | ((first | apply cond_bool | apply cond_bit) <;> intro hb) | refine And.intro (by omega) ?_ | refine And.intro (fun hb => ?_) (fun hb => ?_) | refine Fin.pure ?_ ?_ ?_ | simp only [injs])
theorem pre_ev (s p : List UInt8) (hs : s.length ≤ lim) (hp : p.length ≤ lim) (nm : Nat) : Ev cx 55 nm [.str s, .str p] Mem.nil (.bool (preB s p)) [] := by
  refine ev_go rfl (fun cargs w => Tryz.call55 cargs w) Tryz.func55 rfl mixed (by kernel_rfl) rfl ?_; intro b0 hb0
  (repeat' first | simp only [fins,mems,Tryz.results55,Tryz.ntmps55,Kt,wks,vcs,Ka,Kb,Kc,Kd,Ke,Kf,Kg,Kh,Ki,Kj,Kk,Kl,Km,reduceCtorEq,reduceIte,Kn,Ko,Kp,Kq,Kr,Ks,tys] | exact rfl | refine call_off (v := .any) ?_ | (first | (refine call_fn ?_ (hasPre_ev s p hs hp _) ?_) | (refine call_fn_g ?_ (fun _ => hasPre_ev s p hs hp _) ?_)) | ((first | apply cond_bool | apply cond_bit) <;> intro hb) | refine And.intro (by omega) ?_ | refine And.intro (fun hb => ?_) (fun hb => ?_) | refine Fin.pure ?_ ?_ ?_ | simp only [injs])
def pts (l : List UInt8) : List Int := if 16384 < l.length then [] else (dec l).getD []
def intRow (z : Int) : List V := [.int .i64 z]
theorem preB_eq (s p : List UInt8) : preB s p = Lib.hasPrefix s p := by
  unfold preB Lib.hasPrefix
  rw [Bool.eq_iff_iff]
  simp only [Bool.and_eq_true,decide_eq_true_eq,beq_iff_eq,List.isPrefixOf_iff_prefix,List.prefix_iff_eq_take]
  constructor
  · rintro ⟨_, h⟩; exact h.symm
  · intro h
    refine ⟨?_, h.symm⟩
    have := congrArg List.length h
    simp at this; omega
theorem one_at {s : List UInt8} {p : Nat} (hp : p < s.length) : one (s.drop p) = if ((runeAt s p).1 = 65533 ∧ preB (s.drop p) [239, 191, 189] = false) ∨ may ((runeAt s p).1 : Int) = false then none else some (((runeAt s p).1 : Int), (runeAt s p).2) := by
  have hne : s.drop p ≠ [] := by
    intro h
    have := congrArg List.length h
    simp at this; omega
  have hd : runeAt s p = Lib.decodeL (s.drop p) := decode_drop ⟨s.toArray⟩ p
  rw [hd, preB_eq]
  exact one_of_decode hne
theorem rune_le (s : List UInt8) (p : Nat) : (runeAt s p).1 ≤ 2147483647 := decode_le _ _
theorem take_i (l : List Int) : (l.map intRow).take l.length = l.map intRow := List.take_of_length_le (by simp)
theorem isRow_inst : Ob.isRow instCells = true := rfl
theorem plain_i (l : List Int) : plainLL (l.map intRow) = true := plainLL_map _ (fun _ => rfl) l
theorem ren_ints (σ : List (Nat × Nat)) (l : List Int) : Blk.ren σ ⟨1, l.map intRow⟩ = ⟨1, l.map intRow⟩ := Blk.ren_plain (plain_i l) rfl
theorem points_ev (s : List UInt8) (hs : s.length ≤ lim) (nm : Nat) : Ev cx 39 nm [.str s] Mem.nil (.tup [.sl false 1 ((pts s).map intRow), .int .i64 (ptsErr s)]) [] := by
  unfold lim at hs
  by_cases hbig : 16384 < s.length
  · have he : ptsErr s = 4 := by unfold ptsErr; rw [if_pos hbig]
    have hq : pts s = [] := by unfold pts; rw [if_pos hbig]
    have hd : decide ((16384 : Int) < s.length) = true := decide_eq_true (by omega)
    refine ev_go rfl (fun cargs w => Tryz.call39 cargs w) Tryz.func39 rfl mixed (by kernel_rfl) rfl ?_; intro b0 hb0
    (repeat' first | simp only [fins,mems,Tryz.results39,Tryz.ntmps39,Kt,wks,he,hq,hd,List.map_nil,vcs,Ka,Kb,Kc,Kd,Ke,Kf,Kg,Kh,Ki,Kj,Kk,Kl,Km,reduceCtorEq,reduceIte,Kn,Ko,Kp,Kq,Kr,Ks,tys] | exact rfl | refine call_off (v := .any) ?_ | ((first | apply cond_bool | apply cond_bit) <;> intro hb) | refine And.intro (by omega) ?_ | refine And.intro (fun hb => ?_) (fun hb => ?_) | refine Fin.pure ?_ ?_ ?_ | simp only [injs])
  · have hd : decide ((16384 : Int) < s.length) = false := decide_eq_false (by omega)
    refine ev_go rfl (fun cargs w => Tryz.call39 cargs w) Tryz.func39 rfl mixed (by kernel_rfl) rfl ?_; intro b0 hb0
    repeat' first | simp only [fins,mems,Tryz.results39,Tryz.ntmps39,Kt,wks,hd,vcs,Ka,Kb,Kc,Kd,Ke,Kf,Kg,Kh,Ki,Kj,Kk,Kl,Km,reduceCtorEq,reduceIte,Kn,Ko,Kp,Kq,Kr,Ks,tys] | exact rfl | refine call_off (v := .any) ?_ | (refine ext_range (s := ?_) ?_ ?_ ?_; rotate_left 1; (iterate 2 (focus (simp only [Tryz.results39,Tryz.ntmps39,Kt,wks,hd,vcs,Ka,Kb,Kc,Kd,Ke,Kf,Kg,Kh,Ki,Kj,Kk,Kl,Km,reduceCtorEq,reduceIte,Kn,Ko,Kp,Kq,Kr,Ks,tys] <;> exact rfl)))) | (refine extG_true ?_) | (refine extG_false ?_) | ((first | apply cond_bool | apply cond_bit) <;> intro hb) | refine And.intro (by omega) ?_ | refine And.intro (fun hb => ?_) (fun hb => ?_)
    (refine loop_can2 cxG (fun x : Nat × List Int => s.length - x.1) (fun x => x.1 ≤ s.length ∧ x.2.length ≤ x.1 ∧ dec s = (dec (s.drop x.1)).map (x.2 ++ ·)) (b0 + 16) (fun x => [(0, .str s), (2, .own (b0 + 1) 0 x.2.length), (10, .ptr b0 0 0)]) (fun x => [(b0, iterK s x.1), (b0 + 1, ⟨1, x.2.map intRow⟩)]) ((0, [])) [some (b0 + 96), none] ?_ ?_ ?_ ?_; rotate_left 1; (focus (show b0 ≤ _; omega)); (focus (refine ⟨?_, ?_⟩ <;> (try simp only [cans,isRow_inst,ren_iter,renOk_iter,plain_i,vcs,Ka,Kb,Kc,Kd,Ke,Kf,Kg,Kh,Ki,Kj,Kk,Kl,Km,reduceCtorEq,reduceIte,Kn,Ko,Kp,Kq,Kr,Ks,tys,injs]) <;> (try omega))); rotate_left 1)
    · refine ⟨Nat.zero_le _, Nat.le_refl _, ?_⟩
      rw [List.drop_zero]; cases dec s <;> rfl
    · rintro ⟨p, zs⟩ ⟨h1, h2, h3⟩
      by_cases hp : p < s.length
      · have ho := one_at hp
        have hne : s.drop p ≠ [] := by
          intro h
          have := congrArg List.length h
          simp at this; omega
        have hrl := rune_le s p
        have hw : IntKind.i64.wrap ((runeAt s p).1 : Int) = ((runeAt s p).1 : Int) := wrap_in (by omega) (by omega)
        have hle : (s.drop p).length ≤ lim := by unfold lim; simp; omega
        by_cases hbad : ((runeAt s p).1 = 65533 ∧ preB (s.drop p) [239, 191, 189] = false) ∨ may ((runeAt s p).1 : Int) = false
        · rw [if_pos hbad] at ho
          have hd0 : dec s = none := by
            have := h3
            simp only at this
            rw [this, dec_bad hne ho]; rfl
          have he : ptsErr s = 50 := by unfold ptsErr; rw [if_neg hbig, hd0]
          have hq : pts s = [] := by unfold pts; rw [if_neg hbig, hd0]; rfl
          cases hc : (((runeAt s p).1 : Int) == 65533) <;> cases hpr : preB (s.drop p) [239, 191, 189] <;> cases hm : may ((runeAt s p).1 : Int)
          all_goals (try (exfalso; simp_all; done))
          all_goals ((repeat' first | simp only [fins,mems,Tryz.results39,Tryz.ntmps39,Kt,wks,he,hq,hp,hw,hc,hpr,hm,plain_i,List.map_nil,List.length_drop,vcs,Ka,Kb,Kc,Kd,Ke,Kf,Kg,Kh,Ki,Kj,Kk,Kl,Km,reduceCtorEq,reduceIte,Kn,Ko,Kp,Kq,Kr,Ks,tys] | exact rfl | refine call_off (v := .any) ?_ | (first | (refine call_fn ?_ (pre_ev (s.drop p) [239, 191, 189] hle (by decide) _) ?_) | (refine call_fn_g ?_ (fun _ => pre_ev (s.drop p) [239, 191, 189] hle (by decide) _) ?_) | (refine call_fn ?_ (tMay_ev ((runeAt s p).1 : Int) _) ?_) | (refine call_fn_g ?_ (fun _ => tMay_ev ((runeAt s p).1 : Int) _) ?_)) | (refine ext_next (s := ?_) (y := ?_) (p := ?_) ?_ ?_ ?_ ?_; rotate_left 3; (iterate 2 (focus (simp only [Tryz.results39,Tryz.ntmps39,Kt,wks,he,hq,hp,hw,hc,hpr,hm,plain_i,List.map_nil,List.length_drop,vcs,Ka,Kb,Kc,Kd,Ke,Kf,Kg,Kh,Ki,Kj,Kk,Kl,Km,reduceCtorEq,reduceIte,Kn,Ko,Kp,Kq,Kr,Ks,tys] <;> exact rfl))); (focus (simp only [Tryz.results39,Tryz.ntmps39,Kt,wks,he,hq,hp,hw,hc,hpr,hm,plain_i,List.map_nil,List.length_drop,vcs,Ka,Kb,Kc,Kd,Ke,Kf,Kg,Kh,Ki,Kj,Kk,Kl,Km,reduceCtorEq,reduceIte,Kn,Ko,Kp,Kq,Kr,Ks,tys] <;> omega))) | (refine extG_true ?_) | (refine extG_false ?_) | ((first | apply cond_bool | apply cond_bit) <;> intro hb) | refine And.intro (by omega) ?_ | refine And.intro (fun hb => ?_) (fun hb => ?_) | refine Fin.pure ?_ ?_ ?_ | simp only [injs]))
        · rw [if_neg hbad] at ho
          obtain ⟨_, hm, _, hk1, hk2⟩ := one_some ho
          have hds : dec s = (dec (s.drop (p + (runeAt s p).2))).map ((zs ++ [((runeAt s p).1 : Int)]) ++ ·) := by
            have := h3
            simp only at this
            rw [this, dec_step ho, List.drop_drop]
            cases dec (s.drop (p + (runeAt s p).2)) <;> simp
          have hlen : (s.drop p).length = s.length - p := by simp
          have h2' : zs.length ≤ p := h2
          have hsn : zs.map intRow ++ [[V.int .i64 ((runeAt s p).1 : Int)]] = (zs ++ [((runeAt s p).1 : Int)]).map intRow := by simp [intRow]
          have hnx : p + (runeAt s p).2 ≤ s.length := by omega
          cases hc : (((runeAt s p).1 : Int) == 65533) <;> cases hpr : preB (s.drop p) [239, 191, 189]
          all_goals (try (exfalso; exact hbad (.inl ⟨by have := beq_iff_eq.1 hc; omega, hpr⟩)))
          all_goals (repeat' first | simp only [fins,mems,Tryz.results39,Tryz.ntmps39,Kt,wks,hp,hw,hc,hpr,hm,plain_i,hsn,List.map_nil,List.length_drop,List.length_map,Nat.le_refl,Option.bind_some,Option.bind_none,vcs,Ka,Kb,Kc,Kd,Ke,Kf,Kg,Kh,Ki,Kj,Kk,Kl,Km,reduceCtorEq,reduceIte,Kn,Ko,Kp,Kq,Kr,Ks,tys] | exact rfl | refine call_off (v := .any) ?_ | (first | (refine call_fn ?_ (pre_ev (s.drop p) [239, 191, 189] hle (by decide) _) ?_) | (refine call_fn_g ?_ (fun _ => pre_ev (s.drop p) [239, 191, 189] hle (by decide) _) ?_) | (refine call_fn ?_ (tMay_ev ((runeAt s p).1 : Int) _) ?_) | (refine call_fn_g ?_ (fun _ => tMay_ev ((runeAt s p).1 : Int) _) ?_)) | (refine ext_next (s := ?_) (y := ?_) (p := ?_) ?_ ?_ ?_ ?_; rotate_left 3; (iterate 2 (focus (simp only [Tryz.results39,Tryz.ntmps39,Kt,wks,hp,hw,hc,hpr,hm,plain_i,hsn,List.map_nil,List.length_drop,List.length_map,Nat.le_refl,Option.bind_some,Option.bind_none,vcs,Ka,Kb,Kc,Kd,Ke,Kf,Kg,Kh,Ki,Kj,Kk,Kl,Km,reduceCtorEq,reduceIte,Kn,Ko,Kp,Kq,Kr,Ks,tys] <;> exact rfl))); (focus (simp only [Tryz.results39,Tryz.ntmps39,Kt,wks,hp,hw,hc,hpr,hm,plain_i,hsn,List.map_nil,List.length_drop,List.length_map,Nat.le_refl,Option.bind_some,Option.bind_none,vcs,Ka,Kb,Kc,Kd,Ke,Kf,Kg,Kh,Ki,Kj,Kk,Kl,Km,reduceCtorEq,reduceIte,Kn,Ko,Kp,Kq,Kr,Ks,tys] <;> omega))) | (refine extG_true ?_) | (refine extG_false ?_) | ((first | apply cond_bool | apply cond_bit) <;> intro hb) | refine And.intro (by omega) ?_ | refine And.intro (fun hb => ?_) (fun hb => ?_))
          all_goals ((refine again_can2 cxG ((p + (runeAt s p).2, zs ++ [((runeAt s p).1 : Int)])) [some b0, some (b0 + 416)] ?_ ?_ ?_ ?_; rotate_left 2; (focus (show b0 ≤ _; omega)); (focus (refine ⟨?_, ?_⟩ <;> (try simp only [cans,isRow_inst,ren_iter,renOk_iter,plain_i,hsn,List.length_map,List.length_append,List.length_cons,List.length_nil,Option.bind_some,Option.bind_none,vcs,Ka,Kb,Kc,Kd,Ke,Kf,Kg,Kh,Ki,Kj,Kk,Kl,Km,reduceCtorEq,reduceIte,Kn,Ko,Kp,Kq,Kr,Ks,tys,injs]) <;> (try omega)))))
          all_goals (first | (show s.length - (p + (runeAt s p).2) < s.length - p; omega) | exact ⟨hnx, by simp; omega, hds⟩ | skip)
      · have hpe : p = s.length := by omega
        subst hpe
        have he : ptsErr s = 0 := by
          rw [List.drop_length, dec_nil] at h3
          unfold ptsErr; rw [if_neg hbig, h3]; rfl
        have hq : pts s = zs := by
          rw [List.drop_length, dec_nil] at h3
          unfold pts; rw [if_neg hbig, h3]; simp
        (repeat' first | simp only [fins,mems,Tryz.results39,Tryz.ntmps39,Kt,wks,he,hq,plain_i,take_i,memL_cons,memL_nil,List.length_map,Nat.le_refl,vcs,Ka,Kb,Kc,Kd,Ke,Kf,Kg,Kh,Ki,Kj,Kk,Kl,Km,reduceCtorEq,reduceIte,Kn,Ko,Kp,Kq,Kr,Ks,tys] | exact rfl | refine call_off (v := .any) ?_ | (refine ext_over (s := ?_) (y := ?_) (p := ?_) ?_ ?_ ?_ ?_; rotate_left 3; (iterate 2 (focus (simp only [Tryz.results39,Tryz.ntmps39,Kt,wks,he,hq,plain_i,take_i,memL_cons,memL_nil,List.length_map,Nat.le_refl,vcs,Ka,Kb,Kc,Kd,Ke,Kf,Kg,Kh,Ki,Kj,Kk,Kl,Km,reduceCtorEq,reduceIte,Kn,Ko,Kp,Kq,Kr,Ks,tys] <;> exact rfl))); (focus (simp only [Tryz.results39,Tryz.ntmps39,Kt,wks,he,hq,plain_i,take_i,memL_cons,memL_nil,List.length_map,Nat.le_refl,vcs,Ka,Kb,Kc,Kd,Ke,Kf,Kg,Kh,Ki,Kj,Kk,Kl,Km,reduceCtorEq,reduceIte,Kn,Ko,Kp,Kq,Kr,Ks,tys] <;> omega))) | (refine extG_true ?_) | (refine extG_false ?_) | ((first | apply cond_bool | apply cond_bit) <;> intro hb) | refine And.intro (by omega) ?_ | refine And.intro (fun hb => ?_) (fun hb => ?_) | refine Fin.pure ?_ ?_ ?_ | simp only [injs])
theorem tCheck_ev (s : List UInt8) (hs : s.length ≤ lim) (nm : Nat) : Ev cx 22 nm [.str s] Mem.nil (.int .i64 (ptsErr s)) [] := by
  refine ev_go rfl (fun cargs w => Tryz.call22 cargs w) Tryz.func22 rfl mixed (by kernel_rfl) rfl ?_; intro b0 hb0
  (repeat' first | simp only [fins,mems,Tryz.results22,Tryz.ntmps22,Kt,wks,vcs,Ka,Kb,Kc,Kd,Ke,Kf,Kg,Kh,Ki,Kj,Kk,Kl,Km,reduceCtorEq,reduceIte,Kn,Ko,Kp,Kq,Kr,Ks,tys] | exact rfl | refine call_off (v := .any) ?_ | (first | (refine call_fn ?_ (points_ev s hs _) ?_) | (refine call_fn_g ?_ (fun _ => points_ev s hs _) ?_)) | ((first | apply cond_bool | apply cond_bit) <;> intro hb) | refine And.intro (by omega) ?_ | refine And.intro (fun hb => ?_) (fun hb => ?_) | refine Fin.pure ?_ ?_ ?_ | simp only [injs])
theorem head_ev (c : Int) (h0 : 0 ≤ c) (h1 : c < 256) (nm : Nat) : Ev cx 109 nm [.int .i64 c] Mem.nil (.tup [.int .i64 (headS c), .int .i64 (headN c)]) [] := by
  have w1 : IntKind.i64.wrap (c - 192) = c - 192 := wrap_in (by omega) (by omega)
  have w2 : IntKind.i64.wrap (c - 224) = c - 224 := wrap_in (by omega) (by omega)
  have w3 : IntKind.i64.wrap (c - 240) = c - 240 := wrap_in (by omega) (by omega)
  refine ev_go rfl (fun cargs w => Tryz.call109 cargs w) Tryz.func109 rfl mixed (by kernel_rfl) rfl ?_; intro b0 hb0
  (repeat' first | simp only [fins,mems,Tryz.results109,Tryz.ntmps109,Kt,wks,w1,w2,w3,vcs,Ka,Kb,Kc,Kd,Ke,Kf,Kg,Kh,Ki,Kj,Kk,Kl,Km,reduceCtorEq,reduceIte,Kn,Ko,Kp,Kq,Kr,Ks,tys] | exact rfl | refine call_off (v := .any) ?_ | ((first | apply cond_bool | apply cond_bit) <;> intro hb) | refine And.intro (by omega) ?_ | refine And.intro (fun hb => ?_) (fun hb => ?_) | refine Fin.pure ?_ ?_ ?_ | simp only [injs])
  all_goals simp only [Bool.and_eq_true,Bool.and_eq_false_iff,decide_eq_true_eq,decide_eq_false_iff_not] at *
  all_goals (unfold headS headN; constructor <;> (repeat' split) <;> omega)
def rMayB (n : Int) : Bool := if n < 32 then (n == 9 || n == 10 || n == 13) else (((decide (n ≤ 1114111) && (decide (n < 55296) || decide (57343 < n))) && (n != 65534)) && (n != 65535))
theorem rMayB_eq (n : Int) : rMayB n = may n := by
  unfold rMayB
  rw [Bool.eq_iff_iff, may_iff]
  split <;> simp <;> omega
theorem rMay_ev (n : Int) (nm : Nat) : Ev cx 110 nm [.int .i64 n] Mem.nil (.bool (may n)) [] := by
  rw [← rMayB_eq]
  by_cases h : n < 32
  · have hd : decide (n < 32) = true := decide_eq_true h
    have hr : rMayB n = (n == 9 || n == 10 || n == 13) := by unfold rMayB; rw [if_pos h]
    refine ev_go rfl (fun cargs w => Tryz.call110 cargs w) Tryz.func110 rfl mixed (by kernel_rfl) rfl ?_; intro b0 hb0
    (repeat' first | simp only [fins,mems,Tryz.results110,Tryz.ntmps110,Kt,wks,hd,hr,vcs,Ka,Kb,Kc,Kd,Ke,Kf,Kg,Kh,Ki,Kj,Kk,Kl,Km,reduceCtorEq,reduceIte,Kn,Ko,Kp,Kq,Kr,Ks,tys] | exact rfl | refine call_off (v := .any) ?_ | ((first | apply cond_bool | apply cond_bit) <;> intro hb) | refine And.intro (by omega) ?_ | refine And.intro (fun hb => ?_) (fun hb => ?_) | refine Fin.pure ?_ ?_ ?_ | simp only [injs])
  · have hd : decide (n < 32) = false := decide_eq_false h
    have hr : rMayB n = (((decide (n ≤ 1114111) && (decide (n < 55296) || decide (57343 < n))) && (n != 65534)) && (n != 65535)) := by unfold rMayB; rw [if_neg h]
    cases h1 : decide (n ≤ 1114111) <;> cases h2 : decide (n < 55296) <;> cases h3 : decide (57343 < n) <;> rw [h1, h2, h3] at hr <;> (
    refine ev_go rfl (fun cargs w => Tryz.call110 cargs w) Tryz.func110 rfl mixed (by kernel_rfl) rfl ?_; intro b0 hb0
    (repeat' first | simp only [fins,mems,Tryz.results110,Tryz.ntmps110,Kt,wks,hd,hr,h1,h2,h3,vcs,Ka,Kb,Kc,Kd,Ke,Kf,Kg,Kh,Ki,Kj,Kk,Kl,Km,reduceCtorEq,reduceIte,Kn,Ko,Kp,Kq,Kr,Ks,tys] | exact rfl | refine call_off (v := .any) ?_ | ((first | apply cond_bool | apply cond_bit) <;> intro hb) | refine And.intro (by omega) ?_ | refine And.intro (fun hb => ?_) (fun hb => ?_) | refine Fin.pure ?_ ?_ ?_ | simp only [injs]))
end Go.Proofs.YtoaclokiggoeiaaGreatDoor
namespace Go.Proofs.YtoaclokiggoeiaaGreatDoor
set_option maxRecDepth 100000
set_option maxHeartbeats 32000000
set_option linter.unusedSimpArgs false
set_option linter.unusedVariables false
open Nat renaming reduceAdd → Ka, reduceMul → Kb, reduceEqDiff → Kc, reduceLeDiff → Kd, reduceSub → Ke, reduceLT → Kf, reduceBEq → Kr, reduceBNe → Ks, reducePow → Kt
open Int renaming reduceToNat → Kg, reduceLE → Kh, reduceLT → Ki, reduceAdd → Kj, reduceSub → Kk, reduceMul → Kl, reduceNeg → Km, reduceBEq → Kn, reduceBNe → Ko, reduceEq → Kp, reduceNe → Kq
open Go Go.RowKit Go.Proofs.YtoaclokiggoeiaaGreatDoor.Vm Go.Lib
theorem contN_cons (n : Int) (b : UInt8) (l : List UInt8) : contN n (b :: l) = contN (64 * n + (b.toNat : Int) % 64) l := rfl
theorem contN_le : ∀ (l : List UInt8) (n : Int), 0 ≤ n → 0 ≤ contN n l ∧ contN n l < (n + 1) * 64 ^ l.length
  | [], n, h => by simp only [contN,List.foldl_nil,List.length_nil]; omega
  | b :: l, n, h => by
    rw [contN_cons]
    obtain ⟨h1, h2⟩ := contN_le l (64 * n + (b.toNat : Int) % 64) (by omega)
    refine ⟨h1, Int.lt_of_lt_of_le h2 ?_⟩
    rw [List.length_cons, Int.pow_succ, Int.mul_comm (64 ^ l.length) 64, ← Int.mul_assoc]
    exact Int.mul_le_mul_of_nonneg_right (by omega) (Int.pow_nonneg (by omega))
theorem enc_rows {z : Int} (h0 : 0 ≤ z) (h1 : z < 256) : byteRow (z.toNat.toUInt8) = [V.int .u8 z] := by
  have := mod64 h0 h1
  unfold byteRow
  rw [this]
  congr 2; omega
theorem six_ev (n : Int) (up : Nat) (h0 : 0 ≤ n) (h1 : n ≤ 1114111) (hu : up ≤ 2) (nm : Nat) : Ev cx 124 nm [.int .i64 n, .int .i64 up] Mem.nil (.int .u8 (128 + n / 64 ^ up % 64)) [] := by
  refine ev_go rfl (fun cargs w => Tryz.call124 cargs w) Tryz.func124 rfl mixed (by kernel_rfl) rfl ?_; intro b0 hb0
  repeat' first | simp only [fins,mems,Tryz.results124,Tryz.ntmps124,Kt,wks,vcs,Ka,Kb,Kc,Kd,Ke,Kf,Kg,Kh,Ki,Kj,Kk,Kl,Km,reduceCtorEq,reduceIte,Kn,Ko,Kp,Kq,Kr,Ks,tys] | exact rfl | refine call_off (v := .any) ?_ | ((first | apply cond_bool | apply cond_bit) <;> intro hb) | refine And.intro (by omega) ?_ | refine And.intro (fun hb => ?_) (fun hb => ?_)
  (refine loop_can2 cxG (fun x : Nat => up - x) (fun x => x ≤ up) (b0 + 16) (fun x => [(0, .int .i64 (n / 64 ^ x)), (1, .int .i64 up), (5, .int .i64 x)]) (fun x => []) (0) [] ?_ ?_ ?_ ?_; rotate_left 1; (focus (show b0 ≤ _; omega)); (focus (refine ⟨?_, ?_⟩ <;> (try simp only [cans,Int.pow_zero,Int.ediv_one,vcs,Ka,Kb,Kc,Kd,Ke,Kf,Kg,Kh,Ki,Kj,Kk,Kl,Km,reduceCtorEq,reduceIte,Kn,Ko,Kp,Kq,Kr,Ks,tys,injs]) <;> (try omega))); rotate_left 1)
  · exact Nat.zero_le _
  · intro k hk
    have hp : (0:Int) ≤ n / 64 ^ k := Int.ediv_nonneg h0 (Int.pow_nonneg (by omega))
    have hp2 : n / 64 ^ k ≤ n := Int.ediv_le_self _ h0
    by_cases hlt : k < up
    · have hd : decide (k < up) = true := decide_eq_true hlt
      have ht : (n / 64 ^ k).tdiv 64 = n / 64 ^ (k + 1) := by
        rw [Int.tdiv_eq_ediv_of_nonneg hp, Int.pow_succ, Int.ediv_ediv_of_nonneg (Int.pow_nonneg (by omega))]
      have hw : IntKind.i64.wrap (n / 64 ^ (k + 1)) = n / 64 ^ (k + 1) := by
        rw [← ht, Int.tdiv_eq_ediv_of_nonneg hp]
        exact wrap_in (by omega) (by omega)
      have hwk : IntKind.i64.wrap ((k : Int) + 1) = ((k + 1 : Nat) : Int) := wrap_in (by omega) (by omega)
      repeat' first | simp only [fins,mems,Tryz.results124,Tryz.ntmps124,Kt,wks,hd,ht,hw,hwk,vcs,Ka,Kb,Kc,Kd,Ke,Kf,Kg,Kh,Ki,Kj,Kk,Kl,Km,reduceCtorEq,reduceIte,Kn,Ko,Kp,Kq,Kr,Ks,tys] | exact rfl | refine call_off (v := .any) ?_ | ((first | apply cond_bool | apply cond_bit) <;> intro hb) | refine And.intro (by omega) ?_ | refine And.intro (fun hb => ?_) (fun hb => ?_)
      ((refine again_can2 cxG (k + 1) [] ?_ ?_ ?_ ?_; rotate_left 2; (focus (show b0 ≤ _; omega)); (focus (refine ⟨?_, ?_⟩ <;> (try simp only [cans,hd,ht,hw,hwk,vcs,Ka,Kb,Kc,Kd,Ke,Kf,Kg,Kh,Ki,Kj,Kk,Kl,Km,reduceCtorEq,reduceIte,Kn,Ko,Kp,Kq,Kr,Ks,tys,injs]) <;> (try omega)))))
      all_goals (first | (show up - (k + 1) < up - k; omega) | (show k + 1 ≤ up; omega) | skip)
    · have hke : k = up := by omega
      subst hke
      have hd : decide (k < k) = false := decide_eq_false (by omega)
      have ht : (n / 64 ^ k).tmod 64 = n / 64 ^ k % 64 := Int.tmod_eq_emod_of_nonneg hp
      have hw1 : IntKind.i64.wrap (n / 64 ^ k % 64) = n / 64 ^ k % 64 := wrap_in (by omega) (by omega)
      have hw2 : IntKind.i64.wrap (128 + n / 64 ^ k % 64) = 128 + n / 64 ^ k % 64 := wrap_in (by omega) (by omega)
      have hw3 : IntKind.u8.wrap (128 + n / 64 ^ k % 64) = 128 + n / 64 ^ k % 64 := IntWalk.u8_in _ (by omega)
      (repeat' first | simp only [fins,mems,Tryz.results124,Tryz.ntmps124,Kt,wks,hd,ht,hw1,hw2,hw3,vcs,Ka,Kb,Kc,Kd,Ke,Kf,Kg,Kh,Ki,Kj,Kk,Kl,Km,reduceCtorEq,reduceIte,Kn,Ko,Kp,Kq,Kr,Ks,tys] | exact rfl | refine call_off (v := .any) ?_ | ((first | apply cond_bool | apply cond_bit) <;> intro hb) | refine And.intro (by omega) ?_ | refine And.intro (fun hb => ?_) (fun hb => ?_) | refine Fin.pure ?_ ?_ ?_ | simp only [injs])
theorem enc1 {z : Int} (h0 : 0 ≤ z) (h1 : z ≤ 127) : (encodeRune z).map byteRow = [[V.int .u8 z]] := by
  simp only [encodeRune,encodeRuneZ_one h0 h1,List.map_cons,List.map_nil]
  rw [enc_rows (by omega) (by omega)]
theorem enc2 {z : Int} (h0 : 128 ≤ z) (h1 : z ≤ 2047) : (encodeRune z).map byteRow = [[V.int .u8 (192 + z / 64)], [V.int .u8 (128 + z % 64)]] := by
  simp only [encodeRune,encodeRuneZ_two h0 h1,List.map_cons,List.map_nil]
  rw [enc_rows (by omega) (by omega), enc_rows (by omega) (by omega)]
theorem enc3 {z : Int} (h0 : (2048 ≤ z ∧ z < 55296) ∨ (57343 < z ∧ z ≤ 65535)) : (encodeRune z).map byteRow = [[V.int .u8 (224 + z / 4096)], [V.int .u8 (128 + z / 64 % 64)], [V.int .u8 (128 + z % 64)]] := by
  simp only [encodeRune,encodeRuneZ_three h0,List.map_cons,List.map_nil]
  rw [enc_rows (by omega) (by omega), enc_rows (by omega) (by omega), enc_rows (by omega) (by omega)]
theorem enc4 {z : Int} (h0 : 65536 ≤ z) (h1 : z ≤ 1114111) : (encodeRune z).map byteRow = [[V.int .u8 (240 + z / 262144)], [V.int .u8 (128 + z / 4096 % 64)], [V.int .u8 (128 + z / 64 % 64)], [V.int .u8 (128 + z % 64)]] := by
  simp only [encodeRune,encodeRuneZ_four h0 h1,List.map_cons,List.map_nil]
  rw [enc_rows (by omega) (by omega), enc_rows (by omega) (by omega), enc_rows (by omega) (by omega), enc_rows (by omega) (by omega)]
theorem rBytes_ev (n : Int) (hm : may n = true) (nm : Nat) : Ev cx 111 nm [.int .i64 n] Mem.nil (.sl false 1 ((encodeRune n).map byteRow)) [] := by
  have hmz := (may_iff n).1 hm
  have h0 : 0 ≤ n := by omega
  have hm1 : n ≤ 1114111 := by omega
  have q1 : n.tdiv 64 = n / 64 := Int.tdiv_eq_ediv_of_nonneg h0
  have q2 : n.tdiv 4096 = n / 4096 := Int.tdiv_eq_ediv_of_nonneg h0
  have q3 : n.tdiv 262144 = n / 262144 := Int.tdiv_eq_ediv_of_nonneg h0
  have w1 : IntKind.i64.wrap (n / 64) = n / 64 := wrap_in (by omega) (by omega)
  have w2 : IntKind.i64.wrap (n / 4096) = n / 4096 := wrap_in (by omega) (by omega)
  have w3 : IntKind.i64.wrap (n / 262144) = n / 262144 := wrap_in (by omega) (by omega)
  have u1 : IntKind.i64.wrap (192 + n / 64) = 192 + n / 64 := wrap_in (by omega) (by omega)
  have u2 : IntKind.i64.wrap (224 + n / 4096) = 224 + n / 4096 := wrap_in (by omega) (by omega)
  have u3 : IntKind.i64.wrap (240 + n / 262144) = 240 + n / 262144 := wrap_in (by omega) (by omega)
  have s0 := six_ev n 0 h0 hm1 (by omega)
  have s1 := six_ev n 1 h0 hm1 (by omega)
  have s2 := six_ev n 2 h0 hm1 (by omega)
  simp only [Int.pow_zero,Int.ediv_one,Int.pow_one,Int.ofNat_zero,Int.ofNat_one,show (64:Int) ^ 1 = 64 from rfl,show (64:Int) ^ 2 = 4096 from rfl,show ((0:Nat):Int) = 0 from rfl,show ((1:Nat):Int) = 1 from rfl,show ((2:Nat):Int) = 2 from rfl] at s0 s1 s2
  by_cases c1 : n < 128
  · have d1 : decide (n < 128) = true := decide_eq_true c1
    have v1 : IntKind.u8.wrap n = n := IntWalk.u8_in _ (by omega)
    rw [enc1 h0 (by omega)]
    refine ev_go rfl (fun cargs w => Tryz.call111 cargs w) Tryz.func111 rfl mixed (by kernel_rfl) rfl ?_; intro b0 hb0
    (repeat' first | simp only [fins,mems,Tryz.results111,Tryz.ntmps111,Kt,wks,d1,v1,vcs,Ka,Kb,Kc,Kd,Ke,Kf,Kg,Kh,Ki,Kj,Kk,Kl,Km,reduceCtorEq,reduceIte,Kn,Ko,Kp,Kq,Kr,Ks,tys] | exact rfl | refine call_off (v := .any) ?_ | ((first | apply cond_bool | apply cond_bit) <;> intro hb) | refine And.intro (by omega) ?_ | refine And.intro (fun hb => ?_) (fun hb => ?_) | refine Fin.pure ?_ ?_ ?_ | simp only [injs])
  by_cases c2 : n < 2048
  · have d1 : decide (n < 128) = false := decide_eq_false c1
    have d2 : decide (n < 2048) = true := decide_eq_true c2
    have v1 : IntKind.u8.wrap (192 + n / 64) = 192 + n / 64 := IntWalk.u8_in _ (by omega)
    rw [enc2 (by omega) (by omega)]
    refine ev_go rfl (fun cargs w => Tryz.call111 cargs w) Tryz.func111 rfl mixed (by kernel_rfl) rfl ?_; intro b0 hb0
    (repeat' first | simp only [fins,mems,Tryz.results111,Tryz.ntmps111,Kt,wks,d1,d2,q1,w1,u1,v1,vcs,Ka,Kb,Kc,Kd,Ke,Kf,Kg,Kh,Ki,Kj,Kk,Kl,Km,reduceCtorEq,reduceIte,Kn,Ko,Kp,Kq,Kr,Ks,tys] | exact rfl | refine call_off (v := .any) ?_ | (first | (refine call_fn ?_ (s0 _) ?_) | (refine call_fn_g ?_ (fun _ => s0 _) ?_)) | ((first | apply cond_bool | apply cond_bit) <;> intro hb) | refine And.intro (by omega) ?_ | refine And.intro (fun hb => ?_) (fun hb => ?_) | refine Fin.pure ?_ ?_ ?_ | simp only [injs])
  by_cases c3 : n < 65536
  · have d1 : decide (n < 128) = false := decide_eq_false c1
    have d2 : decide (n < 2048) = false := decide_eq_false c2
    have d3 : decide (n < 65536) = true := decide_eq_true c3
    have v1 : IntKind.u8.wrap (224 + n / 4096) = 224 + n / 4096 := IntWalk.u8_in _ (by omega)
    rw [enc3 (by omega)]
    refine ev_go rfl (fun cargs w => Tryz.call111 cargs w) Tryz.func111 rfl mixed (by kernel_rfl) rfl ?_; intro b0 hb0
    (repeat' first | simp only [fins,mems,Tryz.results111,Tryz.ntmps111,Kt,wks,d1,d2,d3,q2,w2,u2,v1,vcs,Ka,Kb,Kc,Kd,Ke,Kf,Kg,Kh,Ki,Kj,Kk,Kl,Km,reduceCtorEq,reduceIte,Kn,Ko,Kp,Kq,Kr,Ks,tys] | exact rfl | refine call_off (v := .any) ?_ | ((first | (refine call_fn ?_ (s0 _) ?_) | (refine call_fn_g ?_ (fun _ => s0 _) ?_)); (focus (simp only [Tryz.results111,Tryz.ntmps111,Kt,wks,d1,d2,d3,q2,w2,u2,v1,vcs,Ka,Kb,Kc,Kd,Ke,Kf,Kg,Kh,Ki,Kj,Kk,Kl,Km,reduceCtorEq,reduceIte,Kn,Ko,Kp,Kq,Kr,Ks,tys] <;> exact rfl))) | ((first | (refine call_fn ?_ (s1 _) ?_) | (refine call_fn_g ?_ (fun _ => s1 _) ?_)); (focus (simp only [Tryz.results111,Tryz.ntmps111,Kt,wks,d1,d2,d3,q2,w2,u2,v1,vcs,Ka,Kb,Kc,Kd,Ke,Kf,Kg,Kh,Ki,Kj,Kk,Kl,Km,reduceCtorEq,reduceIte,Kn,Ko,Kp,Kq,Kr,Ks,tys] <;> exact rfl))) | ((first | apply cond_bool | apply cond_bit) <;> intro hb) | refine And.intro (by omega) ?_ | refine And.intro (fun hb => ?_) (fun hb => ?_) | refine Fin.pure ?_ ?_ ?_ | simp only [injs])
  · have d1 : decide (n < 128) = false := decide_eq_false c1
    have d2 : decide (n < 2048) = false := decide_eq_false c2
    have d3 : decide (n < 65536) = false := decide_eq_false c3
    have v1 : IntKind.u8.wrap (240 + n / 262144) = 240 + n / 262144 := IntWalk.u8_in _ (by omega)
    rw [enc4 (by omega) (by omega)]
    refine ev_go rfl (fun cargs w => Tryz.call111 cargs w) Tryz.func111 rfl mixed (by kernel_rfl) rfl ?_; intro b0 hb0
    (repeat' first | simp only [fins,mems,Tryz.results111,Tryz.ntmps111,Kt,wks,d1,d2,d3,q3,w3,u3,v1,vcs,Ka,Kb,Kc,Kd,Ke,Kf,Kg,Kh,Ki,Kj,Kk,Kl,Km,reduceCtorEq,reduceIte,Kn,Ko,Kp,Kq,Kr,Ks,tys] | exact rfl | refine call_off (v := .any) ?_ | ((first | (refine call_fn ?_ (s0 _) ?_) | (refine call_fn_g ?_ (fun _ => s0 _) ?_)); (focus (simp only [Tryz.results111,Tryz.ntmps111,Kt,wks,d1,d2,d3,q3,w3,u3,v1,vcs,Ka,Kb,Kc,Kd,Ke,Kf,Kg,Kh,Ki,Kj,Kk,Kl,Km,reduceCtorEq,reduceIte,Kn,Ko,Kp,Kq,Kr,Ks,tys] <;> exact rfl))) | ((first | (refine call_fn ?_ (s1 _) ?_) | (refine call_fn_g ?_ (fun _ => s1 _) ?_)); (focus (simp only [Tryz.results111,Tryz.ntmps111,Kt,wks,d1,d2,d3,q3,w3,u3,v1,vcs,Ka,Kb,Kc,Kd,Ke,Kf,Kg,Kh,Ki,Kj,Kk,Kl,Km,reduceCtorEq,reduceIte,Kn,Ko,Kp,Kq,Kr,Ks,tys] <;> exact rfl))) | ((first | (refine call_fn ?_ (s2 _) ?_) | (refine call_fn_g ?_ (fun _ => s2 _) ?_)); (focus (simp only [Tryz.results111,Tryz.ntmps111,Kt,wks,d1,d2,d3,q3,w3,u3,v1,vcs,Ka,Kb,Kc,Kd,Ke,Kf,Kg,Kh,Ki,Kj,Kk,Kl,Km,reduceCtorEq,reduceIte,Kn,Ko,Kp,Kq,Kr,Ks,tys] <;> exact rfl))) | ((first | apply cond_bool | apply cond_bit) <;> intro hb) | refine And.intro (by omega) ?_ | refine And.intro (fun hb => ?_) (fun hb => ?_) | refine Fin.pure ?_ ?_ ?_ | simp only [injs])
end Go.Proofs.YtoaclokiggoeiaaGreatDoor
namespace Go.Proofs.YtoaclokiggoeiaaGreatDoor
set_option maxRecDepth 100000
set_option maxHeartbeats 32000000
set_option linter.unusedSimpArgs false
set_option linter.unusedVariables false
open Go Go.RowKit Go.Proofs.YtoaclokiggoeiaaGreatDoor.Vm Go.Lib
theorem plain_bsI (bs : List UInt8) : plainLL (bs.map byteRow) = true := plainLL_map _ (fun _ => rfl) bs
theorem one_bsI (bs : List UInt8) : ((bs.map byteRow).all fun r => r.all V.one) = true := by
  rw [List.all_eq_true]
  intro r hr
  obtain ⟨c, _, rfl⟩ := List.mem_map.1 hr
  rfl
theorem isRow_typed (t : TypeId) : (Ob.typed t).isRow = true := rfl
theorem tyT (s : Nat) (r : List (List V)) (t : TypeId) : Blk.ty (@Blk.mk s r (.typed t)) = some t := rfl
theorem ren_bytesI (σ : List (Nat × Nat)) (bs : List UInt8) (t : TypeId) : Blk.ren σ (@Blk.mk 1 (bs.map byteRow) (.typed t)) = @Blk.mk 1 (bs.map byteRow) (.typed t) := by
  have h : plainLL (bs.map byteRow) = true := plainLL_map _ (fun _ => rfl) bs
  simp only [Blk.ren,renLL,h,if_true]
theorem renOk_bytesI (σ : List (Nat × Nat)) (bs : List UInt8) (t : TypeId) : Blk.renOk σ (@Blk.mk 1 (bs.map byteRow) (.typed t)) = true := by
  have h : plainLL (bs.map byteRow) = true := plainLL_map _ (fun _ => rfl) bs
  simp only [Blk.renOk,renOkLL,h,Bool.true_or,Bool.true_and]
  rfl
end Go.Proofs.YtoaclokiggoeiaaGreatDoor
namespace Go.Proofs.YtoaclokiggoeiaaGreatDoor
set_option maxRecDepth 100000
set_option maxHeartbeats 32000000
set_option linter.unusedSimpArgs false
set_option linter.unusedVariables false
open Nat renaming reduceAdd → Ka, reduceMul → Kb, reduceEqDiff → Kc, reduceLeDiff → Kd, reduceSub → Ke, reduceLT → Kf, reduceBEq → Kr, reduceBNe → Ks, reducePow → Kt
open Int renaming reduceToNat → Kg, reduceLE → Kh, reduceLT → Ki, reduceAdd → Kj, reduceSub → Kk, reduceMul → Kl, reduceNeg → Km, reduceBEq → Kn, reduceBNe → Ko, reduceEq → Kp, reduceNe → Kq
open Go Go.RowKit Go.Proofs.YtoaclokiggoeiaaGreatDoor.Vm Go.Lib
theorem plain_bsG (bs : List UInt8) : plainLL (bs.map byteRow) = true := plainLL_map _ (fun _ => rfl) bs
theorem decV_take {s : List UInt8} {k : Nat} {c : UInt8} (h : s[k]? = some c) : decV 0 (s.take (k + 1)) = (decV 0 (s.take k)).bind fun m => (decD c).map fun d => 10 * m + d := by
  obtain ⟨hk, rfl⟩ := List.getElem?_eq_some_iff.1 h
  rw [List.take_succ_eq_append_getElem hk, decV_snoc]
theorem decV_none : ∀ {s t : List UInt8} {n : Nat}, decV n s = none → decV n (s ++ t) = none
  | [], t, n, h => by simp [decV] at h
  | c :: s, t, n, h => by
    simp only [List.cons_append,decV] at h ⊢
    cases hc : decD c with
    | none => rfl
    | some d => rw [hc] at h; exact decV_none h
def readE (s : List UInt8) : V := match decL s with
  | some n => .tup [.int .i64 n, .int .i64 0]
  | none => .tup [.int .i64 0, .int .i64 60]
theorem readE_none {s : List UInt8} (h : decL s = none) : readE s = .tup [.int .i64 0, .int .i64 60] := by unfold readE; rw [h]
theorem readE_some {s : List UInt8} {n : Nat} (h : decL s = some n) : readE s = .tup [.int .i64 n, .int .i64 0] := by unfold readE; rw [h]
theorem numRead_ev (s : List UInt8) (hs : s.length ≤ lim) (nm : Nat) : Ev cx 106 nm [.str s] Mem.nil (readE s) [] := by
  unfold lim at hs
  by_cases hbad : s = [] ∨ 16 < s.length ∨ (s.head? = some 48 ∧ s ≠ [48])
  · have hn : decL s = none := by unfold decL; rw [if_pos hbad]
    have hr := readE_none hn
    by_cases h0 : s = []
    · subst h0
      have e0 : (([] : List UInt8) == []) = true := rfl
      refine ev_go rfl (fun cargs w => Tryz.call106 cargs w) Tryz.func106 rfl mixed (by kernel_rfl) rfl ?_; intro b0 hb0
      (repeat' first | simp only [fins,mems,Tryz.results106,Tryz.ntmps106,Kt,wks,e0,hr,vcs,Ka,Kb,Kc,Kd,Ke,Kf,Kg,Kh,Ki,Kj,Kk,Kl,Km,reduceCtorEq,reduceIte,Kn,Ko,Kp,Kq,Kr,Ks,tys] | exact rfl | refine call_off (v := .any) ?_ | ((first | apply cond_bool | apply cond_bit) <;> intro hb) | refine And.intro (by omega) ?_ | refine And.intro (fun hb => ?_) (fun hb => ?_) | refine Fin.pure ?_ ?_ ?_ | simp only [injs])
    · have e0 : (s == []) = false := beq_false_of_ne h0
      by_cases h16 : 16 < s.length
      · have e1 : decide ((16 : Int) < (s.length : Int)) = true := decide_eq_true (by omega)
        refine ev_go rfl (fun cargs w => Tryz.call106 cargs w) Tryz.func106 rfl mixed (by kernel_rfl) rfl ?_; intro b0 hb0
        (repeat' first | simp only [fins,mems,Tryz.results106,Tryz.ntmps106,Kt,wks,e0,e1,hr,vcs,Ka,Kb,Kc,Kd,Ke,Kf,Kg,Kh,Ki,Kj,Kk,Kl,Km,reduceCtorEq,reduceIte,Kn,Ko,Kp,Kq,Kr,Ks,tys] | exact rfl | refine call_off (v := .any) ?_ | ((first | apply cond_bool | apply cond_bit) <;> intro hb) | refine And.intro (by omega) ?_ | refine And.intro (fun hb => ?_) (fun hb => ?_) | refine Fin.pure ?_ ?_ ?_ | simp only [injs])
      · obtain ⟨h1, h2⟩ : s.head? = some 48 ∧ s ≠ [48] := by rcases hbad with h | h | h; exact absurd h h0; exact absurd h h16; exact h
        have e1 : decide ((16 : Int) < (s.length : Int)) = false := decide_eq_false (by omega)
        have e2 : s[0]? = some 48 := by rw [← List.head?_eq_getElem?]; exact h1
        have e3 : (s == [48]) = false := beq_false_of_ne h2
        have e4 : 0 < s.length := List.length_pos_iff.2 h0
        have e6 : (((48 : UInt8).toNat : Int) == 48) = true := rfl
        refine ev_go rfl (fun cargs w => Tryz.call106 cargs w) Tryz.func106 rfl mixed (by kernel_rfl) rfl ?_; intro b0 hb0
        (repeat' first | simp only [fins,mems,Tryz.results106,Tryz.ntmps106,Kt,wks,e0,e1,e2,e3,e4,e6,hr,Bool.not_false,vcs,Ka,Kb,Kc,Kd,Ke,Kf,Kg,Kh,Ki,Kj,Kk,Kl,Km,reduceCtorEq,reduceIte,Kn,Ko,Kp,Kq,Kr,Ks,tys] | exact rfl | refine call_off (v := .any) ?_ | ((first | apply cond_bool | apply cond_bit) <;> intro hb) | refine And.intro (by omega) ?_ | refine And.intro (fun hb => ?_) (fun hb => ?_) | refine Fin.pure ?_ ?_ ?_ | simp only [injs])
  · have h0 : s ≠ [] := fun h => hbad (.inl h)
    have h16 : ¬ 16 < s.length := fun h => hbad (.inr (.inl h))
    have h48 : ¬ (s.head? = some 48 ∧ s ≠ [48]) := fun h => hbad (.inr (.inr h))
    have hdl : decL s = (decV 0 s).bind fun n => if n ≤ 9007199254740991 then some n else none := by unfold decL; rw [if_neg hbad]
    have e0 : (s == []) = false := beq_false_of_ne h0
    have e1 : decide ((16 : Int) < (s.length : Int)) = false := decide_eq_false (by omega)
    have e4 : 0 < s.length := List.length_pos_iff.2 h0
    obtain ⟨c0, hc0⟩ : ∃ c, s[0]? = some c := ⟨_, List.getElem?_eq_getElem e4⟩
    have e2 : ((c0.toNat : Int) == 48) = decide (c0 = 48) := beq_byte c0 48
    have e3 : c0 = 48 → (s == [48]) = true := fun h => by
      by_cases h5 : s = [48]
      · rw [h5]; rfl
      · exact absurd ⟨by rw [List.head?_eq_getElem?, hc0, h], h5⟩ h48
    have hround : ∀ b : Bool, decide (c0 = 48) = b → (b = true → (s == [48]) = true) := fun b h h2 => e3 (of_decide_eq_true (h.trans h2))
    generalize hb : decide (c0 = 48) = b at e2
    have e5 := hround b hb
    clear hround
    refine ev_go rfl (fun cargs w => Tryz.call106 cargs w) Tryz.func106 rfl mixed (by kernel_rfl) rfl ?_; intro b0 hb0
    cases b
    all_goals (
      first | have e6 := e5 rfl | have e6 : True := trivial
      repeat' first | simp only [fins,mems,Tryz.results106,Tryz.ntmps106,Kt,wks,e0,e1,hc0,e2,e4,e6,Bool.not_true,Bool.not_false,vcs,Ka,Kb,Kc,Kd,Ke,Kf,Kg,Kh,Ki,Kj,Kk,Kl,Km,reduceCtorEq,reduceIte,Kn,Ko,Kp,Kq,Kr,Ks,tys] | exact rfl | refine call_off (v := .any) ?_ | (refine ext_toBytes (bs := ?_) ?_ ?_ ?_ ?_; rotate_left 1; (iterate 2 (focus (simp only [Tryz.results106,Tryz.ntmps106,Kt,wks,e0,e1,hc0,e2,e4,e6,Bool.not_true,Bool.not_false,vcs,Ka,Kb,Kc,Kd,Ke,Kf,Kg,Kh,Ki,Kj,Kk,Kl,Km,reduceCtorEq,reduceIte,Kn,Ko,Kp,Kq,Kr,Ks,tys]; done))); (focus (simp only [Tryz.results106,Tryz.ntmps106,Kt,wks,e0,e1,hc0,e2,e4,e6,Bool.not_true,Bool.not_false,vcs,Ka,Kb,Kc,Kd,Ke,Kf,Kg,Kh,Ki,Kj,Kk,Kl,Km,reduceCtorEq,reduceIte,Kn,Ko,Kp,Kq,Kr,Ks,tys] <;> exact rfl))) | (refine extG_true ?_) | (refine extG_false ?_) | ((first | apply cond_bool | apply cond_bit) <;> intro hb) | refine And.intro (by omega) ?_ | refine And.intro (fun hb => ?_) (fun hb => ?_)
      (refine loop_can2 cxG (fun x : Nat × Nat => s.length - x.1) (fun x => x.1 ≤ s.length ∧ decV 0 (s.take x.1) = some x.2) (b0 + 16) (fun x => [(2, .int .i64 x.2), (4, .bool false), (25, .sl false 1 (s.map byteRow)), (26, .int .i64 s.length), (27, .int .i64 x.1)]) (fun x => []) ((0, 0)) [] ?_ ?_ ?_ ?_; rotate_left 1; (focus (show b0 ≤ _; omega)); (focus (refine ⟨?_, ?_⟩ <;> (try simp only [cans,plain_bsG,List.length_map,show decV 0 [] = some 0 from rfl,vcs,Ka,Kb,Kc,Kd,Ke,Kf,Kg,Kh,Ki,Kj,Kk,Kl,Km,reduceCtorEq,reduceIte,Kn,Ko,Kp,Kq,Kr,Ks,tys,injs]) <;> (try omega))); rotate_left 1)
      · exact ⟨Nat.zero_le _, rfl⟩
      · rintro ⟨k, m⟩ ⟨hk, hv⟩
        simp only at hk hv
        have hmb := (decV_le _ _ _ hv).2
        have hkl : (s.take k).length = k := by rw [List.length_take]; omega
        rw [hkl] at hmb
        have hp16 : (10 : Nat) ^ k ≤ 10 ^ 16 := Nat.pow_le_pow_right (by omega) (by omega)
        have hm16 : m < 10000000000000000 := by simp only [Nat.zero_add,Nat.one_mul] at hmb; exact Nat.lt_of_lt_of_le hmb hp16
        by_cases hlt : k < s.length
        · obtain ⟨c, hc⟩ : ∃ c, s[k]? = some c := ⟨_, List.getElem?_eq_getElem hlt⟩
          have hh : (s.map byteRow)[k]? = some (byteRow c) := by rw [List.getElem?_map, hc]; rfl
          have hd : decide (k < s.length) = true := decide_eq_true hlt
          have hwk : IntKind.i64.wrap ((k : Int) + 1) = ((k + 1 : Nat) : Int) := wrap_in (by omega) (by omega)
          have hcn : c.toNat < 256 := c.toNat_lt
          have hw1 : IntKind.i64.wrap (c.toNat : Int) = (c.toNat : Int) := wrap_in (by omega) (by omega)
          have hw2 : IntKind.i64.wrap ((c.toNat : Int) - 48) = (c.toNat : Int) - 48 := wrap_in (by omega) (by omega)
          have hnx := decV_take hc
          rw [hv] at hnx
          simp only [Option.bind_some] at hnx
          cases hdc : decD c with
          | none =>
            have hno : decV 0 s = none := by
              rw [hdc] at hnx
              rw [← List.take_append_drop (k + 1) s]
              exact decV_none hnx
            have hr := readE_none (s := s) (by rw [hdl, hno]; rfl)
            have hcs : decide ((c.toNat : Int) - 48 < 0) = true ∨ (decide ((c.toNat : Int) - 48 < 0) = false ∧ decide ((9 : Int) < (c.toNat : Int) - 48) = true) := by
              by_cases h1 : (c.toNat : Int) - 48 < 0
              · exact .inl (decide_eq_true h1)
              · refine .inr ⟨decide_eq_false h1, decide_eq_true ?_⟩
                unfold decD at hdc
                split at hdc
                · cases hdc
                · omega
            rcases hcs with h1 | ⟨h1, h2⟩
            · (repeat' first | simp only [fins,mems,Tryz.results106,Tryz.ntmps106,Kt,wks,hh,hd,hlt,hw1,hw2,h1,hr,byteRow,List.length_map,vcs,Ka,Kb,Kc,Kd,Ke,Kf,Kg,Kh,Ki,Kj,Kk,Kl,Km,reduceCtorEq,reduceIte,Kn,Ko,Kp,Kq,Kr,Ks,tys] | exact rfl | refine call_off (v := .any) ?_ | ((first | apply cond_bool | apply cond_bit) <;> intro hb) | refine And.intro (by omega) ?_ | refine And.intro (fun hb => ?_) (fun hb => ?_) | refine Fin.pure ?_ ?_ ?_ | simp only [injs])
            · (repeat' first | simp only [fins,mems,Tryz.results106,Tryz.ntmps106,Kt,wks,hh,hd,hlt,hw1,hw2,h1,h2,hr,byteRow,List.length_map,vcs,Ka,Kb,Kc,Kd,Ke,Kf,Kg,Kh,Ki,Kj,Kk,Kl,Km,reduceCtorEq,reduceIte,Kn,Ko,Kp,Kq,Kr,Ks,tys] | exact rfl | refine call_off (v := .any) ?_ | ((first | apply cond_bool | apply cond_bit) <;> intro hb) | refine And.intro (by omega) ?_ | refine And.intro (fun hb => ?_) (fun hb => ?_) | refine Fin.pure ?_ ?_ ?_ | simp only [injs])
          | some d =>
            obtain ⟨d9, _, hcd⟩ := decD_range hdc
            rw [hdc] at hnx
            have h1 : decide ((c.toNat : Int) - 48 < 0) = false := decide_eq_false (by omega)
            have h2 : decide ((9 : Int) < (c.toNat : Int) - 48) = false := decide_eq_false (by omega)
            have hw3 : IntKind.i64.wrap (10 * (m : Int)) = 10 * (m : Int) := wrap_in (by omega) (by omega)
            have hw4 : IntKind.i64.wrap (10 * (m : Int) + ((c.toNat : Int) - 48)) = ((10 * m + d : Nat) : Int) := by rw [wrap_in (by omega) (by omega)]; omega
            repeat' first | simp only [fins,mems,Tryz.results106,Tryz.ntmps106,Kt,wks,hh,hd,hlt,hw1,hw2,hw3,hw4,h1,h2,byteRow,List.length_map,vcs,Ka,Kb,Kc,Kd,Ke,Kf,Kg,Kh,Ki,Kj,Kk,Kl,Km,reduceCtorEq,reduceIte,Kn,Ko,Kp,Kq,Kr,Ks,tys] | exact rfl | refine call_off (v := .any) ?_ | ((first | apply cond_bool | apply cond_bit) <;> intro hb) | refine And.intro (by omega) ?_ | refine And.intro (fun hb => ?_) (fun hb => ?_)
            all_goals ((refine again_can2 cxG ((k + 1, 10 * m + d)) [] ?_ ?_ ?_ ?_; rotate_left 2; (focus (show b0 ≤ _; omega)); (focus (refine ⟨?_, ?_⟩ <;> (try simp only [cans,plain_bsG,hwk,hw4,List.length_map,vcs,Ka,Kb,Kc,Kd,Ke,Kf,Kg,Kh,Ki,Kj,Kk,Kl,Km,reduceCtorEq,reduceIte,Kn,Ko,Kp,Kq,Kr,Ks,tys,injs]) <;> (try omega)))))
            all_goals (first | (show s.length - (k + 1) < s.length - k; omega) | exact ⟨hlt, hnx⟩ | skip)
        · have hke : k = s.length := by omega
          subst hke
          rw [List.take_length] at hv
          have hd : decide (s.length < s.length) = false := decide_eq_false (by omega)
          by_cases hmx : m ≤ 9007199254740991
          · have hr := readE_some (s := s) (n := m) (by rw [hdl, hv]; simp only [Option.bind_some]; rw [if_pos hmx])
            have h1 : decide ((9007199254740991 : Int) < (m : Int)) = false := decide_eq_false (by omega)
            (repeat' first | simp only [fins,mems,Tryz.results106,Tryz.ntmps106,Kt,wks,hd,h1,hr,List.length_map,vcs,Ka,Kb,Kc,Kd,Ke,Kf,Kg,Kh,Ki,Kj,Kk,Kl,Km,reduceCtorEq,reduceIte,Kn,Ko,Kp,Kq,Kr,Ks,tys] | exact rfl | refine call_off (v := .any) ?_ | ((first | apply cond_bool | apply cond_bit) <;> intro hb) | refine And.intro (by omega) ?_ | refine And.intro (fun hb => ?_) (fun hb => ?_) | refine Fin.pure ?_ ?_ ?_ | simp only [injs])
          · have hr := readE_none (s := s) (by rw [hdl, hv]; simp only [Option.bind_some]; rw [if_neg hmx])
            have h1 : decide ((9007199254740991 : Int) < (m : Int)) = true := decide_eq_true (by omega)
            (repeat' first | simp only [fins,mems,Tryz.results106,Tryz.ntmps106,Kt,wks,hd,h1,hr,List.length_map,vcs,Ka,Kb,Kc,Kd,Ke,Kf,Kg,Kh,Ki,Kj,Kk,Kl,Km,reduceCtorEq,reduceIte,Kn,Ko,Kp,Kq,Kr,Ks,tys] | exact rfl | refine call_off (v := .any) ?_ | ((first | apply cond_bool | apply cond_bit) <;> intro hb) | refine And.intro (by omega) ?_ | refine And.intro (fun hb => ?_) (fun hb => ?_) | refine Fin.pure ?_ ?_ ?_ | simp only [injs]))
def lowI (c : UInt8) : Int := IntKind.u8.wrap ((BitVec.ofInt IntKind.u8.bits (c.toNat : Int) ||| BitVec.ofInt IntKind.u8.bits 32).toNat : Int)
theorem lower_ev (c : UInt8) (nm : Nat) : Ev cx 129 nm [.int .u8 c.toNat] Mem.nil (.int .u8 (lowI c)) [] := by
  have h : IntKind.u8.wrap ((BitVec.ofInt IntKind.u8.bits (c.toNat : Int) ||| BitVec.ofInt IntKind.u8.bits 32).toNat : Int) = lowI c := rfl
  refine ev_go rfl (fun cargs w => Tryz.call129 cargs w) Tryz.func129 rfl mixed (by kernel_rfl) rfl ?_; intro b0 hb0
  (repeat' first | simp only [fins,mems,Tryz.results129,Tryz.ntmps129,Kt,wks,h,vcs,Ka,Kb,Kc,Kd,Ke,Kf,Kg,Kh,Ki,Kj,Kk,Kl,Km,reduceCtorEq,reduceIte,Kn,Ko,Kp,Kq,Kr,Ks,tys] | exact rfl | refine call_off (v := .any) ?_ | ((first | apply cond_bool | apply cond_bit) <;> intro hb) | refine And.intro (by omega) ?_ | refine And.intro (fun hb => ?_) (fun hb => ?_) | refine Fin.pure ?_ ?_ ?_ | simp only [injs])
theorem low_hex {c : UInt8} {d : Nat} (h : hexD c = some d) : (48 ≤ c.toNat ∧ c.toNat ≤ 57 ∧ d = c.toNat - 48) ∨ (57 < c.toNat ∧ c.toNat ≠ 95 ∧ 97 ≤ lowI c ∧ lowI c ≤ 102 ∧ (d : Int) = lowI c - 87) := by
  have key : ∀ n : Fin 256, (97 ≤ n.val ∧ n.val ≤ 102 → lowI (UInt8.ofNat n.val) = n.val) ∧ (65 ≤ n.val ∧ n.val ≤ 70 → lowI (UInt8.ofNat n.val) = n.val + 32) := by decide +kernel
  have hk := key ⟨c.toNat, c.toNat_lt⟩
  simp only [UInt8.ofNat_toNat] at hk
  unfold hexD at h
  split at h
  · rename_i h1; cases h; left; omega
  · split at h
    · rename_i h1; cases h; right
      have := hk.1 h1
      omega
    · split at h
      · rename_i h1; cases h; right
        have := hk.2 h1
        omega
      · cases h
theorem hexV_snoc : ∀ (s : List UInt8) (n : Nat) (c : UInt8), hexV n (s ++ [c]) = (hexV n s).bind fun m => (hexD c).map fun d => 16 * m + d
  | [], n, c => by
    simp only [List.nil_append,hexV,Option.bind_some]
    cases hexD c <;> rfl
  | x :: s, n, c => by
    simp only [List.cons_append,hexV]
    cases hexD x with
    | none => rfl
    | some d => exact hexV_snoc s _ c
theorem hexV_take {s : List UInt8} {k : Nat} {c : UInt8} (h : s[k]? = some c) : hexV 0 (s.take (k + 1)) = (hexV 0 (s.take k)).bind fun m => (hexD c).map fun d => 16 * m + d := by
  obtain ⟨hk, rfl⟩ := List.getElem?_eq_some_iff.1 h
  rw [List.take_succ_eq_append_getElem hk, hexV_snoc]
theorem hexD_lt {c : UInt8} {d : Nat} (h : hexD c = some d) : d < 16 := by
  unfold hexD at h
  split at h
  · cases h; omega
  · split at h
    · cases h; omega
    · split at h
      · cases h; omega
      · cases h
theorem hexV_lt : ∀ (s : List UInt8) (n m : Nat), hexV n s = some m → m < (n + 1) * 16 ^ s.length
  | [], n, m, h => by simp only [hexV] at h; cases h; simp
  | x :: s, n, m, h => by
    simp only [hexV] at h
    cases hx : hexD x with
    | none => rw [hx] at h; cases h
    | some d =>
      rw [hx] at h
      have hd := hexD_lt hx
      refine Nat.lt_of_lt_of_le (hexV_lt s _ m h) ?_
      rw [List.length_cons, Nat.pow_succ', ← Nat.mul_assoc]
      exact Nat.mul_le_mul_right _ (by omega)
theorem hexV_none : ∀ {s t : List UInt8} {n : Nat}, hexV n s = none → hexV n (s ++ t) = none
  | [], t, n, h => by simp [hexV] at h
  | c :: s, t, n, h => by
    simp only [List.cons_append,hexV] at h ⊢
    cases hc : hexD c with
    | none => rfl
    | some d => rw [hc] at h; exact hexV_none h
def allHex (s : List UInt8) : Bool := s.all fun c => (hexD c).isSome
theorem hexV_all : ∀ (s : List UInt8) (n : Nat), allHex s = (hexV n s).isSome
  | [], n => rfl
  | c :: s, n => by
    simp only [allHex,List.all_cons,hexV]
    cases hc : hexD c with
    | none => simp
    | some d => simpa [allHex] using hexV_all s (16 * n + d)
theorem uint_ev (s : List UInt8) (n : Nat) (hl : s.length ≤ 6) (h0 : s ≠ []) (hv : hexV 0 s = some n) (nm : Nat) : Ev cx 121 nm [.str s, .int .i64 16, .int .i64 32] Mem.nil (.tup [.int .u64 n, .val .nilIface]) [] := by
  have e0 : (s == []) = false := beq_false_of_ne h0
  have hsh : IntKind.u64.wrap (1 * 2 ^ min 32 IntKind.u64.bits) = 4294967296 := by decide
  have hsh2 : IntKind.u64.wrap (4294967296 - 1) = 4294967295 := by decide
  have hsh3 : IntKind.u64.wrap 4294967295 = 4294967295 := by decide
  have hL : s.length ≤ 6 := hl
  have hw32 : IntKind.u64.wrap 32 = 32 := by decide
  have q16 : IntKind.u8.wrap 16 = 16 := by decide
  have q16' : IntKind.u64.wrap 16 = 16 := by decide
  refine ev_go rfl (fun cargs w => Tryz.call121 cargs w) Tryz.func121 rfl mixed (by kernel_rfl) rfl ?_; intro b0 hb0
  repeat' first | simp only [fins,mems,Tryz.results121,Tryz.ntmps121,Kt,wks,e0,hw32,hsh,hsh2,hsh3,vcs,Ka,Kb,Kc,Kd,Ke,Kf,Kg,Kh,Ki,Kj,Kk,Kl,Km,reduceCtorEq,reduceIte,Kn,Ko,Kp,Kq,Kr,Ks,tys] | exact rfl | refine call_off (v := .any) ?_ | (refine ext_toBytes (bs := ?_) ?_ ?_ ?_ ?_; rotate_left 1; (iterate 2 (focus (simp only [Tryz.results121,Tryz.ntmps121,Kt,wks,e0,hw32,hsh,hsh2,hsh3,vcs,Ka,Kb,Kc,Kd,Ke,Kf,Kg,Kh,Ki,Kj,Kk,Kl,Km,reduceCtorEq,reduceIte,Kn,Ko,Kp,Kq,Kr,Ks,tys]; done))); (focus (simp only [Tryz.results121,Tryz.ntmps121,Kt,wks,e0,hw32,hsh,hsh2,hsh3,vcs,Ka,Kb,Kc,Kd,Ke,Kf,Kg,Kh,Ki,Kj,Kk,Kl,Km,reduceCtorEq,reduceIte,Kn,Ko,Kp,Kq,Kr,Ks,tys] <;> exact rfl))) | (refine extG_true ?_) | (refine extG_false ?_) | ((first | apply cond_bool | apply cond_bit) <;> intro hb) | refine And.intro (by omega) ?_ | refine And.intro (fun hb => ?_) (fun hb => ?_)
  (refine loop_can2 cxG (fun x : Nat × Nat => s.length - x.1) (fun x => x.1 ≤ s.length ∧ hexV 0 (s.take x.1) = some x.2) (b0 + 16) (fun x => [(1, .int .i64 16), (8, .bool false), (9, .str s), (10, .int .u64 1152921504606846976), (11, .int .u64 4294967295), (12, .bool false), (13, .int .u64 x.2), (99, .sl false 1 (s.map byteRow)), (100, .int .i64 s.length), (101, .int .i64 x.1)]) (fun x => []) ((0, 0)) [] ?_ ?_ ?_ ?_; rotate_left 1; (focus (show b0 ≤ _; omega)); (focus (refine ⟨?_, ?_⟩ <;> (try simp only [cans,plain_bsG,List.length_map,show hexV 0 [] = some 0 from rfl,vcs,Ka,Kb,Kc,Kd,Ke,Kf,Kg,Kh,Ki,Kj,Kk,Kl,Km,reduceCtorEq,reduceIte,Kn,Ko,Kp,Kq,Kr,Ks,tys,injs]) <;> (try omega))); rotate_left 1)
  · exact ⟨Nat.zero_le _, rfl⟩
  · rintro ⟨k, m⟩ ⟨hk, hm⟩
    simp only at hk hm
    have hmb := hexV_lt _ _ _ hm
    have hkl : (s.take k).length = k := by rw [List.length_take]; omega
    rw [hkl] at hmb
    have hp6 : (16 : Nat) ^ k ≤ 16 ^ 6 := Nat.pow_le_pow_right (by omega) (by omega)
    have hm6 : m < 16777216 := by simp only [Nat.zero_add,Nat.one_mul] at hmb; exact Nat.lt_of_lt_of_le hmb hp6
    by_cases hlt : k < s.length
    · obtain ⟨c, hc⟩ : ∃ c, s[k]? = some c := ⟨_, List.getElem?_eq_getElem hlt⟩
      have hh : (s.map byteRow)[k]? = some (byteRow c) := by rw [List.getElem?_map, hc]; rfl
      have hd : decide (k < s.length) = true := decide_eq_true hlt
      have hwk : IntKind.i64.wrap ((k : Int) + 1) = ((k + 1 : Nat) : Int) := wrap_in (by omega) (by omega)
      have hcn : c.toNat < 256 := c.toNat_lt
      have hnx := hexV_take hc
      rw [hm] at hnx
      simp only [Option.bind_some] at hnx
      cases hdc : hexD c with
      | none =>
        exfalso
        rw [hdc] at hnx
        have : hexV 0 s = none := by rw [← List.take_append_drop (k + 1) s]; exact hexV_none hnx
        rw [this] at hv; cases hv
      | some d =>
        rw [hdc] at hnx
        have hdl := hexD_lt hdc
        have hd16 : decide ((16 : Int) ≤ (d : Int)) = false := decide_eq_false (by omega)
        have hcu : decide ((1152921504606846976 : Int) ≤ (m : Int)) = false := decide_eq_false (by omega)
        have hw3 : IntKind.u64.wrap ((m : Int) * 16) = (m : Int) * 16 := IntWalk.u64_in _ (by omega)
        have hw4 : IntKind.u64.wrap (d : Int) = (d : Int) := IntWalk.u64_in _ (by omega)
        have hw5 : IntKind.u64.wrap ((m : Int) * 16 + (d : Int)) = ((16 * m + d : Nat) : Int) := by rw [IntWalk.u64_in _ (by omega)]; omega
        have hc1 : decide (((16 * m + d : Nat) : Int) < (m : Int) * 16) = false := decide_eq_false (by omega)
        have hc2 : decide ((4294967295 : Int) < ((16 * m + d : Nat) : Int)) = false := decide_eq_false (by omega)
        rcases low_hex hdc with ⟨h1, h2, h3⟩ | ⟨h1, h2, h3, h4, h5⟩
        · have q95 : ((c.toNat : Int) == 95) = false := beq_false_of_ne (by omega)
          have q48 : decide ((48 : Int) ≤ (c.toNat : Int)) = true := decide_eq_true (by omega)
          have q57 : decide ((c.toNat : Int) ≤ 57) = true := decide_eq_true (by omega)
          have hw1 : IntKind.u8.wrap ((c.toNat : Int) - 48) = (d : Int) := by rw [IntWalk.u8_in _ (by omega)]; omega
          repeat' first | simp only [fins,mems,Tryz.results121,Tryz.ntmps121,Kt,wks,hh,hd,hlt,hw1,hw3,hw4,hw5,hd16,hcu,hc1,hc2,q95,q48,q57,q16,q16',byteRow,List.length_map,vcs,Ka,Kb,Kc,Kd,Ke,Kf,Kg,Kh,Ki,Kj,Kk,Kl,Km,reduceCtorEq,reduceIte,Kn,Ko,Kp,Kq,Kr,Ks,tys] | exact rfl | refine call_off (v := .any) ?_ | ((first | apply cond_bool | apply cond_bit) <;> intro hb) | refine And.intro (by omega) ?_ | refine And.intro (fun hb => ?_) (fun hb => ?_)
          all_goals ((refine again_can2 cxG ((k + 1, 16 * m + d)) [] ?_ ?_ ?_ ?_; rotate_left 2; (focus (show b0 ≤ _; omega)); (focus (refine ⟨?_, ?_⟩ <;> (try simp only [cans,plain_bsG,hwk,List.length_map,vcs,Ka,Kb,Kc,Kd,Ke,Kf,Kg,Kh,Ki,Kj,Kk,Kl,Km,reduceCtorEq,reduceIte,Kn,Ko,Kp,Kq,Kr,Ks,tys,injs]) <;> (try omega)))))
          all_goals (first | (show s.length - (k + 1) < s.length - k; omega) | exact ⟨hlt, hnx⟩ | skip)
        · have q95 : ((c.toNat : Int) == 95) = false := beq_false_of_ne (by omega)
          have q48 : decide ((48 : Int) ≤ (c.toNat : Int)) = true := decide_eq_true (by omega)
          have q57 : decide ((c.toNat : Int) ≤ 57) = false := decide_eq_false (by omega)
          have q97 : decide ((97 : Int) ≤ lowI c) = true := decide_eq_true (by omega)
          have q122 : decide (lowI c ≤ (122 : Int)) = true := decide_eq_true (by omega)
          have hw1 : IntKind.u8.wrap (lowI c - 97) = lowI c - 97 := IntWalk.u8_in _ (by omega)
          have hw2 : IntKind.u8.wrap (lowI c - 97 + 10) = (d : Int) := by rw [IntWalk.u8_in _ (by omega)]; omega
          repeat' first | simp only [fins,mems,Tryz.results121,Tryz.ntmps121,Kt,wks,hh,hd,hlt,hw1,hw2,hw3,hw4,hw5,hd16,hcu,hc1,hc2,q95,q48,q57,q97,q122,q16,q16',byteRow,List.length_map,vcs,Ka,Kb,Kc,Kd,Ke,Kf,Kg,Kh,Ki,Kj,Kk,Kl,Km,reduceCtorEq,reduceIte,Kn,Ko,Kp,Kq,Kr,Ks,tys] | exact rfl | refine call_off (v := .any) ?_ | (first | (refine call_fn ?_ (lower_ev c _) ?_) | (refine call_fn_g ?_ (fun _ => lower_ev c _) ?_)) | ((first | apply cond_bool | apply cond_bit) <;> intro hb) | refine And.intro (by omega) ?_ | refine And.intro (fun hb => ?_) (fun hb => ?_)
          all_goals ((refine again_can2 cxG ((k + 1, 16 * m + d)) [] ?_ ?_ ?_ ?_; rotate_left 2; (focus (show b0 ≤ _; omega)); (focus (refine ⟨?_, ?_⟩ <;> (try simp only [cans,plain_bsG,hwk,List.length_map,vcs,Ka,Kb,Kc,Kd,Ke,Kf,Kg,Kh,Ki,Kj,Kk,Kl,Km,reduceCtorEq,reduceIte,Kn,Ko,Kp,Kq,Kr,Ks,tys,injs]) <;> (try omega)))))
          all_goals (first | (show s.length - (k + 1) < s.length - k; omega) | exact ⟨hlt, hnx⟩ | skip)
    · have hke : k = s.length := by omega
      subst hke
      rw [List.take_length, hv] at hm
      cases hm
      have hd : decide (s.length < s.length) = false := decide_eq_false (by omega)
      (repeat' first | simp only [fins,mems,Tryz.results121,Tryz.ntmps121,Kt,wks,hd,List.length_map,vcs,Ka,Kb,Kc,Kd,Ke,Kf,Kg,Kh,Ki,Kj,Kk,Kl,Km,reduceCtorEq,reduceIte,Kn,Ko,Kp,Kq,Kr,Ks,tys] | exact rfl | refine call_off (v := .any) ?_ | ((first | apply cond_bool | apply cond_bit) <;> intro hb) | refine And.intro (by omega) ?_ | refine And.intro (fun hb => ?_) (fun hb => ?_) | refine Fin.pure ?_ ?_ ?_ | simp only [injs])
end Go.Proofs.YtoaclokiggoeiaaGreatDoor
