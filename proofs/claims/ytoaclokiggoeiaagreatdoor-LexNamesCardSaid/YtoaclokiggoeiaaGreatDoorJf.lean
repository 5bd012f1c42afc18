/-
  Texts joined: XTy, XEp, XEq, XEr, XEs, XEx, XEn, XLa, XUa, XGa, XGb, XNa, XEa.
-/
import Derived.Test.YtoaclokiggoeiaaGreatDoorChecked
import Derived.Lib.LaidU8
import Derived.Lib.ItoaNum
import Derived.Lib.RuneBytes
import Derived.Lib.MapLaws
import Derived.Lib.RuneCountTail
import Derived.Lib.IndexLaws
import Derived.Test.YtoaclokiggoeiaaGreatDoorJe
namespace Go.Proofs.YtoaclokiggoeiaaGreatDoor
set_option maxRecDepth 100000
set_option maxHeartbeats 32000000
set_option linter.unusedSimpArgs false
set_option linter.unusedVariables false
open Go Go.RowKit Go.Proofs.YtoaclokiggoeiaaGreatDoor.Vm
def firstV : V := .rp (Lib.firstTab.map fun z => .int .u8 z)
def accV : V := .rp ((List.range 16).flatMap fun i => [V.int .u8 (Lib.accLo i), .int .u8 (Lib.accHi i)])
def tensV : V := .rp (Lib.pow10Tab.map fun z => .int .u64 z)
def tabsG (g : Nat) : V := if g = 1 then firstV else if g = 2 then accV else if g = 5 then tensV else .any
theorem tabs_plain : firstV.plain = true ∧ accV.plain = true ∧ tensV.plain = true := by decide +kernel
noncomputable def cx : Cx := ⟨Tryz.prog, tabsG, []⟩
theorem cxG : ∀ g, (cx.G g).plain = true := fun g => by
  show (tabsG g).plain = true
  unfold tabsG
  split
  · exact tabs_plain.1
  · split
    · exact tabs_plain.2.1
    · split
      · exact tabs_plain.2.2
      · rfl
theorem mixed : cx.P.follows .mixedOrders = true := by kernel_rfl
theorem und_9 : cx.P.underlying 9 = some .string := by kernel_rfl
theorem lk_9 : lenKind cx.P 9 = true := by kernel_rfl
theorem und_3 : cx.P.underlying 3 = some (.int .i64) := by kernel_rfl
theorem und_4 : cx.P.underlying 4 = some .bool := by kernel_rfl
theorem und_30 : cx.P.underlying 30 = some (.slice 5) := by kernel_rfl
theorem el_30 : elInfo cx.P 30 = some ([.int .u8 0], 1) := by kernel_rfl
theorem lk_30 : lenKind cx.P 30 = true := by kernel_rfl
theorem et_30 : elemT cx.P 30 = some 5 := by kernel_rfl
theorem bet_30 : betT cx.P 30 = some 5 := by kernel_rfl
theorem elm_30 : elm cx.P 30 = some (none, 1, false) := by kernel_rfl
theorem ty_5 : ty cx.P 5 = some (1, false) := by kernel_rfl
theorem und_5 : cx.P.underlying 5 = some (.int .u8) := by kernel_rfl
theorem bt_30 : bytesT cx.P 30 = true := by kernel_rfl
theorem shape_33 : shapeT cx.P 33 = some ([.str [], .str []], [(0, 1), (1, 1)]) := by kernel_rfl
theorem zero_33 : zeroL cx.P 33 = some [.str [], .str []] := by kernel_rfl
theorem bld_33 : bldT cx.P 33 = none := by kernel_rfl
theorem ty_33 : ty cx.P 33 = some (2, true) := by kernel_rfl
theorem el_35 : elInfo cx.P 35 = some ([.str [], .str []], 32) := by kernel_rfl
theorem el_22 : elInfo cx.P 22 = some ([.int .u8 0, .str [], .nils, .str []], 64) := by kernel_rfl
theorem shape_37 : shapeT cx.P 37 = some ([.int .u8 0, .str [], .nils, .str []], [(0, 1), (1, 1), (2, 1), (3, 1)]) := by kernel_rfl
theorem und_23 : cx.P.underlying 23 = some (.int .i64) := by kernel_rfl
theorem und_22 : cx.P.underlying 22 = some (.slice 37) := by kernel_rfl
theorem lk_22 : lenKind cx.P 22 = true := by kernel_rfl
theorem et_22 : elemT cx.P 22 = some 37 := by kernel_rfl
theorem bet_22 : betT cx.P 22 = none := by kernel_rfl
theorem elm_22 : elm cx.P 22 = some (none, 4, true) := by kernel_rfl
theorem fld_37_0 : fld cx.P 37 0 = some (0, 1, false) := by kernel_rfl
theorem ty_37 : ty cx.P 37 = some (4, true) := by kernel_rfl
theorem shape_49 : shapeT cx.P 49 = some ([.str []], [(0, 1)]) := by kernel_rfl
theorem shape_51 : shapeT cx.P 51 = some ([.str []], [(0, 1)]) := by kernel_rfl
theorem fld_51_0 : fld cx.P 51 0 = some (0, 1, true) := by kernel_rfl
theorem fld_49_0 : fld cx.P 49 0 = some (0, 1, false) := by kernel_rfl
theorem ty_9 : ty cx.P 9 = some (1, false) := by kernel_rfl
theorem zero_37 : zeroL cx.P 37 = some [.int .u8 0, .str [], .nils, .str []] := by kernel_rfl
theorem bld_37 : bldT cx.P 37 = none := by kernel_rfl
theorem fld_37_2 : fld cx.P 37 2 = some (2, 1, false) := by kernel_rfl
theorem ty_35 : ty cx.P 35 = some (1, false) := by kernel_rfl
theorem und_35 : cx.P.underlying 35 = some (.slice 33) := by kernel_rfl
theorem lk_35 : lenKind cx.P 35 = true := by kernel_rfl
theorem et_35 : elemT cx.P 35 = some 33 := by kernel_rfl
theorem bet_35 : betT cx.P 35 = none := by kernel_rfl
theorem fld_37_1 : fld cx.P 37 1 = some (1, 1, false) := by kernel_rfl
theorem fld_37_3 : fld cx.P 37 3 = some (3, 1, false) := by kernel_rfl
theorem elm_35 : elm cx.P 35 = some (none, 2, true) := by kernel_rfl
theorem fld_33_0 : fld cx.P 33 0 = some (0, 1, false) := by kernel_rfl
theorem fld_33_1 : fld cx.P 33 1 = some (1, 1, false) := by kernel_rfl
theorem zero_69 : zeroL cx.P 69 = some [.nilp, .nils] := by kernel_rfl
theorem bld_69 : bldT cx.P 69 = some 69 := by kernel_rfl
theorem zero_23 : zeroL cx.P 23 = some [.int .i64 0] := by kernel_rfl
theorem bld_23 : bldT cx.P 23 = none := by kernel_rfl
theorem ty_23 : ty cx.P 23 = some (1, false) := by kernel_rfl
theorem feq_33 : flatEq cx.P 33 = some [(0, 1), (1, 1)] := by kernel_rfl
theorem fld_69_1 : fld cx.P 69 1 = some (1, 1, false) := by kernel_rfl
theorem ty_30 : ty cx.P 30 = some (1, false) := by kernel_rfl
theorem und_89 : cx.P.underlying 89 = some (.pointer 5) := by kernel_rfl
theorem und_21 : cx.P.underlying 21 = some (.int .i32) := by kernel_rfl
theorem el_77 : elInfo cx.P 77 = some ([.int .i64 0], 8) := by kernel_rfl
theorem und_77 : cx.P.underlying 77 = some (.slice 3) := by kernel_rfl
theorem lk_77 : lenKind cx.P 77 = true := by kernel_rfl
theorem et_77 : elemT cx.P 77 = some 3 := by kernel_rfl
theorem bet_77 : betT cx.P 77 = none := by kernel_rfl
theorem shape_96 : shapeT cx.P 96 = some ([.str [], .nils], [(0, 1), (1, 1)]) := by kernel_rfl
theorem fld_96_0 : fld cx.P 96 0 = some (0, 1, false) := by kernel_rfl
theorem fld_96_1 : fld cx.P 96 1 = some (1, 1, false) := by kernel_rfl
theorem fld_69_0 : fld cx.P 69 0 = some (0, 1, false) := by kernel_rfl
theorem ty_67 : ty cx.P 67 = some (1, false) := by kernel_rfl
theorem und_67 : cx.P.underlying 67 = some (.pointer 69) := by kernel_rfl
theorem und_105 : cx.P.underlying 105 = some .unsafePointer := by kernel_rfl
theorem zero_114 : zeroL cx.P 114 = some [.str []] := by kernel_rfl
theorem bld_114 : bldT cx.P 114 = none := by kernel_rfl
theorem ty_114 : ty cx.P 114 = some (1, true) := by kernel_rfl
theorem fld_114_0 : fld cx.P 114 0 = some (0, 1, false) := by kernel_rfl
theorem shape_120 : shapeT cx.P 120 = some ([.str [], .val .nilFunc], [(0, 1), (1, 1)]) := by kernel_rfl
theorem el_121 : elInfo cx.P 121 = some ([.str [], .val .nilFunc], 24) := by kernel_rfl
theorem und_121 : cx.P.underlying 121 = some (.slice 120) := by kernel_rfl
theorem lk_121 : lenKind cx.P 121 = true := by kernel_rfl
theorem et_121 : elemT cx.P 121 = some 120 := by kernel_rfl
theorem bet_121 : betT cx.P 121 = none := by kernel_rfl
theorem elm_121 : elm cx.P 121 = some (none, 2, true) := by kernel_rfl
theorem ty_120 : ty cx.P 120 = some (2, true) := by kernel_rfl
theorem zero_120 : zeroL cx.P 120 = some [.str [], .val .nilFunc] := by kernel_rfl
theorem bld_120 : bldT cx.P 120 = none := by kernel_rfl
theorem fld_120_0 : fld cx.P 120 0 = some (0, 1, false) := by kernel_rfl
theorem fld_120_1 : fld cx.P 120 1 = some (1, 1, false) := by kernel_rfl
theorem ty_118 : ty cx.P 118 = some (1, false) := by kernel_rfl
theorem ty_3 : ty cx.P 3 = some (1, false) := by kernel_rfl
theorem zero_132 : zeroL cx.P 132 = some [.bool false, .bool false, .bool false, .bool false, .bool false, .bool false, .bool false, .bool false, .bool false, .bool false, .bool false, .bool false, .bool false, .bool false, .bool false, .bool false, .bool false, .bool false, .bool false, .bool false, .bool false, .bool false, .bool false, .bool false, .bool false, .bool false, .bool false, .bool false, .bool false, .bool false, .bool false, .bool false, .bool false, .bool false, .bool false, .bool false, .bool false, .bool false, .bool false, .bool false, .bool false, .bool false, .bool false, .bool false, .bool false, .bool false, .bool false, .bool false, .bool false, .bool false, .bool false, .bool false, .bool false, .bool false, .bool false, .bool false, .bool false, .bool false, .bool false, .bool false, .bool false, .bool false, .bool false, .bool false, .bool false, .bool false, .bool false, .bool false, .bool false, .bool false, .bool false, .bool false, .bool false, .bool false, .bool false, .bool false, .bool false, .bool false, .bool false, .bool false, .bool false, .bool false, .bool false, .bool false, .bool false, .bool false, .bool false, .bool false, .bool false, .bool false, .bool false, .bool false, .bool false, .bool false, .bool false, .bool false, .bool false, .bool false, .bool false, .bool false, .bool false, .bool false, .bool false, .bool false, .bool false, .bool false, .bool false, .bool false, .bool false, .bool false, .bool false, .bool false, .bool false, .bool false, .bool false, .bool false, .bool false, .bool false, .bool false, .bool false, .bool false, .bool false, .bool false, .bool false, .bool false, .bool false, .bool false, .bool false, .bool false, .bool false, .bool false, .bool false, .bool false, .bool false, .bool false, .bool false, .bool false, .bool false, .bool false, .bool false, .bool false, .bool false, .bool false, .bool false, .bool false, .bool false, .bool false, .bool false, .bool false, .bool false, .bool false, .bool false, .bool false, .bool false, .bool false, .bool false, .bool false, .bool false, .bool false, .bool false, .bool false, .bool false, .bool false, .bool false, .bool false, .bool false, .bool false, .bool false, .bool false, .bool false, .bool false, .bool false, .bool false, .bool false, .bool false, .bool false, .bool false, .bool false, .bool false, .bool false, .bool false, .bool false, .bool false, .bool false, .bool false, .bool false, .bool false, .bool false, .bool false, .bool false, .bool false, .bool false, .bool false, .bool false, .bool false, .bool false, .bool false, .bool false, .bool false, .bool false, .bool false, .bool false, .bool false, .bool false, .bool false, .bool false, .bool false, .bool false, .bool false, .bool false, .bool false, .bool false, .bool false, .bool false, .bool false, .bool false, .bool false, .bool false, .bool false, .bool false, .bool false, .bool false, .bool false, .bool false, .bool false, .bool false, .bool false, .bool false, .bool false, .bool false, .bool false, .bool false, .bool false, .bool false, .bool false, .bool false, .bool false, .bool false, .bool false, .bool false, .bool false, .bool false, .bool false, .bool false, .bool false, .bool false, .bool false, .bool false, .bool false, .bool false, .bool false, .bool false, .bool false, .bool false, .bool false, .bool false] := by kernel_rfl
theorem bld_132 : bldT cx.P 132 = none := by kernel_rfl
theorem ty_132 : ty cx.P 132 = some (256, true) := by kernel_rfl
theorem shape_114 : shapeT cx.P 114 = some ([.str []], [(0, 1)]) := by kernel_rfl
theorem und_143 : cx.P.underlying 143 = some (.int .u64) := by kernel_rfl
theorem zero_30 : zeroL cx.P 30 = some [.nils] := by kernel_rfl
theorem bld_30 : bldT cx.P 30 = none := by kernel_rfl
theorem elm_77 : elm cx.P 77 = some (none, 1, false) := by kernel_rfl
theorem und_151 : cx.P.underlying 151 = some (.int .u32) := by kernel_rfl
theorem elm_132 : elm cx.P 132 = some (some 256, 1, false) := by kernel_rfl
theorem ty_4 : ty cx.P 4 = some (1, false) := by kernel_rfl
theorem elm_157 : elm cx.P 157 = some (some 256, 1, false) := by kernel_rfl
theorem elm_160 : elm cx.P 160 = some (some 16, 2, true) := by kernel_rfl
theorem ty_159 : ty cx.P 159 = some (2, true) := by kernel_rfl
theorem zero_159 : zeroL cx.P 159 = some [.int .u8 0, .int .u8 0] := by kernel_rfl
theorem bld_159 : bldT cx.P 159 = none := by kernel_rfl
theorem fld_159_0 : fld cx.P 159 0 = some (0, 1, false) := by kernel_rfl
theorem fld_159_1 : fld cx.P 159 1 = some (1, 1, false) := by kernel_rfl
theorem und_127 : cx.P.underlying 127 = some (.int .u64) := by kernel_rfl
theorem ty_71 : ty cx.P 71 = some (1, false) := by kernel_rfl
theorem shape_168 : shapeT cx.P 168 = some ([.str [], .str [], .val .nilIface], [(0, 1), (1, 1), (2, 1)]) := by kernel_rfl
theorem und_2 : cx.P.underlying 2 = some (.int .i64) := by kernel_rfl
theorem zero_174 : zeroL cx.P 174 = some [.int .u8 0, .int .u8 0, .int .u8 0, .int .u8 0, .int .u8 0, .int .u8 0, .int .u8 0, .int .u8 0, .int .u8 0, .int .u8 0, .int .u8 0, .int .u8 0, .int .u8 0, .int .u8 0, .int .u8 0, .int .u8 0, .int .u8 0, .int .u8 0, .int .u8 0, .int .u8 0, .int .u8 0, .int .u8 0, .int .u8 0, .int .u8 0] := by kernel_rfl
theorem bld_174 : bldT cx.P 174 = none := by kernel_rfl
theorem elm_174 : elm cx.P 174 = some (some 24, 1, false) := by kernel_rfl
theorem elm_180 : elm cx.P 180 = some (some 20, 1, false) := by kernel_rfl
theorem ty_143 : ty cx.P 143 = some (1, false) := by kernel_rfl
theorem zero_181 : zeroL cx.P 181 = some [.int .u8 0, .int .u8 0, .int .u8 0, .int .u8 0, .int .u8 0, .int .u8 0, .int .u8 0, .int .u8 0, .int .u8 0, .int .u8 0, .int .u8 0, .int .u8 0, .int .u8 0, .int .u8 0, .int .u8 0, .int .u8 0, .int .u8 0, .int .u8 0, .int .u8 0, .int .u8 0, .int .u8 0, .int .u8 0, .int .u8 0, .int .u8 0, .int .u8 0, .int .u8 0, .int .u8 0, .int .u8 0, .int .u8 0, .int .u8 0, .int .u8 0, .int .u8 0, .int .u8 0, .int .u8 0, .int .u8 0, .int .u8 0, .int .u8 0, .int .u8 0, .int .u8 0, .int .u8 0, .int .u8 0, .int .u8 0, .int .u8 0, .int .u8 0, .int .u8 0, .int .u8 0, .int .u8 0, .int .u8 0, .int .u8 0, .int .u8 0, .int .u8 0, .int .u8 0, .int .u8 0, .int .u8 0, .int .u8 0, .int .u8 0, .int .u8 0, .int .u8 0, .int .u8 0, .int .u8 0, .int .u8 0, .int .u8 0, .int .u8 0, .int .u8 0, .int .u8 0] := by kernel_rfl
theorem bld_181 : bldT cx.P 181 = none := by kernel_rfl
theorem elm_181 : elm cx.P 181 = some (some 65, 1, false) := by kernel_rfl
theorem elm_184 : elm cx.P 184 = some (some 32, 1, false) := by kernel_rfl
theorem elm_185 : elm cx.P 185 = some (some 64, 1, false) := by kernel_rfl
set_option linter.defProp false in
def tys := (And.intro und_9 (And.intro lk_9 (And.intro und_3 (And.intro und_4 (And.intro und_30 (And.intro el_30 (And.intro lk_30 (And.intro et_30 (And.intro bet_30 (And.intro elm_30 (And.intro ty_5 (And.intro und_5 (And.intro bt_30 (And.intro shape_33 (And.intro zero_33 (And.intro bld_33 (And.intro ty_33 (And.intro el_35 (And.intro el_22 (And.intro shape_37 (And.intro und_23 (And.intro und_22 (And.intro lk_22 (And.intro et_22 (And.intro bet_22 (And.intro elm_22 (And.intro fld_37_0 (And.intro ty_37 (And.intro shape_49 (And.intro shape_51 (And.intro fld_51_0 (And.intro fld_49_0 (And.intro ty_9 (And.intro zero_37 (And.intro bld_37 (And.intro fld_37_2 (And.intro ty_35 (And.intro und_35 (And.intro lk_35 (And.intro et_35 (And.intro bet_35 (And.intro fld_37_1 (And.intro fld_37_3 (And.intro elm_35 (And.intro fld_33_0 (And.intro fld_33_1 (And.intro zero_69 (And.intro bld_69 (And.intro zero_23 (And.intro bld_23 (And.intro ty_23 (And.intro feq_33 (And.intro fld_69_1 (And.intro ty_30 (And.intro und_89 (And.intro und_21 (And.intro el_77 (And.intro und_77 (And.intro lk_77 (And.intro et_77 (And.intro bet_77 (And.intro shape_96 (And.intro fld_96_0 (And.intro fld_96_1 (And.intro fld_69_0 (And.intro ty_67 (And.intro und_67 (And.intro und_105 (And.intro zero_114 (And.intro bld_114 (And.intro ty_114 (And.intro fld_114_0 (And.intro shape_120 (And.intro el_121 (And.intro und_121 (And.intro lk_121 (And.intro et_121 (And.intro bet_121 (And.intro elm_121 (And.intro ty_120 (And.intro zero_120 (And.intro bld_120 (And.intro fld_120_0 (And.intro fld_120_1 (And.intro ty_118 (And.intro ty_3 (And.intro zero_132 (And.intro bld_132 (And.intro ty_132 (And.intro shape_114 (And.intro und_143 (And.intro zero_30 (And.intro bld_30 (And.intro elm_77 (And.intro und_151 (And.intro elm_132 (And.intro ty_4 (And.intro elm_157 (And.intro elm_160 (And.intro ty_159 (And.intro zero_159 (And.intro bld_159 (And.intro fld_159_0 (And.intro fld_159_1 (And.intro und_127 (And.intro ty_71 (And.intro shape_168 (And.intro und_2 (And.intro zero_174 (And.intro bld_174 (And.intro elm_174 (And.intro elm_180 (And.intro ty_143 (And.intro zero_181 (And.intro bld_181 (And.intro elm_181 (And.intro elm_184 (And.intro elm_185 True.intro))))))))))))))))))))))))))))))))))))))))))))))))))))))))))))))))))))))))))))))))))))))))))))))))))))))))))))))))))))))
end Go.Proofs.YtoaclokiggoeiaaGreatDoor
namespace Go.Proofs.YtoaclokiggoeiaaGreatDoor
set_option maxRecDepth 100000
set_option maxHeartbeats 32000000
set_option linter.unusedSimpArgs false
set_option linter.unusedVariables false
open Go Go.RowKit
def may (n : Int) : Bool := decide (n = 9 ∨ n = 10 ∨ n = 13 ∨ (32 ≤ n ∧ n ≤ 1114111 ∧ ¬ (55296 ≤ n ∧ n ≤ 57343) ∧ n ≠ 65534 ∧ n ≠ 65535))
theorem may_iff (n : Int) : may n = true ↔ (n = 9 ∨ n = 10 ∨ n = 13 ∨ (32 ≤ n ∧ n ≤ 1114111 ∧ ¬ (55296 ≤ n ∧ n ≤ 57343) ∧ n ≠ 65534 ∧ n ≠ 65535)) := by
  unfold may; exact decide_eq_true_iff
theorem may_t {n : Int} (h : n = 9 ∨ n = 10 ∨ n = 13 ∨ (32 ≤ n ∧ n ≤ 1114111 ∧ ¬ (55296 ≤ n ∧ n ≤ 57343) ∧ n ≠ 65534 ∧ n ≠ 65535)) : true = may n := ((may_iff n).2 h).symm
theorem may_f {n : Int} (h : ¬ (n = 9 ∨ n = 10 ∨ n = 13 ∨ (32 ≤ n ∧ n ≤ 1114111 ∧ ¬ (55296 ≤ n ∧ n ≤ 57343) ∧ n ≠ 65534 ∧ n ≠ 65535))) : false = may n := by
  unfold may; symm; exact decide_eq_false_iff_not.2 h
theorem may_range {n : Int} (h : may n = true) : 0 ≤ n ∧ n ≤ 1114111 ∧ (2048 ≤ n → n ≤ 65535 → (2048 ≤ n ∧ n < 55296) ∨ (57343 < n ∧ n ≤ 65535)) := by
  have := (may_iff n).1 h
  refine ⟨by omega, by omega, fun a b => by omega⟩
def enc (l : List Int) : List UInt8 := l.flatMap Lib.encodeRune
def u8 (b : UInt8) : Value := .int .u8 (b.toNat : Int)
def ofErr (l : List Int) : Int := if l.all may then (if 16384 < (enc l).length then 4 else 0) else 50
def ofText (l : List Int) : List UInt8 := if ofErr l = 0 then enc l else []
theorem enc_snoc (a : List Int) (x : Int) : enc (a ++ [x]) = enc a ++ Lib.encodeRune x := by simp [enc]
theorem encodeRune_length (x : Int) : 1 ≤ (Lib.encodeRune x).length ∧ (Lib.encodeRune x).length ≤ 4 := by
  unfold Lib.encodeRune Lib.encodeRuneZ
  repeat' split
  all_goals simp
theorem enc_length (l : List Int) : (enc l).length ≤ 4 * l.length := by
  induction l with
  | nil => simp [enc]
  | cons x l ih =>
    have := (encodeRune_length x).2
    simp only [enc,List.flatMap_cons,List.length_append,List.length_cons] at ih ⊢
    omega
theorem ofErr_bad {l : List Int} {k : Nat} (hk : k < l.length) (h : may (l.getD k 0) = false) : ofErr l = 50 := by
  unfold ofErr
  rw [if_neg]
  intro hall
  have := List.all_eq_true.1 hall (l[k]) (List.getElem_mem hk)
  simp [List.getD_eq_getElem?_getD,hk] at h
  rw [h] at this; cases this
theorem all_snoc {l : List Int} {k : Nat} (hk : k < l.length) (h : (l.take k).all may = true) (hm : may (l.getD k 0) = true) : (l.take (k + 1)).all may = true := by
  rw [List.take_succ_eq_append_getElem hk, List.all_append, h]
  simp [List.getD_eq_getElem?_getD,hk] at hm
  simp [hm]
end Go.Proofs.YtoaclokiggoeiaaGreatDoor
namespace Go.Proofs.YtoaclokiggoeiaaGreatDoor
set_option maxRecDepth 100000
set_option maxHeartbeats 32000000
set_option linter.unusedSimpArgs false
set_option linter.unusedVariables false
open Go Go.RowKit Go.Lib
def one (l : List UInt8) : Option (Int × Nat) :=
  if l = [] then none
  else if (decodeL l).1 = 65533 ∧ (decodeL l).2 = 1 then none
  else if may ((decodeL l).1 : Int) then some (((decodeL l).1 : Int), (decodeL l).2) else none
def decF : Nat → List UInt8 → Option (List Int)
  | _, [] => some []
  | 0, _ => none
  | f + 1, l => match one l with
    | none => none
    | some (z, k) => (decF f (l.drop k)).map (z :: ·)
def dec (l : List UInt8) : Option (List Int) := decF l.length l
theorem one_some {l : List UInt8} {z : Int} {k : Nat} (h : one l = some (z, k)) : l ≠ [] ∧ may z = true ∧ encodeRune z = l.take k ∧ 1 ≤ k ∧ k ≤ l.length := by
  unfold one at h
  split at h
  · cases h
  rename_i hne
  split at h
  · cases h
  rename_i hv
  split at h
  · rename_i hm
    simp only [Option.some.injEq,Prod.mk.injEq] at h
    obtain ⟨rfl, rfl⟩ := h
    have he := encode_decode l hne hv
    have hle := decodeL_le l hne
    refine ⟨hne, hm, he, ?_, hle⟩
    have := (encodeRune_length ((decodeL l).1 : Int)).1
    rw [he, List.length_take] at this
    omega
  · cases h
theorem mod64 {x : Int} (h0 : 0 ≤ x) (h1 : x < 256) : (x.toNat.toUInt8).toNat = x.toNat := by simp; omega
theorem one_enc {z : Int} (hm : may z = true) (rest : List UInt8) : one (encodeRune z ++ rest) = some (z, (encodeRune z).length) := by
  have hmz := (may_iff z).1 hm
  have key : decodeL (encodeRune z ++ rest) = (z.toNat, (encodeRune z).length) := by
    rw [decodeL_N]
    by_cases c1 : 0 ≤ z ∧ z ≤ 127
    · have e : encodeRune z = [z.toNat.toUInt8] := by simp [encodeRune,encodeRuneZ_one c1.1 c1.2]
      rw [e]
      have a := mod64 (x := z) (by omega) (by omega)
      simp only [List.cons_append,List.nil_append,List.getD_cons_zero,List.length_cons,List.length_nil,a,decodeN]
      rw [if_pos (by omega)]
    · by_cases c2 : 128 ≤ z ∧ z ≤ 2047
      · have e : encodeRune z = [(192 + z / 64).toNat.toUInt8, (128 + z % 64).toNat.toUInt8] := by simp [encodeRune,encodeRuneZ_two c2.1 c2.2]
        rw [e]
        have a := mod64 (x := 192 + z / 64) (by omega) (by omega)
        have b := mod64 (x := 128 + z % 64) (by omega) (by omega)
        simp only [List.cons_append,List.nil_append,List.getD_cons_zero,List.getD_cons_succ,List.length_cons,List.length_nil,a,b,decodeN]
        rw [if_neg (by omega), if_pos (by omega), if_pos (by omega)]
        simp only [Prod.mk.injEq,and_true]; omega
      · by_cases c3 : z ≤ 65535
        · have e : encodeRune z = [(224 + z / 4096).toNat.toUInt8, (128 + z / 64 % 64).toNat.toUInt8, (128 + z % 64).toNat.toUInt8] := by simp [encodeRune,encodeRuneZ_three (r := z) (by omega)]
          rw [e]
          have a := mod64 (x := 224 + z / 4096) (by omega) (by omega)
          have b := mod64 (x := 128 + z / 64 % 64) (by omega) (by omega)
          have c := mod64 (x := 128 + z % 64) (by omega) (by omega)
          simp only [List.cons_append,List.nil_append,List.getD_cons_zero,List.getD_cons_succ,List.length_cons,List.length_nil,a,b,c,decodeN]
          rw [if_neg (by omega), if_neg (by omega), if_pos (by omega), if_pos (by omega)]
          simp only [Prod.mk.injEq,and_true]; omega
        · have e : encodeRune z = [(240 + z / 262144).toNat.toUInt8, (128 + z / 4096 % 64).toNat.toUInt8, (128 + z / 64 % 64).toNat.toUInt8, (128 + z % 64).toNat.toUInt8] := by simp [encodeRune,encodeRuneZ_four (r := z) (by omega) (by omega)]
          rw [e]
          have a := mod64 (x := 240 + z / 262144) (by omega) (by omega)
          have b := mod64 (x := 128 + z / 4096 % 64) (by omega) (by omega)
          have c := mod64 (x := 128 + z / 64 % 64) (by omega) (by omega)
          have d := mod64 (x := 128 + z % 64) (by omega) (by omega)
          simp only [List.cons_append,List.nil_append,List.getD_cons_zero,List.getD_cons_succ,List.length_cons,List.length_nil,a,b,c,d,decodeN]
          rw [if_neg (by omega), if_neg (by omega), if_neg (by omega), if_pos (by omega), if_pos (by omega)]
          simp only [Prod.mk.injEq,and_true]; omega
  have hne : encodeRune z ++ rest ≠ [] := by
    intro h
    have := (encodeRune_length z).1
    rw [List.append_eq_nil_iff] at h
    rw [h.1] at this; simp at this
  unfold one
  rw [if_neg hne, key]
  have hz : ((z.toNat : Nat) : Int) = z := by omega
  simp only [hz,hm,if_true]
  rw [if_neg]
  rintro ⟨h1, h2⟩
  have hz2 : z = 65533 := by omega
  subst hz2
  revert h2
  decide
theorem decF_fuel : ∀ (f g : Nat) (l : List UInt8), l.length ≤ f → l.length ≤ g → decF f l = decF g l
  | _, _, [], _, _ => by simp [decF]
  | 0, _, x :: l, h, _ => by simp at h
  | _, 0, x :: l, _, h => by simp at h
  | f + 1, g + 1, x :: l, hf, hg => by
    simp only [decF]
    cases h1 : one (x :: l) with
    | none => rfl
    | some p =>
      obtain ⟨z, k⟩ := p
      obtain ⟨_, _, _, hk, _⟩ := one_some h1
      simp only
      rw [decF_fuel f g ((x :: l).drop k) (by simp at hf ⊢; omega) (by simp at hg ⊢; omega)]
theorem dec_nil : dec [] = some [] := rfl
theorem dec_step {l : List UInt8} {z : Int} {k : Nat} (h : one l = some (z, k)) : dec l = (dec (l.drop k)).map (z :: ·) := by
  obtain ⟨hne, _, _, hk, hkl⟩ := one_some h
  obtain ⟨x, l', rfl⟩ := List.exists_cons_of_ne_nil hne
  unfold dec
  rw [show (x :: l').length = l'.length + 1 from rfl]
  simp only [decF,h]
  rw [decF_fuel l'.length ((x :: l').drop k).length _ (by simp; omega) (Nat.le_refl _)]
theorem dec_bad {l : List UInt8} (hne : l ≠ []) (h : one l = none) : dec l = none := by
  obtain ⟨x, l', rfl⟩ := List.exists_cons_of_ne_nil hne
  unfold dec
  rw [show (x :: l').length = l'.length + 1 from rfl]
  simp only [decF,h]
theorem dec_enc : ∀ (zs : List Int), zs.all may = true → dec (enc zs) = some zs
  | [], _ => rfl
  | z :: zs, h => by
    simp only [List.all_cons,Bool.and_eq_true] at h
    have e : enc (z :: zs) = encodeRune z ++ enc zs := by simp [enc]
    rw [e, dec_step (one_enc h.1 (enc zs)), List.drop_left, dec_enc zs h.2]
    rfl
theorem dec_some : ∀ (n : Nat) (l : List UInt8) (zs : List Int), l.length ≤ n → dec l = some zs → zs.all may = true ∧ enc zs = l
  | 0, l, zs, hn, h => by
    have : l = [] := List.eq_nil_of_length_eq_zero (by omega)
    subst this
    rw [dec_nil] at h
    cases h
    exact ⟨rfl, rfl⟩
  | n + 1, l, zs, hn, h => by
    by_cases hne : l = []
    · subst hne
      rw [dec_nil] at h
      cases h
      exact ⟨rfl, rfl⟩
    · cases h1 : one l with
      | none => rw [dec_bad hne h1] at h; cases h
      | some p =>
        obtain ⟨z, k⟩ := p
        obtain ⟨_, hm, he, hk, hkl⟩ := one_some h1
        rw [dec_step h1] at h
        obtain ⟨zs', h2, rfl⟩ := Option.map_eq_some_iff.1 h
        obtain ⟨ha, hb⟩ := dec_some n (l.drop k) zs' (by simp; omega) h2
        refine ⟨by simp [hm,ha], ?_⟩
        show encodeRune z ++ enc zs' = l
        rw [he, hb, List.take_append_drop]
theorem dec_iff (l : List UInt8) (zs : List Int) : dec l = some zs ↔ zs.all may = true ∧ enc zs = l :=
  ⟨fun h => dec_some l.length l zs (Nat.le_refl _) h, fun ⟨h1, h2⟩ => by rw [← h2, dec_enc zs h1]⟩
theorem odd_prefix {l : List UInt8} (h : hasPrefix l [239, 191, 189] = true) : ∃ rest, l = encodeRune 65533 ++ rest := by
  unfold hasPrefix at h
  obtain ⟨rest, hr⟩ := List.isPrefixOf_iff_prefix.1 h
  exact ⟨rest, by rw [← hr]; congr 1⟩
theorem decodeL_odd {l : List UInt8} (h : hasPrefix l [239, 191, 189] = true) : (decodeL l).2 ≠ 1 := by
  obtain ⟨rest, rfl⟩ := odd_prefix h
  have h1 := one_enc (z := 65533) (by decide) rest
  unfold one at h1
  split at h1
  · cases h1
  split at h1
  · cases h1
  rename_i hv
  split at h1
  · simp only [Option.some.injEq,Prod.mk.injEq] at h1
    rw [h1.2]
    decide
  · cases h1
theorem one_of_decode {l : List UInt8} (hne : l ≠ []) : one l = if ((decodeL l).1 = 65533 ∧ hasPrefix l [239, 191, 189] = false) ∨ may ((decodeL l).1 : Int) = false then none else some (((decodeL l).1 : Int), (decodeL l).2) := by
  unfold one
  rw [if_neg hne]
  by_cases h1 : (decodeL l).1 = 65533 ∧ (decodeL l).2 = 1
  · rw [if_pos h1, if_pos]
    left
    refine ⟨h1.1, ?_⟩
    cases hp : hasPrefix l [239, 191, 189] with
    | false => rfl
    | true => exact absurd h1.2 (decodeL_odd hp)
  · rw [if_neg h1]
    by_cases h2 : (decodeL l).1 = 65533
    · have he := encode_decode l hne h1
      rw [h2] at he
      have hp : hasPrefix l [239, 191, 189] = true := by
        unfold hasPrefix
        rw [List.isPrefixOf_iff_prefix, show ([239, 191, 189] : List UInt8) = encodeRune ((65533 : Nat) : Int) from by decide, he]
        exact List.take_prefix _ _
      rw [hp]
      by_cases hm : may ((decodeL l).1 : Int) = true
      · simp [hm]
      · simp [hm]
    · by_cases hm : may ((decodeL l).1 : Int) = true
      · simp [hm,h2]
      · simp [hm,h2]
theorem decode_drop (s : ByteArray) (pos : Nat) : Utf8.decode s pos = decodeL (s.data.toList.drop pos) := by
  have h := tail_decode s pos 0
  rw [Nat.add_zero] at h
  rw [← h]
  unfold decodeL
  congr 1
  have h2 : (s.extract pos s.size).data.toList = s.data.toList.drop pos := by
    rw [extract_data, List.take_of_length_le]
    simp
  apply ByteArray.ext
  apply Array.ext'
  simpa using h2
def headS (c : Int) : Int := if c < 128 then 1 else if 192 ≤ c ∧ c < 224 then 2 else if 224 ≤ c ∧ c < 240 then 3 else if 240 ≤ c ∧ c < 248 then 4 else 0
def headN (c : Int) : Int := if c < 128 then c else if 192 ≤ c ∧ c < 224 then c - 192 else if 224 ≤ c ∧ c < 240 then c - 224 else if 240 ≤ c ∧ c < 248 then c - 240 else 0
def contN (n : Int) (l : List UInt8) : Int := l.foldl (fun n b => 64 * n + (b.toNat : Int) % 64) n
theorem head_enc {z : Int} (hm : may z = true) : ∃ b rest, encodeRune z = b :: rest ∧ headS (b.toNat : Int) = ((encodeRune z).length : Nat) ∧ contN (headN (b.toNat : Int)) rest = z := by
  have hmz := (may_iff z).1 hm
  by_cases c1 : 0 ≤ z ∧ z ≤ 127
  · have e : encodeRune z = [z.toNat.toUInt8] := by simp [encodeRune,encodeRuneZ_one c1.1 c1.2]
    have a := mod64 (x := z) (by omega) (by omega)
    refine ⟨_, _, e, ?_, ?_⟩
    · rw [e, a]; unfold headS; rw [if_pos (by omega)]; rfl
    · rw [a]; unfold headN; rw [if_pos (by omega)]; simp [contN]; omega
  · by_cases c2 : 128 ≤ z ∧ z ≤ 2047
    · have e : encodeRune z = [(192 + z / 64).toNat.toUInt8, (128 + z % 64).toNat.toUInt8] := by simp [encodeRune,encodeRuneZ_two c2.1 c2.2]
      have a := mod64 (x := 192 + z / 64) (by omega) (by omega)
      have b := mod64 (x := 128 + z % 64) (by omega) (by omega)
      refine ⟨_, _, e, ?_, ?_⟩
      · rw [e, a]; unfold headS; rw [if_neg (by omega), if_pos (by omega)]; rfl
      · rw [a]; unfold headN; rw [if_neg (by omega), if_pos (by omega)]; simp only [contN,List.foldl_cons,List.foldl_nil,b]; omega
    · by_cases c3 : z ≤ 65535
      · have e : encodeRune z = [(224 + z / 4096).toNat.toUInt8, (128 + z / 64 % 64).toNat.toUInt8, (128 + z % 64).toNat.toUInt8] := by simp [encodeRune,encodeRuneZ_three (r := z) (by omega)]
        have a := mod64 (x := 224 + z / 4096) (by omega) (by omega)
        have b := mod64 (x := 128 + z / 64 % 64) (by omega) (by omega)
        have c := mod64 (x := 128 + z % 64) (by omega) (by omega)
        refine ⟨_, _, e, ?_, ?_⟩
        · rw [e, a]; unfold headS; rw [if_neg (by omega), if_neg (by omega), if_pos (by omega)]; rfl
        · rw [a]; unfold headN; rw [if_neg (by omega), if_neg (by omega), if_pos (by omega)]; simp only [contN,List.foldl_cons,List.foldl_nil,b,c]; omega
      · have e : encodeRune z = [(240 + z / 262144).toNat.toUInt8, (128 + z / 4096 % 64).toNat.toUInt8, (128 + z / 64 % 64).toNat.toUInt8, (128 + z % 64).toNat.toUInt8] := by simp [encodeRune,encodeRuneZ_four (r := z) (by omega) (by omega)]
        have a := mod64 (x := 240 + z / 262144) (by omega) (by omega)
        have b := mod64 (x := 128 + z / 4096 % 64) (by omega) (by omega)
        have c := mod64 (x := 128 + z / 64 % 64) (by omega) (by omega)
        have d := mod64 (x := 128 + z % 64) (by omega) (by omega)
        refine ⟨_, _, e, ?_, ?_⟩
        · rw [e, a]; unfold headS; rw [if_neg (by omega), if_neg (by omega), if_neg (by omega), if_pos (by omega)]; rfl
        · rw [a]; unfold headN; rw [if_neg (by omega), if_neg (by omega), if_neg (by omega), if_pos (by omega)]; simp only [contN,List.foldl_cons,List.foldl_nil,b,c,d]; omega
def ptsErr (l : List UInt8) : Int := if 16384 < l.length then 4 else match dec l with | none => 50 | some _ => 0
theorem ptsErr_len {s : List UInt8} (h : ptsErr s = 0) : s.length ≤ 16384 := by
  unfold ptsErr at h
  split at h
  · omega
  · omega
def escB (q : Bool) (c : UInt8) : List UInt8 :=
  if c = 38 then [38, 97, 109, 112, 59] else if c = 60 then [38, 108, 116, 59] else if c = 62 then [38, 103, 116, 59] else if c = 13 then [38, 35, 49, 51, 59]
  else if q = true then (if c = 34 then [38, 113, 117, 111, 116, 59] else if c = 9 then [38, 35, 57, 59] else if c = 10 then [38, 35, 49, 48, 59] else [c]) else [c]
def escW (q : Bool) (s : List UInt8) : List UInt8 := s.flatMap (escB q)
theorem escW_nil (q : Bool) : escW q [] = [] := rfl
theorem escW_append (q : Bool) (a b : List UInt8) : escW q (a ++ b) = escW q a ++ escW q b := by simp [escW]
theorem escW_snoc (q : Bool) (a : List UInt8) (c : UInt8) : escW q (a ++ [c]) = escW q a ++ escB q c := by simp [escW]
theorem escB_length (q : Bool) (c : UInt8) : 1 ≤ (escB q c).length ∧ (escB q c).length ≤ 6 := by
  unfold escB
  repeat' split
  all_goals simp
theorem escB_ne (q : Bool) (c : UInt8) : escB q c ≠ [] := by
  intro h
  have := (escB_length q c).1
  rw [h] at this; simp at this
theorem escW_length (q : Bool) (s : List UInt8) : s.length ≤ (escW q s).length ∧ (escW q s).length ≤ 6 * s.length := by
  induction s with
  | nil => simp [escW]
  | cons c s ih =>
    have := escB_length q c
    simp only [escW,List.flatMap_cons,List.length_append,List.length_cons] at ih ⊢
    omega
theorem escW_take (q : Bool) {s : List UInt8} {k : Nat} {c : UInt8} (h : s[k]? = some c) : escW q (s.take (k + 1)) = escW q (s.take k) ++ escB q c := by
  obtain ⟨hk, rfl⟩ := List.getElem?_eq_some_iff.1 h
  rw [List.take_succ_eq_append_getElem hk, escW_snoc]
theorem dec_app : ∀ (p : List Int) (r : List UInt8), p.all may = true → dec (enc p ++ r) = (dec r).map (p ++ ·)
  | [], r, _ => by simp [enc]
  | z :: p, r, h => by
    simp only [List.all_cons,Bool.and_eq_true] at h
    have e : enc (z :: p) ++ r = encodeRune z ++ (enc p ++ r) := by simp [enc]
    rw [e, dec_step (one_enc h.1 _), List.drop_left, dec_app p r h.2, Option.map_map]
    congr 1
theorem dec_both {a b : List UInt8} {x y : List Int} (ha : dec a = some x) (hb : dec b = some y) : dec (a ++ b) = some (x ++ y) := by
  obtain ⟨h1, rfl⟩ := (dec_iff a x).1 ha
  rw [dec_app x b h1, hb]; rfl
theorem tail_cont {z : Int} {k : Nat} (h1 : 1 ≤ k) (h2 : k < (encodeRune z).length) : ∃ b t, (encodeRune z).drop k = b :: t ∧ 128 ≤ b.toNat ∧ b.toNat < 192 := by
  have key : ∀ x : Int, 0 ≤ x → ∀ y, (128 + x % 64).toNat.toUInt8 = y → 128 ≤ y.toNat ∧ y.toNat < 192 := by
    intro x _ y hy
    subst hy
    rw [mod64 (by omega) (by omega)]
    omega
  unfold encodeRune encodeRuneZ at h2 ⊢
  repeat' split
  · rename_i c; rw [if_pos c] at h2; simp at h2; omega
  · rename_i c1 c2; rw [if_neg c1, if_pos c2] at h2
    have : k = 1 := by simp at h2; omega
    subst this
    exact ⟨_, _, rfl, key z (by omega) _ rfl⟩
  · rename_i c1 c2 c3; rw [if_neg c1, if_neg c2, if_pos c3] at h2
    have : k = 1 ∨ k = 2 := by simp at h2; omega
    rcases this with rfl | rfl
    · exact ⟨_, _, rfl, key (z / 64) (by omega) _ rfl⟩
    · exact ⟨_, _, rfl, key z (by omega) _ rfl⟩
  · rename_i c1 c2 c3 c4; rw [if_neg c1, if_neg c2, if_neg c3, if_pos c4] at h2
    have : k = 1 ∨ k = 2 ∨ k = 3 := by simp at h2; omega
    rcases this with rfl | rfl | rfl
    · exact ⟨_, _, rfl, key (z / 4096) (by omega) _ rfl⟩
    · exact ⟨_, _, rfl, key (z / 64) (by omega) _ rfl⟩
    · exact ⟨_, _, rfl, key z (by omega) _ rfl⟩
  · rename_i c1 c2 c3 c4; rw [if_neg c1, if_neg c2, if_neg c3, if_neg c4] at h2
    have : k = 1 ∨ k = 2 := by simp at h2; omega
    rcases this with rfl | rfl
    · exact ⟨_, _, rfl, by decide⟩
    · exact ⟨_, _, rfl, by decide⟩
theorem cut_or : ∀ (zs : List Int) (k : Nat), k ≤ (enc zs).length → (∃ p q, zs = p ++ q ∧ (enc zs).take k = enc p ∧ (enc zs).drop k = enc q) ∨ ∃ b t, (enc zs).drop k = b :: t ∧ 128 ≤ b.toNat ∧ b.toNat < 192
  | [], k, h => by
    have : k = 0 := by simpa [enc] using h
    subst this
    exact .inl ⟨[], [], rfl, rfl, rfl⟩
  | z :: zs, k, h => by
    have e : enc (z :: zs) = encodeRune z ++ enc zs := by simp [enc]
    rw [e] at h ⊢
    by_cases h0 : k = 0
    · subst h0
      exact .inl ⟨[], z :: zs, rfl, rfl, by rw [e]; rfl⟩
    by_cases h1 : k < (encodeRune z).length
    · obtain ⟨b, t, ht, hb⟩ := tail_cont (by omega) h1
      exact .inr ⟨b, t ++ enc zs, by rw [List.drop_append_of_le_length (by omega), ht]; rfl, hb⟩
    · obtain ⟨j, rfl⟩ : ∃ j, k = (encodeRune z).length + j := ⟨k - (encodeRune z).length, by omega⟩
      have hj : j ≤ (enc zs).length := by simp at h; omega
      rcases cut_or zs j hj with ⟨p, q, rfl, h3, h4⟩ | ⟨b, t, h3, hb⟩
      · refine .inl ⟨z :: p, q, rfl, ?_, ?_⟩
        · rw [List.take_length_add_append, h3]; simp [enc]
        · rw [List.drop_length_add_append, h4]
      · exact .inr ⟨b, t, by rw [List.drop_length_add_append, h3], hb⟩
def letB (c : UInt8) : Bool := (decide (97 ≤ c.toNat) && decide (c.toNat ≤ 122)) || (decide (65 ≤ c.toNat) && decide (c.toNat ≤ 90)) || decide (c = 95)
def partB (first : Bool) (c : UInt8) : Bool := letB c || (!first && ((decide (48 ≤ c.toNat) && decide (c.toNat ≤ 57)) || decide (c = 46) || decide (c = 45)))
def nameL : List UInt8 → Bool
  | [] => false
  | c :: r => partB true c && r.all (partB false)
def cut1 (d : UInt8) : List UInt8 → Option (List UInt8 × List UInt8)
  | [] => none
  | c :: r => if c = d then some ([], r) else (cut1 d r).map (fun p => (c :: p.1, p.2))
def fullL (s : List UInt8) : Bool := match cut1 58 s with
  | none => nameL s
  | some (a, b) => nameL a && nameL b
theorem cut1_none {d : UInt8} : ∀ {s : List UInt8}, cut1 d s = none ↔ d ∉ s
  | [] => by simp [cut1]
  | c :: r => by
    simp only [cut1]
    by_cases h : c = d
    · simp [h]
    · rw [if_neg h]
      simp only [Option.map_eq_none_iff,cut1_none (s := r),List.mem_cons,not_or]
      constructor
      · intro h2; exact ⟨fun e => h e.symm, h2⟩
      · intro h2; exact h2.2
theorem cut1_some {d : UInt8} : ∀ {s a b : List UInt8}, cut1 d s = some (a, b) → s = a ++ d :: b ∧ d ∉ a
  | [], a, b, h => by simp [cut1] at h
  | c :: r, a, b, h => by
    simp only [cut1] at h
    by_cases hc : c = d
    · rw [if_pos hc] at h; cases h; subst hc; simp
    · rw [if_neg hc] at h
      obtain ⟨⟨a', b'⟩, h1, h2⟩ := Option.map_eq_some_iff.1 h
      cases h2
      obtain ⟨e1, e2⟩ := cut1_some h1
      refine ⟨by rw [e1]; rfl, ?_⟩
      simp only [List.mem_cons,not_or]
      exact ⟨fun e => hc e.symm, e2⟩
theorem cut1_of {d : UInt8} : ∀ {a b : List UInt8}, d ∉ a → cut1 d (a ++ d :: b) = some (a, b)
  | [], b, _ => by simp [cut1]
  | c :: a, b, h => by
    simp only [List.mem_cons,not_or] at h
    simp only [List.cons_append,cut1]
    rw [if_neg (fun e => h.1 e.symm), cut1_of h.2]; rfl
theorem cut1_at {d : UInt8} {s : List UInt8} {i : Nat} (h1 : d ∉ s.take i) (h2 : s[i]? = some d) : cut1 d s = some (s.take i, s.drop (i + 1)) := by
  obtain ⟨hi, he⟩ := List.getElem?_eq_some_iff.1 h2
  have : s = s.take i ++ d :: s.drop (i + 1) := by
    conv => lhs; rw [← List.take_append_drop i s]
    rw [List.drop_eq_getElem_cons hi, he]
  have h3 := cut1_of (b := s.drop (i + 1)) h1
  rwa [← this] at h3
theorem index1_none {d : UInt8} {s : List UInt8} : indexByte s d = -1 ↔ cut1 d s = none := by
  rw [cut1_none]
  constructor
  · intro h hm
    obtain ⟨k, hk, rfl⟩ := List.getElem_of_mem hm
    exact indexByte_none h k (List.getElem?_eq_getElem hk)
  · intro h
    have hge := indexByte_ge s d
    by_cases hneg : indexByte s d = -1
    · exact hneg
    · obtain ⟨o, ho⟩ : ∃ o : Nat, indexByte s d = o := ⟨(indexByte s d).toNat, by omega⟩
      exact absurd (List.mem_of_getElem? (indexByte_some ho).1) h
theorem index1_some {d : UInt8} {s a b : List UInt8} (h : cut1 d s = some (a, b)) : indexByte s d = a.length ∧ s.take a.length = a ∧ s.drop (a.length + 1) = b ∧ a.length + 1 + b.length = s.length := by
  obtain ⟨h1, h2⟩ := cut1_some h
  have hne : indexByte s d ≠ -1 := fun e => by rw [index1_none.1 e] at h; cases h
  have hge := indexByte_ge s d
  obtain ⟨o, ho⟩ : ∃ o : Nat, indexByte s d = o := ⟨(indexByte s d).toNat, by omega⟩
  obtain ⟨g1, g2⟩ := indexByte_some ho
  have hat := cut1_at (i := o) (fun hm => by
    obtain ⟨k, hk, he⟩ := List.getElem_of_mem hm
    rw [List.length_take] at hk
    rw [List.getElem_take] at he
    exact g2 k (by omega) (by rw [List.getElem?_eq_getElem (by omega), he])) g1
  rw [h] at hat
  cases hat
  have hlt := (List.getElem?_eq_some_iff.1 g1).1
  have hl : (s.take o).length = o := by rw [List.length_take]; omega
  rw [hl]
  refine ⟨ho, rfl, rfl, ?_⟩
  rw [List.length_drop]; omega
def namedTo (s : List UInt8) (k : Nat) : Prop := ∀ (i : Nat) (c : UInt8), i < k → s[i]? = some c → partB (i == 0) c = true
theorem nameL_true {s : List UInt8} (hne : s ≠ []) (h : namedTo s s.length) : nameL s = true := by
  cases s with
  | nil => exact absurd rfl hne
  | cons c r =>
    have h0 := h 0 c (by simp) (by simp)
    simp only [beq_self_eq_true] at h0
    simp only [nameL,h0,Bool.true_and,List.all_eq_true]
    intro x hx
    obtain ⟨k, hk, rfl⟩ := List.getElem_of_mem hx
    have := h (k + 1) r[k] (by simp; omega) (by simp [hk])
    have h3 : ((k + 1) == 0) = false := beq_false_of_ne (by omega)
    rwa [h3] at this
theorem nameL_false {s : List UInt8} {k : Nat} {c : UInt8} (hc : s[k]? = some c) (h : partB (k == 0) c = false) : nameL s = false := by
  cases s with
  | nil => simp at hc
  | cons x r =>
    cases k with
    | zero =>
      simp at hc; subst hc
      simp only [beq_self_eq_true] at h
      simp [nameL,h]
    | succ k =>
      have h3 : ((k + 1) == 0) = false := beq_false_of_ne (by omega)
      rw [h3] at h
      simp only [List.getElem?_cons_succ] at hc
      simp only [nameL,Bool.and_eq_false_iff,List.all_eq_false]
      right
      exact ⟨c, List.mem_of_getElem? hc, by rw [h]; simp⟩
theorem beq_byte (c d : UInt8) : ((c.toNat : Int) == (d.toNat : Int)) = decide (c = d) := by
  rw [Bool.eq_iff_iff, beq_iff_eq, decide_eq_true_iff]
  constructor
  · intro h; exact UInt8.toNat_inj.1 (by omega)
  · rintro rfl; rfl
def contB (b : UInt8) : Bool := decide (128 ≤ b.toNat) && decide (b.toNat < 192)
theorem cut_near : ∀ (zs : List Int) (k : Nat), k ≤ (enc zs).length → ∃ j, k ≤ j ∧ j ≤ k + 3 ∧ j ≤ (enc zs).length ∧ ∃ p q, zs = p ++ q ∧ (enc zs).take j = enc p ∧ (enc zs).drop j = enc q
  | [], k, h => by
    have : k = 0 := by simpa [enc] using h
    subst this
    exact ⟨0, Nat.le_refl _, by omega, by simp, [], [], rfl, rfl, rfl⟩
  | z :: zs, k, h => by
    have e : enc (z :: zs) = encodeRune z ++ enc zs := by simp [enc]
    have hl := encodeRune_length z
    rw [e] at h ⊢
    by_cases h0 : k = 0
    · subst h0
      exact ⟨0, Nat.le_refl _, by omega, by omega, [], z :: zs, rfl, rfl, by rw [e]; rfl⟩
    by_cases h1 : k < (encodeRune z).length
    · refine ⟨(encodeRune z).length, by omega, by omega, by simp, [z], zs, rfl, ?_, ?_⟩
      · rw [List.take_left]; simp [enc]
      · rw [List.drop_left]
    · obtain ⟨j, rfl⟩ : ∃ j, k = (encodeRune z).length + j := ⟨k - (encodeRune z).length, by omega⟩
      have hj : j ≤ (enc zs).length := by simp at h; omega
      obtain ⟨i, i1, i2, i3, p, q, rfl, h3, h4⟩ := cut_near zs j hj
      refine ⟨(encodeRune z).length + i, by omega, by omega, by simp at i3 ⊢; omega, z :: p, q, rfl, ?_, ?_⟩
      · rw [List.take_length_add_append, h3]; simp [enc]
      · rw [List.drop_length_add_append, h4]
theorem enc_head {zs : List Int} (hm : zs.all may = true) {b : UInt8} (h : (enc zs)[0]? = some b) : contB b = false := by
  cases zs with
  | nil => simp [enc] at h
  | cons z zs =>
    simp only [List.all_cons,Bool.and_eq_true] at hm
    obtain ⟨c, rest, e1, e2, _⟩ := head_enc hm.1
    have e : enc (z :: zs) = encodeRune z ++ enc zs := by simp [enc]
    rw [e, e1] at h
    simp at h; subst h
    have hl := (encodeRune_length z).1
    unfold contB
    by_cases hc : 128 ≤ c.toNat ∧ c.toNat < 192
    · exfalso
      have : headS (c.toNat : Int) = 0 := by
        unfold headS; rw [if_neg (by omega), if_neg (by omega), if_neg (by omega), if_neg (by omega)]
      omega
    · simp only [Bool.and_eq_false_iff,decide_eq_false_iff_not]; omega
theorem text_near {r : List UInt8} (h : (dec r).isSome = true) {k : Nat} (hk : k ≤ r.length) : ∃ j, k ≤ j ∧ j ≤ k + 3 ∧ j ≤ r.length ∧ ∀ b, r[j]? = some b → contB b = false := by
  obtain ⟨zs, hz⟩ := Option.isSome_iff_exists.1 h
  obtain ⟨hm, rfl⟩ := (dec_iff r zs).1 hz
  obtain ⟨j, j1, j2, j3, p, q, rfl, h3, h4⟩ := cut_near zs k hk
  rw [List.all_append, Bool.and_eq_true] at hm
  refine ⟨j, j1, j2, j3, fun b hb => enc_head hm.2 ?_⟩
  rw [← h4, List.getElem?_drop]; simpa using hb
theorem text_cut {r : List UInt8} (h : (dec r).isSome = true) {k : Nat} (hk : k ≤ r.length) (hc : ∀ b, r[k]? = some b → contB b = false) : (dec (r.take k)).isSome = true ∧ (dec (r.drop k)).isSome = true := by
  obtain ⟨zs, hz⟩ := Option.isSome_iff_exists.1 h
  obtain ⟨hm, rfl⟩ := (dec_iff r zs).1 hz
  rcases cut_or zs k hk with ⟨p, q, rfl, h3, h4⟩ | ⟨b, t, h3, hb1, hb2⟩
  · rw [List.all_append, Bool.and_eq_true] at hm
    rw [h3, h4, dec_enc p hm.1, dec_enc q hm.2]
    exact ⟨rfl, rfl⟩
  · exfalso
    have : (enc zs)[k]? = some b := by
      have := congrArg (fun l => l[0]?) h3
      simpa using this
    have := hc b this
    simp only [contB,Bool.and_eq_false_iff,decide_eq_false_iff_not] at this
    omega
theorem ptsErr_iff {s : List UInt8} : ptsErr s = 0 ↔ s.length ≤ 16384 ∧ (dec s).isSome = true := by
  unfold ptsErr
  split
  · constructor
    · intro h; omega
    · rintro ⟨h, _⟩; omega
  · rename_i hl
    cases dec s with
    | none => simp
    | some z => simp; omega
structure Pr where
  name : List UInt8
  value : List UInt8
deriving DecidableEq
structure Tk where
  kind : Nat
  name : List UInt8
  attrs : List Pr
  text : List UInt8
deriving DecidableEq
def okP (l : List Pr) (a : Pr) : Bool := !(l.any fun b => a.name == b.name) && fullL a.name && decide (ptsErr a.value = 0)
def attrsTo (l : List Pr) (k : Nat) : Prop := ∀ (i : Nat) (a : Pr), i < k → l[i]? = some a → okP (l.take i) a = true
def attrsL (l : List Pr) : Bool := decide (l.length ≤ 16) && l.zipIdx.all fun p => okP (l.take p.2) p.1
theorem attrs_iff {l : List Pr} : attrsL l = true ↔ l.length ≤ 16 ∧ attrsTo l l.length := by
  unfold attrsL attrsTo
  simp only [Bool.and_eq_true,decide_eq_true_eq,List.all_eq_true]
  refine and_congr_right fun _ => ⟨fun h i a hi ha => ?_, fun h p hp => ?_⟩
  · refine h (a, i) ?_
    rw [List.mem_zipIdx_iff_getElem?]; exact ha
  · have := (List.mem_zipIdx_iff_getElem?).1 hp
    exact h p.2 p.1 (List.getElem?_eq_some_iff.1 this).1 this
def tokL (t : Tk) : Bool :=
  if t.kind = 1 ∨ t.kind = 3 then fullL t.name && attrsL t.attrs && t.text.isEmpty
  else if t.kind = 2 then fullL t.name && t.attrs.isEmpty && t.text.isEmpty
  else if t.kind = 4 then t.name.isEmpty && t.attrs.isEmpty && !t.text.isEmpty && decide (ptsErr t.text = 0)
  else false
def tokE (t : Tk) : Int := if tokL t = true then 0 else 8
def attrW (a : Pr) : List UInt8 := [32] ++ a.name ++ [61, 34] ++ escW true a.value ++ [34]
def attrsW (l : List Pr) : List UInt8 := l.flatMap attrW
def tokW (t : Tk) : List UInt8 :=
  if t.kind = 4 then escW false t.text
  else if t.kind = 2 then [60, 47] ++ t.name ++ [62]
  else [60] ++ t.name ++ attrsW t.attrs ++ (if t.kind = 3 then [47, 62] else [62])
def toksW (l : List Tk) : List UInt8 := l.flatMap tokW
theorem toksW_take {l : List Tk} {k : Nat} {t : Tk} (h : l[k]? = some t) : toksW (l.take (k + 1)) = toksW (l.take k) ++ tokW t := by
  obtain ⟨hk, rfl⟩ := List.getElem?_eq_some_iff.1 h
  rw [List.take_succ_eq_append_getElem hk]; unfold toksW; rw [List.flatMap_append]; simp
theorem attrsW_take {l : List Pr} {k : Nat} {t : Pr} (h : l[k]? = some t) : attrsW (l.take (k + 1)) = attrsW (l.take k) ++ attrW t := by
  obtain ⟨hk, rfl⟩ := List.getElem?_eq_some_iff.1 h
  rw [List.take_succ_eq_append_getElem hk]; unfold attrsW; rw [List.flatMap_append]; simp
def adjL : List Tk → Bool
  | a :: b :: r => (a.kind == 4 && b.kind == 4) || adjL (b :: r)
  | _ => false
def adjTo (l : List Tk) (k : Nat) : Prop := ∀ (i : Nat) (a b : Tk), i + 1 < k → l[i]? = some a → l[i + 1]? = some b → ¬ (a.kind = 4 ∧ b.kind = 4)
theorem adj_false : ∀ {l : List Tk}, adjL l = false ↔ adjTo l l.length
  | [] => by simp [adjL,adjTo]
  | [a] => by simp [adjL,adjTo]
  | a :: b :: r => by
    simp only [adjL,Bool.or_eq_false_iff,adj_false (l := b :: r)]
    constructor
    · rintro ⟨h1, h2⟩ i x y hi hx hy
      cases i with
      | zero =>
        simp at hx hy; subst hx; subst hy
        intro ⟨e1, e2⟩
        simp [e1,e2] at h1
      | succ i => exact h2 i x y (by simp at hi ⊢; omega) (by simpa using hx) (by simpa using hy)
    · intro h
      refine ⟨?_, fun i x y hi hx hy => h (i + 1) x y (by simp at hi ⊢; omega) (by simpa using hx) (by simpa using hy)⟩
      have := h 0 a b (by simp) (by simp) (by simp)
      simp only [Bool.and_eq_false_iff,beq_eq_false_iff_ne]
      by_cases e : a.kind = 4
      · right; exact fun e2 => this ⟨e, e2⟩
      · left; exact e
theorem adj_true {l : List Tk} {i : Nat} {a b : Tk} (ha : l[i]? = some a) (hb : l[i + 1]? = some b) (h1 : a.kind = 4) (h2 : b.kind = 4) : adjL l = true := by
  cases h : adjL l with
  | true => rfl
  | false =>
    have := adj_false.1 h
    exact absurd ⟨h1, h2⟩ (this i a b (List.getElem?_eq_some_iff.1 hb).1 ha hb)
def joinE (l : List Tk) : Int := if (l.any fun t => !tokL t) = true ∨ adjL l = true then 8 else if 512 < l.length ∨ 16384 < (toksW l).length then 4 else 0
def joinT (l : List Tk) : List UInt8 := if joinE l = 0 then toksW l else []
theorem attrW_length (a : Pr) : (attrW a).length ≤ 4 + a.name.length + 6 * a.value.length := by
  have := escW_length true a.value
  simp only [attrW,List.length_append,List.length_cons,List.length_nil]; omega
theorem flatMap_le {α : Type} {f : α → List UInt8} {n : Nat} : ∀ {l : List α}, (∀ x ∈ l, (f x).length ≤ n) → (l.flatMap f).length ≤ l.length * n
  | [], _ => by simp
  | x :: l, h => by
    have h1 := h x (by simp)
    have h2 := flatMap_le (l := l) (fun y hy => h y (by simp [hy]))
    simp only [List.flatMap_cons,List.length_append,List.length_cons,Nat.succ_mul]; omega
theorem tokW_length {t : Tk} {n : Nat} (h1 : t.attrs.length ≤ 30) (h2 : t.name.length ≤ n) (h3 : t.text.length ≤ n) (h4 : ∀ a ∈ t.attrs, a.name.length ≤ n ∧ a.value.length ≤ n) : (attrsW t.attrs).length ≤ 30 * (4 + 7 * n) ∧ (tokW t).length ≤ 124 + 217 * n := by
  have e := escW_length false t.text
  have ha : (attrsW t.attrs).length ≤ t.attrs.length * (4 + 7 * n) := flatMap_le (fun a ha => by
    have := attrW_length a
    have := h4 a ha
    omega)
  have hb : t.attrs.length * (4 + 7 * n) ≤ 30 * (4 + 7 * n) := Nat.mul_le_mul_right _ h1
  refine ⟨by omega, ?_⟩
  unfold tokW
  split
  · omega
  · split
    · simp only [List.length_append,List.length_cons,List.length_nil]; omega
    · simp only [List.length_append,List.length_cons,List.length_nil]
      split <;> simp only [List.length_cons,List.length_nil] <;> omega
structure At where
  space : List UInt8
  name : List UInt8
  value : List UInt8
deriving DecidableEq
structure Nd where
  kind : Nat
  space : List UInt8
  name : List UInt8
  attrs : List At
  text : List UInt8
  many : Int
deriving DecidableEq
structure Gr where
  v : List Nd
  opn : List Nat
def Nd.inc (n : Nd) : Nd := { n with many := n.many + 1 }
def incG (v : List Nd) (opn : List Nat) : List Nd := match opn.getLast? with
  | some k => v.modify k Nd.inc
  | none => v
def addG (g : Gr) (n : Nd) : List Nd := incG g.v g.opn ++ [n]
def blankB (c : UInt8) : Bool := c == 32 || c == 9 || c == 10 || c == 13
def blankL (s : List UInt8) : Bool := s.all blankB
def textN (s : List UInt8) : Nd := ⟨2, [], [], [], s, 0⟩
def givenL (l : List Pr) : List At := l.map fun a => ⟨[], a.name, a.value⟩
def elemN (t : Tk) : Nd := ⟨1, [], t.name, givenL t.attrs, [], 0⟩
def lastName (g : Gr) : Option (List UInt8) := g.opn.getLast?.bind fun k => (g.v[k]?).map Nd.name
def stepG (g : Gr) (t : Tk) (txt : Bool) : Gr × Int :=
  if t.kind = 4 then
    if (txt || (g.opn.isEmpty && !blankL t.text)) = true then (g, 80)
    else if g.opn.isEmpty = true then (g, 0) else (⟨addG g (textN t.text), g.opn⟩, 0)
  else if t.kind = 2 then
    if lastName g = some t.name then (⟨g.v, g.opn.dropLast⟩, 0) else (g, 80)
  else if (g.opn.isEmpty && !g.v.isEmpty) = true then (g, 80)
  else if 12 ≤ g.opn.length then (g, 100)
  else (⟨addG g (elemN t), if t.kind = 1 then g.opn ++ [g.v.length] else g.opn⟩, 0)
def hexD (c : UInt8) : Option Nat := if 48 ≤ c.toNat ∧ c.toNat ≤ 57 then some (c.toNat - 48) else if 97 ≤ c.toNat ∧ c.toNat ≤ 102 then some (c.toNat - 87) else if 65 ≤ c.toNat ∧ c.toNat ≤ 70 then some (c.toNat - 55) else none
def hexV : Nat → List UInt8 → Option Nat
  | n, [] => some n
  | n, c :: r => match hexD c with | none => none | some d => hexV (16 * n + d) r
def hexL (s : List UInt8) : Option Nat := if s = [] ∨ 6 < s.length ∨ s.head? = some 48 then none else hexV 0 s
def decD (c : UInt8) : Option Nat := if 48 ≤ c.toNat ∧ c.toNat ≤ 57 then some (c.toNat - 48) else none
def decV : Nat → List UInt8 → Option Nat
  | n, [] => some n
  | n, c :: r => match decD c with | none => none | some d => decV (10 * n + d) r
def decL (s : List UInt8) : Option Nat := if s = [] ∨ 16 < s.length ∨ (s.head? = some 48 ∧ s ≠ [48]) then none else (decV 0 s).bind fun n => if n ≤ 9007199254740991 then some n else none
def pointW (o : Option Nat) : Option (List UInt8) := o.bind fun n => if may (n : Int) = true then some (encodeRune n) else none
def meantL (s : List UInt8) : Option (List UInt8) :=
  if s = [97, 109, 112] then some [38] else if s = [108, 116] then some [60] else if s = [103, 116] then some [62] else if s = [113, 117, 111, 116] then some [34] else if s = [97, 112, 111, 115] then some [39]
  else if s.head? = some 35 then (if s.tail.head? = some 120 then pointW (hexL s.tail.tail) else pointW (decL s.tail)) else none
theorem cut1_len {d : UInt8} {s a b : List UInt8} (h : cut1 d s = some (a, b)) : b.length < s.length := by
  have := (cut1_some h).1
  rw [this]; simp; omega
def readL : List UInt8 → Option (List UInt8)
  | [] => some []
  | c :: r => if c = 60 then none else if c = 38 then (match h : cut1 59 r with | none => none | some (a, b) => match meantL a with | none => none | some x => (readL b).map (x ++ ·)) else (readL r).map (c :: ·)
termination_by s => s.length
decreasing_by
  · have := cut1_len h; simp; omega
  · simp
theorem readL_nil : readL [] = some [] := by rw [readL]
theorem readL_lt (r : List UInt8) : readL (60 :: r) = none := by rw [readL]; rfl
theorem readL_other {c : UInt8} (h1 : c ≠ 60) (h2 : c ≠ 38) (r : List UInt8) : readL (c :: r) = (readL r).map (c :: ·) := by rw [readL, if_neg h1, if_neg h2]
theorem readL_none {r : List UInt8} (h : cut1 59 r = none) : readL (38 :: r) = none := by
  rw [readL, if_neg (by decide), if_pos rfl]
  split
  · rfl
  · rename_i e; rw [h] at e; cases e
theorem readL_bad {r a b : List UInt8} (h : cut1 59 r = some (a, b)) (hm : meantL a = none) : readL (38 :: r) = none := by
  rw [readL, if_neg (by decide), if_pos rfl]
  split
  · rfl
  · rename_i e; rw [h] at e; cases e; rw [hm]
theorem readL_ref {r a b x : List UInt8} (h : cut1 59 r = some (a, b)) (hm : meantL a = some x) : readL (38 :: r) = (readL b).map (x ++ ·) := by
  rw [readL, if_neg (by decide), if_pos rfl]
  split
  · rename_i e; rw [h] at e; cases e
  · rename_i e; rw [h] at e; cases e; rw [hm]
theorem meant_amp : meantL [97, 109, 112] = some [38] := by decide
theorem meant_lt : meantL [108, 116] = some [60] := by decide
theorem meant_gt : meantL [103, 116] = some [62] := by decide
theorem meant_quot : meantL [113, 117, 111, 116] = some [34] := by decide
theorem meant_13 : meantL [35, 49, 51] = some [13] := by decide
theorem meant_9 : meantL [35, 57] = some [9] := by decide
theorem meant_10 : meantL [35, 49, 48] = some [10] := by decide
theorem read_ref {a x : List UInt8} (ha : (59 : UInt8) ∉ a) (hm : meantL a = some x) (b : List UInt8) : readL (38 :: (a ++ 59 :: b)) = (readL b).map (x ++ ·) := readL_ref (cut1_of ha) hm
theorem readL_escB (q : Bool) (c : UInt8) (b : List UInt8) : readL (escB q c ++ b) = (readL b).map (c :: ·) := by
  have e : ∀ x : UInt8, (fun t : List UInt8 => [x] ++ t) = (x :: ·) := fun x => rfl
  by_cases h1 : c = 38
  · subst h1; exact read_ref (a := [97, 109, 112]) (by decide) meant_amp b
  by_cases h2 : c = 60
  · subst h2; exact read_ref (a := [108, 116]) (by decide) meant_lt b
  by_cases h3 : c = 62
  · subst h3; exact read_ref (a := [103, 116]) (by decide) meant_gt b
  by_cases h4 : c = 13
  · subst h4; exact read_ref (a := [35, 49, 51]) (by decide) meant_13 b
  cases q with
  | false =>
    have : escB false c = [c] := by simp [escB,h1,h2,h3,h4]
    rw [this]; exact readL_other h2 h1 b
  | true =>
    by_cases h5 : c = 34
    · subst h5; exact read_ref (a := [113, 117, 111, 116]) (by decide) meant_quot b
    by_cases h6 : c = 9
    · subst h6; exact read_ref (a := [35, 57]) (by decide) meant_9 b
    by_cases h7 : c = 10
    · subst h7; exact read_ref (a := [35, 49, 48]) (by decide) meant_10 b
    have : escB true c = [c] := by simp [escB,h1,h2,h3,h4,h5,h6,h7]
    rw [this]; exact readL_other h2 h1 b
theorem readL_escW (q : Bool) : ∀ s : List UInt8, readL (escW q s) = some s
  | [] => readL_nil
  | c :: s => by
    have : escW q (c :: s) = escB q c ++ escW q s := rfl
    rw [this, readL_escB, readL_escW q s]; rfl
theorem escB_all (q : Bool) (c : UInt8) : (escB q c).all (fun x => x != 60 && x != 62 && x != 13 && (!q || (x != 34 && x != 9 && x != 10))) = true := by
  by_cases h1 : c = 38
  · subst h1; cases q <;> decide
  by_cases h2 : c = 60
  · subst h2; cases q <;> decide
  by_cases h3 : c = 62
  · subst h3; cases q <;> decide
  by_cases h4 : c = 13
  · subst h4; cases q <;> decide
  cases q with
  | false =>
    have : escB false c = [c] := by simp [escB,h1,h2,h3,h4]
    rw [this]; simp [h2,h3,h4]
  | true =>
    by_cases h5 : c = 34
    · subst h5; decide
    by_cases h6 : c = 9
    · subst h6; decide
    by_cases h7 : c = 10
    · subst h7; decide
    have : escB true c = [c] := by simp [escB,h1,h2,h3,h4,h5,h6,h7]
    rw [this]; simp [h2,h3,h4,h5,h6,h7]
theorem escW_all (q : Bool) {s : List UInt8} {x : UInt8} (h : x ∈ escW q s) : (x != 60 && x != 62 && x != 13 && (!q || (x != 34 && x != 9 && x != 10))) = true := by
  unfold escW at h
  obtain ⟨c, _, hc⟩ := List.mem_flatMap.1 h
  exact List.all_eq_true.1 (escB_all q c) x hc
theorem dec_escB (q : Bool) {c : UInt8} (h1 : c.toNat < 128) (h2 : may (c.toNat : Int) = true) : (dec (escB q c)).isSome = true := by
  unfold escB
  repeat' split
  all_goals (try decide)
  all_goals (
    have e : encodeRune (c.toNat : Int) = [c] := by
      unfold encodeRune encodeRuneZ
      rw [if_pos (by omega)]
      simp
    have := dec_enc [(c.toNat : Int)] (by simp [h2])
    simp only [enc,List.flatMap_cons,List.flatMap_nil,List.append_nil,e] at this
    rw [this]; rfl)
theorem escB_high (q : Bool) {c : UInt8} (h : 128 ≤ c.toNat) : escB q c = [c] := by
  have hne : ∀ d : UInt8, d.toNat < 128 → c ≠ d := fun d hd e => by subst e; omega
  simp only [escB,hne 38 (by decide),hne 60 (by decide),hne 62 (by decide),hne 13 (by decide),hne 34 (by decide),hne 9 (by decide),hne 10 (by decide),if_false,ite_self]
theorem escW_high (q : Bool) : ∀ {s : List UInt8}, (∀ c ∈ s, 128 ≤ c.toNat) → escW q s = s
  | [], _ => rfl
  | c :: s, h => by
    have : escW q (c :: s) = escB q c ++ escW q s := rfl
    rw [this, escB_high q (h c (by simp)), escW_high q (fun x hx => h x (by simp [hx]))]; rfl
theorem enc_low {z : Int} (h0 : 0 ≤ z) (h : z < 128) : encodeRune z = [z.toNat.toUInt8] := by
  unfold encodeRune encodeRuneZ
  rw [if_pos (by omega)]
  rfl
theorem enc_high {z : Int} (h : 128 ≤ z) : ∀ c ∈ encodeRune z, 128 ≤ c.toNat := by
  intro c hc
  unfold encodeRune encodeRuneZ at hc
  rw [if_neg (by omega)] at hc
  repeat' split at hc
  all_goals (
    simp only [List.map_cons,List.map_nil,List.mem_cons,List.not_mem_nil,or_false] at hc
    rcases hc with rfl | rfl | rfl | rfl <;> (rw [mod64 (by omega) (by omega)]; omega))
theorem dec_escRune (q : Bool) {z : Int} (hm : may z = true) : (dec (escW q (encodeRune z))).isSome = true := by
  have hr := (may_range hm).1
  by_cases h : z < 128
  · rw [enc_low hr h]
    have hz : ((z.toNat.toUInt8).toNat : Int) = z := by rw [mod64 hr (by omega)]; omega
    have : escW q [z.toNat.toUInt8] = escB q z.toNat.toUInt8 := by simp [escW]
    rw [this]
    exact dec_escB q (by omega) (by rw [hz]; exact hm)
  · rw [escW_high q (enc_high (by omega))]
    have := dec_enc [z] (by simp [hm])
    simp only [enc,List.flatMap_cons,List.flatMap_nil,List.append_nil] at this
    rw [this]; rfl
theorem dec_escEnc (q : Bool) : ∀ zs : List Int, zs.all may = true → (dec (escW q (enc zs))).isSome = true
  | [], _ => rfl
  | z :: zs, h => by
    simp only [List.all_cons,Bool.and_eq_true] at h
    have : enc (z :: zs) = encodeRune z ++ enc zs := by simp [enc]
    rw [this, escW_append]
    obtain ⟨x, hx⟩ := Option.isSome_iff_exists.1 (dec_escRune q h.1)
    obtain ⟨y, hy⟩ := Option.isSome_iff_exists.1 (dec_escEnc q zs h.2)
    rw [dec_both hx hy]; rfl
theorem dec_escW (q : Bool) {s : List UInt8} (h : (dec s).isSome = true) : (dec (escW q s)).isSome = true := by
  obtain ⟨zs, hz⟩ := Option.isSome_iff_exists.1 h
  obtain ⟨hm, rfl⟩ := (dec_iff s zs).1 hz
  exact dec_escEnc q zs hm
theorem decD_range {c : UInt8} {d : Nat} (h : decD c = some d) : d ≤ 9 ∧ c = UInt8.ofNat (48 + d) ∧ c.toNat = 48 + d := by
  unfold decD at h
  split at h
  · cases h
    refine ⟨by omega, ?_, by omega⟩
    have : 48 + (c.toNat - 48) = c.toNat := by omega
    rw [this]; simp
  · cases h
theorem decV_snoc : ∀ (s : List UInt8) (n : Nat) (c : UInt8), decV n (s ++ [c]) = (decV n s).bind fun m => (decD c).map fun d => 10 * m + d
  | [], n, c => by
    simp only [List.nil_append,decV,Option.bind_some]
    cases decD c <;> rfl
  | x :: s, n, c => by
    simp only [List.cons_append,decV]
    cases decD x with
    | none => rfl
    | some d => exact decV_snoc s _ c
theorem decV_le : ∀ (s : List UInt8) (n m : Nat), decV n s = some m → n ≤ m ∧ m < (n + 1) * 10 ^ s.length
  | [], n, m, h => by simp only [decV] at h; cases h; simp
  | x :: s, n, m, h => by
    simp only [decV] at h
    cases hx : decD x with
    | none => rw [hx] at h; cases h
    | some d =>
      rw [hx] at h
      have hd := (decD_range hx).1
      obtain ⟨h1, h2⟩ := decV_le s _ m h
      refine ⟨by omega, Nat.lt_of_lt_of_le h2 ?_⟩
      rw [List.length_cons, Nat.pow_succ', ← Nat.mul_assoc]
      exact Nat.mul_le_mul_right _ (by omega)
def skipL (s : List UInt8) : List UInt8 := s.dropWhile blankB
def wordB (c : UInt8) : Bool := partB false c || c == 58
def wordT (s : List UInt8) : List UInt8 := s.takeWhile wordB
def wordR (s : List UInt8) : List UInt8 := s.dropWhile wordB
def nameO (s : List UInt8) : Option (List UInt8 × List UInt8) := if fullL (wordT s) = true then some (wordT s, wordR s) else none
def flatB (c : UInt8) : UInt8 := if blankB c = true then 32 else c
def toldO (s : List UInt8) : Option (List UInt8) := readL (s.map flatB)
def quoteO : List UInt8 → Option (List UInt8 × List UInt8)
  | [] => none
  | q :: t => if q = 39 ∨ q = 34 then cut1 q t else none
def valueO (s : List UInt8) : Option (List UInt8 × List UInt8) := (quoteO s).bind fun p => (toldO p.1).map fun v => (v, p.2)
def afterO (c : UInt8) : List UInt8 → Option (List UInt8)
  | [] => none
  | d :: t => if d = c then some t else none
def attrO (s : List UInt8) : Option (Pr × List UInt8) := (nameO s).bind fun p => (afterO 61 (skipL p.2)).bind fun t => (valueO (skipL t)).map fun q => (⟨p.1, q.1⟩, q.2)
theorem dropWhile_le {p : UInt8 → Bool} : ∀ s : List UInt8, (s.dropWhile p).length ≤ s.length
  | [] => Nat.le_refl _
  | c :: s => by
    rw [List.dropWhile_cons]
    split
    · have := dropWhile_le (p := p) s; simp; omega
    · exact Nat.le_refl _
theorem skip_le (s : List UInt8) : (skipL s).length ≤ s.length := dropWhile_le s
theorem word_split (s : List UInt8) : s = wordT s ++ wordR s := (List.takeWhile_append_dropWhile).symm
theorem full_ne {s : List UInt8} (h : fullL s = true) : s ≠ [] := by
  intro e; subst e; cases h
theorem name_lt {s n r : List UInt8} (h : nameO s = some (n, r)) : s = n ++ r ∧ n ≠ [] ∧ fullL n = true ∧ r.length < s.length := by
  unfold nameO at h
  split at h
  · rename_i hf
    cases h
    have h1 := word_split s
    have h2 := full_ne hf
    refine ⟨h1, h2, hf, ?_⟩
    have := congrArg List.length h1
    rw [List.length_append] at this
    have := List.length_pos_iff.2 h2
    omega
  · cases h
theorem after_cons (c d : UInt8) (t : List UInt8) : afterO c (d :: t) = if d = c then some t else none := rfl
theorem quote_cons (q : UInt8) (t : List UInt8) : quoteO (q :: t) = if q = 39 ∨ q = 34 then cut1 q t else none := rfl
theorem after_some {c : UInt8} {s t : List UInt8} (h : afterO c s = some t) : s = c :: t := by
  cases s with
  | nil => cases h
  | cons d s =>
    rw [after_cons] at h
    split at h
    · rename_i e; cases h; rw [e]
    · cases h
theorem quote_some {s a b : List UInt8} (h : quoteO s = some (a, b)) : ∃ q, (q = 39 ∨ q = 34) ∧ s = q :: (a ++ q :: b) ∧ q ∉ a := by
  cases s with
  | nil => cases h
  | cons q t =>
    rw [quote_cons] at h
    split at h
    · rename_i hq
      obtain ⟨h1, h2⟩ := cut1_some h
      exact ⟨q, hq, by rw [h1], h2⟩
    · cases h
theorem value_some {s v r : List UInt8} (h : valueO s = some (v, r)) : ∃ a, quoteO s = some (a, r) ∧ toldO a = some v := by
  unfold valueO at h
  obtain ⟨⟨a, b⟩, h1, h2⟩ := Option.bind_eq_some_iff.1 h
  obtain ⟨x, h3, h4⟩ := Option.map_eq_some_iff.1 h2
  cases h4
  exact ⟨a, h1, h3⟩
theorem attr_some {s r : List UInt8} {a : Pr} (h : attrO s = some (a, r)) : ∃ r1 t, nameO s = some (a.name, r1) ∧ skipL r1 = 61 :: t ∧ valueO (skipL t) = some (a.value, r) := by
  unfold attrO at h
  obtain ⟨⟨n, r1⟩, h1, h2⟩ := Option.bind_eq_some_iff.1 h
  obtain ⟨t, h3, h4⟩ := Option.bind_eq_some_iff.1 h2
  obtain ⟨⟨v, r2⟩, h5, h6⟩ := Option.map_eq_some_iff.1 h4
  cases h6
  exact ⟨r1, t, h1, after_some h3, h5⟩
theorem attr_lt {s r : List UInt8} {a : Pr} (h : attrO s = some (a, r)) : r.length < s.length := by
  obtain ⟨r1, t, h1, h2, h3⟩ := attr_some h
  have l1 := (name_lt h1).2.2.2
  have l2 := skip_le r1
  rw [h2] at l2
  have l3 := skip_le t
  obtain ⟨v, h4, _⟩ := value_some h3
  obtain ⟨q, _, h5, _⟩ := quote_some h4
  rw [h5] at l3
  simp only [List.length_cons,List.length_append] at l2 l3
  omega
def endO : List UInt8 → Option (Nat × List UInt8)
  | 62 :: t => some (1, t)
  | 47 :: 62 :: t => some (3, t)
  | _ => none
def tagL (n : List UInt8) (l : List Pr) (s : List UInt8) : Option (Tk × List UInt8) :=
  match endO (skipL s) with
  | some (k, t) => some (⟨k, n, l, []⟩, t)
  | none => if (skipL s).length < s.length then (match h : attrO (skipL s) with
    | none => none
    | some (a, r) => if (l.any fun b => a.name == b.name) = true then none else tagL n (l ++ [a]) r) else none
termination_by s.length
decreasing_by
  have := attr_lt h
  have := skip_le s
  omega
theorem tag_end {n : List UInt8} {l : List Pr} {s t : List UInt8} {k : Nat} (h : endO (skipL s) = some (k, t)) : tagL n l s = some (⟨k, n, l, []⟩, t) := by rw [tagL, h]
theorem tag_gap {n : List UInt8} {l : List Pr} {s : List UInt8} (h : endO (skipL s) = none) (h2 : ¬ (skipL s).length < s.length) : tagL n l s = none := by rw [tagL, h]; simp only [if_neg h2]
theorem tag_bad {n : List UInt8} {l : List Pr} {s : List UInt8} (h : endO (skipL s) = none) (h2 : attrO (skipL s) = none) : tagL n l s = none := by
  rw [tagL, h]; simp only
  split
  · split
    · rfl
    · rename_i e; rw [h2] at e; cases e
  · rfl
theorem tag_twice {n : List UInt8} {l : List Pr} {s r : List UInt8} {a : Pr} (h : endO (skipL s) = none) (h2 : attrO (skipL s) = some (a, r)) (h3 : (l.any fun b => a.name == b.name) = true) : tagL n l s = none := by
  rw [tagL, h]; simp only
  split
  · split
    · rfl
    · rename_i e; rw [h2] at e; cases e; rw [if_pos h3]
  · rfl
theorem tag_attr {n : List UInt8} {l : List Pr} {s r : List UInt8} {a : Pr} (h : endO (skipL s) = none) (hg : (skipL s).length < s.length) (h2 : attrO (skipL s) = some (a, r)) (h3 : (l.any fun b => a.name == b.name) = false) : tagL n l s = tagL n (l ++ [a]) r := by
  rw [tagL, h]; simp only [if_pos hg]
  split
  · rename_i e; rw [h2] at e; cases e
  · rename_i e; rw [h2] at e; cases e; rw [if_neg (by simp [h3])]
def tagO (s : List UInt8) : Option (Tk × List UInt8) :=
  match afterO 47 s with
  | some t => (nameO t).bind fun p => (afterO 62 (skipL p.2)).map fun r => (⟨2, p.1, [], []⟩, r)
  | none => (nameO s).bind fun p => tagL p.1 [] p.2
def textB (c : UInt8) : Bool := c != 60
def textT (s : List UInt8) : List UInt8 := s.takeWhile textB
def textR (s : List UInt8) : List UInt8 := s.dropWhile textB
def oneO (s : List UInt8) : Option (Tk × List UInt8) :=
  match afterO 60 s with
  | some t => tagO t
  | none => (readL (textT s)).map fun x => (⟨4, [], [], x⟩, textR s)
theorem tagL_lt : ∀ (k : Nat) (n : List UInt8) (l : List Pr) (s r : List UInt8) (t : Tk), s.length ≤ k → tagL n l s = some (t, r) → r.length < s.length := by
  intro k
  induction k with
  | zero =>
    intro n l s r t hk h
    obtain rfl := List.length_eq_zero_iff.1 (Nat.le_zero.1 hk)
    rw [tag_gap (by rfl) (by simp [skipL])] at h; cases h
  | succ k ih =>
    intro n l s r t hk h
    have hs := skip_le s
    cases he : endO (skipL s) with
    | some p =>
      obtain ⟨m, u⟩ := p
      rw [tag_end he] at h
      cases h
      unfold endO at he
      split at he
      · rename_i e; cases he; rw [e] at hs; simp at hs; omega
      · rename_i e; cases he; rw [e] at hs; simp at hs; omega
      · cases he
    | none =>
      cases ha : attrO (skipL s) with
      | none => rw [tag_bad he ha] at h; cases h
      | some p =>
        obtain ⟨a, u⟩ := p
        have hl := attr_lt ha
        cases hd : l.any fun b => a.name == b.name with
        | true => rw [tag_twice he ha hd] at h; cases h
        | false =>
          by_cases hg : (skipL s).length < s.length
          · rw [tag_attr he hg ha hd] at h
            have := ih n _ u r t (by omega) h
            omega
          · rw [tag_gap he hg] at h; cases h
theorem tag_lt {s r : List UInt8} {t : Tk} (h : tagO s = some (t, r)) : r.length < s.length := by
  unfold tagO at h
  split at h
  · rename_i u hu
    obtain ⟨⟨n, r1⟩, h1, h2⟩ := Option.bind_eq_some_iff.1 h
    obtain ⟨r2, h3, h4⟩ := Option.map_eq_some_iff.1 h2
    cases h4
    have l1 := (name_lt h1).2.2.2
    have l2 := skip_le r1
    rw [after_some h3] at l2
    rw [after_some hu]
    simp only [List.length_cons] at l2 ⊢
    omega
  · obtain ⟨⟨n, r1⟩, h1, h2⟩ := Option.bind_eq_some_iff.1 h
    have l1 := (name_lt h1).2.2.2
    have l2 := tagL_lt _ n [] r1 r t (Nat.le_refl _) h2
    omega
theorem one_lt {s r : List UInt8} {t : Tk} (hne : s ≠ []) (h : oneO s = some (t, r)) : r.length < s.length := by
  unfold oneO at h
  split at h
  · rename_i u hu
    have := tag_lt h
    rw [after_some hu]; simp; omega
  · rename_i hu
    obtain ⟨x, _, h2⟩ := Option.map_eq_some_iff.1 h
    cases h2
    cases s with
    | nil => exact absurd rfl hne
    | cons c s =>
      have hc : textB c = true := by
        rw [after_cons] at hu
        split at hu
        · cases hu
        · rename_i e; simp [textB,e]
      unfold textR
      rw [List.dropWhile_cons, if_pos hc]
      have := dropWhile_le (p := textB) s
      simp; omega
def lexG (n : Nat) (l : List Tk) (s : List UInt8) : List Tk × Nat × Int :=
  if hn : s = [] then (l, 0, 0) else if 512 ≤ l.length then ([], n - s.length, 4) else match h : oneO s with
    | none => ([], n - s.length, 80)
    | some (t, r) => if 16 < t.attrs.length then ([], n - s.length, 4) else lexG n (l ++ [t]) r
termination_by s.length
decreasing_by exact one_lt hn h
theorem lexG_nil (n : Nat) (l : List Tk) : lexG n l [] = (l, 0, 0) := by rw [lexG, dif_pos rfl]
theorem lexG_many {n : Nat} {l : List Tk} {s : List UInt8} (h : s ≠ []) (h2 : 512 ≤ l.length) : lexG n l s = ([], n - s.length, 4) := by rw [lexG, dif_neg h, if_pos h2]
theorem lexG_bad {n : Nat} {l : List Tk} {s : List UInt8} (h : s ≠ []) (h2 : l.length < 512) (h3 : oneO s = none) : lexG n l s = ([], n - s.length, 80) := by
  rw [lexG, dif_neg h, if_neg (by omega)]
  split
  · rfl
  · rename_i e; rw [h3] at e; cases e
theorem lexG_great {n : Nat} {l : List Tk} {s r : List UInt8} {t : Tk} (h : s ≠ []) (h2 : l.length < 512) (h3 : oneO s = some (t, r)) (h4 : 16 < t.attrs.length) : lexG n l s = ([], n - s.length, 4) := by
  rw [lexG, dif_neg h, if_neg (by omega)]
  split
  · rename_i e; rw [h3] at e; cases e
  · rename_i e; rw [h3] at e; cases e; rw [if_pos h4]
theorem lexG_go {n : Nat} {l : List Tk} {s r : List UInt8} {t : Tk} (h : s ≠ []) (h2 : l.length < 512) (h3 : oneO s = some (t, r)) (h4 : t.attrs.length ≤ 16) : lexG n l s = lexG n (l ++ [t]) r := by
  rw [lexG, dif_neg h, if_neg (by omega)]
  split
  · rename_i e; rw [h3] at e; cases e
  · rename_i e; rw [h3] at e; cases e; rw [if_neg (by omega)]
def lexA (s : List UInt8) : List Tk × Nat × Int := if ptsErr s ≠ 0 then ([], 0, ptsErr s) else lexG s.length [] s
end Go.Proofs.YtoaclokiggoeiaaGreatDoor
namespace Go.Proofs.YtoaclokiggoeiaaGreatDoor
set_option maxRecDepth 100000
set_option maxHeartbeats 32000000
set_option linter.unusedSimpArgs false
set_option linter.unusedVariables false
open Nat renaming reduceAdd → Ka, reduceMul → Kb, reduceEqDiff → Kc, reduceLeDiff → Kd, reduceSub → Ke, reduceLT → Kf, reduceBEq → Kr, reduceBNe → Ks, reducePow → Kt
open Int renaming reduceToNat → Kg, reduceLE → Kh, reduceLT → Ki, reduceAdd → Kj, reduceSub → Kk, reduceMul → Kl, reduceNeg → Km, reduceBEq → Kn, reduceBNe → Ko, reduceEq → Kp, reduceNe → Kq
open Go Go.RowKit Go.Proofs.YtoaclokiggoeiaaGreatDoor.Vm
def validB (r : Int) : Bool := (decide (0 ≤ r) && decide (r < 55296)) || (decide (57343 < r) && decide (r ≤ 1114111))
theorem valid_ev (r : Int) (nm : Nat) : Ev cx 75 nm [.int .i32 r] Mem.nil (.bool (validB r)) [] := by
  unfold validB
  refine ev_go rfl (fun cargs w => Tryz.call75 cargs w) Tryz.func75 rfl mixed (by kernel_rfl) rfl ?_; intro b0 hb0
  (repeat' first | simp only [fins,mems,Tryz.results75,Tryz.ntmps75,Kt,wks,vcs,Ka,Kb,Kc,Kd,Ke,Kf,Kg,Kh,Ki,Kj,Kk,Kl,Km,reduceCtorEq,reduceIte,Kn,Ko,Kp,Kq,Kr,Ks,tys] | exact rfl | refine call_off (v := .any) ?_ | ((first | apply cond_bool | apply cond_bit) <;> intro hb) | refine And.intro (by omega) ?_ | refine And.intro (fun hb => ?_) (fun hb => ?_) | refine Fin.pure ?_ ?_ ?_ | simp only [injs])
  all_goals simp_all
theorem tMay_ev (n : Int) (nm : Nat) : Ev cx 56 nm [.int .i64 n] Mem.nil (.bool (may n)) [] := by
  refine ev_go rfl (fun cargs w => Tryz.call56 cargs w) Tryz.func56 rfl mixed (by kernel_rfl) rfl ?_; intro b0 hb0
  (repeat' first | simp only [fins,mems,Tryz.results56,Tryz.ntmps56,Kt,wks,vcs,Ka,Kb,Kc,Kd,Ke,Kf,Kg,Kh,Ki,Kj,Kk,Kl,Km,reduceCtorEq,reduceIte,Kn,Ko,Kp,Kq,Kr,Ks,tys] | exact rfl | refine call_off (v := .any) ?_ | ((first | apply cond_bool | apply cond_bit) <;> intro hb) | refine And.intro (by omega) ?_ | refine And.intro (fun hb => ?_) (fun hb => ?_) | refine Fin.pure ?_ ?_ ?_ | simp only [injs])
  all_goals simp only [decide_eq_true_eq,decide_eq_false_iff_not,beq_iff_eq,beq_eq_false_iff_ne,ne_eq] at *
  all_goals (first | (exfalso; omega) | (exact may_t (by omega)) | (exact may_f (by omega)) | skip)
  have hw : IntKind.i32.wrap n = n := IntWalk.i32_in _ (by omega)
  rw [hw]
  have hv : validB n = may n := by
    cases h : may n with
    | true =>
      have := (may_iff n).1 h
      unfold validB
      simp only [Bool.or_eq_true,Bool.and_eq_true,decide_eq_true_eq]; omega
    | false =>
      have h' : ¬ _ := fun q => by rw [(may_iff n).2 q] at h; cases h
      unfold validB
      simp only [Bool.or_eq_false_iff,Bool.and_eq_false_iff,decide_eq_false_iff_not]; omega
  (repeat' first | simp only [fins,mems,Tryz.results56,Tryz.ntmps56,Kt,wks,hv,vcs,Ka,Kb,Kc,Kd,Ke,Kf,Kg,Kh,Ki,Kj,Kk,Kl,Km,reduceCtorEq,reduceIte,Kn,Ko,Kp,Kq,Kr,Ks,tys] | exact rfl | refine call_off (v := .any) ?_ | (first | (refine call_fn ?_ (valid_ev n _) ?_) | (refine call_fn_g ?_ (fun _ => valid_ev n _) ?_)) | ((first | apply cond_bool | apply cond_bit) <;> intro hb) | refine And.intro (by omega) ?_ | refine And.intro (fun hb => ?_) (fun hb => ?_) | refine Fin.pure ?_ ?_ ?_ | simp only [injs])
def preB (s p : List UInt8) : Bool := decide (p.length ≤ s.length) && (s.take p.length == p)
theorem hasPre_ev (s p : List UInt8) (hs : s.length ≤ lim) (hp : p.length ≤ lim) (nm : Nat) : Ev cx 74 nm [.str s, .str p] Mem.nil (.bool (preB s p)) [] := by
  unfold lim at hs hp
  unfold preB
  refine ev_go rfl (fun cargs w => Tryz.call74 cargs w) Tryz.func74 rfl mixed (by kernel_rfl) rfl ?_; intro b0 hb0
  (repeat' first | simp only [fins,mems,Tryz.results74,Tryz.ntmps74,Kt,wks,decide_eq_true_eq,imp_self,vcs,Ka,Kb,Kc,Kd,Ke,Kf,Kg,Kh,Ki,Kj,Kk,Kl,Km,reduceCtorEq,reduceIte,Kn,Ko,Kp,Kq,Kr,Ks,tys] | exact rfl | refine call_off (v := .any) ?_ | ((first | apply cond_bool | apply cond_bit) <;> intro hb) | refine And.intro (by omega) ?_ | refine And.intro (fun hb => ?_) (fun hb => ?_) | refine Fin.pure ?_ ?_ ?_ | simp only [injs])
theorem pre_ev (s p : List UInt8) (hs : s.length ≤ lim) (hp : p.length ≤ lim) (nm : Nat) : Ev cx 55 nm [.str s, .str p] Mem.nil (.bool (preB s p)) [] := by
  refine ev_go rfl (fun cargs w => Tryz.call55 cargs w) Tryz.func55 rfl mixed (by kernel_rfl) rfl ?_; intro b0 hb0
  (repeat' first | simp only [fins,mems,Tryz.results55,Tryz.ntmps55,Kt,wks,vcs,Ka,Kb,Kc,Kd,Ke,Kf,Kg,Kh,Ki,Kj,Kk,Kl,Km,reduceCtorEq,reduceIte,Kn,Ko,Kp,Kq,Kr,Ks,tys] | exact rfl | refine call_off (v := .any) ?_ | (first | (refine call_fn ?_ (hasPre_ev s p hs hp _) ?_) | (refine call_fn_g ?_ (fun _ => hasPre_ev s p hs hp _) ?_)) | ((first | apply cond_bool | apply cond_bit) <;> intro hb) | refine And.intro (by omega) ?_ | refine And.intro (fun hb => ?_) (fun hb => ?_) | refine Fin.pure ?_ ?_ ?_ | simp only [injs])
end Go.Proofs.YtoaclokiggoeiaaGreatDoor
