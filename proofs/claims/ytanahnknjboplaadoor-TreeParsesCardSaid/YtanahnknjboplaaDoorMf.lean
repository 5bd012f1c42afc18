/-
  Texts joined: XTy, XEp, XEq, XEr, XEs, XEx, XEn, XLa, XEa, XEc, XEd, XEh.
-/
import Derived.Test.YtanahnknjboplaaDoorChecked
import Derived.Lib.RuneBytes
import Derived.Lib.MapLaws
import Derived.Lib.RuneCountTail
import Derived.Lib.IndexLaws
import Derived.Test.YtanahnknjboplaaDoorMe
/-
  Facts on the program's types. (Printed by Facts.lean.)
-/
namespace Go.Proofs.YtanahnknjboplaaDoor
open Go Go.RowKit Go.Proofs.YtanahnknjboplaaDoor.Vm
noncomputable def cx : Cx := ⟨Tryd.prog, fun _ => .any⟩
theorem cxG : ∀ g, (cx.G g).plain = true := fun _ => rfl
theorem mixed : cx.P.follows .mixedOrders = true := by kernel_rfl
theorem lenKind_string {P : Program} {t : TypeId} (h : P.underlying t = some .string) : lenKind P t = true := by simp [lenKind, h]
theorem und_22 : cx.P.underlying 22 = some (.slice 26) := by kernel_rfl
theorem el_22 : elInfo cx.P 22 = some ([.int .u8 0, .str [], .nils, .str []], 64) := by kernel_rfl
theorem lk_22 : lenKind cx.P 22 = true := by kernel_rfl
theorem et_22 : elemT cx.P 22 = some 26 := by kernel_rfl
theorem bet_22 : betT cx.P 22 = none := by kernel_rfl
theorem und_3 : cx.P.underlying 3 = some (.int .i64) := by kernel_rfl
theorem elm_22 : elm cx.P 22 = some (none, 4, true) := by kernel_rfl
theorem ty_26 : ty cx.P 26 = some (4, true) := by kernel_rfl
theorem zero_26 : zeroL cx.P 26 = some [.int .u8 0, .str [], .nils, .str []] := by kernel_rfl
theorem bld_26 : bldT cx.P 26 = none := by kernel_rfl
theorem el_24 : elInfo cx.P 24 = some ([.str [], .str []], 32) := by kernel_rfl
theorem fld_26_2 : fld cx.P 26 2 = some (2, 1, false) := by kernel_rfl
theorem ty_24 : ty cx.P 24 = some (1, false) := by kernel_rfl
theorem und_24 : cx.P.underlying 24 = some (.slice 55) := by kernel_rfl
theorem lk_24 : lenKind cx.P 24 = true := by kernel_rfl
theorem et_24 : elemT cx.P 24 = some 55 := by kernel_rfl
theorem bet_24 : betT cx.P 24 = none := by kernel_rfl
theorem el_36 : elInfo cx.P 36 = some ([.int .u8 0], 1) := by kernel_rfl
theorem elm_36 : elm cx.P 36 = some (none, 1, false) := by kernel_rfl
theorem und_36 : cx.P.underlying 36 = some (.slice 5) := by kernel_rfl
theorem lk_36 : lenKind cx.P 36 = true := by kernel_rfl
theorem et_36 : elemT cx.P 36 = some 5 := by kernel_rfl
theorem bet_36 : betT cx.P 36 = some 5 := by kernel_rfl
theorem ty_5 : ty cx.P 5 = some (1, false) := by kernel_rfl
theorem und_9 : cx.P.underlying 9 = some .string := by kernel_rfl
theorem bt_36 : bytesT cx.P 36 = true := by kernel_rfl
theorem und_28 : cx.P.underlying 28 = some (.int .i64) := by kernel_rfl
theorem lk_9 : lenKind cx.P 9 = true := by kernel_rfl
theorem und_5 : cx.P.underlying 5 = some (.int .u8) := by kernel_rfl
theorem el_51 : elInfo cx.P 51 = some ([.int .i64 0], 8) := by kernel_rfl
theorem fld_26_1 : fld cx.P 26 1 = some (1, 1, false) := by kernel_rfl
theorem ty_9 : ty cx.P 9 = some (1, false) := by kernel_rfl
theorem fld_26_3 : fld cx.P 26 3 = some (3, 1, false) := by kernel_rfl
theorem elm_24 : elm cx.P 24 = some (none, 2, true) := by kernel_rfl
theorem fld_55_0 : fld cx.P 55 0 = some (0, 1, false) := by kernel_rfl
theorem fld_55_1 : fld cx.P 55 1 = some (1, 1, false) := by kernel_rfl
theorem shape_61 : shapeT cx.P 61 = some ([.nils, .nils, .int .u8 0], [(0, 1), (1, 1), (2, 1)]) := by kernel_rfl
theorem fld_26_0 : fld cx.P 26 0 = some (0, 1, false) := by kernel_rfl
theorem fld_61_2 : fld cx.P 61 2 = some (2, 1, false) := by kernel_rfl
theorem fld_61_0 : fld cx.P 61 0 = some (0, 1, false) := by kernel_rfl
theorem ty_27 : ty cx.P 27 = some (1, false) := by kernel_rfl
theorem und_27 : cx.P.underlying 27 = some (.slice 68) := by kernel_rfl
theorem el_27 : elInfo cx.P 27 = some ([.int .u8 0, .str [], .str [], .nils, .str [], .int .i64 0], 88) := by kernel_rfl
theorem lk_27 : lenKind cx.P 27 = true := by kernel_rfl
theorem et_27 : elemT cx.P 27 = some 68 := by kernel_rfl
theorem bet_27 : betT cx.P 27 = none := by kernel_rfl
theorem fld_61_1 : fld cx.P 61 1 = some (1, 1, false) := by kernel_rfl
theorem ty_51 : ty cx.P 51 = some (1, false) := by kernel_rfl
theorem und_51 : cx.P.underlying 51 = some (.slice 3) := by kernel_rfl
theorem lk_51 : lenKind cx.P 51 = true := by kernel_rfl
theorem et_51 : elemT cx.P 51 = some 3 := by kernel_rfl
theorem bet_51 : betT cx.P 51 = none := by kernel_rfl
theorem zero_63 : zeroL cx.P 63 = some [.nils, .nils] := by kernel_rfl
theorem bld_63 : bldT cx.P 63 = none := by kernel_rfl
theorem ty_63 : ty cx.P 63 = some (2, true) := by kernel_rfl
theorem fld_63_0 : fld cx.P 63 0 = some (0, 1, false) := by kernel_rfl
theorem fld_63_1 : fld cx.P 63 1 = some (1, 1, false) := by kernel_rfl
theorem elm_27 : elm cx.P 27 = some (none, 6, true) := by kernel_rfl
theorem fld_68_0 : fld cx.P 68 0 = some (0, 1, false) := by kernel_rfl
theorem fld_68_1 : fld cx.P 68 1 = some (1, 1, false) := by kernel_rfl
theorem fld_68_2 : fld cx.P 68 2 = some (2, 1, false) := by kernel_rfl
theorem fld_68_4 : fld cx.P 68 4 = some (4, 1, false) := by kernel_rfl
theorem fld_68_5 : fld cx.P 68 5 = some (5, 1, false) := by kernel_rfl
theorem ty_3 : ty cx.P 3 = some (1, false) := by kernel_rfl
theorem fld_68_3 : fld cx.P 68 3 = some (3, 1, false) := by kernel_rfl
theorem ty_66 : ty cx.P 66 = some (1, false) := by kernel_rfl
theorem zero_75 : zeroL cx.P 75 = some [.nilp, .nils] := by kernel_rfl
theorem bld_75 : bldT cx.P 75 = some 75 := by kernel_rfl
theorem zero_77 : zeroL cx.P 77 = some [.str []] := by kernel_rfl
theorem bld_77 : bldT cx.P 77 = none := by kernel_rfl
theorem ty_77 : ty cx.P 77 = some (1, true) := by kernel_rfl
theorem fld_77_0 : fld cx.P 77 0 = some (0, 1, false) := by kernel_rfl
theorem shape_88 : shapeT cx.P 88 = some ([.str [], .nils], [(0, 1), (1, 1)]) := by kernel_rfl
theorem fld_88_0 : fld cx.P 88 0 = some (0, 1, false) := by kernel_rfl
theorem fld_88_1 : fld cx.P 88 1 = some (1, 1, false) := by kernel_rfl
theorem ty_36 : ty cx.P 36 = some (1, false) := by kernel_rfl
theorem zero_93 : zeroL cx.P 93 = some [.int .u8 0, .int .u8 0] := by kernel_rfl
theorem bld_93 : bldT cx.P 93 = none := by kernel_rfl
theorem ty_93 : ty cx.P 93 = some (2, true) := by kernel_rfl
theorem elm_93 : elm cx.P 93 = some (some 2, 1, false) := by kernel_rfl
theorem zero_36 : zeroL cx.P 36 = some [.nils] := by kernel_rfl
theorem bld_36 : bldT cx.P 36 = none := by kernel_rfl
theorem elm_51 : elm cx.P 51 = some (none, 1, false) := by kernel_rfl
theorem und_21 : cx.P.underlying 21 = some (.int .i32) := by kernel_rfl
theorem ty_55 : ty cx.P 55 = some (2, true) := by kernel_rfl
theorem zero_55 : zeroL cx.P 55 = some [.str [], .str []] := by kernel_rfl
theorem bld_55 : bldT cx.P 55 = none := by kernel_rfl
theorem shape_68 : shapeT cx.P 68 = some ([.int .u8 0, .str [], .str [], .nils, .str [], .int .i64 0], [(0, 1), (1, 1), (2, 1), (3, 1), (4, 1), (5, 1)]) := by kernel_rfl
theorem zero_68 : zeroL cx.P 68 = some [.int .u8 0, .str [], .str [], .nils, .str [], .int .i64 0] := by kernel_rfl
theorem bld_68 : bldT cx.P 68 = none := by kernel_rfl
theorem ty_68 : ty cx.P 68 = some (6, true) := by kernel_rfl
theorem shape_102 : shapeT cx.P 102 = some ([.str [], .str [], .str []], [(0, 1), (1, 1), (2, 1)]) := by kernel_rfl
theorem el_66 : elInfo cx.P 66 = some ([.str [], .str [], .str []], 48) := by kernel_rfl
theorem und_66 : cx.P.underlying 66 = some (.slice 102) := by kernel_rfl
theorem lk_66 : lenKind cx.P 66 = true := by kernel_rfl
theorem et_66 : elemT cx.P 66 = some 102 := by kernel_rfl
theorem bet_66 : betT cx.P 66 = none := by kernel_rfl
theorem elm_66 : elm cx.P 66 = some (none, 3, true) := by kernel_rfl
theorem ty_102 : ty cx.P 102 = some (3, true) := by kernel_rfl
theorem feq_102 : flatEq cx.P 102 = some [(0, 1), (1, 1), (2, 1)] := by kernel_rfl
theorem feq_55 : flatEq cx.P 55 = some [(0, 1), (1, 1)] := by kernel_rfl
theorem shape_77 : shapeT cx.P 77 = some ([.str []], [(0, 1)]) := by kernel_rfl
theorem fld_75_1 : fld cx.P 75 1 = some (1, 1, false) := by kernel_rfl
theorem und_109 : cx.P.underlying 109 = some (.pointer 5) := by kernel_rfl
theorem shape_116 : shapeT cx.P 116 = some ([.str [], .val .nilFunc], [(0, 1), (1, 1)]) := by kernel_rfl
theorem el_117 : elInfo cx.P 117 = some ([.str [], .val .nilFunc], 24) := by kernel_rfl
theorem und_117 : cx.P.underlying 117 = some (.slice 116) := by kernel_rfl
theorem lk_117 : lenKind cx.P 117 = true := by kernel_rfl
theorem et_117 : elemT cx.P 117 = some 116 := by kernel_rfl
theorem bet_117 : betT cx.P 117 = none := by kernel_rfl
theorem elm_117 : elm cx.P 117 = some (none, 2, true) := by kernel_rfl
theorem ty_116 : ty cx.P 116 = some (2, true) := by kernel_rfl
theorem zero_116 : zeroL cx.P 116 = some [.str [], .val .nilFunc] := by kernel_rfl
theorem bld_116 : bldT cx.P 116 = none := by kernel_rfl
theorem fld_116_0 : fld cx.P 116 0 = some (0, 1, false) := by kernel_rfl
theorem fld_116_1 : fld cx.P 116 1 = some (1, 1, false) := by kernel_rfl
theorem ty_114 : ty cx.P 114 = some (1, false) := by kernel_rfl
theorem shape_93 : shapeT cx.P 93 = some ([.int .u8 0, .int .u8 0], [(0, 1), (1, 1)]) := by kernel_rfl
theorem und_121 : cx.P.underlying 121 = some (.int .u32) := by kernel_rfl
theorem zero_125 : zeroL cx.P 125 = some [.bool false, .bool false, .bool false, .bool false, .bool false, .bool false, .bool false, .bool false, .bool false, .bool false, .bool false, .bool false, .bool false, .bool false, .bool false, .bool false, .bool false, .bool false, .bool false, .bool false, .bool false, .bool false, .bool false, .bool false, .bool false, .bool false, .bool false, .bool false, .bool false, .bool false, .bool false, .bool false, .bool false, .bool false, .bool false, .bool false, .bool false, .bool false, .bool false, .bool false, .bool false, .bool false, .bool false, .bool false, .bool false, .bool false, .bool false, .bool false, .bool false, .bool false, .bool false, .bool false, .bool false, .bool false, .bool false, .bool false, .bool false, .bool false, .bool false, .bool false, .bool false, .bool false, .bool false, .bool false, .bool false, .bool false, .bool false, .bool false, .bool false, .bool false, .bool false, .bool false, .bool false, .bool false, .bool false, .bool false, .bool false, .bool false, .bool false, .bool false, .bool false, .bool false, .bool false, .bool false, .bool false, .bool false, .bool false, .bool false, .bool false, .bool false, .bool false, .bool false, .bool false, .bool false, .bool false, .bool false, .bool false, .bool false, .bool false, .bool false, .bool false, .bool false, .bool false, .bool false, .bool false, .bool false, .bool false, .bool false, .bool false, .bool false, .bool false, .bool false, .bool false, .bool false, .bool false, .bool false, .bool false, .bool false, .bool false, .bool false, .bool false, .bool false, .bool false, .bool false, .bool false, .bool false, .bool false, .bool false, .bool false, .bool false, .bool false, .bool false, .bool false, .bool false, .bool false, .bool false, .bool false, .bool false, .bool false, .bool false, .bool false, .bool false, .bool false, .bool false, .bool false, .bool false, .bool false, .bool false, .bool false, .bool false, .bool false, .bool false, .bool false, .bool false, .bool false, .bool false, .bool false, .bool false, .bool false, .bool false, .bool false, .bool false, .bool false, .bool false, .bool false, .bool false, .bool false, .bool false, .bool false, .bool false, .bool false, .bool false, .bool false, .bool false, .bool false, .bool false, .bool false, .bool false, .bool false, .bool false, .bool false, .bool false, .bool false, .bool false, .bool false, .bool false, .bool false, .bool false, .bool false, .bool false, .bool false, .bool false, .bool false, .bool false, .bool false, .bool false, .bool false, .bool false, .bool false, .bool false, .bool false, .bool false, .bool false, .bool false, .bool false, .bool false, .bool false, .bool false, .bool false, .bool false, .bool false, .bool false, .bool false, .bool false, .bool false, .bool false, .bool false, .bool false, .bool false, .bool false, .bool false, .bool false, .bool false, .bool false, .bool false, .bool false, .bool false, .bool false, .bool false, .bool false, .bool false, .bool false, .bool false, .bool false, .bool false, .bool false, .bool false, .bool false, .bool false, .bool false, .bool false, .bool false, .bool false, .bool false, .bool false, .bool false, .bool false, .bool false, .bool false, .bool false, .bool false, .bool false, .bool false, .bool false, .bool false, .bool false] := by kernel_rfl
theorem bld_125 : bldT cx.P 125 = none := by kernel_rfl
theorem ty_125 : ty cx.P 125 = some (256, true) := by kernel_rfl
theorem fld_75_0 : fld cx.P 75 0 = some (0, 1, false) := by kernel_rfl
theorem ty_73 : ty cx.P 73 = some (1, false) := by kernel_rfl
theorem und_73 : cx.P.underlying 73 = some (.pointer 75) := by kernel_rfl
theorem und_132 : cx.P.underlying 132 = some .unsafePointer := by kernel_rfl
theorem und_134 : cx.P.underlying 134 = some (.int .u64) := by kernel_rfl
theorem elm_125 : elm cx.P 125 = some (some 256, 1, false) := by kernel_rfl
theorem ty_4 : ty cx.P 4 = some (1, false) := by kernel_rfl
theorem und_2 : cx.P.underlying 2 = some (.int .i64) := by kernel_rfl
theorem zero_149 : zeroL cx.P 149 = some [.int .u8 0, .int .u8 0, .int .u8 0, .int .u8 0, .int .u8 0, .int .u8 0, .int .u8 0, .int .u8 0, .int .u8 0, .int .u8 0, .int .u8 0, .int .u8 0, .int .u8 0, .int .u8 0, .int .u8 0, .int .u8 0, .int .u8 0, .int .u8 0, .int .u8 0, .int .u8 0, .int .u8 0, .int .u8 0, .int .u8 0, .int .u8 0] := by kernel_rfl
theorem bld_149 : bldT cx.P 149 = none := by kernel_rfl
theorem elm_149 : elm cx.P 149 = some (some 24, 1, false) := by kernel_rfl
theorem und_49 : cx.P.underlying 49 = some (.int .u64) := by kernel_rfl
theorem elm_165 : elm cx.P 165 = some (some 20, 1, false) := by kernel_rfl
theorem ty_134 : ty cx.P 134 = some (1, false) := by kernel_rfl
theorem zero_166 : zeroL cx.P 166 = some [.int .u8 0, .int .u8 0, .int .u8 0, .int .u8 0, .int .u8 0, .int .u8 0, .int .u8 0, .int .u8 0, .int .u8 0, .int .u8 0, .int .u8 0, .int .u8 0, .int .u8 0, .int .u8 0, .int .u8 0, .int .u8 0, .int .u8 0, .int .u8 0, .int .u8 0, .int .u8 0, .int .u8 0, .int .u8 0, .int .u8 0, .int .u8 0, .int .u8 0, .int .u8 0, .int .u8 0, .int .u8 0, .int .u8 0, .int .u8 0, .int .u8 0, .int .u8 0, .int .u8 0, .int .u8 0, .int .u8 0, .int .u8 0, .int .u8 0, .int .u8 0, .int .u8 0, .int .u8 0, .int .u8 0, .int .u8 0, .int .u8 0, .int .u8 0, .int .u8 0, .int .u8 0, .int .u8 0, .int .u8 0, .int .u8 0, .int .u8 0, .int .u8 0, .int .u8 0, .int .u8 0, .int .u8 0, .int .u8 0, .int .u8 0, .int .u8 0, .int .u8 0, .int .u8 0, .int .u8 0, .int .u8 0, .int .u8 0, .int .u8 0, .int .u8 0, .int .u8 0] := by kernel_rfl
theorem bld_166 : bldT cx.P 166 = none := by kernel_rfl
theorem elm_166 : elm cx.P 166 = some (some 65, 1, false) := by kernel_rfl
theorem elm_168 : elm cx.P 168 = some (some 256, 1, false) := by kernel_rfl
theorem elm_171 : elm cx.P 171 = some (some 16, 2, true) := by kernel_rfl
theorem ty_170 : ty cx.P 170 = some (2, true) := by kernel_rfl
theorem zero_170 : zeroL cx.P 170 = some [.int .u8 0, .int .u8 0] := by kernel_rfl
theorem bld_170 : bldT cx.P 170 = none := by kernel_rfl
theorem fld_170_0 : fld cx.P 170 0 = some (0, 1, false) := by kernel_rfl
theorem fld_170_1 : fld cx.P 170 1 = some (1, 1, false) := by kernel_rfl
theorem ty_80 : ty cx.P 80 = some (1, false) := by kernel_rfl
theorem shape_178 : shapeT cx.P 178 = some ([.str [], .str [], .val .nilIface], [(0, 1), (1, 1), (2, 1)]) := by kernel_rfl
theorem elm_185 : elm cx.P 185 = some (some 32, 1, false) := by kernel_rfl
theorem elm_186 : elm cx.P 186 = some (some 64, 1, false) := by kernel_rfl
set_option linter.defProp false in
def tys := (And.intro und_22 (And.intro el_22 (And.intro lk_22 (And.intro et_22 (And.intro bet_22 (And.intro und_3 (And.intro elm_22 (And.intro ty_26 (And.intro zero_26 (And.intro bld_26 (And.intro el_24 (And.intro fld_26_2 (And.intro ty_24 (And.intro und_24 (And.intro lk_24 (And.intro et_24 (And.intro bet_24 (And.intro el_36 (And.intro elm_36 (And.intro und_36 (And.intro lk_36 (And.intro et_36 (And.intro bet_36 (And.intro ty_5 (And.intro und_9 (And.intro bt_36 (And.intro und_28 (And.intro lk_9 (And.intro und_5 (And.intro el_51 (And.intro fld_26_1 (And.intro ty_9 (And.intro fld_26_3 (And.intro elm_24 (And.intro fld_55_0 (And.intro fld_55_1 (And.intro shape_61 (And.intro fld_26_0 (And.intro fld_61_2 (And.intro fld_61_0 (And.intro ty_27 (And.intro und_27 (And.intro el_27 (And.intro lk_27 (And.intro et_27 (And.intro bet_27 (And.intro fld_61_1 (And.intro ty_51 (And.intro und_51 (And.intro lk_51 (And.intro et_51 (And.intro bet_51 (And.intro zero_63 (And.intro bld_63 (And.intro ty_63 (And.intro fld_63_0 (And.intro fld_63_1 (And.intro elm_27 (And.intro fld_68_0 (And.intro fld_68_1 (And.intro fld_68_2 (And.intro fld_68_4 (And.intro fld_68_5 (And.intro ty_3 (And.intro fld_68_3 (And.intro ty_66 (And.intro zero_75 (And.intro bld_75 (And.intro zero_77 (And.intro bld_77 (And.intro ty_77 (And.intro fld_77_0 (And.intro shape_88 (And.intro fld_88_0 (And.intro fld_88_1 (And.intro ty_36 (And.intro zero_93 (And.intro bld_93 (And.intro ty_93 (And.intro elm_93 (And.intro zero_36 (And.intro bld_36 (And.intro elm_51 (And.intro und_21 (And.intro ty_55 (And.intro zero_55 (And.intro bld_55 (And.intro shape_68 (And.intro zero_68 (And.intro bld_68 (And.intro ty_68 (And.intro shape_102 (And.intro el_66 (And.intro und_66 (And.intro lk_66 (And.intro et_66 (And.intro bet_66 (And.intro elm_66 (And.intro ty_102 (And.intro feq_102 (And.intro feq_55 (And.intro shape_77 (And.intro fld_75_1 (And.intro und_109 (And.intro shape_116 (And.intro el_117 (And.intro und_117 (And.intro lk_117 (And.intro et_117 (And.intro bet_117 (And.intro elm_117 (And.intro ty_116 (And.intro zero_116 (And.intro bld_116 (And.intro fld_116_0 (And.intro fld_116_1 (And.intro ty_114 (And.intro shape_93 (And.intro und_121 (And.intro zero_125 (And.intro bld_125 (And.intro ty_125 (And.intro fld_75_0 (And.intro ty_73 (And.intro und_73 (And.intro und_132 (And.intro und_134 (And.intro elm_125 (And.intro ty_4 (And.intro und_2 (And.intro zero_149 (And.intro bld_149 (And.intro elm_149 (And.intro und_49 (And.intro elm_165 (And.intro ty_134 (And.intro zero_166 (And.intro bld_166 (And.intro elm_166 (And.intro elm_168 (And.intro elm_171 (And.intro ty_170 (And.intro zero_170 (And.intro bld_170 (And.intro fld_170_0 (And.intro fld_170_1 (And.intro ty_80 (And.intro shape_178 (And.intro elm_185 (And.intro elm_186 True.intro))))))))))))))))))))))))))))))))))))))))))))))))))))))))))))))))))))))))))))))))))))))))))))))))))))))))))))))))))))))))))))))))))))))))))))))))))))))
theorem kind_55 : kindT cx.P 55 = some (.struct [9, 9]) := by kernel_rfl
theorem kind_24 : kindT cx.P 24 = some (.slice 55 2 32) := by kernel_rfl
theorem kind_9 : kindT cx.P 9 = some .str := by kernel_rfl
theorem kind_5 : kindT cx.P 5 = some (.int .u8) := by kernel_rfl
theorem kind_26 : kindT cx.P 26 = some (.struct [5, 9, 24, 9]) := by kernel_rfl
theorem kind_22 : kindT cx.P 22 = some (.slice 26 4 64) := by kernel_rfl
theorem kind_4 : kindT cx.P 4 = some .bool := by kernel_rfl
theorem kind_3 : kindT cx.P 3 = some (.int .i64) := by kernel_rfl
end Go.Proofs.YtanahnknjboplaaDoor
/-
  Plain law of layer 5: the bytes of a list of code points. No program in sight.
-/
namespace Go.Proofs.YtanahnknjboplaaDoor
set_option linter.unusedSimpArgs false
set_option linter.unusedVariables false
open Go Go.RowKit

/-- May a code point stand in a text? -/
def may (n : Int) : Bool := decide (n = 9 ∨ n = 10 ∨ n = 13 ∨ (32 ≤ n ∧ n ≤ 1114111 ∧ ¬ (55296 ≤ n ∧ n ≤ 57343) ∧ n ≠ 65534 ∧ n ≠ 65535))
theorem may_iff (n : Int) : may n = true ↔ (n = 9 ∨ n = 10 ∨ n = 13 ∨ (32 ≤ n ∧ n ≤ 1114111 ∧ ¬ (55296 ≤ n ∧ n ≤ 57343) ∧ n ≠ 65534 ∧ n ≠ 65535)) := by
  unfold may; exact decide_eq_true_iff
theorem may_t {n : Int} (h : n = 9 ∨ n = 10 ∨ n = 13 ∨ (32 ≤ n ∧ n ≤ 1114111 ∧ ¬ (55296 ≤ n ∧ n ≤ 57343) ∧ n ≠ 65534 ∧ n ≠ 65535)) : true = may n := ((may_iff n).2 h).symm
theorem may_f {n : Int} (h : ¬ (n = 9 ∨ n = 10 ∨ n = 13 ∨ (32 ≤ n ∧ n ≤ 1114111 ∧ ¬ (55296 ≤ n ∧ n ≤ 57343) ∧ n ≠ 65534 ∧ n ≠ 65535))) : false = may n := by
  unfold may; symm; exact decide_eq_false_iff_not.2 h
theorem may_range {n : Int} (h : may n = true) : 0 ≤ n ∧ n ≤ 1114111 ∧ (2048 ≤ n → n ≤ 65535 → (2048 ≤ n ∧ n < 55296) ∨ (57343 < n ∧ n ≤ 65535)) := by
  have := (may_iff n).1 h
  refine ⟨by omega, by omega, fun a b => by omega⟩

/-- The bytes of code points, one behind the other. -/
def enc (l : List Int) : List UInt8 := l.flatMap Lib.encodeRune
def u8 (b : UInt8) : Value := .int .u8 (b.toNat : Int)
def ofErr (l : List Int) : Int := if l.all may then (if 16384 < (enc l).length then 4 else 0) else 50
def ofText (l : List Int) : List UInt8 := if ofErr l = 0 then enc l else []

theorem enc_append (a b : List Int) : enc (a ++ b) = enc a ++ enc b := by simp [enc]
theorem enc_snoc (a : List Int) (x : Int) : enc (a ++ [x]) = enc a ++ Lib.encodeRune x := by simp [enc]
theorem encodeRune_length (x : Int) : 1 ≤ (Lib.encodeRune x).length ∧ (Lib.encodeRune x).length ≤ 4 := by
  unfold Lib.encodeRune Lib.encodeRuneZ
  repeat' split
  all_goals simp
theorem enc_length (l : List Int) : (enc l).length ≤ 4 * l.length := by
  induction l with
  | nil => simp [enc]
  | cons x l ih =>
    have := (encodeRune_length x).2
    simp only [enc, List.flatMap_cons, List.length_append, List.length_cons] at ih ⊢
    omega
theorem runeCells_eq (x : Int) : Lib.runeCells x = (Lib.encodeRune x).map u8 := by
  unfold Lib.runeCells Lib.encodeRune
  rw [List.map_map]
  apply List.map_congr_left
  intro y hy
  have := Lib.encodeRuneZ_byte x y hy
  simp only [Function.comp, u8]
  congr 1
  have : (y.toNat.toUInt8).toNat = y.toNat := by
    simp; omega
  rw [this]; omega
theorem runeCells_length (x : Int) : (Lib.runeCells x).length = (Lib.encodeRune x).length := by rw [runeCells_eq]; simp
theorem enc_cells (l : List Int) (x : Int) : (enc l).map u8 ++ Lib.runeCells x = (enc (l ++ [x])).map u8 := by
  rw [runeCells_eq, enc_snoc, List.map_append]
theorem oneCell_u8 (l : List UInt8) : ∀ u ∈ l.map u8, u.oneCell' = true := by
  intro u hu; obtain ⟨b, _, rfl⟩ := List.mem_map.1 hu; rfl
theorem ofErr_bad {l : List Int} {k : Nat} (hk : k < l.length) (h : may (l.getD k 0) = false) : ofErr l = 50 := by
  unfold ofErr
  rw [if_neg]
  intro hall
  have := List.all_eq_true.1 hall (l[k]) (List.getElem_mem hk)
  simp [List.getD_eq_getElem?_getD, hk] at h
  rw [h] at this; cases this
theorem all_snoc {l : List Int} {k : Nat} (hk : k < l.length) (h : (l.take k).all may = true) (hm : may (l.getD k 0) = true) : (l.take (k + 1)).all may = true := by
  rw [List.take_succ_eq_append_getElem hk, List.all_append, h]
  simp [List.getD_eq_getElem?_getD, hk] at hm
  simp [hm]
theorem take_snoc {l : List Int} {k : Nat} (hk : k < l.length) : l.take (k + 1) = l.take k ++ [l.getD k 0] := by
  rw [List.take_succ_eq_append_getElem hk]; simp [List.getD_eq_getElem?_getD, hk]
end Go.Proofs.YtanahnknjboplaaDoor
/-
  Plain laws of layer 5: how bytes are cut into code points, and that this undoes how they are put. No program in sight.
-/
namespace Go.Proofs.YtanahnknjboplaaDoor
set_option linter.unusedSimpArgs false
set_option linter.unusedVariables false
open Go Go.RowKit Go.Lib

/-- The code point that may be with which bytes begin, and how many bytes it has. -/
def one (l : List UInt8) : Option (Int × Nat) :=
  if l = [] then none
  else if (decodeL l).1 = 65533 ∧ (decodeL l).2 = 1 then none
  else if may ((decodeL l).1 : Int) then some (((decodeL l).1 : Int), (decodeL l).2) else none

/-- All code points of bytes. -/
def decF : Nat → List UInt8 → Option (List Int)
  | _, [] => some []
  | 0, _ => none
  | f + 1, l => match one l with
    | none => none
    | some (z, k) => (decF f (l.drop k)).map (z :: ·)
def dec (l : List UInt8) : Option (List Int) := decF l.length l

theorem one_some {l : List UInt8} {z : Int} {k : Nat} (h : one l = some (z, k)) : l ≠ [] ∧ may z = true ∧ encodeRune z = l.take k ∧ 1 ≤ k ∧ k ≤ l.length := by
  unfold one at h
  split at h
  · cases h
  rename_i hne
  split at h
  · cases h
  rename_i hv
  split at h
  · rename_i hm
    simp only [Option.some.injEq, Prod.mk.injEq] at h
    obtain ⟨rfl, rfl⟩ := h
    have he := encode_decode l hne hv
    have hle := decodeL_le l hne
    refine ⟨hne, hm, he, ?_, hle⟩
    have := (encodeRune_length ((decodeL l).1 : Int)).1
    rw [he, List.length_take] at this
    omega
  · cases h

theorem mod64 {x : Int} (h0 : 0 ≤ x) (h1 : x < 256) : (x.toNat.toUInt8).toNat = x.toNat := by simp; omega

/-- What is put is what is read first. -/
theorem one_enc {z : Int} (hm : may z = true) (rest : List UInt8) : one (encodeRune z ++ rest) = some (z, (encodeRune z).length) := by
  have hmz := (may_iff z).1 hm
  have key : decodeL (encodeRune z ++ rest) = (z.toNat, (encodeRune z).length) := by
    rw [decodeL_N]
    by_cases c1 : 0 ≤ z ∧ z ≤ 127
    · have e : encodeRune z = [z.toNat.toUInt8] := by simp [encodeRune, encodeRuneZ_one c1.1 c1.2]
      rw [e]
      have a := mod64 (x := z) (by omega) (by omega)
      simp only [List.cons_append, List.nil_append, List.getD_cons_zero, List.length_cons, List.length_nil, a, decodeN]
      rw [if_pos (by omega)]
    · by_cases c2 : 128 ≤ z ∧ z ≤ 2047
      · have e : encodeRune z = [(192 + z / 64).toNat.toUInt8, (128 + z % 64).toNat.toUInt8] := by simp [encodeRune, encodeRuneZ_two c2.1 c2.2]
        rw [e]
        have a := mod64 (x := 192 + z / 64) (by omega) (by omega)
        have b := mod64 (x := 128 + z % 64) (by omega) (by omega)
        simp only [List.cons_append, List.nil_append, List.getD_cons_zero, List.getD_cons_succ, List.length_cons, List.length_nil, a, b, decodeN]
        rw [if_neg (by omega), if_pos (by omega), if_pos (by omega)]
        simp only [Prod.mk.injEq, and_true]; omega
      · by_cases c3 : z ≤ 65535
        · have e : encodeRune z = [(224 + z / 4096).toNat.toUInt8, (128 + z / 64 % 64).toNat.toUInt8, (128 + z % 64).toNat.toUInt8] := by simp [encodeRune, encodeRuneZ_three (r := z) (by omega)]
          rw [e]
          have a := mod64 (x := 224 + z / 4096) (by omega) (by omega)
          have b := mod64 (x := 128 + z / 64 % 64) (by omega) (by omega)
          have c := mod64 (x := 128 + z % 64) (by omega) (by omega)
          simp only [List.cons_append, List.nil_append, List.getD_cons_zero, List.getD_cons_succ, List.length_cons, List.length_nil, a, b, c, decodeN]
          rw [if_neg (by omega), if_neg (by omega), if_pos (by omega), if_pos (by omega)]
          simp only [Prod.mk.injEq, and_true]; omega
        · have e : encodeRune z = [(240 + z / 262144).toNat.toUInt8, (128 + z / 4096 % 64).toNat.toUInt8, (128 + z / 64 % 64).toNat.toUInt8, (128 + z % 64).toNat.toUInt8] := by simp [encodeRune, encodeRuneZ_four (r := z) (by omega) (by omega)]
          rw [e]
          have a := mod64 (x := 240 + z / 262144) (by omega) (by omega)
          have b := mod64 (x := 128 + z / 4096 % 64) (by omega) (by omega)
          have c := mod64 (x := 128 + z / 64 % 64) (by omega) (by omega)
          have d := mod64 (x := 128 + z % 64) (by omega) (by omega)
          simp only [List.cons_append, List.nil_append, List.getD_cons_zero, List.getD_cons_succ, List.length_cons, List.length_nil, a, b, c, d, decodeN]
          rw [if_neg (by omega), if_neg (by omega), if_neg (by omega), if_pos (by omega), if_pos (by omega)]
          simp only [Prod.mk.injEq, and_true]; omega
  have hne : encodeRune z ++ rest ≠ [] := by
    intro h
    have := (encodeRune_length z).1
    rw [List.append_eq_nil_iff] at h
    rw [h.1] at this; simp at this
  unfold one
  rw [if_neg hne, key]
  have hz : ((z.toNat : Nat) : Int) = z := by omega
  simp only [hz, hm, if_true]
  rw [if_neg]
  rintro ⟨h1, h2⟩
  have hz2 : z = 65533 := by omega
  subst hz2
  revert h2
  decide

theorem decF_fuel : ∀ (f g : Nat) (l : List UInt8), l.length ≤ f → l.length ≤ g → decF f l = decF g l
  | _, _, [], _, _ => by simp [decF]
  | 0, _, x :: l, h, _ => by simp at h
  | _, 0, x :: l, _, h => by simp at h
  | f + 1, g + 1, x :: l, hf, hg => by
    simp only [decF]
    cases h1 : one (x :: l) with
    | none => rfl
    | some p =>
      obtain ⟨z, k⟩ := p
      obtain ⟨_, _, _, hk, _⟩ := one_some h1
      simp only
      rw [decF_fuel f g ((x :: l).drop k) (by simp at hf ⊢; omega) (by simp at hg ⊢; omega)]

theorem dec_nil : dec [] = some [] := rfl
theorem dec_step {l : List UInt8} {z : Int} {k : Nat} (h : one l = some (z, k)) : dec l = (dec (l.drop k)).map (z :: ·) := by
  obtain ⟨hne, _, _, hk, hkl⟩ := one_some h
  obtain ⟨x, l', rfl⟩ := List.exists_cons_of_ne_nil hne
  unfold dec
  rw [show (x :: l').length = l'.length + 1 from rfl]
  simp only [decF, h]
  rw [decF_fuel l'.length ((x :: l').drop k).length _ (by simp; omega) (Nat.le_refl _)]
theorem dec_bad {l : List UInt8} (hne : l ≠ []) (h : one l = none) : dec l = none := by
  obtain ⟨x, l', rfl⟩ := List.exists_cons_of_ne_nil hne
  unfold dec
  rw [show (x :: l').length = l'.length + 1 from rfl]
  simp only [decF, h]

/-- What is put is got. -/
theorem dec_enc : ∀ (zs : List Int), zs.all may = true → dec (enc zs) = some zs
  | [], _ => rfl
  | z :: zs, h => by
    simp only [List.all_cons, Bool.and_eq_true] at h
    have e : enc (z :: zs) = encodeRune z ++ enc zs := by simp [enc]
    rw [e, dec_step (one_enc h.1 (enc zs)), List.drop_left, dec_enc zs h.2]
    rfl
/-- What is got is put as just this text. -/
theorem dec_some : ∀ (n : Nat) (l : List UInt8) (zs : List Int), l.length ≤ n → dec l = some zs → zs.all may = true ∧ enc zs = l
  | 0, l, zs, hn, h => by
    have : l = [] := List.eq_nil_of_length_eq_zero (by omega)
    subst this
    rw [dec_nil] at h
    cases h
    exact ⟨rfl, rfl⟩
  | n + 1, l, zs, hn, h => by
    by_cases hne : l = []
    · subst hne
      rw [dec_nil] at h
      cases h
      exact ⟨rfl, rfl⟩
    · cases h1 : one l with
      | none => rw [dec_bad hne h1] at h; cases h
      | some p =>
        obtain ⟨z, k⟩ := p
        obtain ⟨_, hm, he, hk, hkl⟩ := one_some h1
        rw [dec_step h1] at h
        obtain ⟨zs', h2, rfl⟩ := Option.map_eq_some_iff.1 h
        obtain ⟨ha, hb⟩ := dec_some n (l.drop k) zs' (by simp; omega) h2
        refine ⟨by simp [hm, ha], ?_⟩
        show encodeRune z ++ enc zs' = l
        rw [he, hb, List.take_append_drop]
theorem dec_iff (l : List UInt8) (zs : List Int) : dec l = some zs ↔ zs.all may = true ∧ enc zs = l :=
  ⟨fun h => dec_some l.length l zs (Nat.le_refl _) h, fun ⟨h1, h2⟩ => by rw [← h2, dec_enc zs h1]⟩
theorem dec_length {l : List UInt8} {zs : List Int} (h : dec l = some zs) : zs.length ≤ l.length := by
  obtain ⟨_, rfl⟩ := (dec_iff l zs).1 h
  induction zs with
  | nil => simp
  | cons z zs ih =>
    rename_i hall
    have := (encodeRune_length z).1
    have h2 : dec (enc zs) = some zs := dec_enc zs (by simp only [List.all_cons, Bool.and_eq_true] at hall; exact hall.2)
    have ih' := ih (by simp only [List.all_cons, Bool.and_eq_true] at hall; exact hall.2) h2
    have e : enc (z :: zs) = encodeRune z ++ enc zs := by simp [enc]
    rw [e, List.length_append, List.length_cons]
    omega

theorem odd_prefix {l : List UInt8} (h : hasPrefix l [239, 191, 189] = true) : ∃ rest, l = encodeRune 65533 ++ rest := by
  unfold hasPrefix at h
  obtain ⟨rest, hr⟩ := List.isPrefixOf_iff_prefix.1 h
  exact ⟨rest, by rw [← hr]; congr 1⟩
theorem decodeL_odd {l : List UInt8} (h : hasPrefix l [239, 191, 189] = true) : (decodeL l).2 ≠ 1 := by
  obtain ⟨rest, rfl⟩ := odd_prefix h
  have h1 := one_enc (z := 65533) (by decide) rest
  unfold one at h1
  split at h1
  · cases h1
  split at h1
  · cases h1
  rename_i hv
  split at h1
  · simp only [Option.some.injEq, Prod.mk.injEq] at h1
    rw [h1.2]
    decide
  · cases h1
/-- How a range over a string tells it. -/
theorem one_of_decode {l : List UInt8} (hne : l ≠ []) : one l = if ((decodeL l).1 = 65533 ∧ hasPrefix l [239, 191, 189] = false) ∨ may ((decodeL l).1 : Int) = false then none else some (((decodeL l).1 : Int), (decodeL l).2) := by
  unfold one
  rw [if_neg hne]
  by_cases h1 : (decodeL l).1 = 65533 ∧ (decodeL l).2 = 1
  · rw [if_pos h1, if_pos]
    left
    refine ⟨h1.1, ?_⟩
    cases hp : hasPrefix l [239, 191, 189] with
    | false => rfl
    | true => exact absurd h1.2 (decodeL_odd hp)
  · rw [if_neg h1]
    by_cases h2 : (decodeL l).1 = 65533
    · have he := encode_decode l hne h1
      rw [h2] at he
      have hp : hasPrefix l [239, 191, 189] = true := by
        unfold hasPrefix
        rw [List.isPrefixOf_iff_prefix, show ([239, 191, 189] : List UInt8) = encodeRune ((65533 : Nat) : Int) from by decide, he]
        exact List.take_prefix _ _
      rw [hp]
      by_cases hm : may ((decodeL l).1 : Int) = true
      · simp [hm]
      · simp [hm]
    · by_cases hm : may ((decodeL l).1 : Int) = true
      · simp [hm, h2]
      · simp [hm, h2]
theorem decode_drop (s : ByteArray) (pos : Nat) : Utf8.decode s pos = decodeL (s.data.toList.drop pos) := by
  have h := tail_decode s pos 0
  rw [Nat.add_zero] at h
  rw [← h]
  unfold decodeL
  congr 1
  have h2 : (s.extract pos s.size).data.toList = s.data.toList.drop pos := by
    rw [extract_data, List.take_of_length_le]
    simp
  apply ByteArray.ext
  apply Array.ext'
  simpa using h2
end Go.Proofs.YtanahnknjboplaaDoor
/-
  Plain laws of layer 5: the document's own way to cut bytes into code points is layer 5's. No program in sight.
-/
namespace Go.Proofs.YtanahnknjboplaaDoor
set_option linter.unusedSimpArgs false
set_option linter.unusedVariables false
open Go Go.RowKit Go.Lib

def headS (c : Int) : Int := if c < 128 then 1 else if 192 ≤ c ∧ c < 224 then 2 else if 224 ≤ c ∧ c < 240 then 3 else if 240 ≤ c ∧ c < 248 then 4 else 0
def headN (c : Int) : Int := if c < 128 then c else if 192 ≤ c ∧ c < 224 then c - 192 else if 224 ≤ c ∧ c < 240 then c - 224 else if 240 ≤ c ∧ c < 248 then c - 240 else 0
def contN (n : Int) (l : List UInt8) : Int := l.foldl (fun n b => 64 * n + (b.toNat : Int) % 64) n
def oneZ (l : List UInt8) : Int := match one l with | some (z, _) => z | none => 0
def oneK (l : List UInt8) : Int := match one l with | some (_, k) => (k : Int) | none => 0

theorem headS_range (c : Int) : 0 ≤ headS c ∧ headS c ≤ 4 := by
  unfold headS; repeat' split
  all_goals omega
theorem headN_range {c : Int} (h : 0 ≤ c ∧ c < 256) : 0 ≤ headN c ∧ headN c ≤ 127 ∧ (headS c ≠ 1 → headN c ≤ 31) := by
  unfold headN headS; repeat' split
  all_goals omega
theorem contN_snoc (n : Int) (l : List UInt8) (b : UInt8) : contN n (l ++ [b]) = 64 * contN n l + (b.toNat : Int) % 64 := by simp [contN]

/-- What is written as a code point that may be, is read so from its head. -/
theorem head_enc {z : Int} (hm : may z = true) : ∃ b rest, encodeRune z = b :: rest ∧ headS (b.toNat : Int) = ((encodeRune z).length : Nat) ∧ contN (headN (b.toNat : Int)) rest = z := by
  have hmz := (may_iff z).1 hm
  by_cases c1 : 0 ≤ z ∧ z ≤ 127
  · have e : encodeRune z = [z.toNat.toUInt8] := by simp [encodeRune, encodeRuneZ_one c1.1 c1.2]
    have a := mod64 (x := z) (by omega) (by omega)
    refine ⟨_, _, e, ?_, ?_⟩
    · rw [e, a]; unfold headS; rw [if_pos (by omega)]; rfl
    · rw [a]; unfold headN; rw [if_pos (by omega)]; simp [contN]; omega
  · by_cases c2 : 128 ≤ z ∧ z ≤ 2047
    · have e : encodeRune z = [(192 + z / 64).toNat.toUInt8, (128 + z % 64).toNat.toUInt8] := by simp [encodeRune, encodeRuneZ_two c2.1 c2.2]
      have a := mod64 (x := 192 + z / 64) (by omega) (by omega)
      have b := mod64 (x := 128 + z % 64) (by omega) (by omega)
      refine ⟨_, _, e, ?_, ?_⟩
      · rw [e, a]; unfold headS; rw [if_neg (by omega), if_pos (by omega)]; rfl
      · rw [a]; unfold headN; rw [if_neg (by omega), if_pos (by omega)]; simp only [contN, List.foldl_cons, List.foldl_nil, b]; omega
    · by_cases c3 : z ≤ 65535
      · have e : encodeRune z = [(224 + z / 4096).toNat.toUInt8, (128 + z / 64 % 64).toNat.toUInt8, (128 + z % 64).toNat.toUInt8] := by simp [encodeRune, encodeRuneZ_three (r := z) (by omega)]
        have a := mod64 (x := 224 + z / 4096) (by omega) (by omega)
        have b := mod64 (x := 128 + z / 64 % 64) (by omega) (by omega)
        have c := mod64 (x := 128 + z % 64) (by omega) (by omega)
        refine ⟨_, _, e, ?_, ?_⟩
        · rw [e, a]; unfold headS; rw [if_neg (by omega), if_neg (by omega), if_pos (by omega)]; rfl
        · rw [a]; unfold headN; rw [if_neg (by omega), if_neg (by omega), if_pos (by omega)]; simp only [contN, List.foldl_cons, List.foldl_nil, b, c]; omega
      · have e : encodeRune z = [(240 + z / 262144).toNat.toUInt8, (128 + z / 4096 % 64).toNat.toUInt8, (128 + z / 64 % 64).toNat.toUInt8, (128 + z % 64).toNat.toUInt8] := by simp [encodeRune, encodeRuneZ_four (r := z) (by omega) (by omega)]
        have a := mod64 (x := 240 + z / 262144) (by omega) (by omega)
        have b := mod64 (x := 128 + z / 4096 % 64) (by omega) (by omega)
        have c := mod64 (x := 128 + z / 64 % 64) (by omega) (by omega)
        have d := mod64 (x := 128 + z % 64) (by omega) (by omega)
        refine ⟨_, _, e, ?_, ?_⟩
        · rw [e, a]; unfold headS; rw [if_neg (by omega), if_neg (by omega), if_neg (by omega), if_pos (by omega)]; rfl
        · rw [a]; unfold headN; rw [if_neg (by omega), if_neg (by omega), if_neg (by omega), if_pos (by omega)]; simp only [contN, List.foldl_cons, List.foldl_nil, b, c, d]; omega

/-- The document's way: yes. -/
theorem one_yes {l : List UInt8} {n : Int} {k : Nat} (hm : may n = true) (he : encodeRune n = l.take k) (hk : k ≤ l.length) : one l = some (n, k) := by
  have h := one_enc hm (l.drop k)
  have hlen : (encodeRune n).length = k := by rw [he, List.length_take]; omega
  rw [hlen, he, List.take_append_drop] at h
  exact h
/-- The document's way: no. -/
theorem one_no {b : UInt8} {l : List UInt8} {k : Nat} (hs : headS (b.toNat : Int) = k) (hno : k = 0 ∨ (b :: l).length < k ∨ (k ≤ (b :: l).length ∧ ∀ n, n = contN (headN (b.toNat : Int)) (l.take (k - 1)) → may n = true → encodeRune n ≠ (b :: l).take k)) : one (b :: l) = none := by
  cases h : one (b :: l) with
  | none => rfl
  | some p =>
    obtain ⟨z, j⟩ := p
    obtain ⟨_, hm, he, hj1, hj2⟩ := one_some h
    obtain ⟨b', rest, e1, e2, e3⟩ := head_enc hm
    have hlen : (encodeRune z).length = j := by rw [he, List.length_take]; omega
    obtain ⟨j', rfl⟩ : ∃ j', j = j' + 1 := ⟨j - 1, by omega⟩
    rw [he, List.take_succ_cons] at e1
    obtain ⟨e4, e5⟩ := List.cons.inj e1
    subst e4
    rw [hlen] at e2
    have hkj : k = j' + 1 := by rw [hs] at e2; exact Int.ofNat.inj e2
    subst hkj
    rcases hno with h0 | h0 | ⟨_, h0⟩
    · omega
    · omega
    · refine absurd he (h0 z ?_ hm)
      rw [← e3, ← e5]; rfl
end Go.Proofs.YtanahnknjboplaaDoor
/-
  Plain laws of layer 8: how a text is written. No program in sight.
-/
namespace Go.Proofs.YtanahnknjboplaaDoor
set_option linter.unusedSimpArgs false
set_option linter.unusedVariables false
open Go Go.RowKit Go.Lib

/-- Which errors checking a text has. -/
def ptsErr (l : List UInt8) : Int := if 16384 < l.length then 4 else match dec l with | none => 50 | some _ => 0
theorem ptsErr_len {s : List UInt8} (h : ptsErr s = 0) : s.length ≤ 16384 := by
  unfold ptsErr at h
  split at h
  · omega
  · omega
/-- How a byte is written. -/
def escB (q : Bool) (c : UInt8) : List UInt8 :=
  if c = 38 then [38, 97, 109, 112, 59] else if c = 60 then [38, 108, 116, 59] else if c = 62 then [38, 103, 116, 59] else if c = 13 then [38, 35, 49, 51, 59]
  else if q = true then (if c = 34 then [38, 113, 117, 111, 116, 59] else if c = 9 then [38, 35, 57, 59] else if c = 10 then [38, 35, 49, 48, 59] else [c]) else [c]
/-- How a text is written. -/
def escW (q : Bool) (s : List UInt8) : List UInt8 := s.flatMap (escB q)
theorem escW_nil (q : Bool) : escW q [] = [] := rfl
theorem escW_append (q : Bool) (a b : List UInt8) : escW q (a ++ b) = escW q a ++ escW q b := by simp [escW]
theorem escW_snoc (q : Bool) (a : List UInt8) (c : UInt8) : escW q (a ++ [c]) = escW q a ++ escB q c := by simp [escW]
theorem escB_length (q : Bool) (c : UInt8) : 1 ≤ (escB q c).length ∧ (escB q c).length ≤ 6 := by
  unfold escB
  repeat' split
  all_goals simp
theorem escB_ne (q : Bool) (c : UInt8) : escB q c ≠ [] := by
  intro h
  have := (escB_length q c).1
  rw [h] at this; simp at this
theorem escW_length (q : Bool) (s : List UInt8) : s.length ≤ (escW q s).length ∧ (escW q s).length ≤ 6 * s.length := by
  induction s with
  | nil => simp [escW]
  | cons c s ih =>
    have := escB_length q c
    simp only [escW, List.flatMap_cons, List.length_append, List.length_cons] at ih ⊢
    omega
theorem escW_take (q : Bool) {s : List UInt8} {k : Nat} {c : UInt8} (h : s[k]? = some c) : escW q (s.take (k + 1)) = escW q (s.take k) ++ escB q c := by
  obtain ⟨hk, rfl⟩ := List.getElem?_eq_some_iff.1 h
  rw [List.take_succ_eq_append_getElem hk, escW_snoc]
end Go.Proofs.YtanahnknjboplaaDoor
/-
  Plain law of layer 5: a text is cut between code points, and nowhere else. No program in sight.
-/
namespace Go.Proofs.YtanahnknjboplaaDoor
set_option linter.unusedSimpArgs false
set_option linter.unusedVariables false
open Go Go.RowKit Go.Lib

theorem dec_app : ∀ (p : List Int) (r : List UInt8), p.all may = true → dec (enc p ++ r) = (dec r).map (p ++ ·)
  | [], r, _ => by simp [enc]
  | z :: p, r, h => by
    simp only [List.all_cons, Bool.and_eq_true] at h
    have e : enc (z :: p) ++ r = encodeRune z ++ (enc p ++ r) := by simp [enc]
    rw [e, dec_step (one_enc h.1 _), List.drop_left, dec_app p r h.2, Option.map_map]
    congr 1
theorem dec_both {a b : List UInt8} {x y : List Int} (ha : dec a = some x) (hb : dec b = some y) : dec (a ++ b) = some (x ++ y) := by
  obtain ⟨h1, rfl⟩ := (dec_iff a x).1 ha
  rw [dec_app x b h1, hb]; rfl

/-- What stands behind a code point's first byte is no first byte. -/
theorem tail_cont {z : Int} {k : Nat} (h1 : 1 ≤ k) (h2 : k < (encodeRune z).length) : ∃ b t, (encodeRune z).drop k = b :: t ∧ 128 ≤ b.toNat ∧ b.toNat < 192 := by
  have key : ∀ x : Int, 0 ≤ x → ∀ y, (128 + x % 64).toNat.toUInt8 = y → 128 ≤ y.toNat ∧ y.toNat < 192 := by
    intro x _ y hy
    subst hy
    rw [mod64 (by omega) (by omega)]
    omega
  unfold encodeRune encodeRuneZ at h2 ⊢
  repeat' split
  · rename_i c; rw [if_pos c] at h2; simp at h2; omega
  · rename_i c1 c2; rw [if_neg c1, if_pos c2] at h2
    have : k = 1 := by simp at h2; omega
    subst this
    exact ⟨_, _, rfl, key z (by omega) _ rfl⟩
  · rename_i c1 c2 c3; rw [if_neg c1, if_neg c2, if_pos c3] at h2
    have : k = 1 ∨ k = 2 := by simp at h2; omega
    rcases this with rfl | rfl
    · exact ⟨_, _, rfl, key (z / 64) (by omega) _ rfl⟩
    · exact ⟨_, _, rfl, key z (by omega) _ rfl⟩
  · rename_i c1 c2 c3 c4; rw [if_neg c1, if_neg c2, if_neg c3, if_pos c4] at h2
    have : k = 1 ∨ k = 2 ∨ k = 3 := by simp at h2; omega
    rcases this with rfl | rfl | rfl
    · exact ⟨_, _, rfl, key (z / 4096) (by omega) _ rfl⟩
    · exact ⟨_, _, rfl, key (z / 64) (by omega) _ rfl⟩
    · exact ⟨_, _, rfl, key z (by omega) _ rfl⟩
  · rename_i c1 c2 c3 c4; rw [if_neg c1, if_neg c2, if_neg c3, if_neg c4] at h2
    have : k = 1 ∨ k = 2 := by simp at h2; omega
    rcases this with rfl | rfl
    · exact ⟨_, _, rfl, by decide⟩
    · exact ⟨_, _, rfl, by decide⟩
theorem cut_or : ∀ (zs : List Int) (k : Nat), k ≤ (enc zs).length → (∃ p q, zs = p ++ q ∧ (enc zs).take k = enc p ∧ (enc zs).drop k = enc q) ∨ ∃ b t, (enc zs).drop k = b :: t ∧ 128 ≤ b.toNat ∧ b.toNat < 192
  | [], k, h => by
    have : k = 0 := by simpa [enc] using h
    subst this
    exact .inl ⟨[], [], rfl, rfl, rfl⟩
  | z :: zs, k, h => by
    have e : enc (z :: zs) = encodeRune z ++ enc zs := by simp [enc]
    rw [e] at h ⊢
    by_cases h0 : k = 0
    · subst h0
      exact .inl ⟨[], z :: zs, rfl, rfl, by rw [e]; rfl⟩
    by_cases h1 : k < (encodeRune z).length
    · obtain ⟨b, t, ht, hb⟩ := tail_cont (by omega) h1
      exact .inr ⟨b, t ++ enc zs, by rw [List.drop_append_of_le_length (by omega), ht]; rfl, hb⟩
    · obtain ⟨j, rfl⟩ : ∃ j, k = (encodeRune z).length + j := ⟨k - (encodeRune z).length, by omega⟩
      have hj : j ≤ (enc zs).length := by simp at h; omega
      rcases cut_or zs j hj with ⟨p, q, rfl, h3, h4⟩ | ⟨b, t, h3, hb⟩
      · refine .inl ⟨z :: p, q, rfl, ?_, ?_⟩
        · rw [List.take_length_add_append, h3]; simp [enc]
        · rw [List.drop_length_add_append, h4]
      · exact .inr ⟨b, t, by rw [List.drop_length_add_append, h3], hb⟩

/-- A text that is cut. -/
theorem cut_same {s : List UInt8} {zs : List Int} (h : dec s = some zs) {k : Nat} (hk : k < s.length) :
    (one (s.drop k)).isSome = (dec (s.take k)).isSome ∧ (one (s.drop k)).isSome = (dec (s.drop k)).isSome := by
  obtain ⟨hm, rfl⟩ := (dec_iff s zs).1 h
  have hne : (enc zs).drop k ≠ [] := by
    intro h
    have := congrArg List.length h
    simp at this; omega
  rcases cut_or zs k (by omega) with ⟨p, q, rfl, h3, h4⟩ | ⟨b, t, h3, hb1, hb2⟩
  · rw [List.all_append, Bool.and_eq_true] at hm
    rw [h3, h4, dec_enc p hm.1, dec_enc q hm.2]
    cases h1 : one (enc q) with
    | some p => exact ⟨rfl, rfl⟩
    | none =>
      have := dec_bad (by rw [← h4]; exact hne) h1
      rw [dec_enc q hm.2] at this; cases this
  · have hs : headS (b.toNat : Int) = 0 := by
      unfold headS; rw [if_neg (by omega), if_neg (by omega), if_neg (by omega), if_neg (by omega)]
    have h1 : one ((enc zs).drop k) = none := by rw [h3]; exact one_no (k := 0) hs (.inl rfl)
    have h2 : dec ((enc zs).drop k) = none := dec_bad hne h1
    have h4 : dec ((enc zs).take k) = none := by
      cases h5 : dec ((enc zs).take k) with
      | none => rfl
      | some p =>
        obtain ⟨hp, he⟩ := (dec_iff _ p).1 h5
        have := dec_app p ((enc zs).drop k) hp
        rw [he, List.take_append_drop, h, h2] at this
        cases this
    rw [h1, h2, h4]
    exact ⟨rfl, rfl⟩
end Go.Proofs.YtanahnknjboplaaDoor
/-
  Plain laws of layer 9: names; a text cut at a byte. No program in sight.
-/
namespace Go.Proofs.YtanahnknjboplaaDoor
set_option linter.unusedSimpArgs false
set_option linter.unusedVariables false
open Go Go.RowKit Go.Lib

/-- May a byte stand in a name; first: at its beginning. -/
def letB (c : UInt8) : Bool := (decide (97 ≤ c.toNat) && decide (c.toNat ≤ 122)) || (decide (65 ≤ c.toNat) && decide (c.toNat ≤ 90)) || decide (c = 95)
def partB (first : Bool) (c : UInt8) : Bool := letB c || (!first && ((decide (48 ≤ c.toNat) && decide (c.toNat ≤ 57)) || decide (c = 46) || decide (c = 45)))
def nameL : List UInt8 → Bool
  | [] => false
  | c :: r => partB true c && r.all (partB false)
/-- A text cut at the first of these bytes. -/
def cut1 (d : UInt8) : List UInt8 → Option (List UInt8 × List UInt8)
  | [] => none
  | c :: r => if c = d then some ([], r) else (cut1 d r).map (fun p => (c :: p.1, p.2))
def fullL (s : List UInt8) : Bool := match cut1 58 s with
  | none => nameL s
  | some (a, b) => nameL a && nameL b
theorem cut1_none {d : UInt8} : ∀ {s : List UInt8}, cut1 d s = none ↔ d ∉ s
  | [] => by simp [cut1]
  | c :: r => by
    simp only [cut1]
    by_cases h : c = d
    · simp [h]
    · rw [if_neg h]
      simp only [Option.map_eq_none_iff, cut1_none (s := r), List.mem_cons, not_or]
      constructor
      · intro h2; exact ⟨fun e => h e.symm, h2⟩
      · intro h2; exact h2.2
theorem cut1_some {d : UInt8} : ∀ {s a b : List UInt8}, cut1 d s = some (a, b) → s = a ++ d :: b ∧ d ∉ a
  | [], a, b, h => by simp [cut1] at h
  | c :: r, a, b, h => by
    simp only [cut1] at h
    by_cases hc : c = d
    · rw [if_pos hc] at h; cases h; subst hc; simp
    · rw [if_neg hc] at h
      obtain ⟨⟨a', b'⟩, h1, h2⟩ := Option.map_eq_some_iff.1 h
      cases h2
      obtain ⟨e1, e2⟩ := cut1_some h1
      refine ⟨by rw [e1]; rfl, ?_⟩
      simp only [List.mem_cons, not_or]
      exact ⟨fun e => hc e.symm, e2⟩
theorem cut1_of {d : UInt8} : ∀ {a b : List UInt8}, d ∉ a → cut1 d (a ++ d :: b) = some (a, b)
  | [], b, _ => by simp [cut1]
  | c :: a, b, h => by
    simp only [List.mem_cons, not_or] at h
    simp only [List.cons_append, cut1]
    rw [if_neg (fun e => h.1 e.symm), cut1_of h.2]; rfl
theorem cut1_at {d : UInt8} {s : List UInt8} {i : Nat} (h1 : d ∉ s.take i) (h2 : s[i]? = some d) : cut1 d s = some (s.take i, s.drop (i + 1)) := by
  obtain ⟨hi, he⟩ := List.getElem?_eq_some_iff.1 h2
  have : s = s.take i ++ d :: s.drop (i + 1) := by
    conv => lhs; rw [← List.take_append_drop i s]
    rw [List.drop_eq_getElem_cons hi, he]
  have h3 := cut1_of (b := s.drop (i + 1)) h1
  rwa [← this] at h3
theorem index1_none {d : UInt8} {s : List UInt8} : indexByte s d = -1 ↔ cut1 d s = none := by
  rw [cut1_none]
  constructor
  · intro h hm
    obtain ⟨k, hk, rfl⟩ := List.getElem_of_mem hm
    exact indexByte_none h k (List.getElem?_eq_getElem hk)
  · intro h
    have hge := indexByte_ge s d
    by_cases hneg : indexByte s d = -1
    · exact hneg
    · obtain ⟨o, ho⟩ : ∃ o : Nat, indexByte s d = o := ⟨(indexByte s d).toNat, by omega⟩
      exact absurd (List.mem_of_getElem? (indexByte_some ho).1) h
theorem index1_some {d : UInt8} {s a b : List UInt8} (h : cut1 d s = some (a, b)) : indexByte s d = a.length ∧ s.take a.length = a ∧ s.drop (a.length + 1) = b ∧ a.length + 1 + b.length = s.length := by
  obtain ⟨h1, h2⟩ := cut1_some h
  have hne : indexByte s d ≠ -1 := fun e => by rw [index1_none.1 e] at h; cases h
  have hge := indexByte_ge s d
  obtain ⟨o, ho⟩ : ∃ o : Nat, indexByte s d = o := ⟨(indexByte s d).toNat, by omega⟩
  obtain ⟨g1, g2⟩ := indexByte_some ho
  have hat := cut1_at (i := o) (fun hm => by
    obtain ⟨k, hk, he⟩ := List.getElem_of_mem hm
    rw [List.length_take] at hk
    rw [List.getElem_take] at he
    exact g2 k (by omega) (by rw [List.getElem?_eq_getElem (by omega), he])) g1
  rw [h] at hat
  cases hat
  have hlt := (List.getElem?_eq_some_iff.1 g1).1
  have hl : (s.take o).length = o := by rw [List.length_take]; omega
  rw [hl]
  refine ⟨ho, rfl, rfl, ?_⟩
  rw [List.length_drop]; omega
/-- Where names go on. -/
theorem name_all {s : List UInt8} : nameL s = (!s.isEmpty && (s.zipIdx).all fun p => partB (p.2 == 0) p.1) := by
  cases s with
  | nil => rfl
  | cons c r =>
    simp only [nameL, List.isEmpty_cons, Bool.not_false, Bool.true_and, List.zipIdx_cons, List.all_cons, beq_self_eq_true]
    congr 1
    rw [Bool.eq_iff_iff, List.all_eq_true, List.all_eq_true]
    constructor
    · intro h p hp
      have h1 := List.mem_zipIdx hp
      have h3 : (p.2 == 0) = false := beq_false_of_ne (by omega)
      rw [h3]
      refine h _ ?_
      rw [h1.2.2]
      exact List.getElem_mem _
    · intro h c hc
      obtain ⟨k, hk, rfl⟩ := List.getElem_of_mem hc
      have := h (r[k], 0 + 1 + k) (by
        rw [List.mem_iff_getElem]
        exact ⟨k, by simpa using hk, by simp⟩)
      have h3 : ((0 + 1 + k) == 0) = false := beq_false_of_ne (by omega)
      simp only [h3] at this
      exact this
/-- The bytes up to a place may all stand there. -/
def namedTo (s : List UInt8) (k : Nat) : Prop := ∀ (i : Nat) (c : UInt8), i < k → s[i]? = some c → partB (i == 0) c = true
theorem nameL_true {s : List UInt8} (hne : s ≠ []) (h : namedTo s s.length) : nameL s = true := by
  cases s with
  | nil => exact absurd rfl hne
  | cons c r =>
    have h0 := h 0 c (by simp) (by simp)
    simp only [beq_self_eq_true] at h0
    simp only [nameL, h0, Bool.true_and, List.all_eq_true]
    intro x hx
    obtain ⟨k, hk, rfl⟩ := List.getElem_of_mem hx
    have := h (k + 1) r[k] (by simp; omega) (by simp [hk])
    have h3 : ((k + 1) == 0) = false := beq_false_of_ne (by omega)
    rwa [h3] at this
theorem nameL_false {s : List UInt8} {k : Nat} {c : UInt8} (hc : s[k]? = some c) (h : partB (k == 0) c = false) : nameL s = false := by
  cases s with
  | nil => simp at hc
  | cons x r =>
    cases k with
    | zero =>
      simp at hc; subst hc
      simp only [beq_self_eq_true] at h
      simp [nameL, h]
    | succ k =>
      have h3 : ((k + 1) == 0) = false := beq_false_of_ne (by omega)
      rw [h3] at h
      simp only [List.getElem?_cons_succ] at hc
      simp only [nameL, Bool.and_eq_false_iff, List.all_eq_false]
      right
      exact ⟨c, List.mem_of_getElem? hc, by rw [h]; simp⟩
theorem beq_byte (c d : UInt8) : ((c.toNat : Int) == (d.toNat : Int)) = decide (c = d) := by
  rw [Bool.eq_iff_iff, beq_iff_eq, decide_eq_true_iff]
  constructor
  · intro h; exact UInt8.toNat_inj.1 (by omega)
  · rintro rfl; rfl
end Go.Proofs.YtanahnknjboplaaDoor
/-
  Plain laws of layer 9: tokens, which may be, and their text. No program in sight.
-/
namespace Go.Proofs.YtanahnknjboplaaDoor
set_option linter.unusedSimpArgs false
set_option linter.unusedVariables false
open Go Go.RowKit Go.Lib

/-- Is a byte one that goes on a code point. -/
def contB (b : UInt8) : Bool := decide (128 ≤ b.toNat) && decide (b.toNat < 192)
theorem cut_near : ∀ (zs : List Int) (k : Nat), k ≤ (enc zs).length → ∃ j, k ≤ j ∧ j ≤ k + 3 ∧ j ≤ (enc zs).length ∧ ∃ p q, zs = p ++ q ∧ (enc zs).take j = enc p ∧ (enc zs).drop j = enc q
  | [], k, h => by
    have : k = 0 := by simpa [enc] using h
    subst this
    exact ⟨0, Nat.le_refl _, by omega, by simp, [], [], rfl, rfl, rfl⟩
  | z :: zs, k, h => by
    have e : enc (z :: zs) = encodeRune z ++ enc zs := by simp [enc]
    have hl := encodeRune_length z
    rw [e] at h ⊢
    by_cases h0 : k = 0
    · subst h0
      exact ⟨0, Nat.le_refl _, by omega, by omega, [], z :: zs, rfl, rfl, by rw [e]; rfl⟩
    by_cases h1 : k < (encodeRune z).length
    · refine ⟨(encodeRune z).length, by omega, by omega, by simp, [z], zs, rfl, ?_, ?_⟩
      · rw [List.take_left]; simp [enc]
      · rw [List.drop_left]
    · obtain ⟨j, rfl⟩ : ∃ j, k = (encodeRune z).length + j := ⟨k - (encodeRune z).length, by omega⟩
      have hj : j ≤ (enc zs).length := by simp at h; omega
      obtain ⟨i, i1, i2, i3, p, q, rfl, h3, h4⟩ := cut_near zs j hj
      refine ⟨(encodeRune z).length + i, by omega, by omega, by simp at i3 ⊢; omega, z :: p, q, rfl, ?_, ?_⟩
      · rw [List.take_length_add_append, h3]; simp [enc]
      · rw [List.drop_length_add_append, h4]
theorem enc_head {zs : List Int} (hm : zs.all may = true) {b : UInt8} (h : (enc zs)[0]? = some b) : contB b = false := by
  cases zs with
  | nil => simp [enc] at h
  | cons z zs =>
    simp only [List.all_cons, Bool.and_eq_true] at hm
    obtain ⟨c, rest, e1, e2, _⟩ := head_enc hm.1
    have e : enc (z :: zs) = encodeRune z ++ enc zs := by simp [enc]
    rw [e, e1] at h
    simp at h; subst h
    have hl := (encodeRune_length z).1
    unfold contB
    by_cases hc : 128 ≤ c.toNat ∧ c.toNat < 192
    · exfalso
      have : headS (c.toNat : Int) = 0 := by
        unfold headS; rw [if_neg (by omega), if_neg (by omega), if_neg (by omega), if_neg (by omega)]
      omega
    · simp only [Bool.and_eq_false_iff, decide_eq_false_iff_not]; omega
/-- Where a text may be cut behind a place. -/
theorem text_near {r : List UInt8} (h : (dec r).isSome = true) {k : Nat} (hk : k ≤ r.length) : ∃ j, k ≤ j ∧ j ≤ k + 3 ∧ j ≤ r.length ∧ ∀ b, r[j]? = some b → contB b = false := by
  obtain ⟨zs, hz⟩ := Option.isSome_iff_exists.1 h
  obtain ⟨hm, rfl⟩ := (dec_iff r zs).1 hz
  obtain ⟨j, j1, j2, j3, p, q, rfl, h3, h4⟩ := cut_near zs k hk
  rw [List.all_append, Bool.and_eq_true] at hm
  refine ⟨j, j1, j2, j3, fun b hb => enc_head hm.2 ?_⟩
  rw [← h4, List.getElem?_drop]; simpa using hb
theorem text_cut {r : List UInt8} (h : (dec r).isSome = true) {k : Nat} (hk : k ≤ r.length) (hc : ∀ b, r[k]? = some b → contB b = false) : (dec (r.take k)).isSome = true ∧ (dec (r.drop k)).isSome = true := by
  obtain ⟨zs, hz⟩ := Option.isSome_iff_exists.1 h
  obtain ⟨hm, rfl⟩ := (dec_iff r zs).1 hz
  rcases cut_or zs k hk with ⟨p, q, rfl, h3, h4⟩ | ⟨b, t, h3, hb1, hb2⟩
  · rw [List.all_append, Bool.and_eq_true] at hm
    rw [h3, h4, dec_enc p hm.1, dec_enc q hm.2]
    exact ⟨rfl, rfl⟩
  · exfalso
    have : (enc zs)[k]? = some b := by
      have := congrArg (fun l => l[0]?) h3
      simpa using this
    have := hc b this
    simp only [contB, Bool.and_eq_false_iff, decide_eq_false_iff_not] at this
    omega
theorem ptsErr_iff {s : List UInt8} : ptsErr s = 0 ↔ s.length ≤ 16384 ∧ (dec s).isSome = true := by
  unfold ptsErr
  split
  · constructor
    · intro h; omega
    · rintro ⟨h, _⟩; omega
  · rename_i hl
    cases dec s with
    | none => simp
    | some z => simp; omega

/-- A pair; a token. -/
structure Pr where
  name : List UInt8
  value : List UInt8
deriving DecidableEq
structure Tk where
  kind : Nat
  name : List UInt8
  attrs : List Pr
  text : List UInt8
deriving DecidableEq
def okP (l : List Pr) (a : Pr) : Bool := !(l.any fun b => a.name == b.name) && fullL a.name && decide (ptsErr a.value = 0)
/-- May attributes be. -/
def attrsTo (l : List Pr) (k : Nat) : Prop := ∀ (i : Nat) (a : Pr), i < k → l[i]? = some a → okP (l.take i) a = true
def attrsL (l : List Pr) : Bool := decide (l.length ≤ 16) && l.zipIdx.all fun p => okP (l.take p.2) p.1
theorem attrs_iff {l : List Pr} : attrsL l = true ↔ l.length ≤ 16 ∧ attrsTo l l.length := by
  unfold attrsL attrsTo
  simp only [Bool.and_eq_true, decide_eq_true_eq, List.all_eq_true]
  refine and_congr_right fun _ => ⟨fun h i a hi ha => ?_, fun h p hp => ?_⟩
  · refine h (a, i) ?_
    rw [List.mem_zipIdx_iff_getElem?]; exact ha
  · have := (List.mem_zipIdx_iff_getElem?).1 hp
    exact h p.2 p.1 (List.getElem?_eq_some_iff.1 this).1 this
/-- May a token be. -/
def tokL (t : Tk) : Bool :=
  if t.kind = 1 ∨ t.kind = 3 then fullL t.name && attrsL t.attrs && t.text.isEmpty
  else if t.kind = 2 then fullL t.name && t.attrs.isEmpty && t.text.isEmpty
  else if t.kind = 4 then t.name.isEmpty && t.attrs.isEmpty && !t.text.isEmpty && decide (ptsErr t.text = 0)
  else false
def tokE (t : Tk) : Int := if tokL t = true then 0 else 8
/-- The text of attributes; of a token. -/
def attrW (a : Pr) : List UInt8 := [32] ++ a.name ++ [61, 34] ++ escW true a.value ++ [34]
def attrsW (l : List Pr) : List UInt8 := l.flatMap attrW
def tokW (t : Tk) : List UInt8 :=
  if t.kind = 4 then escW false t.text
  else if t.kind = 2 then [60, 47] ++ t.name ++ [62]
  else [60] ++ t.name ++ attrsW t.attrs ++ (if t.kind = 3 then [47, 62] else [62])
def toksW (l : List Tk) : List UInt8 := l.flatMap tokW
theorem toksW_take {l : List Tk} {k : Nat} {t : Tk} (h : l[k]? = some t) : toksW (l.take (k + 1)) = toksW (l.take k) ++ tokW t := by
  obtain ⟨hk, rfl⟩ := List.getElem?_eq_some_iff.1 h
  rw [List.take_succ_eq_append_getElem hk]; unfold toksW; rw [List.flatMap_append]; simp
theorem attrsW_take {l : List Pr} {k : Nat} {t : Pr} (h : l[k]? = some t) : attrsW (l.take (k + 1)) = attrsW (l.take k) ++ attrW t := by
  obtain ⟨hk, rfl⟩ := List.getElem?_eq_some_iff.1 h
  rw [List.take_succ_eq_append_getElem hk]; unfold attrsW; rw [List.flatMap_append]; simp
/-- Two texts side by side. -/
def adjL : List Tk → Bool
  | a :: b :: r => (a.kind == 4 && b.kind == 4) || adjL (b :: r)
  | _ => false
def adjTo (l : List Tk) (k : Nat) : Prop := ∀ (i : Nat) (a b : Tk), i + 1 < k → l[i]? = some a → l[i + 1]? = some b → ¬ (a.kind = 4 ∧ b.kind = 4)
theorem adj_false : ∀ {l : List Tk}, adjL l = false ↔ adjTo l l.length
  | [] => by simp [adjL, adjTo]
  | [a] => by simp [adjL, adjTo]
  | a :: b :: r => by
    simp only [adjL, Bool.or_eq_false_iff, adj_false (l := b :: r)]
    constructor
    · rintro ⟨h1, h2⟩ i x y hi hx hy
      cases i with
      | zero =>
        simp at hx hy; subst hx; subst hy
        intro ⟨e1, e2⟩
        simp [e1, e2] at h1
      | succ i => exact h2 i x y (by simp at hi ⊢; omega) (by simpa using hx) (by simpa using hy)
    · intro h
      refine ⟨?_, fun i x y hi hx hy => h (i + 1) x y (by simp at hi ⊢; omega) (by simpa using hx) (by simpa using hy)⟩
      have := h 0 a b (by simp) (by simp) (by simp)
      simp only [Bool.and_eq_false_iff, beq_eq_false_iff_ne]
      by_cases e : a.kind = 4
      · right; exact fun e2 => this ⟨e, e2⟩
      · left; exact e
theorem adj_true {l : List Tk} {i : Nat} {a b : Tk} (ha : l[i]? = some a) (hb : l[i + 1]? = some b) (h1 : a.kind = 4) (h2 : b.kind = 4) : adjL l = true := by
  cases h : adjL l with
  | true => rfl
  | false =>
    have := adj_false.1 h
    exact absurd ⟨h1, h2⟩ (this i a b (List.getElem?_eq_some_iff.1 hb).1 ha hb)
def joinE (l : List Tk) : Int := if (l.any fun t => !tokL t) = true ∨ adjL l = true then 8 else if 512 < l.length ∨ 16384 < (toksW l).length then 4 else 0
def joinT (l : List Tk) : List UInt8 := if joinE l = 0 then toksW l else []
/-- Are tokens more than statements go through. -/
def prN (a : Pr) : Nat := min a.name.length 20000 + min a.value.length 20000
def prsN (l : List Pr) : Nat := (l.map prN).sum
def tkN (t : Tk) : Nat := min t.name.length 20000 + min t.text.length 20000 + prsN (t.attrs.take 30)
def tksN (l : List Tk) : Nat := (l.map tkN).sum
def greatTo (l : List Tk) (most k : Nat) : Prop := ∀ (i : Nat) (t : Tk), i < k → l[i]? = some t → t.attrs.length ≤ 30 ∧ tksN (l.take (i + 1)) ≤ most
def greatL (l : List Tk) (most : Nat) : Bool := ((l.take 600).any fun t => decide (30 < t.attrs.length)) || (decide (0 < (l.take 600).length) && decide (most < tksN (l.take 600))) || decide (600 < l.length)
theorem sum_map_le {α : Type} {f : α → Nat} {l : List α} {x : α} (h : x ∈ l) : f x ≤ (l.map f).sum := by
  induction l with
  | nil => simp at h
  | cons y l ih =>
    simp only [List.map_cons, List.sum_cons]
    rcases List.mem_cons.1 h with rfl | h
    · omega
    · have := ih h; omega
theorem sum_snoc {α : Type} {f : α → Nat} {l : List α} {k : Nat} {x : α} (h : l[k]? = some x) : ((l.take (k + 1)).map f).sum = ((l.take k).map f).sum + f x := by
  obtain ⟨hk, rfl⟩ := List.getElem?_eq_some_iff.1 h
  rw [List.take_succ_eq_append_getElem hk, List.map_append, List.sum_append]; simp
theorem sum_take_le {α : Type} {f : α → Nat} (l : List α) (k : Nat) : ((l.take k).map f).sum ≤ (l.map f).sum := by
  conv => rhs; rw [← List.take_append_drop k l, List.map_append, List.sum_append]
  omega
theorem prs_small {l : List Pr} {n : Nat} (h : prsN l ≤ n) (hn : n < 20000) : ∀ a ∈ l, a.name.length ≤ n ∧ a.value.length ≤ n := by
  intro a ha
  have := sum_map_le (f := prN) ha
  unfold prsN at h
  simp only [prN] at *
  omega
/-- What is not great is small. -/
theorem great_small {l : List Tk} {most : Nat} (hm : most < 20000) (h : greatL l most = false) : l.length ≤ 600 ∧ ∀ t ∈ l, t.attrs.length ≤ 30 ∧ t.name.length ≤ most ∧ t.text.length ≤ most ∧ ∀ a ∈ t.attrs, a.name.length ≤ most ∧ a.value.length ≤ most := by
  unfold greatL at h
  simp only [Bool.or_eq_false_iff, Bool.and_eq_false_iff, decide_eq_false_iff_not, List.any_eq_false, decide_eq_true_eq] at h
  obtain ⟨⟨h1, h2⟩, h3⟩ := h
  have hl : l.length ≤ 600 := by omega
  rw [List.take_of_length_le hl] at h1 h2
  refine ⟨hl, fun t ht => ?_⟩
  have ha := h1 t ht
  have h0 : 0 < l.length := List.length_pos_of_mem ht
  have hs : tksN l ≤ most := by omega
  have := sum_map_le (f := tkN) ht
  unfold tksN at hs
  have h30 : t.attrs.take 30 = t.attrs := List.take_of_length_le (by omega)
  simp only [tkN, h30] at *
  exact ⟨by omega, by omega, by omega, prs_small (by omega) hm⟩
theorem attrW_length (a : Pr) : (attrW a).length ≤ 4 + a.name.length + 6 * a.value.length := by
  have := escW_length true a.value
  simp only [attrW, List.length_append, List.length_cons, List.length_nil]; omega
theorem flatMap_le {α : Type} {f : α → List UInt8} {n : Nat} : ∀ {l : List α}, (∀ x ∈ l, (f x).length ≤ n) → (l.flatMap f).length ≤ l.length * n
  | [], _ => by simp
  | x :: l, h => by
    have h1 := h x (by simp)
    have h2 := flatMap_le (l := l) (fun y hy => h y (by simp [hy]))
    simp only [List.flatMap_cons, List.length_append, List.length_cons, Nat.succ_mul]; omega
/-- Bounds on what is written. -/
theorem tokW_length {t : Tk} {n : Nat} (h1 : t.attrs.length ≤ 30) (h2 : t.name.length ≤ n) (h3 : t.text.length ≤ n) (h4 : ∀ a ∈ t.attrs, a.name.length ≤ n ∧ a.value.length ≤ n) : (attrsW t.attrs).length ≤ 30 * (4 + 7 * n) ∧ (tokW t).length ≤ 124 + 217 * n := by
  have e := escW_length false t.text
  have ha : (attrsW t.attrs).length ≤ t.attrs.length * (4 + 7 * n) := flatMap_le (fun a ha => by
    have := attrW_length a
    have := h4 a ha
    omega)
  have hb : t.attrs.length * (4 + 7 * n) ≤ 30 * (4 + 7 * n) := Nat.mul_le_mul_right _ h1
  refine ⟨by omega, ?_⟩
  unfold tokW
  split
  · omega
  · split
    · simp only [List.length_append, List.length_cons, List.length_nil]; omega
    · simp only [List.length_append, List.length_cons, List.length_nil]
      split <;> simp only [List.length_cons, List.length_nil] <;> omega
end Go.Proofs.YtanahnknjboplaaDoor
/-
  Layer 5 by the machine: code points that may be; beginnings of texts.
-/
namespace Go.Proofs.YtanahnknjboplaaDoor
set_option linter.unusedSimpArgs false
set_option linter.unusedVariables false
open Nat renaming reduceAdd → κa, reduceMul → κb, reduceEqDiff → κc, reduceLeDiff → κd, reduceSub → κe, reduceLT → κf, reduceBEq → κr, reduceBNe → κs, reducePow → κt
open Int renaming reduceToNat → κg, reduceLE → κh, reduceLT → κi, reduceAdd → κj, reduceSub → κk, reduceMul → κl, reduceNeg → κm, reduceBEq → κn, reduceBNe → κo, reduceEq → κp, reduceNe → κq
open Go Go.RowKit Go.Proofs.YtanahnknjboplaaDoor.Vm

def validB (r : Int) : Bool := (decide (0 ≤ r) && decide (r < 55296)) || (decide (57343 < r) && decide (r ≤ 1114111))
theorem valid_ev (r : Int) (nm : Nat) : Ev cx 47 nm [.int .i32 r] Mem.nil (.bool (validB r)) [] := by
  unfold validB
  refine ev_go (fun cargs w => Tryd.call47 cargs w) Tryd.func47 rfl mixed (by kernel_rfl) rfl ?_; intro b0 hb0
  ((repeat' first | simp only [Tryd.results47, Tryd.ntmps47, κt, wks, vcs, κa, κb, κc, κd, κe, κf, κg, κh, κi, κj, κk, κl, κm, reduceCtorEq, reduceIte, κn, κo, κp, κq, κr, κs, tys] | exact rfl | ((first | (refine call_val (g := ?_) ?_ ?_) | (refine call_valg (g := ?_) ?_ ?_)); rotate_left 1; (focus (simp only [Tryd.results47, Tryd.ntmps47, κt, wks, vcs, κa, κb, κc, κd, κe, κf, κg, κh, κi, κj, κk, κl, κm, reduceCtorEq, reduceIte, κn, κo, κp, κq, κr, κs, tys] <;> exact rfl))) | refine draw_end (by decide +kernel) ?_ | refine cond_bool (fun hb => ?_) (fun hb => ?_) | refine cond_bit (fun hb => ?_) (fun hb => ?_) | refine And.intro (by omega) ?_ | refine And.intro (fun hb => ?_) (fun hb => ?_) | fail); (all_goals (first | (refine Fin.pure ?_ ?_ ?_ <;> (try simp only [Tryd.results47, Tryd.ntmps47, wks, vcs, κa, κb, κc, κd, κe, κf, κg, κh, κi, κj, κk, κl, κm, reduceCtorEq, reduceIte, κn, κo, κp, κq, κr, κs, tys]) <;> (try simp only [injs])) | skip)))
  all_goals simp_all
theorem tMay_ev (n : Int) (nm : Nat) : Ev cx 23 nm [.int .i64 n] Mem.nil (.bool (may n)) [] := by
  refine ev_go (fun cargs w => Tryd.call23 cargs w) Tryd.func23 rfl mixed (by kernel_rfl) rfl ?_; intro b0 hb0
  ((repeat' first | simp only [Tryd.results23, Tryd.ntmps23, κt, wks, vcs, κa, κb, κc, κd, κe, κf, κg, κh, κi, κj, κk, κl, κm, reduceCtorEq, reduceIte, κn, κo, κp, κq, κr, κs, tys] | exact rfl | ((first | (refine call_val (g := ?_) ?_ ?_) | (refine call_valg (g := ?_) ?_ ?_)); rotate_left 1; (focus (simp only [Tryd.results23, Tryd.ntmps23, κt, wks, vcs, κa, κb, κc, κd, κe, κf, κg, κh, κi, κj, κk, κl, κm, reduceCtorEq, reduceIte, κn, κo, κp, κq, κr, κs, tys] <;> exact rfl))) | refine draw_end (by decide +kernel) ?_ | refine cond_bool (fun hb => ?_) (fun hb => ?_) | refine cond_bit (fun hb => ?_) (fun hb => ?_) | refine And.intro (by omega) ?_ | refine And.intro (fun hb => ?_) (fun hb => ?_) | fail); (all_goals (first | (refine Fin.pure ?_ ?_ ?_ <;> (try simp only [Tryd.results23, Tryd.ntmps23, wks, vcs, κa, κb, κc, κd, κe, κf, κg, κh, κi, κj, κk, κl, κm, reduceCtorEq, reduceIte, κn, κo, κp, κq, κr, κs, tys]) <;> (try simp only [injs])) | skip)))
  all_goals simp only [decide_eq_true_eq, decide_eq_false_iff_not, beq_iff_eq, beq_eq_false_iff_ne, ne_eq] at *
  all_goals (first | (exfalso; omega) | (exact may_t (by omega)) | (exact may_f (by omega)) | skip)
  have hw : IntKind.i32.wrap n = n := IntWalk.i32_in _ (by omega)
  rw [hw]
  have hv : validB n = may n := by
    cases h : may n with
    | true =>
      have := (may_iff n).1 h
      unfold validB
      simp only [Bool.or_eq_true, Bool.and_eq_true, decide_eq_true_eq]; omega
    | false =>
      have h' : ¬ _ := fun q => by rw [(may_iff n).2 q] at h; cases h
      unfold validB
      simp only [Bool.or_eq_false_iff, Bool.and_eq_false_iff, decide_eq_false_iff_not]; omega
  ((repeat' first | simp only [Tryd.results23, Tryd.ntmps23, κt, wks, hv, vcs, κa, κb, κc, κd, κe, κf, κg, κh, κi, κj, κk, κl, κm, reduceCtorEq, reduceIte, κn, κo, κp, κq, κr, κs, tys] | exact rfl | ((first | (refine call_fn ?_ (valid_ev n _) ?_) | (refine call_fn_g ?_ (fun _ => valid_ev n _) ?_)); (focus (simp only [Tryd.results23, Tryd.ntmps23, κt, wks, hv, vcs, κa, κb, κc, κd, κe, κf, κg, κh, κi, κj, κk, κl, κm, reduceCtorEq, reduceIte, κn, κo, κp, κq, κr, κs, tys] <;> exact rfl))) | ((first | (refine call_val (g := ?_) ?_ ?_) | (refine call_valg (g := ?_) ?_ ?_)); rotate_left 1; (focus (simp only [Tryd.results23, Tryd.ntmps23, κt, wks, hv, vcs, κa, κb, κc, κd, κe, κf, κg, κh, κi, κj, κk, κl, κm, reduceCtorEq, reduceIte, κn, κo, κp, κq, κr, κs, tys] <;> exact rfl))) | refine draw_end (by decide +kernel) ?_ | refine cond_bool (fun hb => ?_) (fun hb => ?_) | refine cond_bit (fun hb => ?_) (fun hb => ?_) | refine And.intro (by omega) ?_ | refine And.intro (fun hb => ?_) (fun hb => ?_) | fail); (all_goals (first | (refine Fin.pure ?_ ?_ ?_ <;> (try simp only [Tryd.results23, Tryd.ntmps23, wks, hv, vcs, κa, κb, κc, κd, κe, κf, κg, κh, κi, κj, κk, κl, κm, reduceCtorEq, reduceIte, κn, κo, κp, κq, κr, κs, tys]) <;> (try simp only [injs])) | skip)))
def preB (s p : List UInt8) : Bool := decide (p.length ≤ s.length) && (s.take p.length == p)
theorem hasPre_ev (s p : List UInt8) (hs : s.length ≤ lim) (hp : p.length ≤ lim) (nm : Nat) : Ev cx 87 nm [.str s, .str p] Mem.nil (.bool (preB s p)) [] := by
  unfold lim at hs hp
  unfold preB
  refine ev_go (fun cargs w => Tryd.call87 cargs w) Tryd.func87 rfl mixed (by kernel_rfl) rfl ?_; intro b0 hb0
  ((repeat' first | simp only [Tryd.results87, Tryd.ntmps87, κt, wks, decide_eq_true_eq, imp_self, vcs, κa, κb, κc, κd, κe, κf, κg, κh, κi, κj, κk, κl, κm, reduceCtorEq, reduceIte, κn, κo, κp, κq, κr, κs, tys] | exact rfl | ((first | (refine call_val (g := ?_) ?_ ?_) | (refine call_valg (g := ?_) ?_ ?_)); rotate_left 1; (focus (simp only [Tryd.results87, Tryd.ntmps87, κt, wks, decide_eq_true_eq, imp_self, vcs, κa, κb, κc, κd, κe, κf, κg, κh, κi, κj, κk, κl, κm, reduceCtorEq, reduceIte, κn, κo, κp, κq, κr, κs, tys] <;> exact rfl))) | refine draw_end (by decide +kernel) ?_ | refine cond_bool (fun hb => ?_) (fun hb => ?_) | refine cond_bit (fun hb => ?_) (fun hb => ?_) | refine And.intro (by omega) ?_ | refine And.intro (fun hb => ?_) (fun hb => ?_) | fail); (all_goals (first | (refine Fin.pure ?_ ?_ ?_ <;> (try simp only [Tryd.results87, Tryd.ntmps87, wks, decide_eq_true_eq, imp_self, vcs, κa, κb, κc, κd, κe, κf, κg, κh, κi, κj, κk, κl, κm, reduceCtorEq, reduceIte, κn, κo, κp, κq, κr, κs, tys]) <;> (try simp only [injs])) | skip)))
theorem pre_ev (s p : List UInt8) (hs : s.length ≤ lim) (hp : p.length ≤ lim) (nm : Nat) : Ev cx 66 nm [.str s, .str p] Mem.nil (.bool (preB s p)) [] := by
  refine ev_go (fun cargs w => Tryd.call66 cargs w) Tryd.func66 rfl mixed (by kernel_rfl) rfl ?_; intro b0 hb0
  ((repeat' first | simp only [Tryd.results66, Tryd.ntmps66, κt, wks, vcs, κa, κb, κc, κd, κe, κf, κg, κh, κi, κj, κk, κl, κm, reduceCtorEq, reduceIte, κn, κo, κp, κq, κr, κs, tys] | exact rfl | ((first | (refine call_fn ?_ (hasPre_ev s p hs hp _) ?_) | (refine call_fn_g ?_ (fun _ => hasPre_ev s p hs hp _) ?_)); (focus (simp only [Tryd.results66, Tryd.ntmps66, κt, wks, vcs, κa, κb, κc, κd, κe, κf, κg, κh, κi, κj, κk, κl, κm, reduceCtorEq, reduceIte, κn, κo, κp, κq, κr, κs, tys] <;> exact rfl))) | ((first | (refine call_val (g := ?_) ?_ ?_) | (refine call_valg (g := ?_) ?_ ?_)); rotate_left 1; (focus (simp only [Tryd.results66, Tryd.ntmps66, κt, wks, vcs, κa, κb, κc, κd, κe, κf, κg, κh, κi, κj, κk, κl, κm, reduceCtorEq, reduceIte, κn, κo, κp, κq, κr, κs, tys] <;> exact rfl))) | refine draw_end (by decide +kernel) ?_ | refine cond_bool (fun hb => ?_) (fun hb => ?_) | refine cond_bit (fun hb => ?_) (fun hb => ?_) | refine And.intro (by omega) ?_ | refine And.intro (fun hb => ?_) (fun hb => ?_) | fail); (all_goals (first | (refine Fin.pure ?_ ?_ ?_ <;> (try simp only [Tryd.results66, Tryd.ntmps66, wks, vcs, κa, κb, κc, κd, κe, κf, κg, κh, κi, κj, κk, κl, κm, reduceCtorEq, reduceIte, κn, κo, κp, κq, κr, κs, tys]) <;> (try simp only [injs])) | skip)))
end Go.Proofs.YtanahnknjboplaaDoor
/-
  Layer 5 by the machine: the code points of a text. 
-/
namespace Go.Proofs.YtanahnknjboplaaDoor
set_option linter.unusedSimpArgs false
set_option linter.unusedVariables false
open Nat renaming reduceAdd → κa, reduceMul → κb, reduceEqDiff → κc, reduceLeDiff → κd, reduceSub → κe, reduceLT → κf, reduceBEq → κr, reduceBNe → κs, reducePow → κt
open Int renaming reduceToNat → κg, reduceLE → κh, reduceLT → κi, reduceAdd → κj, reduceSub → κk, reduceMul → κl, reduceNeg → κm, reduceBEq → κn, reduceBNe → κo, reduceEq → κp, reduceNe → κq
open Go Go.RowKit Go.Proofs.YtanahnknjboplaaDoor.Vm

def pts (l : List UInt8) : List Int := if 16384 < l.length then [] else (dec l).getD []
def intRow (z : Int) : List V := [.int .i64 z]
theorem preB_eq (s p : List UInt8) : preB s p = Lib.hasPrefix s p := by
  unfold preB Lib.hasPrefix
  rw [Bool.eq_iff_iff]
  simp only [Bool.and_eq_true, decide_eq_true_eq, beq_iff_eq, List.isPrefixOf_iff_prefix, List.prefix_iff_eq_take]
  constructor
  · rintro ⟨_, h⟩; exact h.symm
  · intro h
    refine ⟨?_, h.symm⟩
    have := congrArg List.length h
    simp at this; omega
/-- What a code point at a place is to the program: bad, or so many bytes. -/
theorem one_at {s : List UInt8} {p : Nat} (hp : p < s.length) : one (s.drop p) = if ((runeAt s p).1 = 65533 ∧ preB (s.drop p) [239, 191, 189] = false) ∨ may ((runeAt s p).1 : Int) = false then none else some (((runeAt s p).1 : Int), (runeAt s p).2) := by
  have hne : s.drop p ≠ [] := by
    intro h
    have := congrArg List.length h
    simp at this; omega
  have hd : runeAt s p = Lib.decodeL (s.drop p) := decode_drop ⟨s.toArray⟩ p
  rw [hd, preB_eq]
  exact one_of_decode hne
theorem rune_le (s : List UInt8) (p : Nat) : (runeAt s p).1 ≤ 2147483647 := decode_le _ _
theorem take_i (l : List Int) : (l.map intRow).take l.length = l.map intRow := List.take_of_length_le (by simp)
theorem isRow_inst : Ob.isRow instCells = true := rfl
theorem plain_i (l : List Int) : plainLL (l.map intRow) = true := plainLL_map _ (fun _ => rfl) l
theorem ren_ints (σ : List (Nat × Nat)) (l : List Int) : Blk.ren σ ⟨1, l.map intRow⟩ = ⟨1, l.map intRow⟩ := Blk.ren_plain (plain_i l) rfl
set_option maxRecDepth 100000 in
set_option maxHeartbeats 4000000 in
theorem points_ev (s : List UInt8) (hs : s.length ≤ lim) (nm : Nat) : Ev cx 40 nm [.str s] Mem.nil (.tup [.sl false 1 ((pts s).map intRow), .int .i64 (ptsErr s)]) [] := by
  unfold lim at hs
  by_cases hbig : 16384 < s.length
  · have he : ptsErr s = 4 := by unfold ptsErr; rw [if_pos hbig]
    have hq : pts s = [] := by unfold pts; rw [if_pos hbig]
    have hd : decide ((16384 : Int) < s.length) = true := decide_eq_true (by omega)
    refine ev_go (fun cargs w => Tryd.call40 cargs w) Tryd.func40 rfl mixed (by kernel_rfl) rfl ?_; intro b0 hb0
    ((repeat' first | simp only [Tryd.results40, Tryd.ntmps40, κt, wks, he, hq, hd, List.map_nil, vcs, κa, κb, κc, κd, κe, κf, κg, κh, κi, κj, κk, κl, κm, reduceCtorEq, reduceIte, κn, κo, κp, κq, κr, κs, tys] | exact rfl | ((first | (refine call_val (g := ?_) ?_ ?_) | (refine call_valg (g := ?_) ?_ ?_)); rotate_left 1; (focus (simp only [Tryd.results40, Tryd.ntmps40, κt, wks, he, hq, hd, List.map_nil, vcs, κa, κb, κc, κd, κe, κf, κg, κh, κi, κj, κk, κl, κm, reduceCtorEq, reduceIte, κn, κo, κp, κq, κr, κs, tys] <;> exact rfl))) | refine draw_end (by decide +kernel) ?_ | refine cond_bool (fun hb => ?_) (fun hb => ?_) | refine cond_bit (fun hb => ?_) (fun hb => ?_) | refine And.intro (by omega) ?_ | refine And.intro (fun hb => ?_) (fun hb => ?_) | fail); (all_goals (first | (refine Fin.pure ?_ ?_ ?_ <;> (try simp only [Tryd.results40, Tryd.ntmps40, wks, he, hq, hd, List.map_nil, vcs, κa, κb, κc, κd, κe, κf, κg, κh, κi, κj, κk, κl, κm, reduceCtorEq, reduceIte, κn, κo, κp, κq, κr, κs, tys]) <;> (try simp only [injs])) | skip)))
  · have hd : decide ((16384 : Int) < s.length) = false := decide_eq_false (by omega)
    refine ev_go (fun cargs w => Tryd.call40 cargs w) Tryd.func40 rfl mixed (by kernel_rfl) rfl ?_; intro b0 hb0
    repeat' first | simp only [Tryd.results40, Tryd.ntmps40, κt, wks, hd, vcs, κa, κb, κc, κd, κe, κf, κg, κh, κi, κj, κk, κl, κm, reduceCtorEq, reduceIte, κn, κo, κp, κq, κr, κs, tys] | exact rfl | (refine ext_range (s := ?_) ?_ ?_ ?_; rotate_left 1; (iterate 2 (focus (simp only [Tryd.results40, Tryd.ntmps40, κt, wks, hd, vcs, κa, κb, κc, κd, κe, κf, κg, κh, κi, κj, κk, κl, κm, reduceCtorEq, reduceIte, κn, κo, κp, κq, κr, κs, tys] <;> exact rfl)))) | (refine extG_true ?_) | (refine extG_false ?_) | ((first | (refine call_val (g := ?_) ?_ ?_) | (refine call_valg (g := ?_) ?_ ?_)); rotate_left 1; (focus (simp only [Tryd.results40, Tryd.ntmps40, κt, wks, hd, vcs, κa, κb, κc, κd, κe, κf, κg, κh, κi, κj, κk, κl, κm, reduceCtorEq, reduceIte, κn, κo, κp, κq, κr, κs, tys] <;> exact rfl))) | refine draw_end (by decide +kernel) ?_ | refine cond_bool (fun hb => ?_) (fun hb => ?_) | refine cond_bit (fun hb => ?_) (fun hb => ?_) | refine And.intro (by omega) ?_ | refine And.intro (fun hb => ?_) (fun hb => ?_) | fail
    (refine loop_can2 cxG (fun x : Nat × List Int => s.length - x.1) (fun x => x.1 ≤ s.length ∧ x.2.length ≤ x.1 ∧ dec s = (dec (s.drop x.1)).map (x.2 ++ ·)) (b0 + 16) (fun x => [(0, .str s), (2, .own (b0 + 1) 0 x.2.length), (10, .ptr b0 0 0)]) (fun x => [(b0, iterK s x.1), (b0 + 1, ⟨1, x.2.map intRow⟩)]) ((0, [])) [some (b0 + 96), none] ?_ ?_ ?_ ?_; rotate_left 1; (focus (show b0 ≤ _; omega)); (focus (refine ⟨?_, ?_⟩ <;> (try simp only [cans, isRow_inst, ren_iter, renOk_iter, plain_i, vcs, κa, κb, κc, κd, κe, κf, κg, κh, κi, κj, κk, κl, κm, reduceCtorEq, reduceIte, κn, κo, κp, κq, κr, κs, tys, injs]) <;> (try omega))); rotate_left 1)
    · refine ⟨Nat.zero_le _, Nat.le_refl _, ?_⟩
      rw [List.drop_zero]; cases dec s <;> rfl
    · rintro ⟨p, zs⟩ ⟨h1, h2, h3⟩
      by_cases hp : p < s.length
      · have ho := one_at hp
        have hne : s.drop p ≠ [] := by
          intro h
          have := congrArg List.length h
          simp at this; omega
        have hrl := rune_le s p
        have hw : IntKind.i64.wrap ((runeAt s p).1 : Int) = ((runeAt s p).1 : Int) := wrap_in (by omega) (by omega)
        have hle : (s.drop p).length ≤ lim := by unfold lim; simp; omega
        by_cases hbad : ((runeAt s p).1 = 65533 ∧ preB (s.drop p) [239, 191, 189] = false) ∨ may ((runeAt s p).1 : Int) = false
        · rw [if_pos hbad] at ho
          have hd0 : dec s = none := by
            have := h3
            simp only at this
            rw [this, dec_bad hne ho]; rfl
          have he : ptsErr s = 50 := by unfold ptsErr; rw [if_neg hbig, hd0]
          have hq : pts s = [] := by unfold pts; rw [if_neg hbig, hd0]; rfl
          cases hc : (((runeAt s p).1 : Int) == 65533) <;> cases hpr : preB (s.drop p) [239, 191, 189] <;> cases hm : may ((runeAt s p).1 : Int)
          all_goals (try (exfalso; simp_all; done))
          all_goals (((repeat' first | simp only [Tryd.results40, Tryd.ntmps40, κt, wks, he, hq, hp, hw, hc, hpr, hm, plain_i, List.map_nil, List.length_drop, vcs, κa, κb, κc, κd, κe, κf, κg, κh, κi, κj, κk, κl, κm, reduceCtorEq, reduceIte, κn, κo, κp, κq, κr, κs, tys] | exact rfl | ((first | (refine call_fn ?_ (pre_ev (s.drop p) [239, 191, 189] hle (by decide) _) ?_) | (refine call_fn_g ?_ (fun _ => pre_ev (s.drop p) [239, 191, 189] hle (by decide) _) ?_) | (refine call_fn ?_ (tMay_ev ((runeAt s p).1 : Int) _) ?_) | (refine call_fn_g ?_ (fun _ => tMay_ev ((runeAt s p).1 : Int) _) ?_)); (focus (simp only [Tryd.results40, Tryd.ntmps40, κt, wks, he, hq, hp, hw, hc, hpr, hm, plain_i, List.map_nil, List.length_drop, vcs, κa, κb, κc, κd, κe, κf, κg, κh, κi, κj, κk, κl, κm, reduceCtorEq, reduceIte, κn, κo, κp, κq, κr, κs, tys] <;> exact rfl))) | (refine ext_next (s := ?_) (y := ?_) (p := ?_) ?_ ?_ ?_ ?_; rotate_left 3; (iterate 2 (focus (simp only [Tryd.results40, Tryd.ntmps40, κt, wks, he, hq, hp, hw, hc, hpr, hm, plain_i, List.map_nil, List.length_drop, vcs, κa, κb, κc, κd, κe, κf, κg, κh, κi, κj, κk, κl, κm, reduceCtorEq, reduceIte, κn, κo, κp, κq, κr, κs, tys] <;> exact rfl))); (focus (simp only [Tryd.results40, Tryd.ntmps40, κt, wks, he, hq, hp, hw, hc, hpr, hm, plain_i, List.map_nil, List.length_drop, vcs, κa, κb, κc, κd, κe, κf, κg, κh, κi, κj, κk, κl, κm, reduceCtorEq, reduceIte, κn, κo, κp, κq, κr, κs, tys] <;> omega))) | (refine extG_true ?_) | (refine extG_false ?_) | ((first | (refine call_val (g := ?_) ?_ ?_) | (refine call_valg (g := ?_) ?_ ?_)); rotate_left 1; (focus (simp only [Tryd.results40, Tryd.ntmps40, κt, wks, he, hq, hp, hw, hc, hpr, hm, plain_i, List.map_nil, List.length_drop, vcs, κa, κb, κc, κd, κe, κf, κg, κh, κi, κj, κk, κl, κm, reduceCtorEq, reduceIte, κn, κo, κp, κq, κr, κs, tys] <;> exact rfl))) | refine draw_end (by decide +kernel) ?_ | refine cond_bool (fun hb => ?_) (fun hb => ?_) | refine cond_bit (fun hb => ?_) (fun hb => ?_) | refine And.intro (by omega) ?_ | refine And.intro (fun hb => ?_) (fun hb => ?_) | fail); (all_goals (first | (refine Fin.pure ?_ ?_ ?_ <;> (try simp only [Tryd.results40, Tryd.ntmps40, wks, he, hq, hp, hw, hc, hpr, hm, plain_i, List.map_nil, List.length_drop, vcs, κa, κb, κc, κd, κe, κf, κg, κh, κi, κj, κk, κl, κm, reduceCtorEq, reduceIte, κn, κo, κp, κq, κr, κs, tys]) <;> (try simp only [injs])) | skip))))
        · rw [if_neg hbad] at ho
          obtain ⟨_, hm, _, hk1, hk2⟩ := one_some ho
          have hds : dec s = (dec (s.drop (p + (runeAt s p).2))).map ((zs ++ [((runeAt s p).1 : Int)]) ++ ·) := by
            have := h3
            simp only at this
            rw [this, dec_step ho, List.drop_drop]
            cases dec (s.drop (p + (runeAt s p).2)) <;> simp
          have hlen : (s.drop p).length = s.length - p := by simp
          have h2' : zs.length ≤ p := h2
          have hsn : zs.map intRow ++ [[V.int .i64 ((runeAt s p).1 : Int)]] = (zs ++ [((runeAt s p).1 : Int)]).map intRow := by simp [intRow]
          have hnx : p + (runeAt s p).2 ≤ s.length := by omega
          cases hc : (((runeAt s p).1 : Int) == 65533) <;> cases hpr : preB (s.drop p) [239, 191, 189]
          all_goals (try (exfalso; exact hbad (.inl ⟨by have := beq_iff_eq.1 hc; omega, hpr⟩)))
          all_goals (repeat' first | simp only [Tryd.results40, Tryd.ntmps40, κt, wks, hp, hw, hc, hpr, hm, plain_i, hsn, List.map_nil, List.length_drop, List.length_map, Nat.le_refl, Option.bind_some, Option.bind_none, vcs, κa, κb, κc, κd, κe, κf, κg, κh, κi, κj, κk, κl, κm, reduceCtorEq, reduceIte, κn, κo, κp, κq, κr, κs, tys] | exact rfl | ((first | (refine call_fn ?_ (pre_ev (s.drop p) [239, 191, 189] hle (by decide) _) ?_) | (refine call_fn_g ?_ (fun _ => pre_ev (s.drop p) [239, 191, 189] hle (by decide) _) ?_) | (refine call_fn ?_ (tMay_ev ((runeAt s p).1 : Int) _) ?_) | (refine call_fn_g ?_ (fun _ => tMay_ev ((runeAt s p).1 : Int) _) ?_)); (focus (simp only [Tryd.results40, Tryd.ntmps40, κt, wks, hp, hw, hc, hpr, hm, plain_i, hsn, List.map_nil, List.length_drop, List.length_map, Nat.le_refl, Option.bind_some, Option.bind_none, vcs, κa, κb, κc, κd, κe, κf, κg, κh, κi, κj, κk, κl, κm, reduceCtorEq, reduceIte, κn, κo, κp, κq, κr, κs, tys] <;> exact rfl))) | (refine ext_next (s := ?_) (y := ?_) (p := ?_) ?_ ?_ ?_ ?_; rotate_left 3; (iterate 2 (focus (simp only [Tryd.results40, Tryd.ntmps40, κt, wks, hp, hw, hc, hpr, hm, plain_i, hsn, List.map_nil, List.length_drop, List.length_map, Nat.le_refl, Option.bind_some, Option.bind_none, vcs, κa, κb, κc, κd, κe, κf, κg, κh, κi, κj, κk, κl, κm, reduceCtorEq, reduceIte, κn, κo, κp, κq, κr, κs, tys] <;> exact rfl))); (focus (simp only [Tryd.results40, Tryd.ntmps40, κt, wks, hp, hw, hc, hpr, hm, plain_i, hsn, List.map_nil, List.length_drop, List.length_map, Nat.le_refl, Option.bind_some, Option.bind_none, vcs, κa, κb, κc, κd, κe, κf, κg, κh, κi, κj, κk, κl, κm, reduceCtorEq, reduceIte, κn, κo, κp, κq, κr, κs, tys] <;> omega))) | (refine extG_true ?_) | (refine extG_false ?_) | ((first | (refine call_val (g := ?_) ?_ ?_) | (refine call_valg (g := ?_) ?_ ?_)); rotate_left 1; (focus (simp only [Tryd.results40, Tryd.ntmps40, κt, wks, hp, hw, hc, hpr, hm, plain_i, hsn, List.map_nil, List.length_drop, List.length_map, Nat.le_refl, Option.bind_some, Option.bind_none, vcs, κa, κb, κc, κd, κe, κf, κg, κh, κi, κj, κk, κl, κm, reduceCtorEq, reduceIte, κn, κo, κp, κq, κr, κs, tys] <;> exact rfl))) | refine draw_end (by decide +kernel) ?_ | refine cond_bool (fun hb => ?_) (fun hb => ?_) | refine cond_bit (fun hb => ?_) (fun hb => ?_) | refine And.intro (by omega) ?_ | refine And.intro (fun hb => ?_) (fun hb => ?_) | fail)
          all_goals ((refine again_can2 cxG ((p + (runeAt s p).2, zs ++ [((runeAt s p).1 : Int)])) [some b0, some (b0 + 416)] ?_ ?_ ?_ ?_; rotate_left 2; (focus (show b0 ≤ _; omega)); (focus (refine ⟨?_, ?_⟩ <;> (try simp only [cans, isRow_inst, ren_iter, renOk_iter, plain_i, hsn, List.length_map, List.length_append, List.length_cons, List.length_nil, Option.bind_some, Option.bind_none, vcs, κa, κb, κc, κd, κe, κf, κg, κh, κi, κj, κk, κl, κm, reduceCtorEq, reduceIte, κn, κo, κp, κq, κr, κs, tys, injs]) <;> (try omega)))))
          all_goals (first | (show s.length - (p + (runeAt s p).2) < s.length - p; omega) | exact ⟨hnx, by simp; omega, hds⟩ | skip)
      · have hpe : p = s.length := by omega
        subst hpe
        have he : ptsErr s = 0 := by
          rw [List.drop_length, dec_nil] at h3
          unfold ptsErr; rw [if_neg hbig, h3]; rfl
        have hq : pts s = zs := by
          rw [List.drop_length, dec_nil] at h3
          unfold pts; rw [if_neg hbig, h3]; simp
        ((repeat' first | simp only [Tryd.results40, Tryd.ntmps40, κt, wks, he, hq, plain_i, take_i, memL_cons, memL_nil, List.length_map, Nat.le_refl, vcs, κa, κb, κc, κd, κe, κf, κg, κh, κi, κj, κk, κl, κm, reduceCtorEq, reduceIte, κn, κo, κp, κq, κr, κs, tys] | exact rfl | (refine ext_over (s := ?_) (y := ?_) (p := ?_) ?_ ?_ ?_ ?_; rotate_left 3; (iterate 2 (focus (simp only [Tryd.results40, Tryd.ntmps40, κt, wks, he, hq, plain_i, take_i, memL_cons, memL_nil, List.length_map, Nat.le_refl, vcs, κa, κb, κc, κd, κe, κf, κg, κh, κi, κj, κk, κl, κm, reduceCtorEq, reduceIte, κn, κo, κp, κq, κr, κs, tys] <;> exact rfl))); (focus (simp only [Tryd.results40, Tryd.ntmps40, κt, wks, he, hq, plain_i, take_i, memL_cons, memL_nil, List.length_map, Nat.le_refl, vcs, κa, κb, κc, κd, κe, κf, κg, κh, κi, κj, κk, κl, κm, reduceCtorEq, reduceIte, κn, κo, κp, κq, κr, κs, tys] <;> omega))) | (refine extG_true ?_) | (refine extG_false ?_) | ((first | (refine call_val (g := ?_) ?_ ?_) | (refine call_valg (g := ?_) ?_ ?_)); rotate_left 1; (focus (simp only [Tryd.results40, Tryd.ntmps40, κt, wks, he, hq, plain_i, take_i, memL_cons, memL_nil, List.length_map, Nat.le_refl, vcs, κa, κb, κc, κd, κe, κf, κg, κh, κi, κj, κk, κl, κm, reduceCtorEq, reduceIte, κn, κo, κp, κq, κr, κs, tys] <;> exact rfl))) | refine draw_end (by decide +kernel) ?_ | refine cond_bool (fun hb => ?_) (fun hb => ?_) | refine cond_bit (fun hb => ?_) (fun hb => ?_) | refine And.intro (by omega) ?_ | refine And.intro (fun hb => ?_) (fun hb => ?_) | fail); (all_goals (first | (refine Fin.pure ?_ ?_ ?_ <;> (try simp only [Tryd.results40, Tryd.ntmps40, wks, he, hq, plain_i, take_i, memL_cons, memL_nil, List.length_map, Nat.le_refl, vcs, κa, κb, κc, κd, κe, κf, κg, κh, κi, κj, κk, κl, κm, reduceCtorEq, reduceIte, κn, κo, κp, κq, κr, κs, tys]) <;> (try simp only [injs])) | skip)))
theorem tCheck_ev (s : List UInt8) (hs : s.length ≤ lim) (nm : Nat) : Ev cx 19 nm [.str s] Mem.nil (.int .i64 (ptsErr s)) [] := by
  refine ev_go (fun cargs w => Tryd.call19 cargs w) Tryd.func19 rfl mixed (by kernel_rfl) rfl ?_; intro b0 hb0
  ((repeat' first | simp only [Tryd.results19, Tryd.ntmps19, κt, wks, vcs, κa, κb, κc, κd, κe, κf, κg, κh, κi, κj, κk, κl, κm, reduceCtorEq, reduceIte, κn, κo, κp, κq, κr, κs, tys] | exact rfl | ((first | (refine call_fn ?_ (points_ev s hs _) ?_) | (refine call_fn_g ?_ (fun _ => points_ev s hs _) ?_)); (focus (simp only [Tryd.results19, Tryd.ntmps19, κt, wks, vcs, κa, κb, κc, κd, κe, κf, κg, κh, κi, κj, κk, κl, κm, reduceCtorEq, reduceIte, κn, κo, κp, κq, κr, κs, tys] <;> exact rfl))) | ((first | (refine call_val (g := ?_) ?_ ?_) | (refine call_valg (g := ?_) ?_ ?_)); rotate_left 1; (focus (simp only [Tryd.results19, Tryd.ntmps19, κt, wks, vcs, κa, κb, κc, κd, κe, κf, κg, κh, κi, κj, κk, κl, κm, reduceCtorEq, reduceIte, κn, κo, κp, κq, κr, κs, tys] <;> exact rfl))) | refine draw_end (by decide +kernel) ?_ | refine cond_bool (fun hb => ?_) (fun hb => ?_) | refine cond_bit (fun hb => ?_) (fun hb => ?_) | refine And.intro (by omega) ?_ | refine And.intro (fun hb => ?_) (fun hb => ?_) | fail); (all_goals (first | (refine Fin.pure ?_ ?_ ?_ <;> (try simp only [Tryd.results19, Tryd.ntmps19, wks, vcs, κa, κb, κc, κd, κe, κf, κg, κh, κi, κj, κk, κl, κm, reduceCtorEq, reduceIte, κn, κo, κp, κq, κr, κs, tys]) <;> (try simp only [injs])) | skip)))
end Go.Proofs.YtanahnknjboplaaDoor
/-
  The document's answer for layer 5 by the machine: code points, and the bytes that begin one.
-/
namespace Go.Proofs.YtanahnknjboplaaDoor
set_option linter.unusedSimpArgs false
set_option linter.unusedVariables false
open Nat renaming reduceAdd → κa, reduceMul → κb, reduceEqDiff → κc, reduceLeDiff → κd, reduceSub → κe, reduceLT → κf, reduceBEq → κr, reduceBNe → κs, reducePow → κt
open Int renaming reduceToNat → κg, reduceLE → κh, reduceLT → κi, reduceAdd → κj, reduceSub → κk, reduceMul → κl, reduceNeg → κm, reduceBEq → κn, reduceBNe → κo, reduceEq → κp, reduceNe → κq
open Go Go.RowKit Go.Proofs.YtanahnknjboplaaDoor.Vm

theorem head_ev (c : Int) (h0 : 0 ≤ c) (h1 : c < 256) (nm : Nat) : Ev cx 123 nm [.int .i64 c] Mem.nil (.tup [.int .i64 (headS c), .int .i64 (headN c)]) [] := by
  have w1 : IntKind.i64.wrap (c - 192) = c - 192 := wrap_in (by omega) (by omega)
  have w2 : IntKind.i64.wrap (c - 224) = c - 224 := wrap_in (by omega) (by omega)
  have w3 : IntKind.i64.wrap (c - 240) = c - 240 := wrap_in (by omega) (by omega)
  refine ev_go (fun cargs w => Tryd.call123 cargs w) Tryd.func123 rfl mixed (by kernel_rfl) rfl ?_; intro b0 hb0
  ((repeat' first | simp only [Tryd.results123, Tryd.ntmps123, κt, wks, w1, w2, w3, vcs, κa, κb, κc, κd, κe, κf, κg, κh, κi, κj, κk, κl, κm, reduceCtorEq, reduceIte, κn, κo, κp, κq, κr, κs, tys] | exact rfl | ((first | (refine call_val (g := ?_) ?_ ?_) | (refine call_valg (g := ?_) ?_ ?_)); rotate_left 1; (focus (simp only [Tryd.results123, Tryd.ntmps123, κt, wks, w1, w2, w3, vcs, κa, κb, κc, κd, κe, κf, κg, κh, κi, κj, κk, κl, κm, reduceCtorEq, reduceIte, κn, κo, κp, κq, κr, κs, tys] <;> exact rfl))) | refine draw_end (by decide +kernel) ?_ | refine cond_bool (fun hb => ?_) (fun hb => ?_) | refine cond_bit (fun hb => ?_) (fun hb => ?_) | refine And.intro (by omega) ?_ | refine And.intro (fun hb => ?_) (fun hb => ?_) | fail); (all_goals (first | (refine Fin.pure ?_ ?_ ?_ <;> (try simp only [Tryd.results123, Tryd.ntmps123, wks, w1, w2, w3, vcs, κa, κb, κc, κd, κe, κf, κg, κh, κi, κj, κk, κl, κm, reduceCtorEq, reduceIte, κn, κo, κp, κq, κr, κs, tys]) <;> (try simp only [injs])) | skip)))
  all_goals simp only [Bool.and_eq_true, Bool.and_eq_false_iff, decide_eq_true_eq, decide_eq_false_iff_not] at *
  all_goals (unfold headS headN; constructor <;> (repeat' split) <;> omega)
def rMayB (n : Int) : Bool := if n < 32 then (n == 9 || n == 10 || n == 13) else (((decide (n ≤ 1114111) && (decide (n < 55296) || decide (57343 < n))) && (n != 65534)) && (n != 65535))
theorem rMayB_eq (n : Int) : rMayB n = may n := by
  unfold rMayB
  rw [Bool.eq_iff_iff, may_iff]
  split <;> simp <;> omega
theorem rMay_ev (n : Int) (nm : Nat) : Ev cx 124 nm [.int .i64 n] Mem.nil (.bool (may n)) [] := by
  rw [← rMayB_eq]
  by_cases h : n < 32
  · have hd : decide (n < 32) = true := decide_eq_true h
    have hr : rMayB n = (n == 9 || n == 10 || n == 13) := by unfold rMayB; rw [if_pos h]
    refine ev_go (fun cargs w => Tryd.call124 cargs w) Tryd.func124 rfl mixed (by kernel_rfl) rfl ?_; intro b0 hb0
    ((repeat' first | simp only [Tryd.results124, Tryd.ntmps124, κt, wks, hd, hr, vcs, κa, κb, κc, κd, κe, κf, κg, κh, κi, κj, κk, κl, κm, reduceCtorEq, reduceIte, κn, κo, κp, κq, κr, κs, tys] | exact rfl | ((first | (refine call_val (g := ?_) ?_ ?_) | (refine call_valg (g := ?_) ?_ ?_)); rotate_left 1; (focus (simp only [Tryd.results124, Tryd.ntmps124, κt, wks, hd, hr, vcs, κa, κb, κc, κd, κe, κf, κg, κh, κi, κj, κk, κl, κm, reduceCtorEq, reduceIte, κn, κo, κp, κq, κr, κs, tys] <;> exact rfl))) | refine draw_end (by decide +kernel) ?_ | refine cond_bool (fun hb => ?_) (fun hb => ?_) | refine cond_bit (fun hb => ?_) (fun hb => ?_) | refine And.intro (by omega) ?_ | refine And.intro (fun hb => ?_) (fun hb => ?_) | fail); (all_goals (first | (refine Fin.pure ?_ ?_ ?_ <;> (try simp only [Tryd.results124, Tryd.ntmps124, wks, hd, hr, vcs, κa, κb, κc, κd, κe, κf, κg, κh, κi, κj, κk, κl, κm, reduceCtorEq, reduceIte, κn, κo, κp, κq, κr, κs, tys]) <;> (try simp only [injs])) | skip)))
  · have hd : decide (n < 32) = false := decide_eq_false h
    have hr : rMayB n = (((decide (n ≤ 1114111) && (decide (n < 55296) || decide (57343 < n))) && (n != 65534)) && (n != 65535)) := by unfold rMayB; rw [if_neg h]
    cases h1 : decide (n ≤ 1114111) <;> cases h2 : decide (n < 55296) <;> cases h3 : decide (57343 < n) <;> rw [h1, h2, h3] at hr <;> (
    refine ev_go (fun cargs w => Tryd.call124 cargs w) Tryd.func124 rfl mixed (by kernel_rfl) rfl ?_; intro b0 hb0
    ((repeat' first | simp only [Tryd.results124, Tryd.ntmps124, κt, wks, hd, hr, h1, h2, h3, vcs, κa, κb, κc, κd, κe, κf, κg, κh, κi, κj, κk, κl, κm, reduceCtorEq, reduceIte, κn, κo, κp, κq, κr, κs, tys] | exact rfl | ((first | (refine call_val (g := ?_) ?_ ?_) | (refine call_valg (g := ?_) ?_ ?_)); rotate_left 1; (focus (simp only [Tryd.results124, Tryd.ntmps124, κt, wks, hd, hr, h1, h2, h3, vcs, κa, κb, κc, κd, κe, κf, κg, κh, κi, κj, κk, κl, κm, reduceCtorEq, reduceIte, κn, κo, κp, κq, κr, κs, tys] <;> exact rfl))) | refine draw_end (by decide +kernel) ?_ | refine cond_bool (fun hb => ?_) (fun hb => ?_) | refine cond_bit (fun hb => ?_) (fun hb => ?_) | refine And.intro (by omega) ?_ | refine And.intro (fun hb => ?_) (fun hb => ?_) | fail); (all_goals (first | (refine Fin.pure ?_ ?_ ?_ <;> (try simp only [Tryd.results124, Tryd.ntmps124, wks, hd, hr, h1, h2, h3, vcs, κa, κb, κc, κd, κe, κf, κg, κh, κi, κj, κk, κl, κm, reduceCtorEq, reduceIte, κn, κo, κp, κq, κr, κs, tys]) <;> (try simp only [injs])) | skip))))
end Go.Proofs.YtanahnknjboplaaDoor
/-
  The document's answer for layer 5 by the machine: the bytes of a code point; the code point that a text begins with; all of a text's.
-/
namespace Go.Proofs.YtanahnknjboplaaDoor
set_option linter.unusedSimpArgs false
set_option linter.unusedVariables false
open Nat renaming reduceAdd → κa, reduceMul → κb, reduceEqDiff → κc, reduceLeDiff → κd, reduceSub → κe, reduceLT → κf, reduceBEq → κr, reduceBNe → κs, reducePow → κt
open Int renaming reduceToNat → κg, reduceLE → κh, reduceLT → κi, reduceAdd → κj, reduceSub → κk, reduceMul → κl, reduceNeg → κm, reduceBEq → κn, reduceBNe → κo, reduceEq → κp, reduceNe → κq
open Go Go.RowKit Go.Proofs.YtanahnknjboplaaDoor.Vm Go.Lib

theorem contN_cons (n : Int) (b : UInt8) (l : List UInt8) : contN n (b :: l) = contN (64 * n + (b.toNat : Int) % 64) l := rfl
theorem contN_le : ∀ (l : List UInt8) (n : Int), 0 ≤ n → 0 ≤ contN n l ∧ contN n l < (n + 1) * 64 ^ l.length
  | [], n, h => by simp only [contN, List.foldl_nil, List.length_nil]; omega
  | b :: l, n, h => by
    rw [contN_cons]
    obtain ⟨h1, h2⟩ := contN_le l (64 * n + (b.toNat : Int) % 64) (by omega)
    refine ⟨h1, Int.lt_of_lt_of_le h2 ?_⟩
    rw [List.length_cons, Int.pow_succ, Int.mul_comm (64 ^ l.length) 64, ← Int.mul_assoc]
    exact Int.mul_le_mul_of_nonneg_right (by omega) (Int.pow_nonneg (by omega))
theorem enc_rows {z : Int} (h0 : 0 ≤ z) (h1 : z < 256) : byteRow (z.toNat.toUInt8) = [V.int .u8 z] := by
  have := mod64 h0 h1
  unfold byteRow
  rw [this]
  congr 2; omega
set_option maxRecDepth 100000 in
theorem six_ev (n : Int) (up : Nat) (h0 : 0 ≤ n) (h1 : n ≤ 1114111) (hu : up ≤ 2) (nm : Nat) : Ev cx 132 nm [.int .i64 n, .int .i64 up] Mem.nil (.int .u8 (128 + n / 64 ^ up % 64)) [] := by
  refine ev_go (fun cargs w => Tryd.call132 cargs w) Tryd.func132 rfl mixed (by kernel_rfl) rfl ?_; intro b0 hb0
  repeat' first | simp only [Tryd.results132, Tryd.ntmps132, κt, wks, vcs, κa, κb, κc, κd, κe, κf, κg, κh, κi, κj, κk, κl, κm, reduceCtorEq, reduceIte, κn, κo, κp, κq, κr, κs, tys] | exact rfl | ((first | (refine call_val (g := ?_) ?_ ?_) | (refine call_valg (g := ?_) ?_ ?_)); rotate_left 1; (focus (simp only [Tryd.results132, Tryd.ntmps132, κt, wks, vcs, κa, κb, κc, κd, κe, κf, κg, κh, κi, κj, κk, κl, κm, reduceCtorEq, reduceIte, κn, κo, κp, κq, κr, κs, tys] <;> exact rfl))) | refine draw_end (by decide +kernel) ?_ | refine cond_bool (fun hb => ?_) (fun hb => ?_) | refine cond_bit (fun hb => ?_) (fun hb => ?_) | refine And.intro (by omega) ?_ | refine And.intro (fun hb => ?_) (fun hb => ?_) | fail
  (refine loop_can2 cxG (fun x : Nat => up - x) (fun x => x ≤ up) (b0 + 16) (fun x => [(0, .int .i64 (n / 64 ^ x)), (1, .int .i64 up), (5, .int .i64 x)]) (fun x => []) (0) [] ?_ ?_ ?_ ?_; rotate_left 1; (focus (show b0 ≤ _; omega)); (focus (refine ⟨?_, ?_⟩ <;> (try simp only [cans, Int.pow_zero, Int.ediv_one, vcs, κa, κb, κc, κd, κe, κf, κg, κh, κi, κj, κk, κl, κm, reduceCtorEq, reduceIte, κn, κo, κp, κq, κr, κs, tys, injs]) <;> (try omega))); rotate_left 1)
  · exact Nat.zero_le _
  · intro k hk
    have hp : (0:Int) ≤ n / 64 ^ k := Int.ediv_nonneg h0 (Int.pow_nonneg (by omega))
    have hp2 : n / 64 ^ k ≤ n := Int.ediv_le_self _ h0
    by_cases hlt : k < up
    · have hd : decide (k < up) = true := decide_eq_true hlt
      have ht : (n / 64 ^ k).tdiv 64 = n / 64 ^ (k + 1) := by
        rw [Int.tdiv_eq_ediv_of_nonneg hp, Int.pow_succ, Int.ediv_ediv_of_nonneg (Int.pow_nonneg (by omega))]
      have hw : IntKind.i64.wrap (n / 64 ^ (k + 1)) = n / 64 ^ (k + 1) := by
        rw [← ht, Int.tdiv_eq_ediv_of_nonneg hp]
        exact wrap_in (by omega) (by omega)
      have hwk : IntKind.i64.wrap ((k : Int) + 1) = ((k + 1 : Nat) : Int) := wrap_in (by omega) (by omega)
      repeat' first | simp only [Tryd.results132, Tryd.ntmps132, κt, wks, hd, ht, hw, hwk, vcs, κa, κb, κc, κd, κe, κf, κg, κh, κi, κj, κk, κl, κm, reduceCtorEq, reduceIte, κn, κo, κp, κq, κr, κs, tys] | exact rfl | ((first | (refine call_val (g := ?_) ?_ ?_) | (refine call_valg (g := ?_) ?_ ?_)); rotate_left 1; (focus (simp only [Tryd.results132, Tryd.ntmps132, κt, wks, hd, ht, hw, hwk, vcs, κa, κb, κc, κd, κe, κf, κg, κh, κi, κj, κk, κl, κm, reduceCtorEq, reduceIte, κn, κo, κp, κq, κr, κs, tys] <;> exact rfl))) | refine draw_end (by decide +kernel) ?_ | refine cond_bool (fun hb => ?_) (fun hb => ?_) | refine cond_bit (fun hb => ?_) (fun hb => ?_) | refine And.intro (by omega) ?_ | refine And.intro (fun hb => ?_) (fun hb => ?_) | fail
      ((refine again_can2 cxG (k + 1) [] ?_ ?_ ?_ ?_; rotate_left 2; (focus (show b0 ≤ _; omega)); (focus (refine ⟨?_, ?_⟩ <;> (try simp only [cans, hd, ht, hw, hwk, vcs, κa, κb, κc, κd, κe, κf, κg, κh, κi, κj, κk, κl, κm, reduceCtorEq, reduceIte, κn, κo, κp, κq, κr, κs, tys, injs]) <;> (try omega)))))
      all_goals (first | (show up - (k + 1) < up - k; omega) | (show k + 1 ≤ up; omega) | skip)
    · have hke : k = up := by omega
      subst hke
      have hd : decide (k < k) = false := decide_eq_false (by omega)
      have ht : (n / 64 ^ k).tmod 64 = n / 64 ^ k % 64 := Int.tmod_eq_emod_of_nonneg hp
      have hw1 : IntKind.i64.wrap (n / 64 ^ k % 64) = n / 64 ^ k % 64 := wrap_in (by omega) (by omega)
      have hw2 : IntKind.i64.wrap (128 + n / 64 ^ k % 64) = 128 + n / 64 ^ k % 64 := wrap_in (by omega) (by omega)
      have hw3 : IntKind.u8.wrap (128 + n / 64 ^ k % 64) = 128 + n / 64 ^ k % 64 := IntWalk.u8_in _ (by omega)
      ((repeat' first | simp only [Tryd.results132, Tryd.ntmps132, κt, wks, hd, ht, hw1, hw2, hw3, vcs, κa, κb, κc, κd, κe, κf, κg, κh, κi, κj, κk, κl, κm, reduceCtorEq, reduceIte, κn, κo, κp, κq, κr, κs, tys] | exact rfl | ((first | (refine call_val (g := ?_) ?_ ?_) | (refine call_valg (g := ?_) ?_ ?_)); rotate_left 1; (focus (simp only [Tryd.results132, Tryd.ntmps132, κt, wks, hd, ht, hw1, hw2, hw3, vcs, κa, κb, κc, κd, κe, κf, κg, κh, κi, κj, κk, κl, κm, reduceCtorEq, reduceIte, κn, κo, κp, κq, κr, κs, tys] <;> exact rfl))) | refine draw_end (by decide +kernel) ?_ | refine cond_bool (fun hb => ?_) (fun hb => ?_) | refine cond_bit (fun hb => ?_) (fun hb => ?_) | refine And.intro (by omega) ?_ | refine And.intro (fun hb => ?_) (fun hb => ?_) | fail); (all_goals (first | (refine Fin.pure ?_ ?_ ?_ <;> (try simp only [Tryd.results132, Tryd.ntmps132, wks, hd, ht, hw1, hw2, hw3, vcs, κa, κb, κc, κd, κe, κf, κg, κh, κi, κj, κk, κl, κm, reduceCtorEq, reduceIte, κn, κo, κp, κq, κr, κs, tys]) <;> (try simp only [injs])) | skip)))
theorem enc1 {z : Int} (h0 : 0 ≤ z) (h1 : z ≤ 127) : (encodeRune z).map byteRow = [[V.int .u8 z]] := by
  simp only [encodeRune, encodeRuneZ_one h0 h1, List.map_cons, List.map_nil]
  rw [enc_rows (by omega) (by omega)]
theorem enc2 {z : Int} (h0 : 128 ≤ z) (h1 : z ≤ 2047) : (encodeRune z).map byteRow = [[V.int .u8 (192 + z / 64)], [V.int .u8 (128 + z % 64)]] := by
  simp only [encodeRune, encodeRuneZ_two h0 h1, List.map_cons, List.map_nil]
  rw [enc_rows (by omega) (by omega), enc_rows (by omega) (by omega)]
theorem enc3 {z : Int} (h0 : (2048 ≤ z ∧ z < 55296) ∨ (57343 < z ∧ z ≤ 65535)) : (encodeRune z).map byteRow = [[V.int .u8 (224 + z / 4096)], [V.int .u8 (128 + z / 64 % 64)], [V.int .u8 (128 + z % 64)]] := by
  simp only [encodeRune, encodeRuneZ_three h0, List.map_cons, List.map_nil]
  rw [enc_rows (by omega) (by omega), enc_rows (by omega) (by omega), enc_rows (by omega) (by omega)]
theorem enc4 {z : Int} (h0 : 65536 ≤ z) (h1 : z ≤ 1114111) : (encodeRune z).map byteRow = [[V.int .u8 (240 + z / 262144)], [V.int .u8 (128 + z / 4096 % 64)], [V.int .u8 (128 + z / 64 % 64)], [V.int .u8 (128 + z % 64)]] := by
  simp only [encodeRune, encodeRuneZ_four h0 h1, List.map_cons, List.map_nil]
  rw [enc_rows (by omega) (by omega), enc_rows (by omega) (by omega), enc_rows (by omega) (by omega), enc_rows (by omega) (by omega)]
set_option maxRecDepth 100000 in
theorem rBytes_ev (n : Int) (hm : may n = true) (nm : Nat) : Ev cx 125 nm [.int .i64 n] Mem.nil (.sl false 1 ((encodeRune n).map byteRow)) [] := by
  have hmz := (may_iff n).1 hm
  have h0 : 0 ≤ n := by omega
  have hm1 : n ≤ 1114111 := by omega
  have q1 : n.tdiv 64 = n / 64 := Int.tdiv_eq_ediv_of_nonneg h0
  have q2 : n.tdiv 4096 = n / 4096 := Int.tdiv_eq_ediv_of_nonneg h0
  have q3 : n.tdiv 262144 = n / 262144 := Int.tdiv_eq_ediv_of_nonneg h0
  have w1 : IntKind.i64.wrap (n / 64) = n / 64 := wrap_in (by omega) (by omega)
  have w2 : IntKind.i64.wrap (n / 4096) = n / 4096 := wrap_in (by omega) (by omega)
  have w3 : IntKind.i64.wrap (n / 262144) = n / 262144 := wrap_in (by omega) (by omega)
  have u1 : IntKind.i64.wrap (192 + n / 64) = 192 + n / 64 := wrap_in (by omega) (by omega)
  have u2 : IntKind.i64.wrap (224 + n / 4096) = 224 + n / 4096 := wrap_in (by omega) (by omega)
  have u3 : IntKind.i64.wrap (240 + n / 262144) = 240 + n / 262144 := wrap_in (by omega) (by omega)
  have s0 := six_ev n 0 h0 hm1 (by omega)
  have s1 := six_ev n 1 h0 hm1 (by omega)
  have s2 := six_ev n 2 h0 hm1 (by omega)
  simp only [Int.pow_zero, Int.ediv_one, Int.pow_one, Int.ofNat_zero, Int.ofNat_one, show (64:Int) ^ 1 = 64 from rfl, show (64:Int) ^ 2 = 4096 from rfl, show ((0:Nat):Int) = 0 from rfl, show ((1:Nat):Int) = 1 from rfl, show ((2:Nat):Int) = 2 from rfl] at s0 s1 s2
  by_cases c1 : n < 128
  · have d1 : decide (n < 128) = true := decide_eq_true c1
    have v1 : IntKind.u8.wrap n = n := IntWalk.u8_in _ (by omega)
    rw [enc1 h0 (by omega)]
    refine ev_go (fun cargs w => Tryd.call125 cargs w) Tryd.func125 rfl mixed (by kernel_rfl) rfl ?_; intro b0 hb0
    ((repeat' first | simp only [Tryd.results125, Tryd.ntmps125, κt, wks, d1, v1, vcs, κa, κb, κc, κd, κe, κf, κg, κh, κi, κj, κk, κl, κm, reduceCtorEq, reduceIte, κn, κo, κp, κq, κr, κs, tys] | exact rfl | ((first | (refine call_val (g := ?_) ?_ ?_) | (refine call_valg (g := ?_) ?_ ?_)); rotate_left 1; (focus (simp only [Tryd.results125, Tryd.ntmps125, κt, wks, d1, v1, vcs, κa, κb, κc, κd, κe, κf, κg, κh, κi, κj, κk, κl, κm, reduceCtorEq, reduceIte, κn, κo, κp, κq, κr, κs, tys] <;> exact rfl))) | refine draw_end (by decide +kernel) ?_ | refine cond_bool (fun hb => ?_) (fun hb => ?_) | refine cond_bit (fun hb => ?_) (fun hb => ?_) | refine And.intro (by omega) ?_ | refine And.intro (fun hb => ?_) (fun hb => ?_) | fail); (all_goals (first | (refine Fin.pure ?_ ?_ ?_ <;> (try simp only [Tryd.results125, Tryd.ntmps125, wks, d1, v1, vcs, κa, κb, κc, κd, κe, κf, κg, κh, κi, κj, κk, κl, κm, reduceCtorEq, reduceIte, κn, κo, κp, κq, κr, κs, tys]) <;> (try simp only [injs])) | skip)))
  by_cases c2 : n < 2048
  · have d1 : decide (n < 128) = false := decide_eq_false c1
    have d2 : decide (n < 2048) = true := decide_eq_true c2
    have v1 : IntKind.u8.wrap (192 + n / 64) = 192 + n / 64 := IntWalk.u8_in _ (by omega)
    rw [enc2 (by omega) (by omega)]
    refine ev_go (fun cargs w => Tryd.call125 cargs w) Tryd.func125 rfl mixed (by kernel_rfl) rfl ?_; intro b0 hb0
    ((repeat' first | simp only [Tryd.results125, Tryd.ntmps125, κt, wks, d1, d2, q1, w1, u1, v1, vcs, κa, κb, κc, κd, κe, κf, κg, κh, κi, κj, κk, κl, κm, reduceCtorEq, reduceIte, κn, κo, κp, κq, κr, κs, tys] | exact rfl | ((first | (refine call_fn ?_ (s0 _) ?_) | (refine call_fn_g ?_ (fun _ => s0 _) ?_)); (focus (simp only [Tryd.results125, Tryd.ntmps125, κt, wks, d1, d2, q1, w1, u1, v1, vcs, κa, κb, κc, κd, κe, κf, κg, κh, κi, κj, κk, κl, κm, reduceCtorEq, reduceIte, κn, κo, κp, κq, κr, κs, tys] <;> exact rfl))) | ((first | (refine call_val (g := ?_) ?_ ?_) | (refine call_valg (g := ?_) ?_ ?_)); rotate_left 1; (focus (simp only [Tryd.results125, Tryd.ntmps125, κt, wks, d1, d2, q1, w1, u1, v1, vcs, κa, κb, κc, κd, κe, κf, κg, κh, κi, κj, κk, κl, κm, reduceCtorEq, reduceIte, κn, κo, κp, κq, κr, κs, tys] <;> exact rfl))) | refine draw_end (by decide +kernel) ?_ | refine cond_bool (fun hb => ?_) (fun hb => ?_) | refine cond_bit (fun hb => ?_) (fun hb => ?_) | refine And.intro (by omega) ?_ | refine And.intro (fun hb => ?_) (fun hb => ?_) | fail); (all_goals (first | (refine Fin.pure ?_ ?_ ?_ <;> (try simp only [Tryd.results125, Tryd.ntmps125, wks, d1, d2, q1, w1, u1, v1, vcs, κa, κb, κc, κd, κe, κf, κg, κh, κi, κj, κk, κl, κm, reduceCtorEq, reduceIte, κn, κo, κp, κq, κr, κs, tys]) <;> (try simp only [injs])) | skip)))
  by_cases c3 : n < 65536
  · have d1 : decide (n < 128) = false := decide_eq_false c1
    have d2 : decide (n < 2048) = false := decide_eq_false c2
    have d3 : decide (n < 65536) = true := decide_eq_true c3
    have v1 : IntKind.u8.wrap (224 + n / 4096) = 224 + n / 4096 := IntWalk.u8_in _ (by omega)
    rw [enc3 (by omega)]
    refine ev_go (fun cargs w => Tryd.call125 cargs w) Tryd.func125 rfl mixed (by kernel_rfl) rfl ?_; intro b0 hb0
    ((repeat' first | simp only [Tryd.results125, Tryd.ntmps125, κt, wks, d1, d2, d3, q2, w2, u2, v1, vcs, κa, κb, κc, κd, κe, κf, κg, κh, κi, κj, κk, κl, κm, reduceCtorEq, reduceIte, κn, κo, κp, κq, κr, κs, tys] | exact rfl | ((first | (refine call_fn ?_ (s0 _) ?_) | (refine call_fn_g ?_ (fun _ => s0 _) ?_)); (focus (simp only [Tryd.results125, Tryd.ntmps125, κt, wks, d1, d2, d3, q2, w2, u2, v1, vcs, κa, κb, κc, κd, κe, κf, κg, κh, κi, κj, κk, κl, κm, reduceCtorEq, reduceIte, κn, κo, κp, κq, κr, κs, tys] <;> exact rfl))) | ((first | (refine call_fn ?_ (s1 _) ?_) | (refine call_fn_g ?_ (fun _ => s1 _) ?_)); (focus (simp only [Tryd.results125, Tryd.ntmps125, κt, wks, d1, d2, d3, q2, w2, u2, v1, vcs, κa, κb, κc, κd, κe, κf, κg, κh, κi, κj, κk, κl, κm, reduceCtorEq, reduceIte, κn, κo, κp, κq, κr, κs, tys] <;> exact rfl))) | ((first | (refine call_val (g := ?_) ?_ ?_) | (refine call_valg (g := ?_) ?_ ?_)); rotate_left 1; (focus (simp only [Tryd.results125, Tryd.ntmps125, κt, wks, d1, d2, d3, q2, w2, u2, v1, vcs, κa, κb, κc, κd, κe, κf, κg, κh, κi, κj, κk, κl, κm, reduceCtorEq, reduceIte, κn, κo, κp, κq, κr, κs, tys] <;> exact rfl))) | refine draw_end (by decide +kernel) ?_ | refine cond_bool (fun hb => ?_) (fun hb => ?_) | refine cond_bit (fun hb => ?_) (fun hb => ?_) | refine And.intro (by omega) ?_ | refine And.intro (fun hb => ?_) (fun hb => ?_) | fail); (all_goals (first | (refine Fin.pure ?_ ?_ ?_ <;> (try simp only [Tryd.results125, Tryd.ntmps125, wks, d1, d2, d3, q2, w2, u2, v1, vcs, κa, κb, κc, κd, κe, κf, κg, κh, κi, κj, κk, κl, κm, reduceCtorEq, reduceIte, κn, κo, κp, κq, κr, κs, tys]) <;> (try simp only [injs])) | skip)))
  · have d1 : decide (n < 128) = false := decide_eq_false c1
    have d2 : decide (n < 2048) = false := decide_eq_false c2
    have d3 : decide (n < 65536) = false := decide_eq_false c3
    have v1 : IntKind.u8.wrap (240 + n / 262144) = 240 + n / 262144 := IntWalk.u8_in _ (by omega)
    rw [enc4 (by omega) (by omega)]
    refine ev_go (fun cargs w => Tryd.call125 cargs w) Tryd.func125 rfl mixed (by kernel_rfl) rfl ?_; intro b0 hb0
    ((repeat' first | simp only [Tryd.results125, Tryd.ntmps125, κt, wks, d1, d2, d3, q3, w3, u3, v1, vcs, κa, κb, κc, κd, κe, κf, κg, κh, κi, κj, κk, κl, κm, reduceCtorEq, reduceIte, κn, κo, κp, κq, κr, κs, tys] | exact rfl | ((first | (refine call_fn ?_ (s0 _) ?_) | (refine call_fn_g ?_ (fun _ => s0 _) ?_)); (focus (simp only [Tryd.results125, Tryd.ntmps125, κt, wks, d1, d2, d3, q3, w3, u3, v1, vcs, κa, κb, κc, κd, κe, κf, κg, κh, κi, κj, κk, κl, κm, reduceCtorEq, reduceIte, κn, κo, κp, κq, κr, κs, tys] <;> exact rfl))) | ((first | (refine call_fn ?_ (s1 _) ?_) | (refine call_fn_g ?_ (fun _ => s1 _) ?_)); (focus (simp only [Tryd.results125, Tryd.ntmps125, κt, wks, d1, d2, d3, q3, w3, u3, v1, vcs, κa, κb, κc, κd, κe, κf, κg, κh, κi, κj, κk, κl, κm, reduceCtorEq, reduceIte, κn, κo, κp, κq, κr, κs, tys] <;> exact rfl))) | ((first | (refine call_fn ?_ (s2 _) ?_) | (refine call_fn_g ?_ (fun _ => s2 _) ?_)); (focus (simp only [Tryd.results125, Tryd.ntmps125, κt, wks, d1, d2, d3, q3, w3, u3, v1, vcs, κa, κb, κc, κd, κe, κf, κg, κh, κi, κj, κk, κl, κm, reduceCtorEq, reduceIte, κn, κo, κp, κq, κr, κs, tys] <;> exact rfl))) | ((first | (refine call_val (g := ?_) ?_ ?_) | (refine call_valg (g := ?_) ?_ ?_)); rotate_left 1; (focus (simp only [Tryd.results125, Tryd.ntmps125, κt, wks, d1, d2, d3, q3, w3, u3, v1, vcs, κa, κb, κc, κd, κe, κf, κg, κh, κi, κj, κk, κl, κm, reduceCtorEq, reduceIte, κn, κo, κp, κq, κr, κs, tys] <;> exact rfl))) | refine draw_end (by decide +kernel) ?_ | refine cond_bool (fun hb => ?_) (fun hb => ?_) | refine cond_bit (fun hb => ?_) (fun hb => ?_) | refine And.intro (by omega) ?_ | refine And.intro (fun hb => ?_) (fun hb => ?_) | fail); (all_goals (first | (refine Fin.pure ?_ ?_ ?_ <;> (try simp only [Tryd.results125, Tryd.ntmps125, wks, d1, d2, d3, q3, w3, u3, v1, vcs, κa, κb, κc, κd, κe, κf, κg, κh, κi, κj, κk, κl, κm, reduceCtorEq, reduceIte, κn, κo, κp, κq, κr, κs, tys]) <;> (try simp only [injs])) | skip)))
end Go.Proofs.YtanahnknjboplaaDoor
