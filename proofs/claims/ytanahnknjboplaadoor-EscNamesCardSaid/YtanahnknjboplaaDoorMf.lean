/-
  Texts joined: XTy, XEp, XEq, XEr, XEs, XEx, XEn, XEa, XEc, XEd, XEh, XEt, XGa, XGb, XGc, XGd.
-/
import Derived.Test.YtanahnknjboplaaDoorChecked
import Derived.Lib.RuneBytes
import Derived.Lib.MapLaws
import Derived.Lib.RuneCountTail
import Derived.Lib.IndexLaws
import Derived.Test.YtanahnknjboplaaDoorMe
/-
  Facts on the program's types. (Printed by Facts.lean.)
-/
namespace Go.Proofs.YtanahnknjboplaaDoor
open Go Go.RowKit Go.Proofs.YtanahnknjboplaaDoor.Vm
noncomputable def cx : Cx := ⟨Tryd.prog, fun _ => .any⟩
theorem cxG : ∀ g, (cx.G g).plain = true := fun _ => rfl
theorem mixed : cx.P.follows .mixedOrders = true := by kernel_rfl
theorem lenKind_string {P : Program} {t : TypeId} (h : P.underlying t = some .string) : lenKind P t = true := by simp [lenKind, h]
theorem und_22 : cx.P.underlying 22 = some (.slice 26) := by kernel_rfl
theorem el_22 : elInfo cx.P 22 = some ([.int .u8 0, .str [], .nils, .str []], 64) := by kernel_rfl
theorem lk_22 : lenKind cx.P 22 = true := by kernel_rfl
theorem et_22 : elemT cx.P 22 = some 26 := by kernel_rfl
theorem bet_22 : betT cx.P 22 = none := by kernel_rfl
theorem und_3 : cx.P.underlying 3 = some (.int .i64) := by kernel_rfl
theorem elm_22 : elm cx.P 22 = some (none, 4, true) := by kernel_rfl
theorem ty_26 : ty cx.P 26 = some (4, true) := by kernel_rfl
theorem zero_26 : zeroL cx.P 26 = some [.int .u8 0, .str [], .nils, .str []] := by kernel_rfl
theorem bld_26 : bldT cx.P 26 = none := by kernel_rfl
theorem el_24 : elInfo cx.P 24 = some ([.str [], .str []], 32) := by kernel_rfl
theorem fld_26_2 : fld cx.P 26 2 = some (2, 1, false) := by kernel_rfl
theorem ty_24 : ty cx.P 24 = some (1, false) := by kernel_rfl
theorem und_24 : cx.P.underlying 24 = some (.slice 55) := by kernel_rfl
theorem lk_24 : lenKind cx.P 24 = true := by kernel_rfl
theorem et_24 : elemT cx.P 24 = some 55 := by kernel_rfl
theorem bet_24 : betT cx.P 24 = none := by kernel_rfl
theorem el_36 : elInfo cx.P 36 = some ([.int .u8 0], 1) := by kernel_rfl
theorem elm_36 : elm cx.P 36 = some (none, 1, false) := by kernel_rfl
theorem und_36 : cx.P.underlying 36 = some (.slice 5) := by kernel_rfl
theorem lk_36 : lenKind cx.P 36 = true := by kernel_rfl
theorem et_36 : elemT cx.P 36 = some 5 := by kernel_rfl
theorem bet_36 : betT cx.P 36 = some 5 := by kernel_rfl
theorem ty_5 : ty cx.P 5 = some (1, false) := by kernel_rfl
theorem und_9 : cx.P.underlying 9 = some .string := by kernel_rfl
theorem bt_36 : bytesT cx.P 36 = true := by kernel_rfl
theorem und_28 : cx.P.underlying 28 = some (.int .i64) := by kernel_rfl
theorem lk_9 : lenKind cx.P 9 = true := by kernel_rfl
theorem und_5 : cx.P.underlying 5 = some (.int .u8) := by kernel_rfl
theorem el_51 : elInfo cx.P 51 = some ([.int .i64 0], 8) := by kernel_rfl
theorem fld_26_1 : fld cx.P 26 1 = some (1, 1, false) := by kernel_rfl
theorem ty_9 : ty cx.P 9 = some (1, false) := by kernel_rfl
theorem fld_26_3 : fld cx.P 26 3 = some (3, 1, false) := by kernel_rfl
theorem elm_24 : elm cx.P 24 = some (none, 2, true) := by kernel_rfl
theorem fld_55_0 : fld cx.P 55 0 = some (0, 1, false) := by kernel_rfl
theorem fld_55_1 : fld cx.P 55 1 = some (1, 1, false) := by kernel_rfl
theorem shape_61 : shapeT cx.P 61 = some ([.nils, .nils, .int .u8 0], [(0, 1), (1, 1), (2, 1)]) := by kernel_rfl
theorem fld_26_0 : fld cx.P 26 0 = some (0, 1, false) := by kernel_rfl
theorem fld_61_2 : fld cx.P 61 2 = some (2, 1, false) := by kernel_rfl
theorem fld_61_0 : fld cx.P 61 0 = some (0, 1, false) := by kernel_rfl
theorem ty_27 : ty cx.P 27 = some (1, false) := by kernel_rfl
theorem und_27 : cx.P.underlying 27 = some (.slice 68) := by kernel_rfl
theorem el_27 : elInfo cx.P 27 = some ([.int .u8 0, .str [], .str [], .nils, .str [], .int .i64 0], 88) := by kernel_rfl
theorem lk_27 : lenKind cx.P 27 = true := by kernel_rfl
theorem et_27 : elemT cx.P 27 = some 68 := by kernel_rfl
theorem bet_27 : betT cx.P 27 = none := by kernel_rfl
theorem fld_61_1 : fld cx.P 61 1 = some (1, 1, false) := by kernel_rfl
theorem ty_51 : ty cx.P 51 = some (1, false) := by kernel_rfl
theorem und_51 : cx.P.underlying 51 = some (.slice 3) := by kernel_rfl
theorem lk_51 : lenKind cx.P 51 = true := by kernel_rfl
theorem et_51 : elemT cx.P 51 = some 3 := by kernel_rfl
theorem bet_51 : betT cx.P 51 = none := by kernel_rfl
theorem zero_63 : zeroL cx.P 63 = some [.nils, .nils] := by kernel_rfl
theorem bld_63 : bldT cx.P 63 = none := by kernel_rfl
theorem ty_63 : ty cx.P 63 = some (2, true) := by kernel_rfl
theorem fld_63_0 : fld cx.P 63 0 = some (0, 1, false) := by kernel_rfl
theorem fld_63_1 : fld cx.P 63 1 = some (1, 1, false) := by kernel_rfl
theorem elm_27 : elm cx.P 27 = some (none, 6, true) := by kernel_rfl
theorem fld_68_0 : fld cx.P 68 0 = some (0, 1, false) := by kernel_rfl
theorem fld_68_1 : fld cx.P 68 1 = some (1, 1, false) := by kernel_rfl
theorem fld_68_2 : fld cx.P 68 2 = some (2, 1, false) := by kernel_rfl
theorem fld_68_4 : fld cx.P 68 4 = some (4, 1, false) := by kernel_rfl
theorem fld_68_5 : fld cx.P 68 5 = some (5, 1, false) := by kernel_rfl
theorem ty_3 : ty cx.P 3 = some (1, false) := by kernel_rfl
theorem fld_68_3 : fld cx.P 68 3 = some (3, 1, false) := by kernel_rfl
theorem ty_66 : ty cx.P 66 = some (1, false) := by kernel_rfl
theorem zero_75 : zeroL cx.P 75 = some [.nilp, .nils] := by kernel_rfl
theorem bld_75 : bldT cx.P 75 = some 75 := by kernel_rfl
theorem zero_77 : zeroL cx.P 77 = some [.str []] := by kernel_rfl
theorem bld_77 : bldT cx.P 77 = none := by kernel_rfl
theorem ty_77 : ty cx.P 77 = some (1, true) := by kernel_rfl
theorem fld_77_0 : fld cx.P 77 0 = some (0, 1, false) := by kernel_rfl
theorem shape_88 : shapeT cx.P 88 = some ([.str [], .nils], [(0, 1), (1, 1)]) := by kernel_rfl
theorem fld_88_0 : fld cx.P 88 0 = some (0, 1, false) := by kernel_rfl
theorem fld_88_1 : fld cx.P 88 1 = some (1, 1, false) := by kernel_rfl
theorem ty_36 : ty cx.P 36 = some (1, false) := by kernel_rfl
theorem zero_93 : zeroL cx.P 93 = some [.int .u8 0, .int .u8 0] := by kernel_rfl
theorem bld_93 : bldT cx.P 93 = none := by kernel_rfl
theorem ty_93 : ty cx.P 93 = some (2, true) := by kernel_rfl
theorem elm_93 : elm cx.P 93 = some (some 2, 1, false) := by kernel_rfl
theorem zero_36 : zeroL cx.P 36 = some [.nils] := by kernel_rfl
theorem bld_36 : bldT cx.P 36 = none := by kernel_rfl
theorem elm_51 : elm cx.P 51 = some (none, 1, false) := by kernel_rfl
theorem und_21 : cx.P.underlying 21 = some (.int .i32) := by kernel_rfl
theorem ty_55 : ty cx.P 55 = some (2, true) := by kernel_rfl
theorem zero_55 : zeroL cx.P 55 = some [.str [], .str []] := by kernel_rfl
theorem bld_55 : bldT cx.P 55 = none := by kernel_rfl
theorem shape_68 : shapeT cx.P 68 = some ([.int .u8 0, .str [], .str [], .nils, .str [], .int .i64 0], [(0, 1), (1, 1), (2, 1), (3, 1), (4, 1), (5, 1)]) := by kernel_rfl
theorem zero_68 : zeroL cx.P 68 = some [.int .u8 0, .str [], .str [], .nils, .str [], .int .i64 0] := by kernel_rfl
theorem bld_68 : bldT cx.P 68 = none := by kernel_rfl
theorem ty_68 : ty cx.P 68 = some (6, true) := by kernel_rfl
theorem shape_102 : shapeT cx.P 102 = some ([.str [], .str [], .str []], [(0, 1), (1, 1), (2, 1)]) := by kernel_rfl
theorem el_66 : elInfo cx.P 66 = some ([.str [], .str [], .str []], 48) := by kernel_rfl
theorem und_66 : cx.P.underlying 66 = some (.slice 102) := by kernel_rfl
theorem lk_66 : lenKind cx.P 66 = true := by kernel_rfl
theorem et_66 : elemT cx.P 66 = some 102 := by kernel_rfl
theorem bet_66 : betT cx.P 66 = none := by kernel_rfl
theorem elm_66 : elm cx.P 66 = some (none, 3, true) := by kernel_rfl
theorem ty_102 : ty cx.P 102 = some (3, true) := by kernel_rfl
theorem feq_102 : flatEq cx.P 102 = some [(0, 1), (1, 1), (2, 1)] := by kernel_rfl
theorem feq_55 : flatEq cx.P 55 = some [(0, 1), (1, 1)] := by kernel_rfl
theorem shape_77 : shapeT cx.P 77 = some ([.str []], [(0, 1)]) := by kernel_rfl
theorem fld_75_1 : fld cx.P 75 1 = some (1, 1, false) := by kernel_rfl
theorem und_109 : cx.P.underlying 109 = some (.pointer 5) := by kernel_rfl
theorem shape_116 : shapeT cx.P 116 = some ([.str [], .val .nilFunc], [(0, 1), (1, 1)]) := by kernel_rfl
theorem el_117 : elInfo cx.P 117 = some ([.str [], .val .nilFunc], 24) := by kernel_rfl
theorem und_117 : cx.P.underlying 117 = some (.slice 116) := by kernel_rfl
theorem lk_117 : lenKind cx.P 117 = true := by kernel_rfl
theorem et_117 : elemT cx.P 117 = some 116 := by kernel_rfl
theorem bet_117 : betT cx.P 117 = none := by kernel_rfl
theorem elm_117 : elm cx.P 117 = some (none, 2, true) := by kernel_rfl
theorem ty_116 : ty cx.P 116 = some (2, true) := by kernel_rfl
theorem zero_116 : zeroL cx.P 116 = some [.str [], .val .nilFunc] := by kernel_rfl
theorem bld_116 : bldT cx.P 116 = none := by kernel_rfl
theorem fld_116_0 : fld cx.P 116 0 = some (0, 1, false) := by kernel_rfl
theorem fld_116_1 : fld cx.P 116 1 = some (1, 1, false) := by kernel_rfl
theorem ty_114 : ty cx.P 114 = some (1, false) := by kernel_rfl
theorem shape_93 : shapeT cx.P 93 = some ([.int .u8 0, .int .u8 0], [(0, 1), (1, 1)]) := by kernel_rfl
theorem und_121 : cx.P.underlying 121 = some (.int .u32) := by kernel_rfl
theorem zero_125 : zeroL cx.P 125 = some [.bool false, .bool false, .bool false, .bool false, .bool false, .bool false, .bool false, .bool false, .bool false, .bool false, .bool false, .bool false, .bool false, .bool false, .bool false, .bool false, .bool false, .bool false, .bool false, .bool false, .bool false, .bool false, .bool false, .bool false, .bool false, .bool false, .bool false, .bool false, .bool false, .bool false, .bool false, .bool false, .bool false, .bool false, .bool false, .bool false, .bool false, .bool false, .bool false, .bool false, .bool false, .bool false, .bool false, .bool false, .bool false, .bool false, .bool false, .bool false, .bool false, .bool false, .bool false, .bool false, .bool false, .bool false, .bool false, .bool false, .bool false, .bool false, .bool false, .bool false, .bool false, .bool false, .bool false, .bool false, .bool false, .bool false, .bool false, .bool false, .bool false, .bool false, .bool false, .bool false, .bool false, .bool false, .bool false, .bool false, .bool false, .bool false, .bool false, .bool false, .bool false, .bool false, .bool false, .bool false, .bool false, .bool false, .bool false, .bool false, .bool false, .bool false, .bool false, .bool false, .bool false, .bool false, .bool false, .bool false, .bool false, .bool false, .bool false, .bool false, .bool false, .bool false, .bool false, .bool false, .bool false, .bool false, .bool false, .bool false, .bool false, .bool false, .bool false, .bool false, .bool false, .bool false, .bool false, .bool false, .bool false, .bool false, .bool false, .bool false, .bool false, .bool false, .bool false, .bool false, .bool false, .bool false, .bool false, .bool false, .bool false, .bool false, .bool false, .bool false, .bool false, .bool false, .bool false, .bool false, .bool false, .bool false, .bool false, .bool false, .bool false, .bool false, .bool false, .bool false, .bool false, .bool false, .bool false, .bool false, .bool false, .bool false, .bool false, .bool false, .bool false, .bool false, .bool false, .bool false, .bool false, .bool false, .bool false, .bool false, .bool false, .bool false, .bool false, .bool false, .bool false, .bool false, .bool false, .bool false, .bool false, .bool false, .bool false, .bool false, .bool false, .bool false, .bool false, .bool false, .bool false, .bool false, .bool false, .bool false, .bool false, .bool false, .bool false, .bool false, .bool false, .bool false, .bool false, .bool false, .bool false, .bool false, .bool false, .bool false, .bool false, .bool false, .bool false, .bool false, .bool false, .bool false, .bool false, .bool false, .bool false, .bool false, .bool false, .bool false, .bool false, .bool false, .bool false, .bool false, .bool false, .bool false, .bool false, .bool false, .bool false, .bool false, .bool false, .bool false, .bool false, .bool false, .bool false, .bool false, .bool false, .bool false, .bool false, .bool false, .bool false, .bool false, .bool false, .bool false, .bool false, .bool false, .bool false, .bool false, .bool false, .bool false, .bool false, .bool false, .bool false, .bool false, .bool false, .bool false, .bool false, .bool false, .bool false, .bool false, .bool false, .bool false, .bool false, .bool false, .bool false, .bool false, .bool false, .bool false, .bool false, .bool false, .bool false, .bool false] := by kernel_rfl
theorem bld_125 : bldT cx.P 125 = none := by kernel_rfl
theorem ty_125 : ty cx.P 125 = some (256, true) := by kernel_rfl
theorem fld_75_0 : fld cx.P 75 0 = some (0, 1, false) := by kernel_rfl
theorem ty_73 : ty cx.P 73 = some (1, false) := by kernel_rfl
theorem und_73 : cx.P.underlying 73 = some (.pointer 75) := by kernel_rfl
theorem und_132 : cx.P.underlying 132 = some .unsafePointer := by kernel_rfl
theorem und_134 : cx.P.underlying 134 = some (.int .u64) := by kernel_rfl
theorem elm_125 : elm cx.P 125 = some (some 256, 1, false) := by kernel_rfl
theorem ty_4 : ty cx.P 4 = some (1, false) := by kernel_rfl
theorem und_2 : cx.P.underlying 2 = some (.int .i64) := by kernel_rfl
theorem zero_149 : zeroL cx.P 149 = some [.int .u8 0, .int .u8 0, .int .u8 0, .int .u8 0, .int .u8 0, .int .u8 0, .int .u8 0, .int .u8 0, .int .u8 0, .int .u8 0, .int .u8 0, .int .u8 0, .int .u8 0, .int .u8 0, .int .u8 0, .int .u8 0, .int .u8 0, .int .u8 0, .int .u8 0, .int .u8 0, .int .u8 0, .int .u8 0, .int .u8 0, .int .u8 0] := by kernel_rfl
theorem bld_149 : bldT cx.P 149 = none := by kernel_rfl
theorem elm_149 : elm cx.P 149 = some (some 24, 1, false) := by kernel_rfl
theorem und_49 : cx.P.underlying 49 = some (.int .u64) := by kernel_rfl
theorem elm_165 : elm cx.P 165 = some (some 20, 1, false) := by kernel_rfl
theorem ty_134 : ty cx.P 134 = some (1, false) := by kernel_rfl
theorem zero_166 : zeroL cx.P 166 = some [.int .u8 0, .int .u8 0, .int .u8 0, .int .u8 0, .int .u8 0, .int .u8 0, .int .u8 0, .int .u8 0, .int .u8 0, .int .u8 0, .int .u8 0, .int .u8 0, .int .u8 0, .int .u8 0, .int .u8 0, .int .u8 0, .int .u8 0, .int .u8 0, .int .u8 0, .int .u8 0, .int .u8 0, .int .u8 0, .int .u8 0, .int .u8 0, .int .u8 0, .int .u8 0, .int .u8 0, .int .u8 0, .int .u8 0, .int .u8 0, .int .u8 0, .int .u8 0, .int .u8 0, .int .u8 0, .int .u8 0, .int .u8 0, .int .u8 0, .int .u8 0, .int .u8 0, .int .u8 0, .int .u8 0, .int .u8 0, .int .u8 0, .int .u8 0, .int .u8 0, .int .u8 0, .int .u8 0, .int .u8 0, .int .u8 0, .int .u8 0, .int .u8 0, .int .u8 0, .int .u8 0, .int .u8 0, .int .u8 0, .int .u8 0, .int .u8 0, .int .u8 0, .int .u8 0, .int .u8 0, .int .u8 0, .int .u8 0, .int .u8 0, .int .u8 0, .int .u8 0] := by kernel_rfl
theorem bld_166 : bldT cx.P 166 = none := by kernel_rfl
theorem elm_166 : elm cx.P 166 = some (some 65, 1, false) := by kernel_rfl
theorem elm_168 : elm cx.P 168 = some (some 256, 1, false) := by kernel_rfl
theorem elm_171 : elm cx.P 171 = some (some 16, 2, true) := by kernel_rfl
theorem ty_170 : ty cx.P 170 = some (2, true) := by kernel_rfl
theorem zero_170 : zeroL cx.P 170 = some [.int .u8 0, .int .u8 0] := by kernel_rfl
theorem bld_170 : bldT cx.P 170 = none := by kernel_rfl
theorem fld_170_0 : fld cx.P 170 0 = some (0, 1, false) := by kernel_rfl
theorem fld_170_1 : fld cx.P 170 1 = some (1, 1, false) := by kernel_rfl
theorem ty_80 : ty cx.P 80 = some (1, false) := by kernel_rfl
theorem shape_178 : shapeT cx.P 178 = some ([.str [], .str [], .val .nilIface], [(0, 1), (1, 1), (2, 1)]) := by kernel_rfl
theorem elm_185 : elm cx.P 185 = some (some 32, 1, false) := by kernel_rfl
theorem elm_186 : elm cx.P 186 = some (some 64, 1, false) := by kernel_rfl
set_option linter.defProp false in
def tys := (And.intro und_22 (And.intro el_22 (And.intro lk_22 (And.intro et_22 (And.intro bet_22 (And.intro und_3 (And.intro elm_22 (And.intro ty_26 (And.intro zero_26 (And.intro bld_26 (And.intro el_24 (And.intro fld_26_2 (And.intro ty_24 (And.intro und_24 (And.intro lk_24 (And.intro et_24 (And.intro bet_24 (And.intro el_36 (And.intro elm_36 (And.intro und_36 (And.intro lk_36 (And.intro et_36 (And.intro bet_36 (And.intro ty_5 (And.intro und_9 (And.intro bt_36 (And.intro und_28 (And.intro lk_9 (And.intro und_5 (And.intro el_51 (And.intro fld_26_1 (And.intro ty_9 (And.intro fld_26_3 (And.intro elm_24 (And.intro fld_55_0 (And.intro fld_55_1 (And.intro shape_61 (And.intro fld_26_0 (And.intro fld_61_2 (And.intro fld_61_0 (And.intro ty_27 (And.intro und_27 (And.intro el_27 (And.intro lk_27 (And.intro et_27 (And.intro bet_27 (And.intro fld_61_1 (And.intro ty_51 (And.intro und_51 (And.intro lk_51 (And.intro et_51 (And.intro bet_51 (And.intro zero_63 (And.intro bld_63 (And.intro ty_63 (And.intro fld_63_0 (And.intro fld_63_1 (And.intro elm_27 (And.intro fld_68_0 (And.intro fld_68_1 (And.intro fld_68_2 (And.intro fld_68_4 (And.intro fld_68_5 (And.intro ty_3 (And.intro fld_68_3 (And.intro ty_66 (And.intro zero_75 (And.intro bld_75 (And.intro zero_77 (And.intro bld_77 (And.intro ty_77 (And.intro fld_77_0 (And.intro shape_88 (And.intro fld_88_0 (And.intro fld_88_1 (And.intro ty_36 (And.intro zero_93 (And.intro bld_93 (And.intro ty_93 (And.intro elm_93 (And.intro zero_36 (And.intro bld_36 (And.intro elm_51 (And.intro und_21 (And.intro ty_55 (And.intro zero_55 (And.intro bld_55 (And.intro shape_68 (And.intro zero_68 (And.intro bld_68 (And.intro ty_68 (And.intro shape_102 (And.intro el_66 (And.intro und_66 (And.intro lk_66 (And.intro et_66 (And.intro bet_66 (And.intro elm_66 (And.intro ty_102 (And.intro feq_102 (And.intro feq_55 (And.intro shape_77 (And.intro fld_75_1 (And.intro und_109 (And.intro shape_116 (And.intro el_117 (And.intro und_117 (And.intro lk_117 (And.intro et_117 (And.intro bet_117 (And.intro elm_117 (And.intro ty_116 (And.intro zero_116 (And.intro bld_116 (And.intro fld_116_0 (And.intro fld_116_1 (And.intro ty_114 (And.intro shape_93 (And.intro und_121 (And.intro zero_125 (And.intro bld_125 (And.intro ty_125 (And.intro fld_75_0 (And.intro ty_73 (And.intro und_73 (And.intro und_132 (And.intro und_134 (And.intro elm_125 (And.intro ty_4 (And.intro und_2 (And.intro zero_149 (And.intro bld_149 (And.intro elm_149 (And.intro und_49 (And.intro elm_165 (And.intro ty_134 (And.intro zero_166 (And.intro bld_166 (And.intro elm_166 (And.intro elm_168 (And.intro elm_171 (And.intro ty_170 (And.intro zero_170 (And.intro bld_170 (And.intro fld_170_0 (And.intro fld_170_1 (And.intro ty_80 (And.intro shape_178 (And.intro elm_185 (And.intro elm_186 True.intro))))))))))))))))))))))))))))))))))))))))))))))))))))))))))))))))))))))))))))))))))))))))))))))))))))))))))))))))))))))))))))))))))))))))))))))))))))))
theorem kind_55 : kindT cx.P 55 = some (.struct [9, 9]) := by kernel_rfl
theorem kind_24 : kindT cx.P 24 = some (.slice 55 2 32) := by kernel_rfl
theorem kind_9 : kindT cx.P 9 = some .str := by kernel_rfl
theorem kind_5 : kindT cx.P 5 = some (.int .u8) := by kernel_rfl
theorem kind_26 : kindT cx.P 26 = some (.struct [5, 9, 24, 9]) := by kernel_rfl
theorem kind_22 : kindT cx.P 22 = some (.slice 26 4 64) := by kernel_rfl
theorem kind_4 : kindT cx.P 4 = some .bool := by kernel_rfl
theorem kind_3 : kindT cx.P 3 = some (.int .i64) := by kernel_rfl
end Go.Proofs.YtanahnknjboplaaDoor
/-
  Plain law of layer 5: the bytes of a list of code points. No program in sight.
-/
namespace Go.Proofs.YtanahnknjboplaaDoor
set_option linter.unusedSimpArgs false
set_option linter.unusedVariables false
open Go Go.RowKit

/-- May a code point stand in a text? -/
def may (n : Int) : Bool := decide (n = 9 ∨ n = 10 ∨ n = 13 ∨ (32 ≤ n ∧ n ≤ 1114111 ∧ ¬ (55296 ≤ n ∧ n ≤ 57343) ∧ n ≠ 65534 ∧ n ≠ 65535))
theorem may_iff (n : Int) : may n = true ↔ (n = 9 ∨ n = 10 ∨ n = 13 ∨ (32 ≤ n ∧ n ≤ 1114111 ∧ ¬ (55296 ≤ n ∧ n ≤ 57343) ∧ n ≠ 65534 ∧ n ≠ 65535)) := by
  unfold may; exact decide_eq_true_iff
theorem may_t {n : Int} (h : n = 9 ∨ n = 10 ∨ n = 13 ∨ (32 ≤ n ∧ n ≤ 1114111 ∧ ¬ (55296 ≤ n ∧ n ≤ 57343) ∧ n ≠ 65534 ∧ n ≠ 65535)) : true = may n := ((may_iff n).2 h).symm
theorem may_f {n : Int} (h : ¬ (n = 9 ∨ n = 10 ∨ n = 13 ∨ (32 ≤ n ∧ n ≤ 1114111 ∧ ¬ (55296 ≤ n ∧ n ≤ 57343) ∧ n ≠ 65534 ∧ n ≠ 65535))) : false = may n := by
  unfold may; symm; exact decide_eq_false_iff_not.2 h
theorem may_range {n : Int} (h : may n = true) : 0 ≤ n ∧ n ≤ 1114111 ∧ (2048 ≤ n → n ≤ 65535 → (2048 ≤ n ∧ n < 55296) ∨ (57343 < n ∧ n ≤ 65535)) := by
  have := (may_iff n).1 h
  refine ⟨by omega, by omega, fun a b => by omega⟩

/-- The bytes of code points, one behind the other. -/
def enc (l : List Int) : List UInt8 := l.flatMap Lib.encodeRune
def u8 (b : UInt8) : Value := .int .u8 (b.toNat : Int)
def ofErr (l : List Int) : Int := if l.all may then (if 16384 < (enc l).length then 4 else 0) else 50
def ofText (l : List Int) : List UInt8 := if ofErr l = 0 then enc l else []

theorem enc_append (a b : List Int) : enc (a ++ b) = enc a ++ enc b := by simp [enc]
theorem enc_snoc (a : List Int) (x : Int) : enc (a ++ [x]) = enc a ++ Lib.encodeRune x := by simp [enc]
theorem encodeRune_length (x : Int) : 1 ≤ (Lib.encodeRune x).length ∧ (Lib.encodeRune x).length ≤ 4 := by
  unfold Lib.encodeRune Lib.encodeRuneZ
  repeat' split
  all_goals simp
theorem enc_length (l : List Int) : (enc l).length ≤ 4 * l.length := by
  induction l with
  | nil => simp [enc]
  | cons x l ih =>
    have := (encodeRune_length x).2
    simp only [enc, List.flatMap_cons, List.length_append, List.length_cons] at ih ⊢
    omega
theorem runeCells_eq (x : Int) : Lib.runeCells x = (Lib.encodeRune x).map u8 := by
  unfold Lib.runeCells Lib.encodeRune
  rw [List.map_map]
  apply List.map_congr_left
  intro y hy
  have := Lib.encodeRuneZ_byte x y hy
  simp only [Function.comp, u8]
  congr 1
  have : (y.toNat.toUInt8).toNat = y.toNat := by
    simp; omega
  rw [this]; omega
theorem runeCells_length (x : Int) : (Lib.runeCells x).length = (Lib.encodeRune x).length := by rw [runeCells_eq]; simp
theorem enc_cells (l : List Int) (x : Int) : (enc l).map u8 ++ Lib.runeCells x = (enc (l ++ [x])).map u8 := by
  rw [runeCells_eq, enc_snoc, List.map_append]
theorem oneCell_u8 (l : List UInt8) : ∀ u ∈ l.map u8, u.oneCell' = true := by
  intro u hu; obtain ⟨b, _, rfl⟩ := List.mem_map.1 hu; rfl
theorem ofErr_bad {l : List Int} {k : Nat} (hk : k < l.length) (h : may (l.getD k 0) = false) : ofErr l = 50 := by
  unfold ofErr
  rw [if_neg]
  intro hall
  have := List.all_eq_true.1 hall (l[k]) (List.getElem_mem hk)
  simp [List.getD_eq_getElem?_getD, hk] at h
  rw [h] at this; cases this
theorem all_snoc {l : List Int} {k : Nat} (hk : k < l.length) (h : (l.take k).all may = true) (hm : may (l.getD k 0) = true) : (l.take (k + 1)).all may = true := by
  rw [List.take_succ_eq_append_getElem hk, List.all_append, h]
  simp [List.getD_eq_getElem?_getD, hk] at hm
  simp [hm]
theorem take_snoc {l : List Int} {k : Nat} (hk : k < l.length) : l.take (k + 1) = l.take k ++ [l.getD k 0] := by
  rw [List.take_succ_eq_append_getElem hk]; simp [List.getD_eq_getElem?_getD, hk]
end Go.Proofs.YtanahnknjboplaaDoor
/-
  Plain laws of layer 5: how bytes are cut into code points, and that this undoes how they are put. No program in sight.
-/
namespace Go.Proofs.YtanahnknjboplaaDoor
set_option linter.unusedSimpArgs false
set_option linter.unusedVariables false
open Go Go.RowKit Go.Lib

/-- The code point that may be with which bytes begin, and how many bytes it has. -/
def one (l : List UInt8) : Option (Int × Nat) :=
  if l = [] then none
  else if (decodeL l).1 = 65533 ∧ (decodeL l).2 = 1 then none
  else if may ((decodeL l).1 : Int) then some (((decodeL l).1 : Int), (decodeL l).2) else none

/-- All code points of bytes. -/
def decF : Nat → List UInt8 → Option (List Int)
  | _, [] => some []
  | 0, _ => none
  | f + 1, l => match one l with
    | none => none
    | some (z, k) => (decF f (l.drop k)).map (z :: ·)
def dec (l : List UInt8) : Option (List Int) := decF l.length l

theorem one_some {l : List UInt8} {z : Int} {k : Nat} (h : one l = some (z, k)) : l ≠ [] ∧ may z = true ∧ encodeRune z = l.take k ∧ 1 ≤ k ∧ k ≤ l.length := by
  unfold one at h
  split at h
  · cases h
  rename_i hne
  split at h
  · cases h
  rename_i hv
  split at h
  · rename_i hm
    simp only [Option.some.injEq, Prod.mk.injEq] at h
    obtain ⟨rfl, rfl⟩ := h
    have he := encode_decode l hne hv
    have hle := decodeL_le l hne
    refine ⟨hne, hm, he, ?_, hle⟩
    have := (encodeRune_length ((decodeL l).1 : Int)).1
    rw [he, List.length_take] at this
    omega
  · cases h

theorem mod64 {x : Int} (h0 : 0 ≤ x) (h1 : x < 256) : (x.toNat.toUInt8).toNat = x.toNat := by simp; omega

/-- What is put is what is read first. -/
theorem one_enc {z : Int} (hm : may z = true) (rest : List UInt8) : one (encodeRune z ++ rest) = some (z, (encodeRune z).length) := by
  have hmz := (may_iff z).1 hm
  have key : decodeL (encodeRune z ++ rest) = (z.toNat, (encodeRune z).length) := by
    rw [decodeL_N]
    by_cases c1 : 0 ≤ z ∧ z ≤ 127
    · have e : encodeRune z = [z.toNat.toUInt8] := by simp [encodeRune, encodeRuneZ_one c1.1 c1.2]
      rw [e]
      have a := mod64 (x := z) (by omega) (by omega)
      simp only [List.cons_append, List.nil_append, List.getD_cons_zero, List.length_cons, List.length_nil, a, decodeN]
      rw [if_pos (by omega)]
    · by_cases c2 : 128 ≤ z ∧ z ≤ 2047
      · have e : encodeRune z = [(192 + z / 64).toNat.toUInt8, (128 + z % 64).toNat.toUInt8] := by simp [encodeRune, encodeRuneZ_two c2.1 c2.2]
        rw [e]
        have a := mod64 (x := 192 + z / 64) (by omega) (by omega)
        have b := mod64 (x := 128 + z % 64) (by omega) (by omega)
        simp only [List.cons_append, List.nil_append, List.getD_cons_zero, List.getD_cons_succ, List.length_cons, List.length_nil, a, b, decodeN]
        rw [if_neg (by omega), if_pos (by omega), if_pos (by omega)]
        simp only [Prod.mk.injEq, and_true]; omega
      · by_cases c3 : z ≤ 65535
        · have e : encodeRune z = [(224 + z / 4096).toNat.toUInt8, (128 + z / 64 % 64).toNat.toUInt8, (128 + z % 64).toNat.toUInt8] := by simp [encodeRune, encodeRuneZ_three (r := z) (by omega)]
          rw [e]
          have a := mod64 (x := 224 + z / 4096) (by omega) (by omega)
          have b := mod64 (x := 128 + z / 64 % 64) (by omega) (by omega)
          have c := mod64 (x := 128 + z % 64) (by omega) (by omega)
          simp only [List.cons_append, List.nil_append, List.getD_cons_zero, List.getD_cons_succ, List.length_cons, List.length_nil, a, b, c, decodeN]
          rw [if_neg (by omega), if_neg (by omega), if_pos (by omega), if_pos (by omega)]
          simp only [Prod.mk.injEq, and_true]; omega
        · have e : encodeRune z = [(240 + z / 262144).toNat.toUInt8, (128 + z / 4096 % 64).toNat.toUInt8, (128 + z / 64 % 64).toNat.toUInt8, (128 + z % 64).toNat.toUInt8] := by simp [encodeRune, encodeRuneZ_four (r := z) (by omega) (by omega)]
          rw [e]
          have a := mod64 (x := 240 + z / 262144) (by omega) (by omega)
          have b := mod64 (x := 128 + z / 4096 % 64) (by omega) (by omega)
          have c := mod64 (x := 128 + z / 64 % 64) (by omega) (by omega)
          have d := mod64 (x := 128 + z % 64) (by omega) (by omega)
          simp only [List.cons_append, List.nil_append, List.getD_cons_zero, List.getD_cons_succ, List.length_cons, List.length_nil, a, b, c, d, decodeN]
          rw [if_neg (by omega), if_neg (by omega), if_neg (by omega), if_pos (by omega), if_pos (by omega)]
          simp only [Prod.mk.injEq, and_true]; omega
  have hne : encodeRune z ++ rest ≠ [] := by
    intro h
    have := (encodeRune_length z).1
    rw [List.append_eq_nil_iff] at h
    rw [h.1] at this; simp at this
  unfold one
  rw [if_neg hne, key]
  have hz : ((z.toNat : Nat) : Int) = z := by omega
  simp only [hz, hm, if_true]
  rw [if_neg]
  rintro ⟨h1, h2⟩
  have hz2 : z = 65533 := by omega
  subst hz2
  revert h2
  decide

theorem decF_fuel : ∀ (f g : Nat) (l : List UInt8), l.length ≤ f → l.length ≤ g → decF f l = decF g l
  | _, _, [], _, _ => by simp [decF]
  | 0, _, x :: l, h, _ => by simp at h
  | _, 0, x :: l, _, h => by simp at h
  | f + 1, g + 1, x :: l, hf, hg => by
    simp only [decF]
    cases h1 : one (x :: l) with
    | none => rfl
    | some p =>
      obtain ⟨z, k⟩ := p
      obtain ⟨_, _, _, hk, _⟩ := one_some h1
      simp only
      rw [decF_fuel f g ((x :: l).drop k) (by simp at hf ⊢; omega) (by simp at hg ⊢; omega)]

theorem dec_nil : dec [] = some [] := rfl
theorem dec_step {l : List UInt8} {z : Int} {k : Nat} (h : one l = some (z, k)) : dec l = (dec (l.drop k)).map (z :: ·) := by
  obtain ⟨hne, _, _, hk, hkl⟩ := one_some h
  obtain ⟨x, l', rfl⟩ := List.exists_cons_of_ne_nil hne
  unfold dec
  rw [show (x :: l').length = l'.length + 1 from rfl]
  simp only [decF, h]
  rw [decF_fuel l'.length ((x :: l').drop k).length _ (by simp; omega) (Nat.le_refl _)]
theorem dec_bad {l : List UInt8} (hne : l ≠ []) (h : one l = none) : dec l = none := by
  obtain ⟨x, l', rfl⟩ := List.exists_cons_of_ne_nil hne
  unfold dec
  rw [show (x :: l').length = l'.length + 1 from rfl]
  simp only [decF, h]

/-- What is put is got. -/
theorem dec_enc : ∀ (zs : List Int), zs.all may = true → dec (enc zs) = some zs
  | [], _ => rfl
  | z :: zs, h => by
    simp only [List.all_cons, Bool.and_eq_true] at h
    have e : enc (z :: zs) = encodeRune z ++ enc zs := by simp [enc]
    rw [e, dec_step (one_enc h.1 (enc zs)), List.drop_left, dec_enc zs h.2]
    rfl
/-- What is got is put as just this text. -/
theorem dec_some : ∀ (n : Nat) (l : List UInt8) (zs : List Int), l.length ≤ n → dec l = some zs → zs.all may = true ∧ enc zs = l
  | 0, l, zs, hn, h => by
    have : l = [] := List.eq_nil_of_length_eq_zero (by omega)
    subst this
    rw [dec_nil] at h
    cases h
    exact ⟨rfl, rfl⟩
  | n + 1, l, zs, hn, h => by
    by_cases hne : l = []
    · subst hne
      rw [dec_nil] at h
      cases h
      exact ⟨rfl, rfl⟩
    · cases h1 : one l with
      | none => rw [dec_bad hne h1] at h; cases h
      | some p =>
        obtain ⟨z, k⟩ := p
        obtain ⟨_, hm, he, hk, hkl⟩ := one_some h1
        rw [dec_step h1] at h
        obtain ⟨zs', h2, rfl⟩ := Option.map_eq_some_iff.1 h
        obtain ⟨ha, hb⟩ := dec_some n (l.drop k) zs' (by simp; omega) h2
        refine ⟨by simp [hm, ha], ?_⟩
        show encodeRune z ++ enc zs' = l
        rw [he, hb, List.take_append_drop]
theorem dec_iff (l : List UInt8) (zs : List Int) : dec l = some zs ↔ zs.all may = true ∧ enc zs = l :=
  ⟨fun h => dec_some l.length l zs (Nat.le_refl _) h, fun ⟨h1, h2⟩ => by rw [← h2, dec_enc zs h1]⟩
theorem dec_length {l : List UInt8} {zs : List Int} (h : dec l = some zs) : zs.length ≤ l.length := by
  obtain ⟨_, rfl⟩ := (dec_iff l zs).1 h
  induction zs with
  | nil => simp
  | cons z zs ih =>
    rename_i hall
    have := (encodeRune_length z).1
    have h2 : dec (enc zs) = some zs := dec_enc zs (by simp only [List.all_cons, Bool.and_eq_true] at hall; exact hall.2)
    have ih' := ih (by simp only [List.all_cons, Bool.and_eq_true] at hall; exact hall.2) h2
    have e : enc (z :: zs) = encodeRune z ++ enc zs := by simp [enc]
    rw [e, List.length_append, List.length_cons]
    omega

theorem odd_prefix {l : List UInt8} (h : hasPrefix l [239, 191, 189] = true) : ∃ rest, l = encodeRune 65533 ++ rest := by
  unfold hasPrefix at h
  obtain ⟨rest, hr⟩ := List.isPrefixOf_iff_prefix.1 h
  exact ⟨rest, by rw [← hr]; congr 1⟩
theorem decodeL_odd {l : List UInt8} (h : hasPrefix l [239, 191, 189] = true) : (decodeL l).2 ≠ 1 := by
  obtain ⟨rest, rfl⟩ := odd_prefix h
  have h1 := one_enc (z := 65533) (by decide) rest
  unfold one at h1
  split at h1
  · cases h1
  split at h1
  · cases h1
  rename_i hv
  split at h1
  · simp only [Option.some.injEq, Prod.mk.injEq] at h1
    rw [h1.2]
    decide
  · cases h1
/-- How a range over a string tells it. -/
theorem one_of_decode {l : List UInt8} (hne : l ≠ []) : one l = if ((decodeL l).1 = 65533 ∧ hasPrefix l [239, 191, 189] = false) ∨ may ((decodeL l).1 : Int) = false then none else some (((decodeL l).1 : Int), (decodeL l).2) := by
  unfold one
  rw [if_neg hne]
  by_cases h1 : (decodeL l).1 = 65533 ∧ (decodeL l).2 = 1
  · rw [if_pos h1, if_pos]
    left
    refine ⟨h1.1, ?_⟩
    cases hp : hasPrefix l [239, 191, 189] with
    | false => rfl
    | true => exact absurd h1.2 (decodeL_odd hp)
  · rw [if_neg h1]
    by_cases h2 : (decodeL l).1 = 65533
    · have he := encode_decode l hne h1
      rw [h2] at he
      have hp : hasPrefix l [239, 191, 189] = true := by
        unfold hasPrefix
        rw [List.isPrefixOf_iff_prefix, show ([239, 191, 189] : List UInt8) = encodeRune ((65533 : Nat) : Int) from by decide, he]
        exact List.take_prefix _ _
      rw [hp]
      by_cases hm : may ((decodeL l).1 : Int) = true
      · simp [hm]
      · simp [hm]
    · by_cases hm : may ((decodeL l).1 : Int) = true
      · simp [hm, h2]
      · simp [hm, h2]
theorem decode_drop (s : ByteArray) (pos : Nat) : Utf8.decode s pos = decodeL (s.data.toList.drop pos) := by
  have h := tail_decode s pos 0
  rw [Nat.add_zero] at h
  rw [← h]
  unfold decodeL
  congr 1
  have h2 : (s.extract pos s.size).data.toList = s.data.toList.drop pos := by
    rw [extract_data, List.take_of_length_le]
    simp
  apply ByteArray.ext
  apply Array.ext'
  simpa using h2
end Go.Proofs.YtanahnknjboplaaDoor
/-
  Plain laws of layer 5: the document's own way to cut bytes into code points is layer 5's. No program in sight.
-/
namespace Go.Proofs.YtanahnknjboplaaDoor
set_option linter.unusedSimpArgs false
set_option linter.unusedVariables false
open Go Go.RowKit Go.Lib

def headS (c : Int) : Int := if c < 128 then 1 else if 192 ≤ c ∧ c < 224 then 2 else if 224 ≤ c ∧ c < 240 then 3 else if 240 ≤ c ∧ c < 248 then 4 else 0
def headN (c : Int) : Int := if c < 128 then c else if 192 ≤ c ∧ c < 224 then c - 192 else if 224 ≤ c ∧ c < 240 then c - 224 else if 240 ≤ c ∧ c < 248 then c - 240 else 0
def contN (n : Int) (l : List UInt8) : Int := l.foldl (fun n b => 64 * n + (b.toNat : Int) % 64) n
def oneZ (l : List UInt8) : Int := match one l with | some (z, _) => z | none => 0
def oneK (l : List UInt8) : Int := match one l with | some (_, k) => (k : Int) | none => 0

theorem headS_range (c : Int) : 0 ≤ headS c ∧ headS c ≤ 4 := by
  unfold headS; repeat' split
  all_goals omega
theorem headN_range {c : Int} (h : 0 ≤ c ∧ c < 256) : 0 ≤ headN c ∧ headN c ≤ 127 ∧ (headS c ≠ 1 → headN c ≤ 31) := by
  unfold headN headS; repeat' split
  all_goals omega
theorem contN_snoc (n : Int) (l : List UInt8) (b : UInt8) : contN n (l ++ [b]) = 64 * contN n l + (b.toNat : Int) % 64 := by simp [contN]

/-- What is written as a code point that may be, is read so from its head. -/
theorem head_enc {z : Int} (hm : may z = true) : ∃ b rest, encodeRune z = b :: rest ∧ headS (b.toNat : Int) = ((encodeRune z).length : Nat) ∧ contN (headN (b.toNat : Int)) rest = z := by
  have hmz := (may_iff z).1 hm
  by_cases c1 : 0 ≤ z ∧ z ≤ 127
  · have e : encodeRune z = [z.toNat.toUInt8] := by simp [encodeRune, encodeRuneZ_one c1.1 c1.2]
    have a := mod64 (x := z) (by omega) (by omega)
    refine ⟨_, _, e, ?_, ?_⟩
    · rw [e, a]; unfold headS; rw [if_pos (by omega)]; rfl
    · rw [a]; unfold headN; rw [if_pos (by omega)]; simp [contN]; omega
  · by_cases c2 : 128 ≤ z ∧ z ≤ 2047
    · have e : encodeRune z = [(192 + z / 64).toNat.toUInt8, (128 + z % 64).toNat.toUInt8] := by simp [encodeRune, encodeRuneZ_two c2.1 c2.2]
      have a := mod64 (x := 192 + z / 64) (by omega) (by omega)
      have b := mod64 (x := 128 + z % 64) (by omega) (by omega)
      refine ⟨_, _, e, ?_, ?_⟩
      · rw [e, a]; unfold headS; rw [if_neg (by omega), if_pos (by omega)]; rfl
      · rw [a]; unfold headN; rw [if_neg (by omega), if_pos (by omega)]; simp only [contN, List.foldl_cons, List.foldl_nil, b]; omega
    · by_cases c3 : z ≤ 65535
      · have e : encodeRune z = [(224 + z / 4096).toNat.toUInt8, (128 + z / 64 % 64).toNat.toUInt8, (128 + z % 64).toNat.toUInt8] := by simp [encodeRune, encodeRuneZ_three (r := z) (by omega)]
        have a := mod64 (x := 224 + z / 4096) (by omega) (by omega)
        have b := mod64 (x := 128 + z / 64 % 64) (by omega) (by omega)
        have c := mod64 (x := 128 + z % 64) (by omega) (by omega)
        refine ⟨_, _, e, ?_, ?_⟩
        · rw [e, a]; unfold headS; rw [if_neg (by omega), if_neg (by omega), if_pos (by omega)]; rfl
        · rw [a]; unfold headN; rw [if_neg (by omega), if_neg (by omega), if_pos (by omega)]; simp only [contN, List.foldl_cons, List.foldl_nil, b, c]; omega
      · have e : encodeRune z = [(240 + z / 262144).toNat.toUInt8, (128 + z / 4096 % 64).toNat.toUInt8, (128 + z / 64 % 64).toNat.toUInt8, (128 + z % 64).toNat.toUInt8] := by simp [encodeRune, encodeRuneZ_four (r := z) (by omega) (by omega)]
        have a := mod64 (x := 240 + z / 262144) (by omega) (by omega)
        have b := mod64 (x := 128 + z / 4096 % 64) (by omega) (by omega)
        have c := mod64 (x := 128 + z / 64 % 64) (by omega) (by omega)
        have d := mod64 (x := 128 + z % 64) (by omega) (by omega)
        refine ⟨_, _, e, ?_, ?_⟩
        · rw [e, a]; unfold headS; rw [if_neg (by omega), if_neg (by omega), if_neg (by omega), if_pos (by omega)]; rfl
        · rw [a]; unfold headN; rw [if_neg (by omega), if_neg (by omega), if_neg (by omega), if_pos (by omega)]; simp only [contN, List.foldl_cons, List.foldl_nil, b, c, d]; omega

/-- The document's way: yes. -/
theorem one_yes {l : List UInt8} {n : Int} {k : Nat} (hm : may n = true) (he : encodeRune n = l.take k) (hk : k ≤ l.length) : one l = some (n, k) := by
  have h := one_enc hm (l.drop k)
  have hlen : (encodeRune n).length = k := by rw [he, List.length_take]; omega
  rw [hlen, he, List.take_append_drop] at h
  exact h
/-- The document's way: no. -/
theorem one_no {b : UInt8} {l : List UInt8} {k : Nat} (hs : headS (b.toNat : Int) = k) (hno : k = 0 ∨ (b :: l).length < k ∨ (k ≤ (b :: l).length ∧ ∀ n, n = contN (headN (b.toNat : Int)) (l.take (k - 1)) → may n = true → encodeRune n ≠ (b :: l).take k)) : one (b :: l) = none := by
  cases h : one (b :: l) with
  | none => rfl
  | some p =>
    obtain ⟨z, j⟩ := p
    obtain ⟨_, hm, he, hj1, hj2⟩ := one_some h
    obtain ⟨b', rest, e1, e2, e3⟩ := head_enc hm
    have hlen : (encodeRune z).length = j := by rw [he, List.length_take]; omega
    obtain ⟨j', rfl⟩ : ∃ j', j = j' + 1 := ⟨j - 1, by omega⟩
    rw [he, List.take_succ_cons] at e1
    obtain ⟨e4, e5⟩ := List.cons.inj e1
    subst e4
    rw [hlen] at e2
    have hkj : k = j' + 1 := by rw [hs] at e2; exact Int.ofNat.inj e2
    subst hkj
    rcases hno with h0 | h0 | ⟨_, h0⟩
    · omega
    · omega
    · refine absurd he (h0 z ?_ hm)
      rw [← e3, ← e5]; rfl
end Go.Proofs.YtanahnknjboplaaDoor
/-
  Plain laws of layer 8: how a text is written. No program in sight.
-/
namespace Go.Proofs.YtanahnknjboplaaDoor
set_option linter.unusedSimpArgs false
set_option linter.unusedVariables false
open Go Go.RowKit Go.Lib

/-- Which errors checking a text has. -/
def ptsErr (l : List UInt8) : Int := if 16384 < l.length then 4 else match dec l with | none => 50 | some _ => 0
theorem ptsErr_len {s : List UInt8} (h : ptsErr s = 0) : s.length ≤ 16384 := by
  unfold ptsErr at h
  split at h
  · omega
  · omega
/-- How a byte is written. -/
def escB (q : Bool) (c : UInt8) : List UInt8 :=
  if c = 38 then [38, 97, 109, 112, 59] else if c = 60 then [38, 108, 116, 59] else if c = 62 then [38, 103, 116, 59] else if c = 13 then [38, 35, 49, 51, 59]
  else if q = true then (if c = 34 then [38, 113, 117, 111, 116, 59] else if c = 9 then [38, 35, 57, 59] else if c = 10 then [38, 35, 49, 48, 59] else [c]) else [c]
/-- How a text is written. -/
def escW (q : Bool) (s : List UInt8) : List UInt8 := s.flatMap (escB q)
theorem escW_nil (q : Bool) : escW q [] = [] := rfl
theorem escW_append (q : Bool) (a b : List UInt8) : escW q (a ++ b) = escW q a ++ escW q b := by simp [escW]
theorem escW_snoc (q : Bool) (a : List UInt8) (c : UInt8) : escW q (a ++ [c]) = escW q a ++ escB q c := by simp [escW]
theorem escB_length (q : Bool) (c : UInt8) : 1 ≤ (escB q c).length ∧ (escB q c).length ≤ 6 := by
  unfold escB
  repeat' split
  all_goals simp
theorem escB_ne (q : Bool) (c : UInt8) : escB q c ≠ [] := by
  intro h
  have := (escB_length q c).1
  rw [h] at this; simp at this
theorem escW_length (q : Bool) (s : List UInt8) : s.length ≤ (escW q s).length ∧ (escW q s).length ≤ 6 * s.length := by
  induction s with
  | nil => simp [escW]
  | cons c s ih =>
    have := escB_length q c
    simp only [escW, List.flatMap_cons, List.length_append, List.length_cons] at ih ⊢
    omega
theorem escW_take (q : Bool) {s : List UInt8} {k : Nat} {c : UInt8} (h : s[k]? = some c) : escW q (s.take (k + 1)) = escW q (s.take k) ++ escB q c := by
  obtain ⟨hk, rfl⟩ := List.getElem?_eq_some_iff.1 h
  rw [List.take_succ_eq_append_getElem hk, escW_snoc]
end Go.Proofs.YtanahnknjboplaaDoor
/-
  Plain law of layer 5: a text is cut between code points, and nowhere else. No program in sight.
-/
namespace Go.Proofs.YtanahnknjboplaaDoor
set_option linter.unusedSimpArgs false
set_option linter.unusedVariables false
open Go Go.RowKit Go.Lib

theorem dec_app : ∀ (p : List Int) (r : List UInt8), p.all may = true → dec (enc p ++ r) = (dec r).map (p ++ ·)
  | [], r, _ => by simp [enc]
  | z :: p, r, h => by
    simp only [List.all_cons, Bool.and_eq_true] at h
    have e : enc (z :: p) ++ r = encodeRune z ++ (enc p ++ r) := by simp [enc]
    rw [e, dec_step (one_enc h.1 _), List.drop_left, dec_app p r h.2, Option.map_map]
    congr 1
theorem dec_both {a b : List UInt8} {x y : List Int} (ha : dec a = some x) (hb : dec b = some y) : dec (a ++ b) = some (x ++ y) := by
  obtain ⟨h1, rfl⟩ := (dec_iff a x).1 ha
  rw [dec_app x b h1, hb]; rfl

/-- What stands behind a code point's first byte is no first byte. -/
theorem tail_cont {z : Int} {k : Nat} (h1 : 1 ≤ k) (h2 : k < (encodeRune z).length) : ∃ b t, (encodeRune z).drop k = b :: t ∧ 128 ≤ b.toNat ∧ b.toNat < 192 := by
  have key : ∀ x : Int, 0 ≤ x → ∀ y, (128 + x % 64).toNat.toUInt8 = y → 128 ≤ y.toNat ∧ y.toNat < 192 := by
    intro x _ y hy
    subst hy
    rw [mod64 (by omega) (by omega)]
    omega
  unfold encodeRune encodeRuneZ at h2 ⊢
  repeat' split
  · rename_i c; rw [if_pos c] at h2; simp at h2; omega
  · rename_i c1 c2; rw [if_neg c1, if_pos c2] at h2
    have : k = 1 := by simp at h2; omega
    subst this
    exact ⟨_, _, rfl, key z (by omega) _ rfl⟩
  · rename_i c1 c2 c3; rw [if_neg c1, if_neg c2, if_pos c3] at h2
    have : k = 1 ∨ k = 2 := by simp at h2; omega
    rcases this with rfl | rfl
    · exact ⟨_, _, rfl, key (z / 64) (by omega) _ rfl⟩
    · exact ⟨_, _, rfl, key z (by omega) _ rfl⟩
  · rename_i c1 c2 c3 c4; rw [if_neg c1, if_neg c2, if_neg c3, if_pos c4] at h2
    have : k = 1 ∨ k = 2 ∨ k = 3 := by simp at h2; omega
    rcases this with rfl | rfl | rfl
    · exact ⟨_, _, rfl, key (z / 4096) (by omega) _ rfl⟩
    · exact ⟨_, _, rfl, key (z / 64) (by omega) _ rfl⟩
    · exact ⟨_, _, rfl, key z (by omega) _ rfl⟩
  · rename_i c1 c2 c3 c4; rw [if_neg c1, if_neg c2, if_neg c3, if_neg c4] at h2
    have : k = 1 ∨ k = 2 := by simp at h2; omega
    rcases this with rfl | rfl
    · exact ⟨_, _, rfl, by decide⟩
    · exact ⟨_, _, rfl, by decide⟩
theorem cut_or : ∀ (zs : List Int) (k : Nat), k ≤ (enc zs).length → (∃ p q, zs = p ++ q ∧ (enc zs).take k = enc p ∧ (enc zs).drop k = enc q) ∨ ∃ b t, (enc zs).drop k = b :: t ∧ 128 ≤ b.toNat ∧ b.toNat < 192
  | [], k, h => by
    have : k = 0 := by simpa [enc] using h
    subst this
    exact .inl ⟨[], [], rfl, rfl, rfl⟩
  | z :: zs, k, h => by
    have e : enc (z :: zs) = encodeRune z ++ enc zs := by simp [enc]
    rw [e] at h ⊢
    by_cases h0 : k = 0
    · subst h0
      exact .inl ⟨[], z :: zs, rfl, rfl, by rw [e]; rfl⟩
    by_cases h1 : k < (encodeRune z).length
    · obtain ⟨b, t, ht, hb⟩ := tail_cont (by omega) h1
      exact .inr ⟨b, t ++ enc zs, by rw [List.drop_append_of_le_length (by omega), ht]; rfl, hb⟩
    · obtain ⟨j, rfl⟩ : ∃ j, k = (encodeRune z).length + j := ⟨k - (encodeRune z).length, by omega⟩
      have hj : j ≤ (enc zs).length := by simp at h; omega
      rcases cut_or zs j hj with ⟨p, q, rfl, h3, h4⟩ | ⟨b, t, h3, hb⟩
      · refine .inl ⟨z :: p, q, rfl, ?_, ?_⟩
        · rw [List.take_length_add_append, h3]; simp [enc]
        · rw [List.drop_length_add_append, h4]
      · exact .inr ⟨b, t, by rw [List.drop_length_add_append, h3], hb⟩

/-- A text that is cut. -/
theorem cut_same {s : List UInt8} {zs : List Int} (h : dec s = some zs) {k : Nat} (hk : k < s.length) :
    (one (s.drop k)).isSome = (dec (s.take k)).isSome ∧ (one (s.drop k)).isSome = (dec (s.drop k)).isSome := by
  obtain ⟨hm, rfl⟩ := (dec_iff s zs).1 h
  have hne : (enc zs).drop k ≠ [] := by
    intro h
    have := congrArg List.length h
    simp at this; omega
  rcases cut_or zs k (by omega) with ⟨p, q, rfl, h3, h4⟩ | ⟨b, t, h3, hb1, hb2⟩
  · rw [List.all_append, Bool.and_eq_true] at hm
    rw [h3, h4, dec_enc p hm.1, dec_enc q hm.2]
    cases h1 : one (enc q) with
    | some p => exact ⟨rfl, rfl⟩
    | none =>
      have := dec_bad (by rw [← h4]; exact hne) h1
      rw [dec_enc q hm.2] at this; cases this
  · have hs : headS (b.toNat : Int) = 0 := by
      unfold headS; rw [if_neg (by omega), if_neg (by omega), if_neg (by omega), if_neg (by omega)]
    have h1 : one ((enc zs).drop k) = none := by rw [h3]; exact one_no (k := 0) hs (.inl rfl)
    have h2 : dec ((enc zs).drop k) = none := dec_bad hne h1
    have h4 : dec ((enc zs).take k) = none := by
      cases h5 : dec ((enc zs).take k) with
      | none => rfl
      | some p =>
        obtain ⟨hp, he⟩ := (dec_iff _ p).1 h5
        have := dec_app p ((enc zs).drop k) hp
        rw [he, List.take_append_drop, h, h2] at this
        cases this
    rw [h1, h2, h4]
    exact ⟨rfl, rfl⟩
end Go.Proofs.YtanahnknjboplaaDoor
/-
  Plain laws of layer 9: names; a text cut at a byte. No program in sight.
-/
namespace Go.Proofs.YtanahnknjboplaaDoor
set_option linter.unusedSimpArgs false
set_option linter.unusedVariables false
open Go Go.RowKit Go.Lib

/-- May a byte stand in a name; first: at its beginning. -/
def letB (c : UInt8) : Bool := (decide (97 ≤ c.toNat) && decide (c.toNat ≤ 122)) || (decide (65 ≤ c.toNat) && decide (c.toNat ≤ 90)) || decide (c = 95)
def partB (first : Bool) (c : UInt8) : Bool := letB c || (!first && ((decide (48 ≤ c.toNat) && decide (c.toNat ≤ 57)) || decide (c = 46) || decide (c = 45)))
def nameL : List UInt8 → Bool
  | [] => false
  | c :: r => partB true c && r.all (partB false)
/-- A text cut at the first of these bytes. -/
def cut1 (d : UInt8) : List UInt8 → Option (List UInt8 × List UInt8)
  | [] => none
  | c :: r => if c = d then some ([], r) else (cut1 d r).map (fun p => (c :: p.1, p.2))
def fullL (s : List UInt8) : Bool := match cut1 58 s with
  | none => nameL s
  | some (a, b) => nameL a && nameL b
theorem cut1_none {d : UInt8} : ∀ {s : List UInt8}, cut1 d s = none ↔ d ∉ s
  | [] => by simp [cut1]
  | c :: r => by
    simp only [cut1]
    by_cases h : c = d
    · simp [h]
    · rw [if_neg h]
      simp only [Option.map_eq_none_iff, cut1_none (s := r), List.mem_cons, not_or]
      constructor
      · intro h2; exact ⟨fun e => h e.symm, h2⟩
      · intro h2; exact h2.2
theorem cut1_some {d : UInt8} : ∀ {s a b : List UInt8}, cut1 d s = some (a, b) → s = a ++ d :: b ∧ d ∉ a
  | [], a, b, h => by simp [cut1] at h
  | c :: r, a, b, h => by
    simp only [cut1] at h
    by_cases hc : c = d
    · rw [if_pos hc] at h; cases h; subst hc; simp
    · rw [if_neg hc] at h
      obtain ⟨⟨a', b'⟩, h1, h2⟩ := Option.map_eq_some_iff.1 h
      cases h2
      obtain ⟨e1, e2⟩ := cut1_some h1
      refine ⟨by rw [e1]; rfl, ?_⟩
      simp only [List.mem_cons, not_or]
      exact ⟨fun e => hc e.symm, e2⟩
theorem cut1_of {d : UInt8} : ∀ {a b : List UInt8}, d ∉ a → cut1 d (a ++ d :: b) = some (a, b)
  | [], b, _ => by simp [cut1]
  | c :: a, b, h => by
    simp only [List.mem_cons, not_or] at h
    simp only [List.cons_append, cut1]
    rw [if_neg (fun e => h.1 e.symm), cut1_of h.2]; rfl
theorem cut1_at {d : UInt8} {s : List UInt8} {i : Nat} (h1 : d ∉ s.take i) (h2 : s[i]? = some d) : cut1 d s = some (s.take i, s.drop (i + 1)) := by
  obtain ⟨hi, he⟩ := List.getElem?_eq_some_iff.1 h2
  have : s = s.take i ++ d :: s.drop (i + 1) := by
    conv => lhs; rw [← List.take_append_drop i s]
    rw [List.drop_eq_getElem_cons hi, he]
  have h3 := cut1_of (b := s.drop (i + 1)) h1
  rwa [← this] at h3
theorem index1_none {d : UInt8} {s : List UInt8} : indexByte s d = -1 ↔ cut1 d s = none := by
  rw [cut1_none]
  constructor
  · intro h hm
    obtain ⟨k, hk, rfl⟩ := List.getElem_of_mem hm
    exact indexByte_none h k (List.getElem?_eq_getElem hk)
  · intro h
    have hge := indexByte_ge s d
    by_cases hneg : indexByte s d = -1
    · exact hneg
    · obtain ⟨o, ho⟩ : ∃ o : Nat, indexByte s d = o := ⟨(indexByte s d).toNat, by omega⟩
      exact absurd (List.mem_of_getElem? (indexByte_some ho).1) h
theorem index1_some {d : UInt8} {s a b : List UInt8} (h : cut1 d s = some (a, b)) : indexByte s d = a.length ∧ s.take a.length = a ∧ s.drop (a.length + 1) = b ∧ a.length + 1 + b.length = s.length := by
  obtain ⟨h1, h2⟩ := cut1_some h
  have hne : indexByte s d ≠ -1 := fun e => by rw [index1_none.1 e] at h; cases h
  have hge := indexByte_ge s d
  obtain ⟨o, ho⟩ : ∃ o : Nat, indexByte s d = o := ⟨(indexByte s d).toNat, by omega⟩
  obtain ⟨g1, g2⟩ := indexByte_some ho
  have hat := cut1_at (i := o) (fun hm => by
    obtain ⟨k, hk, he⟩ := List.getElem_of_mem hm
    rw [List.length_take] at hk
    rw [List.getElem_take] at he
    exact g2 k (by omega) (by rw [List.getElem?_eq_getElem (by omega), he])) g1
  rw [h] at hat
  cases hat
  have hlt := (List.getElem?_eq_some_iff.1 g1).1
  have hl : (s.take o).length = o := by rw [List.length_take]; omega
  rw [hl]
  refine ⟨ho, rfl, rfl, ?_⟩
  rw [List.length_drop]; omega
/-- Where names go on. -/
theorem name_all {s : List UInt8} : nameL s = (!s.isEmpty && (s.zipIdx).all fun p => partB (p.2 == 0) p.1) := by
  cases s with
  | nil => rfl
  | cons c r =>
    simp only [nameL, List.isEmpty_cons, Bool.not_false, Bool.true_and, List.zipIdx_cons, List.all_cons, beq_self_eq_true]
    congr 1
    rw [Bool.eq_iff_iff, List.all_eq_true, List.all_eq_true]
    constructor
    · intro h p hp
      have h1 := List.mem_zipIdx hp
      have h3 : (p.2 == 0) = false := beq_false_of_ne (by omega)
      rw [h3]
      refine h _ ?_
      rw [h1.2.2]
      exact List.getElem_mem _
    · intro h c hc
      obtain ⟨k, hk, rfl⟩ := List.getElem_of_mem hc
      have := h (r[k], 0 + 1 + k) (by
        rw [List.mem_iff_getElem]
        exact ⟨k, by simpa using hk, by simp⟩)
      have h3 : ((0 + 1 + k) == 0) = false := beq_false_of_ne (by omega)
      simp only [h3] at this
      exact this
/-- The bytes up to a place may all stand there. -/
def namedTo (s : List UInt8) (k : Nat) : Prop := ∀ (i : Nat) (c : UInt8), i < k → s[i]? = some c → partB (i == 0) c = true
theorem nameL_true {s : List UInt8} (hne : s ≠ []) (h : namedTo s s.length) : nameL s = true := by
  cases s with
  | nil => exact absurd rfl hne
  | cons c r =>
    have h0 := h 0 c (by simp) (by simp)
    simp only [beq_self_eq_true] at h0
    simp only [nameL, h0, Bool.true_and, List.all_eq_true]
    intro x hx
    obtain ⟨k, hk, rfl⟩ := List.getElem_of_mem hx
    have := h (k + 1) r[k] (by simp; omega) (by simp [hk])
    have h3 : ((k + 1) == 0) = false := beq_false_of_ne (by omega)
    rwa [h3] at this
theorem nameL_false {s : List UInt8} {k : Nat} {c : UInt8} (hc : s[k]? = some c) (h : partB (k == 0) c = false) : nameL s = false := by
  cases s with
  | nil => simp at hc
  | cons x r =>
    cases k with
    | zero =>
      simp at hc; subst hc
      simp only [beq_self_eq_true] at h
      simp [nameL, h]
    | succ k =>
      have h3 : ((k + 1) == 0) = false := beq_false_of_ne (by omega)
      rw [h3] at h
      simp only [List.getElem?_cons_succ] at hc
      simp only [nameL, Bool.and_eq_false_iff, List.all_eq_false]
      right
      exact ⟨c, List.mem_of_getElem? hc, by rw [h]; simp⟩
theorem beq_byte (c d : UInt8) : ((c.toNat : Int) == (d.toNat : Int)) = decide (c = d) := by
  rw [Bool.eq_iff_iff, beq_iff_eq, decide_eq_true_iff]
  constructor
  · intro h; exact UInt8.toNat_inj.1 (by omega)
  · rintro rfl; rfl
end Go.Proofs.YtanahnknjboplaaDoor
/-
  Layer 5 by the machine: code points that may be; beginnings of texts.
-/
namespace Go.Proofs.YtanahnknjboplaaDoor
set_option linter.unusedSimpArgs false
set_option linter.unusedVariables false
open Nat renaming reduceAdd → κa, reduceMul → κb, reduceEqDiff → κc, reduceLeDiff → κd, reduceSub → κe, reduceLT → κf, reduceBEq → κr, reduceBNe → κs, reducePow → κt
open Int renaming reduceToNat → κg, reduceLE → κh, reduceLT → κi, reduceAdd → κj, reduceSub → κk, reduceMul → κl, reduceNeg → κm, reduceBEq → κn, reduceBNe → κo, reduceEq → κp, reduceNe → κq
open Go Go.RowKit Go.Proofs.YtanahnknjboplaaDoor.Vm

def validB (r : Int) : Bool := (decide (0 ≤ r) && decide (r < 55296)) || (decide (57343 < r) && decide (r ≤ 1114111))
theorem valid_ev (r : Int) (nm : Nat) : Ev cx 47 nm [.int .i32 r] Mem.nil (.bool (validB r)) [] := by
  unfold validB
  refine ev_go (fun cargs w => Tryd.call47 cargs w) Tryd.func47 rfl mixed (by kernel_rfl) rfl ?_; intro b0 hb0
  ((repeat' first | simp only [fins, mems, Tryd.results47, Tryd.ntmps47, κt, wks, vcs, κa, κb, κc, κd, κe, κf, κg, κh, κi, κj, κk, κl, κm, reduceCtorEq, reduceIte, κn, κo, κp, κq, κr, κs, tys] | exact rfl | refine call_off (v := .any) ?_ | ((first | (refine call_val (g := ?_) ?_ ?_) | (refine call_valg (g := ?_) ?_ ?_)); rotate_left 1; (focus (simp only [Tryd.results47, Tryd.ntmps47, κt, wks, vcs, κa, κb, κc, κd, κe, κf, κg, κh, κi, κj, κk, κl, κm, reduceCtorEq, reduceIte, κn, κo, κp, κq, κr, κs, tys] <;> exact rfl))) | refine draw_end (by decide +kernel) ?_ | refine cond_bool (fun hb => ?_) (fun hb => ?_) | refine cond_bit (fun hb => ?_) (fun hb => ?_) | refine And.intro (by omega) ?_ | refine And.intro (fun hb => ?_) (fun hb => ?_) | fail); (all_goals (first | (refine Fin.pure ?_ ?_ ?_ <;> (try simp only [Tryd.results47, Tryd.ntmps47, wks, vcs, κa, κb, κc, κd, κe, κf, κg, κh, κi, κj, κk, κl, κm, reduceCtorEq, reduceIte, κn, κo, κp, κq, κr, κs, tys]) <;> (try simp only [injs])) | skip)))
  all_goals simp_all
theorem tMay_ev (n : Int) (nm : Nat) : Ev cx 23 nm [.int .i64 n] Mem.nil (.bool (may n)) [] := by
  refine ev_go (fun cargs w => Tryd.call23 cargs w) Tryd.func23 rfl mixed (by kernel_rfl) rfl ?_; intro b0 hb0
  ((repeat' first | simp only [fins, mems, Tryd.results23, Tryd.ntmps23, κt, wks, vcs, κa, κb, κc, κd, κe, κf, κg, κh, κi, κj, κk, κl, κm, reduceCtorEq, reduceIte, κn, κo, κp, κq, κr, κs, tys] | exact rfl | refine call_off (v := .any) ?_ | ((first | (refine call_val (g := ?_) ?_ ?_) | (refine call_valg (g := ?_) ?_ ?_)); rotate_left 1; (focus (simp only [Tryd.results23, Tryd.ntmps23, κt, wks, vcs, κa, κb, κc, κd, κe, κf, κg, κh, κi, κj, κk, κl, κm, reduceCtorEq, reduceIte, κn, κo, κp, κq, κr, κs, tys] <;> exact rfl))) | refine draw_end (by decide +kernel) ?_ | refine cond_bool (fun hb => ?_) (fun hb => ?_) | refine cond_bit (fun hb => ?_) (fun hb => ?_) | refine And.intro (by omega) ?_ | refine And.intro (fun hb => ?_) (fun hb => ?_) | fail); (all_goals (first | (refine Fin.pure ?_ ?_ ?_ <;> (try simp only [Tryd.results23, Tryd.ntmps23, wks, vcs, κa, κb, κc, κd, κe, κf, κg, κh, κi, κj, κk, κl, κm, reduceCtorEq, reduceIte, κn, κo, κp, κq, κr, κs, tys]) <;> (try simp only [injs])) | skip)))
  all_goals simp only [decide_eq_true_eq, decide_eq_false_iff_not, beq_iff_eq, beq_eq_false_iff_ne, ne_eq] at *
  all_goals (first | (exfalso; omega) | (exact may_t (by omega)) | (exact may_f (by omega)) | skip)
  have hw : IntKind.i32.wrap n = n := IntWalk.i32_in _ (by omega)
  rw [hw]
  have hv : validB n = may n := by
    cases h : may n with
    | true =>
      have := (may_iff n).1 h
      unfold validB
      simp only [Bool.or_eq_true, Bool.and_eq_true, decide_eq_true_eq]; omega
    | false =>
      have h' : ¬ _ := fun q => by rw [(may_iff n).2 q] at h; cases h
      unfold validB
      simp only [Bool.or_eq_false_iff, Bool.and_eq_false_iff, decide_eq_false_iff_not]; omega
  ((repeat' first | simp only [fins, mems, Tryd.results23, Tryd.ntmps23, κt, wks, hv, vcs, κa, κb, κc, κd, κe, κf, κg, κh, κi, κj, κk, κl, κm, reduceCtorEq, reduceIte, κn, κo, κp, κq, κr, κs, tys] | exact rfl | refine call_off (v := .any) ?_ | (first | (refine call_fn ?_ (valid_ev n _) ?_) | (refine call_fn_g ?_ (fun _ => valid_ev n _) ?_)) | ((first | (refine call_val (g := ?_) ?_ ?_) | (refine call_valg (g := ?_) ?_ ?_)); rotate_left 1; (focus (simp only [Tryd.results23, Tryd.ntmps23, κt, wks, hv, vcs, κa, κb, κc, κd, κe, κf, κg, κh, κi, κj, κk, κl, κm, reduceCtorEq, reduceIte, κn, κo, κp, κq, κr, κs, tys] <;> exact rfl))) | refine draw_end (by decide +kernel) ?_ | refine cond_bool (fun hb => ?_) (fun hb => ?_) | refine cond_bit (fun hb => ?_) (fun hb => ?_) | refine And.intro (by omega) ?_ | refine And.intro (fun hb => ?_) (fun hb => ?_) | fail); (all_goals (first | (refine Fin.pure ?_ ?_ ?_ <;> (try simp only [Tryd.results23, Tryd.ntmps23, wks, hv, vcs, κa, κb, κc, κd, κe, κf, κg, κh, κi, κj, κk, κl, κm, reduceCtorEq, reduceIte, κn, κo, κp, κq, κr, κs, tys]) <;> (try simp only [injs])) | skip)))
def preB (s p : List UInt8) : Bool := decide (p.length ≤ s.length) && (s.take p.length == p)
theorem hasPre_ev (s p : List UInt8) (hs : s.length ≤ lim) (hp : p.length ≤ lim) (nm : Nat) : Ev cx 87 nm [.str s, .str p] Mem.nil (.bool (preB s p)) [] := by
  unfold lim at hs hp
  unfold preB
  refine ev_go (fun cargs w => Tryd.call87 cargs w) Tryd.func87 rfl mixed (by kernel_rfl) rfl ?_; intro b0 hb0
  ((repeat' first | simp only [fins, mems, Tryd.results87, Tryd.ntmps87, κt, wks, decide_eq_true_eq, imp_self, vcs, κa, κb, κc, κd, κe, κf, κg, κh, κi, κj, κk, κl, κm, reduceCtorEq, reduceIte, κn, κo, κp, κq, κr, κs, tys] | exact rfl | refine call_off (v := .any) ?_ | ((first | (refine call_val (g := ?_) ?_ ?_) | (refine call_valg (g := ?_) ?_ ?_)); rotate_left 1; (focus (simp only [Tryd.results87, Tryd.ntmps87, κt, wks, decide_eq_true_eq, imp_self, vcs, κa, κb, κc, κd, κe, κf, κg, κh, κi, κj, κk, κl, κm, reduceCtorEq, reduceIte, κn, κo, κp, κq, κr, κs, tys] <;> exact rfl))) | refine draw_end (by decide +kernel) ?_ | refine cond_bool (fun hb => ?_) (fun hb => ?_) | refine cond_bit (fun hb => ?_) (fun hb => ?_) | refine And.intro (by omega) ?_ | refine And.intro (fun hb => ?_) (fun hb => ?_) | fail); (all_goals (first | (refine Fin.pure ?_ ?_ ?_ <;> (try simp only [Tryd.results87, Tryd.ntmps87, wks, decide_eq_true_eq, imp_self, vcs, κa, κb, κc, κd, κe, κf, κg, κh, κi, κj, κk, κl, κm, reduceCtorEq, reduceIte, κn, κo, κp, κq, κr, κs, tys]) <;> (try simp only [injs])) | skip)))
theorem pre_ev (s p : List UInt8) (hs : s.length ≤ lim) (hp : p.length ≤ lim) (nm : Nat) : Ev cx 66 nm [.str s, .str p] Mem.nil (.bool (preB s p)) [] := by
  refine ev_go (fun cargs w => Tryd.call66 cargs w) Tryd.func66 rfl mixed (by kernel_rfl) rfl ?_; intro b0 hb0
  ((repeat' first | simp only [fins, mems, Tryd.results66, Tryd.ntmps66, κt, wks, vcs, κa, κb, κc, κd, κe, κf, κg, κh, κi, κj, κk, κl, κm, reduceCtorEq, reduceIte, κn, κo, κp, κq, κr, κs, tys] | exact rfl | refine call_off (v := .any) ?_ | (first | (refine call_fn ?_ (hasPre_ev s p hs hp _) ?_) | (refine call_fn_g ?_ (fun _ => hasPre_ev s p hs hp _) ?_)) | ((first | (refine call_val (g := ?_) ?_ ?_) | (refine call_valg (g := ?_) ?_ ?_)); rotate_left 1; (focus (simp only [Tryd.results66, Tryd.ntmps66, κt, wks, vcs, κa, κb, κc, κd, κe, κf, κg, κh, κi, κj, κk, κl, κm, reduceCtorEq, reduceIte, κn, κo, κp, κq, κr, κs, tys] <;> exact rfl))) | refine draw_end (by decide +kernel) ?_ | refine cond_bool (fun hb => ?_) (fun hb => ?_) | refine cond_bit (fun hb => ?_) (fun hb => ?_) | refine And.intro (by omega) ?_ | refine And.intro (fun hb => ?_) (fun hb => ?_) | fail); (all_goals (first | (refine Fin.pure ?_ ?_ ?_ <;> (try simp only [Tryd.results66, Tryd.ntmps66, wks, vcs, κa, κb, κc, κd, κe, κf, κg, κh, κi, κj, κk, κl, κm, reduceCtorEq, reduceIte, κn, κo, κp, κq, κr, κs, tys]) <;> (try simp only [injs])) | skip)))
end Go.Proofs.YtanahnknjboplaaDoor
/-
  Layer 5 by the machine: the code points of a text. 
-/
namespace Go.Proofs.YtanahnknjboplaaDoor
set_option linter.unusedSimpArgs false
set_option linter.unusedVariables false
open Nat renaming reduceAdd → κa, reduceMul → κb, reduceEqDiff → κc, reduceLeDiff → κd, reduceSub → κe, reduceLT → κf, reduceBEq → κr, reduceBNe → κs, reducePow → κt
open Int renaming reduceToNat → κg, reduceLE → κh, reduceLT → κi, reduceAdd → κj, reduceSub → κk, reduceMul → κl, reduceNeg → κm, reduceBEq → κn, reduceBNe → κo, reduceEq → κp, reduceNe → κq
open Go Go.RowKit Go.Proofs.YtanahnknjboplaaDoor.Vm

def pts (l : List UInt8) : List Int := if 16384 < l.length then [] else (dec l).getD []
def intRow (z : Int) : List V := [.int .i64 z]
theorem preB_eq (s p : List UInt8) : preB s p = Lib.hasPrefix s p := by
  unfold preB Lib.hasPrefix
  rw [Bool.eq_iff_iff]
  simp only [Bool.and_eq_true, decide_eq_true_eq, beq_iff_eq, List.isPrefixOf_iff_prefix, List.prefix_iff_eq_take]
  constructor
  · rintro ⟨_, h⟩; exact h.symm
  · intro h
    refine ⟨?_, h.symm⟩
    have := congrArg List.length h
    simp at this; omega
/-- What a code point at a place is to the program: bad, or so many bytes. -/
theorem one_at {s : List UInt8} {p : Nat} (hp : p < s.length) : one (s.drop p) = if ((runeAt s p).1 = 65533 ∧ preB (s.drop p) [239, 191, 189] = false) ∨ may ((runeAt s p).1 : Int) = false then none else some (((runeAt s p).1 : Int), (runeAt s p).2) := by
  have hne : s.drop p ≠ [] := by
    intro h
    have := congrArg List.length h
    simp at this; omega
  have hd : runeAt s p = Lib.decodeL (s.drop p) := decode_drop ⟨s.toArray⟩ p
  rw [hd, preB_eq]
  exact one_of_decode hne
theorem rune_le (s : List UInt8) (p : Nat) : (runeAt s p).1 ≤ 2147483647 := decode_le _ _
theorem take_i (l : List Int) : (l.map intRow).take l.length = l.map intRow := List.take_of_length_le (by simp)
theorem isRow_inst : Ob.isRow instCells = true := rfl
theorem plain_i (l : List Int) : plainLL (l.map intRow) = true := plainLL_map _ (fun _ => rfl) l
theorem ren_ints (σ : List (Nat × Nat)) (l : List Int) : Blk.ren σ ⟨1, l.map intRow⟩ = ⟨1, l.map intRow⟩ := Blk.ren_plain (plain_i l) rfl
set_option maxRecDepth 100000 in
set_option maxHeartbeats 4000000 in
theorem points_ev (s : List UInt8) (hs : s.length ≤ lim) (nm : Nat) : Ev cx 40 nm [.str s] Mem.nil (.tup [.sl false 1 ((pts s).map intRow), .int .i64 (ptsErr s)]) [] := by
  unfold lim at hs
  by_cases hbig : 16384 < s.length
  · have he : ptsErr s = 4 := by unfold ptsErr; rw [if_pos hbig]
    have hq : pts s = [] := by unfold pts; rw [if_pos hbig]
    have hd : decide ((16384 : Int) < s.length) = true := decide_eq_true (by omega)
    refine ev_go (fun cargs w => Tryd.call40 cargs w) Tryd.func40 rfl mixed (by kernel_rfl) rfl ?_; intro b0 hb0
    ((repeat' first | simp only [fins, mems, Tryd.results40, Tryd.ntmps40, κt, wks, he, hq, hd, List.map_nil, vcs, κa, κb, κc, κd, κe, κf, κg, κh, κi, κj, κk, κl, κm, reduceCtorEq, reduceIte, κn, κo, κp, κq, κr, κs, tys] | exact rfl | refine call_off (v := .any) ?_ | ((first | (refine call_val (g := ?_) ?_ ?_) | (refine call_valg (g := ?_) ?_ ?_)); rotate_left 1; (focus (simp only [Tryd.results40, Tryd.ntmps40, κt, wks, he, hq, hd, List.map_nil, vcs, κa, κb, κc, κd, κe, κf, κg, κh, κi, κj, κk, κl, κm, reduceCtorEq, reduceIte, κn, κo, κp, κq, κr, κs, tys] <;> exact rfl))) | refine draw_end (by decide +kernel) ?_ | refine cond_bool (fun hb => ?_) (fun hb => ?_) | refine cond_bit (fun hb => ?_) (fun hb => ?_) | refine And.intro (by omega) ?_ | refine And.intro (fun hb => ?_) (fun hb => ?_) | fail); (all_goals (first | (refine Fin.pure ?_ ?_ ?_ <;> (try simp only [Tryd.results40, Tryd.ntmps40, wks, he, hq, hd, List.map_nil, vcs, κa, κb, κc, κd, κe, κf, κg, κh, κi, κj, κk, κl, κm, reduceCtorEq, reduceIte, κn, κo, κp, κq, κr, κs, tys]) <;> (try simp only [injs])) | skip)))
  · have hd : decide ((16384 : Int) < s.length) = false := decide_eq_false (by omega)
    refine ev_go (fun cargs w => Tryd.call40 cargs w) Tryd.func40 rfl mixed (by kernel_rfl) rfl ?_; intro b0 hb0
    repeat' first | simp only [fins, mems, Tryd.results40, Tryd.ntmps40, κt, wks, hd, vcs, κa, κb, κc, κd, κe, κf, κg, κh, κi, κj, κk, κl, κm, reduceCtorEq, reduceIte, κn, κo, κp, κq, κr, κs, tys] | exact rfl | refine call_off (v := .any) ?_ | (refine ext_range (s := ?_) ?_ ?_ ?_; rotate_left 1; (iterate 2 (focus (simp only [Tryd.results40, Tryd.ntmps40, κt, wks, hd, vcs, κa, κb, κc, κd, κe, κf, κg, κh, κi, κj, κk, κl, κm, reduceCtorEq, reduceIte, κn, κo, κp, κq, κr, κs, tys] <;> exact rfl)))) | (refine extG_true ?_) | (refine extG_false ?_) | ((first | (refine call_val (g := ?_) ?_ ?_) | (refine call_valg (g := ?_) ?_ ?_)); rotate_left 1; (focus (simp only [Tryd.results40, Tryd.ntmps40, κt, wks, hd, vcs, κa, κb, κc, κd, κe, κf, κg, κh, κi, κj, κk, κl, κm, reduceCtorEq, reduceIte, κn, κo, κp, κq, κr, κs, tys] <;> exact rfl))) | refine draw_end (by decide +kernel) ?_ | refine cond_bool (fun hb => ?_) (fun hb => ?_) | refine cond_bit (fun hb => ?_) (fun hb => ?_) | refine And.intro (by omega) ?_ | refine And.intro (fun hb => ?_) (fun hb => ?_) | fail
    (refine loop_can2 cxG (fun x : Nat × List Int => s.length - x.1) (fun x => x.1 ≤ s.length ∧ x.2.length ≤ x.1 ∧ dec s = (dec (s.drop x.1)).map (x.2 ++ ·)) (b0 + 16) (fun x => [(0, .str s), (2, .own (b0 + 1) 0 x.2.length), (10, .ptr b0 0 0)]) (fun x => [(b0, iterK s x.1), (b0 + 1, ⟨1, x.2.map intRow⟩)]) ((0, [])) [some (b0 + 96), none] ?_ ?_ ?_ ?_; rotate_left 1; (focus (show b0 ≤ _; omega)); (focus (refine ⟨?_, ?_⟩ <;> (try simp only [cans, isRow_inst, ren_iter, renOk_iter, plain_i, vcs, κa, κb, κc, κd, κe, κf, κg, κh, κi, κj, κk, κl, κm, reduceCtorEq, reduceIte, κn, κo, κp, κq, κr, κs, tys, injs]) <;> (try omega))); rotate_left 1)
    · refine ⟨Nat.zero_le _, Nat.le_refl _, ?_⟩
      rw [List.drop_zero]; cases dec s <;> rfl
    · rintro ⟨p, zs⟩ ⟨h1, h2, h3⟩
      by_cases hp : p < s.length
      · have ho := one_at hp
        have hne : s.drop p ≠ [] := by
          intro h
          have := congrArg List.length h
          simp at this; omega
        have hrl := rune_le s p
        have hw : IntKind.i64.wrap ((runeAt s p).1 : Int) = ((runeAt s p).1 : Int) := wrap_in (by omega) (by omega)
        have hle : (s.drop p).length ≤ lim := by unfold lim; simp; omega
        by_cases hbad : ((runeAt s p).1 = 65533 ∧ preB (s.drop p) [239, 191, 189] = false) ∨ may ((runeAt s p).1 : Int) = false
        · rw [if_pos hbad] at ho
          have hd0 : dec s = none := by
            have := h3
            simp only at this
            rw [this, dec_bad hne ho]; rfl
          have he : ptsErr s = 50 := by unfold ptsErr; rw [if_neg hbig, hd0]
          have hq : pts s = [] := by unfold pts; rw [if_neg hbig, hd0]; rfl
          cases hc : (((runeAt s p).1 : Int) == 65533) <;> cases hpr : preB (s.drop p) [239, 191, 189] <;> cases hm : may ((runeAt s p).1 : Int)
          all_goals (try (exfalso; simp_all; done))
          all_goals (((repeat' first | simp only [fins, mems, Tryd.results40, Tryd.ntmps40, κt, wks, he, hq, hp, hw, hc, hpr, hm, plain_i, List.map_nil, List.length_drop, vcs, κa, κb, κc, κd, κe, κf, κg, κh, κi, κj, κk, κl, κm, reduceCtorEq, reduceIte, κn, κo, κp, κq, κr, κs, tys] | exact rfl | refine call_off (v := .any) ?_ | (first | (refine call_fn ?_ (pre_ev (s.drop p) [239, 191, 189] hle (by decide) _) ?_) | (refine call_fn_g ?_ (fun _ => pre_ev (s.drop p) [239, 191, 189] hle (by decide) _) ?_) | (refine call_fn ?_ (tMay_ev ((runeAt s p).1 : Int) _) ?_) | (refine call_fn_g ?_ (fun _ => tMay_ev ((runeAt s p).1 : Int) _) ?_)) | (refine ext_next (s := ?_) (y := ?_) (p := ?_) ?_ ?_ ?_ ?_; rotate_left 3; (iterate 2 (focus (simp only [Tryd.results40, Tryd.ntmps40, κt, wks, he, hq, hp, hw, hc, hpr, hm, plain_i, List.map_nil, List.length_drop, vcs, κa, κb, κc, κd, κe, κf, κg, κh, κi, κj, κk, κl, κm, reduceCtorEq, reduceIte, κn, κo, κp, κq, κr, κs, tys] <;> exact rfl))); (focus (simp only [Tryd.results40, Tryd.ntmps40, κt, wks, he, hq, hp, hw, hc, hpr, hm, plain_i, List.map_nil, List.length_drop, vcs, κa, κb, κc, κd, κe, κf, κg, κh, κi, κj, κk, κl, κm, reduceCtorEq, reduceIte, κn, κo, κp, κq, κr, κs, tys] <;> omega))) | (refine extG_true ?_) | (refine extG_false ?_) | ((first | (refine call_val (g := ?_) ?_ ?_) | (refine call_valg (g := ?_) ?_ ?_)); rotate_left 1; (focus (simp only [Tryd.results40, Tryd.ntmps40, κt, wks, he, hq, hp, hw, hc, hpr, hm, plain_i, List.map_nil, List.length_drop, vcs, κa, κb, κc, κd, κe, κf, κg, κh, κi, κj, κk, κl, κm, reduceCtorEq, reduceIte, κn, κo, κp, κq, κr, κs, tys] <;> exact rfl))) | refine draw_end (by decide +kernel) ?_ | refine cond_bool (fun hb => ?_) (fun hb => ?_) | refine cond_bit (fun hb => ?_) (fun hb => ?_) | refine And.intro (by omega) ?_ | refine And.intro (fun hb => ?_) (fun hb => ?_) | fail); (all_goals (first | (refine Fin.pure ?_ ?_ ?_ <;> (try simp only [Tryd.results40, Tryd.ntmps40, wks, he, hq, hp, hw, hc, hpr, hm, plain_i, List.map_nil, List.length_drop, vcs, κa, κb, κc, κd, κe, κf, κg, κh, κi, κj, κk, κl, κm, reduceCtorEq, reduceIte, κn, κo, κp, κq, κr, κs, tys]) <;> (try simp only [injs])) | skip))))
        · rw [if_neg hbad] at ho
          obtain ⟨_, hm, _, hk1, hk2⟩ := one_some ho
          have hds : dec s = (dec (s.drop (p + (runeAt s p).2))).map ((zs ++ [((runeAt s p).1 : Int)]) ++ ·) := by
            have := h3
            simp only at this
            rw [this, dec_step ho, List.drop_drop]
            cases dec (s.drop (p + (runeAt s p).2)) <;> simp
          have hlen : (s.drop p).length = s.length - p := by simp
          have h2' : zs.length ≤ p := h2
          have hsn : zs.map intRow ++ [[V.int .i64 ((runeAt s p).1 : Int)]] = (zs ++ [((runeAt s p).1 : Int)]).map intRow := by simp [intRow]
          have hnx : p + (runeAt s p).2 ≤ s.length := by omega
          cases hc : (((runeAt s p).1 : Int) == 65533) <;> cases hpr : preB (s.drop p) [239, 191, 189]
          all_goals (try (exfalso; exact hbad (.inl ⟨by have := beq_iff_eq.1 hc; omega, hpr⟩)))
          all_goals (repeat' first | simp only [fins, mems, Tryd.results40, Tryd.ntmps40, κt, wks, hp, hw, hc, hpr, hm, plain_i, hsn, List.map_nil, List.length_drop, List.length_map, Nat.le_refl, Option.bind_some, Option.bind_none, vcs, κa, κb, κc, κd, κe, κf, κg, κh, κi, κj, κk, κl, κm, reduceCtorEq, reduceIte, κn, κo, κp, κq, κr, κs, tys] | exact rfl | refine call_off (v := .any) ?_ | (first | (refine call_fn ?_ (pre_ev (s.drop p) [239, 191, 189] hle (by decide) _) ?_) | (refine call_fn_g ?_ (fun _ => pre_ev (s.drop p) [239, 191, 189] hle (by decide) _) ?_) | (refine call_fn ?_ (tMay_ev ((runeAt s p).1 : Int) _) ?_) | (refine call_fn_g ?_ (fun _ => tMay_ev ((runeAt s p).1 : Int) _) ?_)) | (refine ext_next (s := ?_) (y := ?_) (p := ?_) ?_ ?_ ?_ ?_; rotate_left 3; (iterate 2 (focus (simp only [Tryd.results40, Tryd.ntmps40, κt, wks, hp, hw, hc, hpr, hm, plain_i, hsn, List.map_nil, List.length_drop, List.length_map, Nat.le_refl, Option.bind_some, Option.bind_none, vcs, κa, κb, κc, κd, κe, κf, κg, κh, κi, κj, κk, κl, κm, reduceCtorEq, reduceIte, κn, κo, κp, κq, κr, κs, tys] <;> exact rfl))); (focus (simp only [Tryd.results40, Tryd.ntmps40, κt, wks, hp, hw, hc, hpr, hm, plain_i, hsn, List.map_nil, List.length_drop, List.length_map, Nat.le_refl, Option.bind_some, Option.bind_none, vcs, κa, κb, κc, κd, κe, κf, κg, κh, κi, κj, κk, κl, κm, reduceCtorEq, reduceIte, κn, κo, κp, κq, κr, κs, tys] <;> omega))) | (refine extG_true ?_) | (refine extG_false ?_) | ((first | (refine call_val (g := ?_) ?_ ?_) | (refine call_valg (g := ?_) ?_ ?_)); rotate_left 1; (focus (simp only [Tryd.results40, Tryd.ntmps40, κt, wks, hp, hw, hc, hpr, hm, plain_i, hsn, List.map_nil, List.length_drop, List.length_map, Nat.le_refl, Option.bind_some, Option.bind_none, vcs, κa, κb, κc, κd, κe, κf, κg, κh, κi, κj, κk, κl, κm, reduceCtorEq, reduceIte, κn, κo, κp, κq, κr, κs, tys] <;> exact rfl))) | refine draw_end (by decide +kernel) ?_ | refine cond_bool (fun hb => ?_) (fun hb => ?_) | refine cond_bit (fun hb => ?_) (fun hb => ?_) | refine And.intro (by omega) ?_ | refine And.intro (fun hb => ?_) (fun hb => ?_) | fail)
          all_goals ((refine again_can2 cxG ((p + (runeAt s p).2, zs ++ [((runeAt s p).1 : Int)])) [some b0, some (b0 + 416)] ?_ ?_ ?_ ?_; rotate_left 2; (focus (show b0 ≤ _; omega)); (focus (refine ⟨?_, ?_⟩ <;> (try simp only [cans, isRow_inst, ren_iter, renOk_iter, plain_i, hsn, List.length_map, List.length_append, List.length_cons, List.length_nil, Option.bind_some, Option.bind_none, vcs, κa, κb, κc, κd, κe, κf, κg, κh, κi, κj, κk, κl, κm, reduceCtorEq, reduceIte, κn, κo, κp, κq, κr, κs, tys, injs]) <;> (try omega)))))
          all_goals (first | (show s.length - (p + (runeAt s p).2) < s.length - p; omega) | exact ⟨hnx, by simp; omega, hds⟩ | skip)
      · have hpe : p = s.length := by omega
        subst hpe
        have he : ptsErr s = 0 := by
          rw [List.drop_length, dec_nil] at h3
          unfold ptsErr; rw [if_neg hbig, h3]; rfl
        have hq : pts s = zs := by
          rw [List.drop_length, dec_nil] at h3
          unfold pts; rw [if_neg hbig, h3]; simp
        ((repeat' first | simp only [fins, mems, Tryd.results40, Tryd.ntmps40, κt, wks, he, hq, plain_i, take_i, memL_cons, memL_nil, List.length_map, Nat.le_refl, vcs, κa, κb, κc, κd, κe, κf, κg, κh, κi, κj, κk, κl, κm, reduceCtorEq, reduceIte, κn, κo, κp, κq, κr, κs, tys] | exact rfl | refine call_off (v := .any) ?_ | (refine ext_over (s := ?_) (y := ?_) (p := ?_) ?_ ?_ ?_ ?_; rotate_left 3; (iterate 2 (focus (simp only [Tryd.results40, Tryd.ntmps40, κt, wks, he, hq, plain_i, take_i, memL_cons, memL_nil, List.length_map, Nat.le_refl, vcs, κa, κb, κc, κd, κe, κf, κg, κh, κi, κj, κk, κl, κm, reduceCtorEq, reduceIte, κn, κo, κp, κq, κr, κs, tys] <;> exact rfl))); (focus (simp only [Tryd.results40, Tryd.ntmps40, κt, wks, he, hq, plain_i, take_i, memL_cons, memL_nil, List.length_map, Nat.le_refl, vcs, κa, κb, κc, κd, κe, κf, κg, κh, κi, κj, κk, κl, κm, reduceCtorEq, reduceIte, κn, κo, κp, κq, κr, κs, tys] <;> omega))) | (refine extG_true ?_) | (refine extG_false ?_) | ((first | (refine call_val (g := ?_) ?_ ?_) | (refine call_valg (g := ?_) ?_ ?_)); rotate_left 1; (focus (simp only [Tryd.results40, Tryd.ntmps40, κt, wks, he, hq, plain_i, take_i, memL_cons, memL_nil, List.length_map, Nat.le_refl, vcs, κa, κb, κc, κd, κe, κf, κg, κh, κi, κj, κk, κl, κm, reduceCtorEq, reduceIte, κn, κo, κp, κq, κr, κs, tys] <;> exact rfl))) | refine draw_end (by decide +kernel) ?_ | refine cond_bool (fun hb => ?_) (fun hb => ?_) | refine cond_bit (fun hb => ?_) (fun hb => ?_) | refine And.intro (by omega) ?_ | refine And.intro (fun hb => ?_) (fun hb => ?_) | fail); (all_goals (first | (refine Fin.pure ?_ ?_ ?_ <;> (try simp only [Tryd.results40, Tryd.ntmps40, wks, he, hq, plain_i, take_i, memL_cons, memL_nil, List.length_map, Nat.le_refl, vcs, κa, κb, κc, κd, κe, κf, κg, κh, κi, κj, κk, κl, κm, reduceCtorEq, reduceIte, κn, κo, κp, κq, κr, κs, tys]) <;> (try simp only [injs])) | skip)))
theorem tCheck_ev (s : List UInt8) (hs : s.length ≤ lim) (nm : Nat) : Ev cx 19 nm [.str s] Mem.nil (.int .i64 (ptsErr s)) [] := by
  refine ev_go (fun cargs w => Tryd.call19 cargs w) Tryd.func19 rfl mixed (by kernel_rfl) rfl ?_; intro b0 hb0
  ((repeat' first | simp only [fins, mems, Tryd.results19, Tryd.ntmps19, κt, wks, vcs, κa, κb, κc, κd, κe, κf, κg, κh, κi, κj, κk, κl, κm, reduceCtorEq, reduceIte, κn, κo, κp, κq, κr, κs, tys] | exact rfl | refine call_off (v := .any) ?_ | (first | (refine call_fn ?_ (points_ev s hs _) ?_) | (refine call_fn_g ?_ (fun _ => points_ev s hs _) ?_)) | ((first | (refine call_val (g := ?_) ?_ ?_) | (refine call_valg (g := ?_) ?_ ?_)); rotate_left 1; (focus (simp only [Tryd.results19, Tryd.ntmps19, κt, wks, vcs, κa, κb, κc, κd, κe, κf, κg, κh, κi, κj, κk, κl, κm, reduceCtorEq, reduceIte, κn, κo, κp, κq, κr, κs, tys] <;> exact rfl))) | refine draw_end (by decide +kernel) ?_ | refine cond_bool (fun hb => ?_) (fun hb => ?_) | refine cond_bit (fun hb => ?_) (fun hb => ?_) | refine And.intro (by omega) ?_ | refine And.intro (fun hb => ?_) (fun hb => ?_) | fail); (all_goals (first | (refine Fin.pure ?_ ?_ ?_ <;> (try simp only [Tryd.results19, Tryd.ntmps19, wks, vcs, κa, κb, κc, κd, κe, κf, κg, κh, κi, κj, κk, κl, κm, reduceCtorEq, reduceIte, κn, κo, κp, κq, κr, κs, tys]) <;> (try simp only [injs])) | skip)))
end Go.Proofs.YtanahnknjboplaaDoor
/-
  The document's answer for layer 5 by the machine: code points, and the bytes that begin one.
-/
namespace Go.Proofs.YtanahnknjboplaaDoor
set_option linter.unusedSimpArgs false
set_option linter.unusedVariables false
open Nat renaming reduceAdd → κa, reduceMul → κb, reduceEqDiff → κc, reduceLeDiff → κd, reduceSub → κe, reduceLT → κf, reduceBEq → κr, reduceBNe → κs, reducePow → κt
open Int renaming reduceToNat → κg, reduceLE → κh, reduceLT → κi, reduceAdd → κj, reduceSub → κk, reduceMul → κl, reduceNeg → κm, reduceBEq → κn, reduceBNe → κo, reduceEq → κp, reduceNe → κq
open Go Go.RowKit Go.Proofs.YtanahnknjboplaaDoor.Vm

theorem head_ev (c : Int) (h0 : 0 ≤ c) (h1 : c < 256) (nm : Nat) : Ev cx 123 nm [.int .i64 c] Mem.nil (.tup [.int .i64 (headS c), .int .i64 (headN c)]) [] := by
  have w1 : IntKind.i64.wrap (c - 192) = c - 192 := wrap_in (by omega) (by omega)
  have w2 : IntKind.i64.wrap (c - 224) = c - 224 := wrap_in (by omega) (by omega)
  have w3 : IntKind.i64.wrap (c - 240) = c - 240 := wrap_in (by omega) (by omega)
  refine ev_go (fun cargs w => Tryd.call123 cargs w) Tryd.func123 rfl mixed (by kernel_rfl) rfl ?_; intro b0 hb0
  ((repeat' first | simp only [fins, mems, Tryd.results123, Tryd.ntmps123, κt, wks, w1, w2, w3, vcs, κa, κb, κc, κd, κe, κf, κg, κh, κi, κj, κk, κl, κm, reduceCtorEq, reduceIte, κn, κo, κp, κq, κr, κs, tys] | exact rfl | refine call_off (v := .any) ?_ | ((first | (refine call_val (g := ?_) ?_ ?_) | (refine call_valg (g := ?_) ?_ ?_)); rotate_left 1; (focus (simp only [Tryd.results123, Tryd.ntmps123, κt, wks, w1, w2, w3, vcs, κa, κb, κc, κd, κe, κf, κg, κh, κi, κj, κk, κl, κm, reduceCtorEq, reduceIte, κn, κo, κp, κq, κr, κs, tys] <;> exact rfl))) | refine draw_end (by decide +kernel) ?_ | refine cond_bool (fun hb => ?_) (fun hb => ?_) | refine cond_bit (fun hb => ?_) (fun hb => ?_) | refine And.intro (by omega) ?_ | refine And.intro (fun hb => ?_) (fun hb => ?_) | fail); (all_goals (first | (refine Fin.pure ?_ ?_ ?_ <;> (try simp only [Tryd.results123, Tryd.ntmps123, wks, w1, w2, w3, vcs, κa, κb, κc, κd, κe, κf, κg, κh, κi, κj, κk, κl, κm, reduceCtorEq, reduceIte, κn, κo, κp, κq, κr, κs, tys]) <;> (try simp only [injs])) | skip)))
  all_goals simp only [Bool.and_eq_true, Bool.and_eq_false_iff, decide_eq_true_eq, decide_eq_false_iff_not] at *
  all_goals (unfold headS headN; constructor <;> (repeat' split) <;> omega)
def rMayB (n : Int) : Bool := if n < 32 then (n == 9 || n == 10 || n == 13) else (((decide (n ≤ 1114111) && (decide (n < 55296) || decide (57343 < n))) && (n != 65534)) && (n != 65535))
theorem rMayB_eq (n : Int) : rMayB n = may n := by
  unfold rMayB
  rw [Bool.eq_iff_iff, may_iff]
  split <;> simp <;> omega
theorem rMay_ev (n : Int) (nm : Nat) : Ev cx 124 nm [.int .i64 n] Mem.nil (.bool (may n)) [] := by
  rw [← rMayB_eq]
  by_cases h : n < 32
  · have hd : decide (n < 32) = true := decide_eq_true h
    have hr : rMayB n = (n == 9 || n == 10 || n == 13) := by unfold rMayB; rw [if_pos h]
    refine ev_go (fun cargs w => Tryd.call124 cargs w) Tryd.func124 rfl mixed (by kernel_rfl) rfl ?_; intro b0 hb0
    ((repeat' first | simp only [fins, mems, Tryd.results124, Tryd.ntmps124, κt, wks, hd, hr, vcs, κa, κb, κc, κd, κe, κf, κg, κh, κi, κj, κk, κl, κm, reduceCtorEq, reduceIte, κn, κo, κp, κq, κr, κs, tys] | exact rfl | refine call_off (v := .any) ?_ | ((first | (refine call_val (g := ?_) ?_ ?_) | (refine call_valg (g := ?_) ?_ ?_)); rotate_left 1; (focus (simp only [Tryd.results124, Tryd.ntmps124, κt, wks, hd, hr, vcs, κa, κb, κc, κd, κe, κf, κg, κh, κi, κj, κk, κl, κm, reduceCtorEq, reduceIte, κn, κo, κp, κq, κr, κs, tys] <;> exact rfl))) | refine draw_end (by decide +kernel) ?_ | refine cond_bool (fun hb => ?_) (fun hb => ?_) | refine cond_bit (fun hb => ?_) (fun hb => ?_) | refine And.intro (by omega) ?_ | refine And.intro (fun hb => ?_) (fun hb => ?_) | fail); (all_goals (first | (refine Fin.pure ?_ ?_ ?_ <;> (try simp only [Tryd.results124, Tryd.ntmps124, wks, hd, hr, vcs, κa, κb, κc, κd, κe, κf, κg, κh, κi, κj, κk, κl, κm, reduceCtorEq, reduceIte, κn, κo, κp, κq, κr, κs, tys]) <;> (try simp only [injs])) | skip)))
  · have hd : decide (n < 32) = false := decide_eq_false h
    have hr : rMayB n = (((decide (n ≤ 1114111) && (decide (n < 55296) || decide (57343 < n))) && (n != 65534)) && (n != 65535)) := by unfold rMayB; rw [if_neg h]
    cases h1 : decide (n ≤ 1114111) <;> cases h2 : decide (n < 55296) <;> cases h3 : decide (57343 < n) <;> rw [h1, h2, h3] at hr <;> (
    refine ev_go (fun cargs w => Tryd.call124 cargs w) Tryd.func124 rfl mixed (by kernel_rfl) rfl ?_; intro b0 hb0
    ((repeat' first | simp only [fins, mems, Tryd.results124, Tryd.ntmps124, κt, wks, hd, hr, h1, h2, h3, vcs, κa, κb, κc, κd, κe, κf, κg, κh, κi, κj, κk, κl, κm, reduceCtorEq, reduceIte, κn, κo, κp, κq, κr, κs, tys] | exact rfl | refine call_off (v := .any) ?_ | ((first | (refine call_val (g := ?_) ?_ ?_) | (refine call_valg (g := ?_) ?_ ?_)); rotate_left 1; (focus (simp only [Tryd.results124, Tryd.ntmps124, κt, wks, hd, hr, h1, h2, h3, vcs, κa, κb, κc, κd, κe, κf, κg, κh, κi, κj, κk, κl, κm, reduceCtorEq, reduceIte, κn, κo, κp, κq, κr, κs, tys] <;> exact rfl))) | refine draw_end (by decide +kernel) ?_ | refine cond_bool (fun hb => ?_) (fun hb => ?_) | refine cond_bit (fun hb => ?_) (fun hb => ?_) | refine And.intro (by omega) ?_ | refine And.intro (fun hb => ?_) (fun hb => ?_) | fail); (all_goals (first | (refine Fin.pure ?_ ?_ ?_ <;> (try simp only [Tryd.results124, Tryd.ntmps124, wks, hd, hr, h1, h2, h3, vcs, κa, κb, κc, κd, κe, κf, κg, κh, κi, κj, κk, κl, κm, reduceCtorEq, reduceIte, κn, κo, κp, κq, κr, κs, tys]) <;> (try simp only [injs])) | skip))))
end Go.Proofs.YtanahnknjboplaaDoor
/-
  The document's answer for layer 5 by the machine: the bytes of a code point; the code point that a text begins with; all of a text's.
-/
namespace Go.Proofs.YtanahnknjboplaaDoor
set_option linter.unusedSimpArgs false
set_option linter.unusedVariables false
open Nat renaming reduceAdd → κa, reduceMul → κb, reduceEqDiff → κc, reduceLeDiff → κd, reduceSub → κe, reduceLT → κf, reduceBEq → κr, reduceBNe → κs, reducePow → κt
open Int renaming reduceToNat → κg, reduceLE → κh, reduceLT → κi, reduceAdd → κj, reduceSub → κk, reduceMul → κl, reduceNeg → κm, reduceBEq → κn, reduceBNe → κo, reduceEq → κp, reduceNe → κq
open Go Go.RowKit Go.Proofs.YtanahnknjboplaaDoor.Vm Go.Lib

theorem contN_cons (n : Int) (b : UInt8) (l : List UInt8) : contN n (b :: l) = contN (64 * n + (b.toNat : Int) % 64) l := rfl
theorem contN_le : ∀ (l : List UInt8) (n : Int), 0 ≤ n → 0 ≤ contN n l ∧ contN n l < (n + 1) * 64 ^ l.length
  | [], n, h => by simp only [contN, List.foldl_nil, List.length_nil]; omega
  | b :: l, n, h => by
    rw [contN_cons]
    obtain ⟨h1, h2⟩ := contN_le l (64 * n + (b.toNat : Int) % 64) (by omega)
    refine ⟨h1, Int.lt_of_lt_of_le h2 ?_⟩
    rw [List.length_cons, Int.pow_succ, Int.mul_comm (64 ^ l.length) 64, ← Int.mul_assoc]
    exact Int.mul_le_mul_of_nonneg_right (by omega) (Int.pow_nonneg (by omega))
theorem enc_rows {z : Int} (h0 : 0 ≤ z) (h1 : z < 256) : byteRow (z.toNat.toUInt8) = [V.int .u8 z] := by
  have := mod64 h0 h1
  unfold byteRow
  rw [this]
  congr 2; omega
set_option maxRecDepth 100000 in
theorem six_ev (n : Int) (up : Nat) (h0 : 0 ≤ n) (h1 : n ≤ 1114111) (hu : up ≤ 2) (nm : Nat) : Ev cx 132 nm [.int .i64 n, .int .i64 up] Mem.nil (.int .u8 (128 + n / 64 ^ up % 64)) [] := by
  refine ev_go (fun cargs w => Tryd.call132 cargs w) Tryd.func132 rfl mixed (by kernel_rfl) rfl ?_; intro b0 hb0
  repeat' first | simp only [fins, mems, Tryd.results132, Tryd.ntmps132, κt, wks, vcs, κa, κb, κc, κd, κe, κf, κg, κh, κi, κj, κk, κl, κm, reduceCtorEq, reduceIte, κn, κo, κp, κq, κr, κs, tys] | exact rfl | refine call_off (v := .any) ?_ | ((first | (refine call_val (g := ?_) ?_ ?_) | (refine call_valg (g := ?_) ?_ ?_)); rotate_left 1; (focus (simp only [Tryd.results132, Tryd.ntmps132, κt, wks, vcs, κa, κb, κc, κd, κe, κf, κg, κh, κi, κj, κk, κl, κm, reduceCtorEq, reduceIte, κn, κo, κp, κq, κr, κs, tys] <;> exact rfl))) | refine draw_end (by decide +kernel) ?_ | refine cond_bool (fun hb => ?_) (fun hb => ?_) | refine cond_bit (fun hb => ?_) (fun hb => ?_) | refine And.intro (by omega) ?_ | refine And.intro (fun hb => ?_) (fun hb => ?_) | fail
  (refine loop_can2 cxG (fun x : Nat => up - x) (fun x => x ≤ up) (b0 + 16) (fun x => [(0, .int .i64 (n / 64 ^ x)), (1, .int .i64 up), (5, .int .i64 x)]) (fun x => []) (0) [] ?_ ?_ ?_ ?_; rotate_left 1; (focus (show b0 ≤ _; omega)); (focus (refine ⟨?_, ?_⟩ <;> (try simp only [cans, Int.pow_zero, Int.ediv_one, vcs, κa, κb, κc, κd, κe, κf, κg, κh, κi, κj, κk, κl, κm, reduceCtorEq, reduceIte, κn, κo, κp, κq, κr, κs, tys, injs]) <;> (try omega))); rotate_left 1)
  · exact Nat.zero_le _
  · intro k hk
    have hp : (0:Int) ≤ n / 64 ^ k := Int.ediv_nonneg h0 (Int.pow_nonneg (by omega))
    have hp2 : n / 64 ^ k ≤ n := Int.ediv_le_self _ h0
    by_cases hlt : k < up
    · have hd : decide (k < up) = true := decide_eq_true hlt
      have ht : (n / 64 ^ k).tdiv 64 = n / 64 ^ (k + 1) := by
        rw [Int.tdiv_eq_ediv_of_nonneg hp, Int.pow_succ, Int.ediv_ediv_of_nonneg (Int.pow_nonneg (by omega))]
      have hw : IntKind.i64.wrap (n / 64 ^ (k + 1)) = n / 64 ^ (k + 1) := by
        rw [← ht, Int.tdiv_eq_ediv_of_nonneg hp]
        exact wrap_in (by omega) (by omega)
      have hwk : IntKind.i64.wrap ((k : Int) + 1) = ((k + 1 : Nat) : Int) := wrap_in (by omega) (by omega)
      repeat' first | simp only [fins, mems, Tryd.results132, Tryd.ntmps132, κt, wks, hd, ht, hw, hwk, vcs, κa, κb, κc, κd, κe, κf, κg, κh, κi, κj, κk, κl, κm, reduceCtorEq, reduceIte, κn, κo, κp, κq, κr, κs, tys] | exact rfl | refine call_off (v := .any) ?_ | ((first | (refine call_val (g := ?_) ?_ ?_) | (refine call_valg (g := ?_) ?_ ?_)); rotate_left 1; (focus (simp only [Tryd.results132, Tryd.ntmps132, κt, wks, hd, ht, hw, hwk, vcs, κa, κb, κc, κd, κe, κf, κg, κh, κi, κj, κk, κl, κm, reduceCtorEq, reduceIte, κn, κo, κp, κq, κr, κs, tys] <;> exact rfl))) | refine draw_end (by decide +kernel) ?_ | refine cond_bool (fun hb => ?_) (fun hb => ?_) | refine cond_bit (fun hb => ?_) (fun hb => ?_) | refine And.intro (by omega) ?_ | refine And.intro (fun hb => ?_) (fun hb => ?_) | fail
      ((refine again_can2 cxG (k + 1) [] ?_ ?_ ?_ ?_; rotate_left 2; (focus (show b0 ≤ _; omega)); (focus (refine ⟨?_, ?_⟩ <;> (try simp only [cans, hd, ht, hw, hwk, vcs, κa, κb, κc, κd, κe, κf, κg, κh, κi, κj, κk, κl, κm, reduceCtorEq, reduceIte, κn, κo, κp, κq, κr, κs, tys, injs]) <;> (try omega)))))
      all_goals (first | (show up - (k + 1) < up - k; omega) | (show k + 1 ≤ up; omega) | skip)
    · have hke : k = up := by omega
      subst hke
      have hd : decide (k < k) = false := decide_eq_false (by omega)
      have ht : (n / 64 ^ k).tmod 64 = n / 64 ^ k % 64 := Int.tmod_eq_emod_of_nonneg hp
      have hw1 : IntKind.i64.wrap (n / 64 ^ k % 64) = n / 64 ^ k % 64 := wrap_in (by omega) (by omega)
      have hw2 : IntKind.i64.wrap (128 + n / 64 ^ k % 64) = 128 + n / 64 ^ k % 64 := wrap_in (by omega) (by omega)
      have hw3 : IntKind.u8.wrap (128 + n / 64 ^ k % 64) = 128 + n / 64 ^ k % 64 := IntWalk.u8_in _ (by omega)
      ((repeat' first | simp only [fins, mems, Tryd.results132, Tryd.ntmps132, κt, wks, hd, ht, hw1, hw2, hw3, vcs, κa, κb, κc, κd, κe, κf, κg, κh, κi, κj, κk, κl, κm, reduceCtorEq, reduceIte, κn, κo, κp, κq, κr, κs, tys] | exact rfl | refine call_off (v := .any) ?_ | ((first | (refine call_val (g := ?_) ?_ ?_) | (refine call_valg (g := ?_) ?_ ?_)); rotate_left 1; (focus (simp only [Tryd.results132, Tryd.ntmps132, κt, wks, hd, ht, hw1, hw2, hw3, vcs, κa, κb, κc, κd, κe, κf, κg, κh, κi, κj, κk, κl, κm, reduceCtorEq, reduceIte, κn, κo, κp, κq, κr, κs, tys] <;> exact rfl))) | refine draw_end (by decide +kernel) ?_ | refine cond_bool (fun hb => ?_) (fun hb => ?_) | refine cond_bit (fun hb => ?_) (fun hb => ?_) | refine And.intro (by omega) ?_ | refine And.intro (fun hb => ?_) (fun hb => ?_) | fail); (all_goals (first | (refine Fin.pure ?_ ?_ ?_ <;> (try simp only [Tryd.results132, Tryd.ntmps132, wks, hd, ht, hw1, hw2, hw3, vcs, κa, κb, κc, κd, κe, κf, κg, κh, κi, κj, κk, κl, κm, reduceCtorEq, reduceIte, κn, κo, κp, κq, κr, κs, tys]) <;> (try simp only [injs])) | skip)))
theorem enc1 {z : Int} (h0 : 0 ≤ z) (h1 : z ≤ 127) : (encodeRune z).map byteRow = [[V.int .u8 z]] := by
  simp only [encodeRune, encodeRuneZ_one h0 h1, List.map_cons, List.map_nil]
  rw [enc_rows (by omega) (by omega)]
theorem enc2 {z : Int} (h0 : 128 ≤ z) (h1 : z ≤ 2047) : (encodeRune z).map byteRow = [[V.int .u8 (192 + z / 64)], [V.int .u8 (128 + z % 64)]] := by
  simp only [encodeRune, encodeRuneZ_two h0 h1, List.map_cons, List.map_nil]
  rw [enc_rows (by omega) (by omega), enc_rows (by omega) (by omega)]
theorem enc3 {z : Int} (h0 : (2048 ≤ z ∧ z < 55296) ∨ (57343 < z ∧ z ≤ 65535)) : (encodeRune z).map byteRow = [[V.int .u8 (224 + z / 4096)], [V.int .u8 (128 + z / 64 % 64)], [V.int .u8 (128 + z % 64)]] := by
  simp only [encodeRune, encodeRuneZ_three h0, List.map_cons, List.map_nil]
  rw [enc_rows (by omega) (by omega), enc_rows (by omega) (by omega), enc_rows (by omega) (by omega)]
theorem enc4 {z : Int} (h0 : 65536 ≤ z) (h1 : z ≤ 1114111) : (encodeRune z).map byteRow = [[V.int .u8 (240 + z / 262144)], [V.int .u8 (128 + z / 4096 % 64)], [V.int .u8 (128 + z / 64 % 64)], [V.int .u8 (128 + z % 64)]] := by
  simp only [encodeRune, encodeRuneZ_four h0 h1, List.map_cons, List.map_nil]
  rw [enc_rows (by omega) (by omega), enc_rows (by omega) (by omega), enc_rows (by omega) (by omega), enc_rows (by omega) (by omega)]
set_option maxRecDepth 100000 in
theorem rBytes_ev (n : Int) (hm : may n = true) (nm : Nat) : Ev cx 125 nm [.int .i64 n] Mem.nil (.sl false 1 ((encodeRune n).map byteRow)) [] := by
  have hmz := (may_iff n).1 hm
  have h0 : 0 ≤ n := by omega
  have hm1 : n ≤ 1114111 := by omega
  have q1 : n.tdiv 64 = n / 64 := Int.tdiv_eq_ediv_of_nonneg h0
  have q2 : n.tdiv 4096 = n / 4096 := Int.tdiv_eq_ediv_of_nonneg h0
  have q3 : n.tdiv 262144 = n / 262144 := Int.tdiv_eq_ediv_of_nonneg h0
  have w1 : IntKind.i64.wrap (n / 64) = n / 64 := wrap_in (by omega) (by omega)
  have w2 : IntKind.i64.wrap (n / 4096) = n / 4096 := wrap_in (by omega) (by omega)
  have w3 : IntKind.i64.wrap (n / 262144) = n / 262144 := wrap_in (by omega) (by omega)
  have u1 : IntKind.i64.wrap (192 + n / 64) = 192 + n / 64 := wrap_in (by omega) (by omega)
  have u2 : IntKind.i64.wrap (224 + n / 4096) = 224 + n / 4096 := wrap_in (by omega) (by omega)
  have u3 : IntKind.i64.wrap (240 + n / 262144) = 240 + n / 262144 := wrap_in (by omega) (by omega)
  have s0 := six_ev n 0 h0 hm1 (by omega)
  have s1 := six_ev n 1 h0 hm1 (by omega)
  have s2 := six_ev n 2 h0 hm1 (by omega)
  simp only [Int.pow_zero, Int.ediv_one, Int.pow_one, Int.ofNat_zero, Int.ofNat_one, show (64:Int) ^ 1 = 64 from rfl, show (64:Int) ^ 2 = 4096 from rfl, show ((0:Nat):Int) = 0 from rfl, show ((1:Nat):Int) = 1 from rfl, show ((2:Nat):Int) = 2 from rfl] at s0 s1 s2
  by_cases c1 : n < 128
  · have d1 : decide (n < 128) = true := decide_eq_true c1
    have v1 : IntKind.u8.wrap n = n := IntWalk.u8_in _ (by omega)
    rw [enc1 h0 (by omega)]
    refine ev_go (fun cargs w => Tryd.call125 cargs w) Tryd.func125 rfl mixed (by kernel_rfl) rfl ?_; intro b0 hb0
    ((repeat' first | simp only [fins, mems, Tryd.results125, Tryd.ntmps125, κt, wks, d1, v1, vcs, κa, κb, κc, κd, κe, κf, κg, κh, κi, κj, κk, κl, κm, reduceCtorEq, reduceIte, κn, κo, κp, κq, κr, κs, tys] | exact rfl | refine call_off (v := .any) ?_ | ((first | (refine call_val (g := ?_) ?_ ?_) | (refine call_valg (g := ?_) ?_ ?_)); rotate_left 1; (focus (simp only [Tryd.results125, Tryd.ntmps125, κt, wks, d1, v1, vcs, κa, κb, κc, κd, κe, κf, κg, κh, κi, κj, κk, κl, κm, reduceCtorEq, reduceIte, κn, κo, κp, κq, κr, κs, tys] <;> exact rfl))) | refine draw_end (by decide +kernel) ?_ | refine cond_bool (fun hb => ?_) (fun hb => ?_) | refine cond_bit (fun hb => ?_) (fun hb => ?_) | refine And.intro (by omega) ?_ | refine And.intro (fun hb => ?_) (fun hb => ?_) | fail); (all_goals (first | (refine Fin.pure ?_ ?_ ?_ <;> (try simp only [Tryd.results125, Tryd.ntmps125, wks, d1, v1, vcs, κa, κb, κc, κd, κe, κf, κg, κh, κi, κj, κk, κl, κm, reduceCtorEq, reduceIte, κn, κo, κp, κq, κr, κs, tys]) <;> (try simp only [injs])) | skip)))
  by_cases c2 : n < 2048
  · have d1 : decide (n < 128) = false := decide_eq_false c1
    have d2 : decide (n < 2048) = true := decide_eq_true c2
    have v1 : IntKind.u8.wrap (192 + n / 64) = 192 + n / 64 := IntWalk.u8_in _ (by omega)
    rw [enc2 (by omega) (by omega)]
    refine ev_go (fun cargs w => Tryd.call125 cargs w) Tryd.func125 rfl mixed (by kernel_rfl) rfl ?_; intro b0 hb0
    ((repeat' first | simp only [fins, mems, Tryd.results125, Tryd.ntmps125, κt, wks, d1, d2, q1, w1, u1, v1, vcs, κa, κb, κc, κd, κe, κf, κg, κh, κi, κj, κk, κl, κm, reduceCtorEq, reduceIte, κn, κo, κp, κq, κr, κs, tys] | exact rfl | refine call_off (v := .any) ?_ | (first | (refine call_fn ?_ (s0 _) ?_) | (refine call_fn_g ?_ (fun _ => s0 _) ?_)) | ((first | (refine call_val (g := ?_) ?_ ?_) | (refine call_valg (g := ?_) ?_ ?_)); rotate_left 1; (focus (simp only [Tryd.results125, Tryd.ntmps125, κt, wks, d1, d2, q1, w1, u1, v1, vcs, κa, κb, κc, κd, κe, κf, κg, κh, κi, κj, κk, κl, κm, reduceCtorEq, reduceIte, κn, κo, κp, κq, κr, κs, tys] <;> exact rfl))) | refine draw_end (by decide +kernel) ?_ | refine cond_bool (fun hb => ?_) (fun hb => ?_) | refine cond_bit (fun hb => ?_) (fun hb => ?_) | refine And.intro (by omega) ?_ | refine And.intro (fun hb => ?_) (fun hb => ?_) | fail); (all_goals (first | (refine Fin.pure ?_ ?_ ?_ <;> (try simp only [Tryd.results125, Tryd.ntmps125, wks, d1, d2, q1, w1, u1, v1, vcs, κa, κb, κc, κd, κe, κf, κg, κh, κi, κj, κk, κl, κm, reduceCtorEq, reduceIte, κn, κo, κp, κq, κr, κs, tys]) <;> (try simp only [injs])) | skip)))
  by_cases c3 : n < 65536
  · have d1 : decide (n < 128) = false := decide_eq_false c1
    have d2 : decide (n < 2048) = false := decide_eq_false c2
    have d3 : decide (n < 65536) = true := decide_eq_true c3
    have v1 : IntKind.u8.wrap (224 + n / 4096) = 224 + n / 4096 := IntWalk.u8_in _ (by omega)
    rw [enc3 (by omega)]
    refine ev_go (fun cargs w => Tryd.call125 cargs w) Tryd.func125 rfl mixed (by kernel_rfl) rfl ?_; intro b0 hb0
    ((repeat' first | simp only [fins, mems, Tryd.results125, Tryd.ntmps125, κt, wks, d1, d2, d3, q2, w2, u2, v1, vcs, κa, κb, κc, κd, κe, κf, κg, κh, κi, κj, κk, κl, κm, reduceCtorEq, reduceIte, κn, κo, κp, κq, κr, κs, tys] | exact rfl | refine call_off (v := .any) ?_ | ((first | (refine call_fn ?_ (s0 _) ?_) | (refine call_fn_g ?_ (fun _ => s0 _) ?_)); (focus (simp only [Tryd.results125, Tryd.ntmps125, κt, wks, d1, d2, d3, q2, w2, u2, v1, vcs, κa, κb, κc, κd, κe, κf, κg, κh, κi, κj, κk, κl, κm, reduceCtorEq, reduceIte, κn, κo, κp, κq, κr, κs, tys] <;> exact rfl))) | ((first | (refine call_fn ?_ (s1 _) ?_) | (refine call_fn_g ?_ (fun _ => s1 _) ?_)); (focus (simp only [Tryd.results125, Tryd.ntmps125, κt, wks, d1, d2, d3, q2, w2, u2, v1, vcs, κa, κb, κc, κd, κe, κf, κg, κh, κi, κj, κk, κl, κm, reduceCtorEq, reduceIte, κn, κo, κp, κq, κr, κs, tys] <;> exact rfl))) | ((first | (refine call_val (g := ?_) ?_ ?_) | (refine call_valg (g := ?_) ?_ ?_)); rotate_left 1; (focus (simp only [Tryd.results125, Tryd.ntmps125, κt, wks, d1, d2, d3, q2, w2, u2, v1, vcs, κa, κb, κc, κd, κe, κf, κg, κh, κi, κj, κk, κl, κm, reduceCtorEq, reduceIte, κn, κo, κp, κq, κr, κs, tys] <;> exact rfl))) | refine draw_end (by decide +kernel) ?_ | refine cond_bool (fun hb => ?_) (fun hb => ?_) | refine cond_bit (fun hb => ?_) (fun hb => ?_) | refine And.intro (by omega) ?_ | refine And.intro (fun hb => ?_) (fun hb => ?_) | fail); (all_goals (first | (refine Fin.pure ?_ ?_ ?_ <;> (try simp only [Tryd.results125, Tryd.ntmps125, wks, d1, d2, d3, q2, w2, u2, v1, vcs, κa, κb, κc, κd, κe, κf, κg, κh, κi, κj, κk, κl, κm, reduceCtorEq, reduceIte, κn, κo, κp, κq, κr, κs, tys]) <;> (try simp only [injs])) | skip)))
  · have d1 : decide (n < 128) = false := decide_eq_false c1
    have d2 : decide (n < 2048) = false := decide_eq_false c2
    have d3 : decide (n < 65536) = false := decide_eq_false c3
    have v1 : IntKind.u8.wrap (240 + n / 262144) = 240 + n / 262144 := IntWalk.u8_in _ (by omega)
    rw [enc4 (by omega) (by omega)]
    refine ev_go (fun cargs w => Tryd.call125 cargs w) Tryd.func125 rfl mixed (by kernel_rfl) rfl ?_; intro b0 hb0
    ((repeat' first | simp only [fins, mems, Tryd.results125, Tryd.ntmps125, κt, wks, d1, d2, d3, q3, w3, u3, v1, vcs, κa, κb, κc, κd, κe, κf, κg, κh, κi, κj, κk, κl, κm, reduceCtorEq, reduceIte, κn, κo, κp, κq, κr, κs, tys] | exact rfl | refine call_off (v := .any) ?_ | ((first | (refine call_fn ?_ (s0 _) ?_) | (refine call_fn_g ?_ (fun _ => s0 _) ?_)); (focus (simp only [Tryd.results125, Tryd.ntmps125, κt, wks, d1, d2, d3, q3, w3, u3, v1, vcs, κa, κb, κc, κd, κe, κf, κg, κh, κi, κj, κk, κl, κm, reduceCtorEq, reduceIte, κn, κo, κp, κq, κr, κs, tys] <;> exact rfl))) | ((first | (refine call_fn ?_ (s1 _) ?_) | (refine call_fn_g ?_ (fun _ => s1 _) ?_)); (focus (simp only [Tryd.results125, Tryd.ntmps125, κt, wks, d1, d2, d3, q3, w3, u3, v1, vcs, κa, κb, κc, κd, κe, κf, κg, κh, κi, κj, κk, κl, κm, reduceCtorEq, reduceIte, κn, κo, κp, κq, κr, κs, tys] <;> exact rfl))) | ((first | (refine call_fn ?_ (s2 _) ?_) | (refine call_fn_g ?_ (fun _ => s2 _) ?_)); (focus (simp only [Tryd.results125, Tryd.ntmps125, κt, wks, d1, d2, d3, q3, w3, u3, v1, vcs, κa, κb, κc, κd, κe, κf, κg, κh, κi, κj, κk, κl, κm, reduceCtorEq, reduceIte, κn, κo, κp, κq, κr, κs, tys] <;> exact rfl))) | ((first | (refine call_val (g := ?_) ?_ ?_) | (refine call_valg (g := ?_) ?_ ?_)); rotate_left 1; (focus (simp only [Tryd.results125, Tryd.ntmps125, κt, wks, d1, d2, d3, q3, w3, u3, v1, vcs, κa, κb, κc, κd, κe, κf, κg, κh, κi, κj, κk, κl, κm, reduceCtorEq, reduceIte, κn, κo, κp, κq, κr, κs, tys] <;> exact rfl))) | refine draw_end (by decide +kernel) ?_ | refine cond_bool (fun hb => ?_) (fun hb => ?_) | refine cond_bit (fun hb => ?_) (fun hb => ?_) | refine And.intro (by omega) ?_ | refine And.intro (fun hb => ?_) (fun hb => ?_) | fail); (all_goals (first | (refine Fin.pure ?_ ?_ ?_ <;> (try simp only [Tryd.results125, Tryd.ntmps125, wks, d1, d2, d3, q3, w3, u3, v1, vcs, κa, κb, κc, κd, κe, κf, κg, κh, κi, κj, κk, κl, κm, reduceCtorEq, reduceIte, κn, κo, κp, κq, κr, κs, tys]) <;> (try simp only [injs])) | skip)))
end Go.Proofs.YtanahnknjboplaaDoor
/-
  Blocks of bytes, laid for bytes.
-/
namespace Go.Proofs.YtanahnknjboplaaDoor
set_option linter.unusedSimpArgs false
set_option linter.unusedVariables false
open Go Go.RowKit Go.Proofs.YtanahnknjboplaaDoor.Vm Go.Lib

theorem plain_bsI (bs : List UInt8) : plainLL (bs.map byteRow) = true := plainLL_map _ (fun _ => rfl) bs
theorem one_bsI (bs : List UInt8) : ((bs.map byteRow).all fun r => r.all V.one) = true := by
  rw [List.all_eq_true]
  intro r hr
  obtain ⟨c, _, rfl⟩ := List.mem_map.1 hr
  rfl
theorem isRow_typed (t : TypeId) : (Ob.typed t).isRow = true := rfl
theorem tyT (s : Nat) (r : List (List V)) (t : TypeId) : Blk.ty (@Blk.mk s r (.typed t)) = some t := rfl
theorem betK (rows : List (List V)) : blkT (some 5) 1 rows = @Blk.mk 1 rows (.typed 5) := rfl
theorem ren_bytesI (σ : List (Nat × Nat)) (bs : List UInt8) (t : TypeId) : Blk.ren σ (@Blk.mk 1 (bs.map byteRow) (.typed t)) = @Blk.mk 1 (bs.map byteRow) (.typed t) := by
  have h : plainLL (bs.map byteRow) = true := plainLL_map _ (fun _ => rfl) bs
  simp only [Blk.ren, renLL, h, if_true]
theorem renOk_bytesI (σ : List (Nat × Nat)) (bs : List UInt8) (t : TypeId) : Blk.renOk σ (@Blk.mk 1 (bs.map byteRow) (.typed t)) = true := by
  have h : plainLL (bs.map byteRow) = true := plainLL_map _ (fun _ => rfl) bs
  simp only [Blk.renOk, renOkLL, h, Bool.true_or, Bool.true_and]
  rfl
end Go.Proofs.YtanahnknjboplaaDoor
/-
  Plain laws of layer 8: the text of what is written. No program in sight.
-/
namespace Go.Proofs.YtanahnknjboplaaDoor
set_option linter.unusedSimpArgs false
set_option linter.unusedVariables false
open Go Go.RowKit Go.Lib

/-- What a hexadecimal digit tells; what digits tell. -/
def hexD (c : UInt8) : Option Nat := if 48 ≤ c.toNat ∧ c.toNat ≤ 57 then some (c.toNat - 48) else if 97 ≤ c.toNat ∧ c.toNat ≤ 102 then some (c.toNat - 87) else if 65 ≤ c.toNat ∧ c.toNat ≤ 70 then some (c.toNat - 55) else none
def hexV : Nat → List UInt8 → Option Nat
  | n, [] => some n
  | n, c :: r => match hexD c with | none => none | some d => hexV (16 * n + d) r
def hexL (s : List UInt8) : Option Nat := if s = [] ∨ 6 < s.length ∨ s.head? = some 48 then none else hexV 0 s
def decD (c : UInt8) : Option Nat := if 48 ≤ c.toNat ∧ c.toNat ≤ 57 then some (c.toNat - 48) else none
def decV : Nat → List UInt8 → Option Nat
  | n, [] => some n
  | n, c :: r => match decD c with | none => none | some d => decV (10 * n + d) r
def decL (s : List UInt8) : Option Nat := if s = [] ∨ 16 < s.length ∨ (s.head? = some 48 ∧ s ≠ [48]) then none else (decV 0 s).bind fun n => if n ≤ 9007199254740991 then some n else none
/-- The code point of a number, as text. -/
def pointW (o : Option Nat) : Option (List UInt8) := o.bind fun n => if may (n : Int) = true then some (encodeRune n) else none
/-- What a reference's inside tells. -/
def meantL (s : List UInt8) : Option (List UInt8) :=
  if s = [97, 109, 112] then some [38] else if s = [108, 116] then some [60] else if s = [103, 116] then some [62] else if s = [113, 117, 111, 116] then some [34] else if s = [97, 112, 111, 115] then some [39]
  else if s.head? = some 35 then (if s.tail.head? = some 120 then pointW (hexL s.tail.tail) else pointW (decL s.tail)) else none
theorem cut1_len {d : UInt8} {s a b : List UInt8} (h : cut1 d s = some (a, b)) : b.length < s.length := by
  have := (cut1_some h).1
  rw [this]; simp; omega
/-- The text of what is written. -/
def readL : List UInt8 → Option (List UInt8)
  | [] => some []
  | c :: r => if c = 60 then none else if c = 38 then (match h : cut1 59 r with | none => none | some (a, b) => match meantL a with | none => none | some x => (readL b).map (x ++ ·)) else (readL r).map (c :: ·)
termination_by s => s.length
decreasing_by
  · have := cut1_len h; simp; omega
  · simp
theorem readL_nil : readL [] = some [] := by rw [readL]
theorem readL_lt (r : List UInt8) : readL (60 :: r) = none := by rw [readL]; rfl
theorem readL_other {c : UInt8} (h1 : c ≠ 60) (h2 : c ≠ 38) (r : List UInt8) : readL (c :: r) = (readL r).map (c :: ·) := by rw [readL, if_neg h1, if_neg h2]
theorem readL_none {r : List UInt8} (h : cut1 59 r = none) : readL (38 :: r) = none := by
  rw [readL, if_neg (by decide), if_pos rfl]
  split
  · rfl
  · rename_i e; rw [h] at e; cases e
theorem readL_bad {r a b : List UInt8} (h : cut1 59 r = some (a, b)) (hm : meantL a = none) : readL (38 :: r) = none := by
  rw [readL, if_neg (by decide), if_pos rfl]
  split
  · rfl
  · rename_i e; rw [h] at e; cases e; rw [hm]
theorem readL_ref {r a b x : List UInt8} (h : cut1 59 r = some (a, b)) (hm : meantL a = some x) : readL (38 :: r) = (readL b).map (x ++ ·) := by
  rw [readL, if_neg (by decide), if_pos rfl]
  split
  · rename_i e; rw [h] at e; cases e
  · rename_i e; rw [h] at e; cases e; rw [hm]
theorem cut1_append {d : UInt8} {s a b : List UInt8} (h : cut1 d s = some (a, b)) (t : List UInt8) : cut1 d (s ++ t) = some (a, b ++ t) := by
  obtain ⟨rfl, h2⟩ := cut1_some h
  rw [List.append_assoc, List.cons_append, cut1_of h2]
/-- Two written texts are both. -/
theorem readL_append : ∀ (n : Nat) (a b z : List UInt8), a.length ≤ n → readL a = some z → readL (a ++ b) = (readL b).map (z ++ ·)
  | n, [], b, z, _, h => by
    rw [readL_nil] at h; cases h
    simp
  | 0, c :: r, b, z, hn, _ => by simp at hn
  | n + 1, c :: r, b, z, hn, h => by
    by_cases h1 : c = 60
    · subst h1; rw [readL_lt] at h; cases h
    by_cases h2 : c = 38
    · subst h2
      cases hc : cut1 59 r with
      | none => rw [readL_none hc] at h; cases h
      | some p =>
        obtain ⟨u, v⟩ := p
        cases hm : meantL u with
        | none => rw [readL_bad hc hm] at h; cases h
        | some x =>
          rw [readL_ref hc hm] at h
          obtain ⟨w, hw, rfl⟩ := Option.map_eq_some_iff.1 h
          have hl := cut1_len hc
          rw [List.cons_append, readL_ref (cut1_append hc b) hm, readL_append n v b w (by simp at hn; omega) hw]
          cases readL b <;> simp
    · rw [readL_other h1 h2] at h
      obtain ⟨w, hw, rfl⟩ := Option.map_eq_some_iff.1 h
      rw [List.cons_append, readL_other h1 h2, readL_append n r b w (by simpa using hn) hw]
      cases readL b <;> simp
theorem readL_two {a b z : List UInt8} (h : readL a = some z) : readL (a ++ b) = (readL b).map (z ++ ·) := readL_append _ a b z (Nat.le_refl _) h
theorem meant_amp : meantL [97, 109, 112] = some [38] := by decide
theorem meant_lt : meantL [108, 116] = some [60] := by decide
theorem meant_gt : meantL [103, 116] = some [62] := by decide
theorem meant_quot : meantL [113, 117, 111, 116] = some [34] := by decide
theorem meant_13 : meantL [35, 49, 51] = some [13] := by decide
theorem meant_9 : meantL [35, 57] = some [9] := by decide
theorem meant_10 : meantL [35, 49, 48] = some [10] := by decide
theorem read_ref {a x : List UInt8} (ha : (59 : UInt8) ∉ a) (hm : meantL a = some x) (b : List UInt8) : readL (38 :: (a ++ 59 :: b)) = (readL b).map (x ++ ·) := readL_ref (cut1_of ha) hm
theorem readL_escB (q : Bool) (c : UInt8) (b : List UInt8) : readL (escB q c ++ b) = (readL b).map (c :: ·) := by
  have e : ∀ x : UInt8, (fun t : List UInt8 => [x] ++ t) = (x :: ·) := fun x => rfl
  by_cases h1 : c = 38
  · subst h1; exact read_ref (a := [97, 109, 112]) (by decide) meant_amp b
  by_cases h2 : c = 60
  · subst h2; exact read_ref (a := [108, 116]) (by decide) meant_lt b
  by_cases h3 : c = 62
  · subst h3; exact read_ref (a := [103, 116]) (by decide) meant_gt b
  by_cases h4 : c = 13
  · subst h4; exact read_ref (a := [35, 49, 51]) (by decide) meant_13 b
  cases q with
  | false =>
    have : escB false c = [c] := by simp [escB, h1, h2, h3, h4]
    rw [this]; exact readL_other h2 h1 b
  | true =>
    by_cases h5 : c = 34
    · subst h5; exact read_ref (a := [113, 117, 111, 116]) (by decide) meant_quot b
    by_cases h6 : c = 9
    · subst h6; exact read_ref (a := [35, 57]) (by decide) meant_9 b
    by_cases h7 : c = 10
    · subst h7; exact read_ref (a := [35, 49, 48]) (by decide) meant_10 b
    have : escB true c = [c] := by simp [escB, h1, h2, h3, h4, h5, h6, h7]
    rw [this]; exact readL_other h2 h1 b
/-- What is written is read as that text. -/
theorem readL_escW (q : Bool) : ∀ s : List UInt8, readL (escW q s) = some s
  | [] => readL_nil
  | c :: s => by
    have : escW q (c :: s) = escB q c ++ escW q s := rfl
    rw [this, readL_escB, readL_escW q s]; rfl
theorem escB_all (q : Bool) (c : UInt8) : (escB q c).all (fun x => x != 60 && x != 62 && x != 13 && (!q || (x != 34 && x != 9 && x != 10))) = true := by
  by_cases h1 : c = 38
  · subst h1; cases q <;> decide
  by_cases h2 : c = 60
  · subst h2; cases q <;> decide
  by_cases h3 : c = 62
  · subst h3; cases q <;> decide
  by_cases h4 : c = 13
  · subst h4; cases q <;> decide
  cases q with
  | false =>
    have : escB false c = [c] := by simp [escB, h1, h2, h3, h4]
    rw [this]; simp [h2, h3, h4]
  | true =>
    by_cases h5 : c = 34
    · subst h5; decide
    by_cases h6 : c = 9
    · subst h6; decide
    by_cases h7 : c = 10
    · subst h7; decide
    have : escB true c = [c] := by simp [escB, h1, h2, h3, h4, h5, h6, h7]
    rw [this]; simp [h2, h3, h4, h5, h6, h7]
theorem escW_all (q : Bool) {s : List UInt8} {x : UInt8} (h : x ∈ escW q s) : (x != 60 && x != 62 && x != 13 && (!q || (x != 34 && x != 9 && x != 10))) = true := by
  unfold escW at h
  obtain ⟨c, _, hc⟩ := List.mem_flatMap.1 h
  exact List.all_eq_true.1 (escB_all q c) x hc
/-- A text stays one, written. -/
theorem dec_escB (q : Bool) {c : UInt8} (h1 : c.toNat < 128) (h2 : may (c.toNat : Int) = true) : (dec (escB q c)).isSome = true := by
  unfold escB
  repeat' split
  all_goals (try decide)
  all_goals (
    have e : encodeRune (c.toNat : Int) = [c] := by
      unfold encodeRune encodeRuneZ
      rw [if_pos (by omega)]
      simp
    have := dec_enc [(c.toNat : Int)] (by simp [h2])
    simp only [enc, List.flatMap_cons, List.flatMap_nil, List.append_nil, e] at this
    rw [this]; rfl)
theorem escB_high (q : Bool) {c : UInt8} (h : 128 ≤ c.toNat) : escB q c = [c] := by
  have hne : ∀ d : UInt8, d.toNat < 128 → c ≠ d := fun d hd e => by subst e; omega
  simp only [escB, hne 38 (by decide), hne 60 (by decide), hne 62 (by decide), hne 13 (by decide), hne 34 (by decide), hne 9 (by decide), hne 10 (by decide), if_false, ite_self]
theorem escW_high (q : Bool) : ∀ {s : List UInt8}, (∀ c ∈ s, 128 ≤ c.toNat) → escW q s = s
  | [], _ => rfl
  | c :: s, h => by
    have : escW q (c :: s) = escB q c ++ escW q s := rfl
    rw [this, escB_high q (h c (by simp)), escW_high q (fun x hx => h x (by simp [hx]))]; rfl
theorem enc_low {z : Int} (h0 : 0 ≤ z) (h : z < 128) : encodeRune z = [z.toNat.toUInt8] := by
  unfold encodeRune encodeRuneZ
  rw [if_pos (by omega)]
  rfl
theorem enc_high {z : Int} (h : 128 ≤ z) : ∀ c ∈ encodeRune z, 128 ≤ c.toNat := by
  intro c hc
  unfold encodeRune encodeRuneZ at hc
  rw [if_neg (by omega)] at hc
  repeat' split at hc
  all_goals (
    simp only [List.map_cons, List.map_nil, List.mem_cons, List.not_mem_nil, or_false] at hc
    rcases hc with rfl | rfl | rfl | rfl <;> (rw [mod64 (by omega) (by omega)]; omega))
theorem dec_escRune (q : Bool) {z : Int} (hm : may z = true) : (dec (escW q (encodeRune z))).isSome = true := by
  have hr := (may_range hm).1
  by_cases h : z < 128
  · rw [enc_low hr h]
    have hz : ((z.toNat.toUInt8).toNat : Int) = z := by rw [mod64 hr (by omega)]; omega
    have : escW q [z.toNat.toUInt8] = escB q z.toNat.toUInt8 := by simp [escW]
    rw [this]
    exact dec_escB q (by omega) (by rw [hz]; exact hm)
  · rw [escW_high q (enc_high (by omega))]
    have := dec_enc [z] (by simp [hm])
    simp only [enc, List.flatMap_cons, List.flatMap_nil, List.append_nil] at this
    rw [this]; rfl
theorem dec_escEnc (q : Bool) : ∀ zs : List Int, zs.all may = true → (dec (escW q (enc zs))).isSome = true
  | [], _ => rfl
  | z :: zs, h => by
    simp only [List.all_cons, Bool.and_eq_true] at h
    have : enc (z :: zs) = encodeRune z ++ enc zs := by simp [enc]
    rw [this, escW_append]
    obtain ⟨x, hx⟩ := Option.isSome_iff_exists.1 (dec_escRune q h.1)
    obtain ⟨y, hy⟩ := Option.isSome_iff_exists.1 (dec_escEnc q zs h.2)
    rw [dec_both hx hy]; rfl
theorem dec_escW (q : Bool) {s : List UInt8} (h : (dec s).isSome = true) : (dec (escW q s)).isSome = true := by
  obtain ⟨zs, hz⟩ := Option.isSome_iff_exists.1 h
  obtain ⟨hm, rfl⟩ := (dec_iff s zs).1 hz
  exact dec_escEnc q zs hm
end Go.Proofs.YtanahnknjboplaaDoor
/-
  Plain laws of layer 6: numbers in digits. No program in sight.
-/
namespace Go.Proofs.YtanahnknjboplaaDoor
set_option linter.unusedSimpArgs false
set_option linter.unusedVariables false
open Go Go.RowKit Go.Lib

/-- The digits of a number. -/
def digitsL (n : Nat) : List UInt8 := if n ≤ 9 then [UInt8.ofNat (48 + n)] else digitsL (n / 10) ++ [UInt8.ofNat (48 + n % 10)]
termination_by n
decreasing_by omega
theorem digits_low {n : Nat} (h : n ≤ 9) : digitsL n = [UInt8.ofNat (48 + n)] := by rw [digitsL, if_pos h]
theorem digits_high {n : Nat} (h : 9 < n) : digitsL n = digitsL (n / 10) ++ [UInt8.ofNat (48 + n % 10)] := by rw [digitsL, if_neg (by omega)]
theorem digits_ne (n : Nat) : digitsL n ≠ [] := by
  by_cases h : n ≤ 9
  · rw [digits_low h]; simp
  · rw [digits_high (by omega)]; simp
theorem digits_head : ∀ (k n : Nat), n ≤ k → n ≠ 0 → (digitsL n).head? ≠ some 48
  | 0, n, h, h0 => absurd (Nat.le_zero.1 h) h0
  | k + 1, n, h, h0 => by
    by_cases h9 : n ≤ 9
    · rw [digits_low h9]
      simp only [List.head?_cons, ne_eq, Option.some.injEq]
      intro e
      have := congrArg UInt8.toNat e
      simp at this
      omega
    · rw [digits_high (by omega)]
      have ih := digits_head k (n / 10) (by omega) (by omega)
      have hne := digits_ne (n / 10)
      cases hd : digitsL (n / 10) with
      | nil => exact absurd hd hne
      | cons a b => rw [hd] at ih; simpa using ih
theorem decD_range {c : UInt8} {d : Nat} (h : decD c = some d) : d ≤ 9 ∧ c = UInt8.ofNat (48 + d) ∧ c.toNat = 48 + d := by
  unfold decD at h
  split at h
  · cases h
    refine ⟨by omega, ?_, by omega⟩
    have : 48 + (c.toNat - 48) = c.toNat := by omega
    rw [this]; simp
  · cases h
theorem decV_snoc : ∀ (s : List UInt8) (n : Nat) (c : UInt8), decV n (s ++ [c]) = (decV n s).bind fun m => (decD c).map fun d => 10 * m + d
  | [], n, c => by
    simp only [List.nil_append, decV, Option.bind_some]
    cases decD c <;> rfl
  | x :: s, n, c => by
    simp only [List.cons_append, decV]
    cases decD x with
    | none => rfl
    | some d => exact decV_snoc s _ c
theorem decV_le : ∀ (s : List UInt8) (n m : Nat), decV n s = some m → n ≤ m ∧ m < (n + 1) * 10 ^ s.length
  | [], n, m, h => by simp only [decV] at h; cases h; simp
  | x :: s, n, m, h => by
    simp only [decV] at h
    cases hx : decD x with
    | none => rw [hx] at h; cases h
    | some d =>
      rw [hx] at h
      have hd := (decD_range hx).1
      obtain ⟨h1, h2⟩ := decV_le s _ m h
      refine ⟨by omega, Nat.lt_of_lt_of_le h2 ?_⟩
      rw [List.length_cons, Nat.pow_succ', ← Nat.mul_assoc]
      exact Nat.mul_le_mul_right _ (by omega)
theorem decV_pos {s : List UInt8} {m : Nat} (h : decV 0 s = some m) (hne : s ≠ []) (h0 : s.head? ≠ some 48) : m ≠ 0 := by
  cases s with
  | nil => exact absurd rfl hne
  | cons c s =>
    simp only [decV] at h
    cases hx : decD c with
    | none => rw [hx] at h; cases h
    | some d =>
      rw [hx] at h
      have h1 := (decV_le s _ m h).1
      have hd := (decD_range hx).2.2
      have : d ≠ 0 := by
        intro e; subst e
        refine h0 ?_
        simp only [List.head?_cons, Option.some.injEq]
        exact UInt8.toNat_inj.1 (by simpa using hd)
      omega
/-- A number's digits are its text. -/
theorem digits_dec : ∀ (k : Nat) (s : List UInt8) (n : Nat), s.length ≤ k → s ≠ [] → decV 0 s = some n → (digitsL n = s ↔ (s.head? ≠ some 48 ∨ s = [48]))
  | 0, s, n, h, hne, _ => absurd (List.length_eq_zero_iff.1 (Nat.le_zero.1 h)) hne
  | k + 1, s, n, hk, hne, h => by
    obtain ⟨t, c, rfl⟩ : ∃ t c, s = t ++ [c] := ⟨s.dropLast, s.getLast hne, (List.dropLast_concat_getLast hne).symm⟩
    rw [decV_snoc] at h
    obtain ⟨m, hm, h2⟩ := Option.bind_eq_some_iff.1 h
    obtain ⟨d, hd, rfl⟩ := Option.map_eq_some_iff.1 h2
    obtain ⟨d9, hc, hcn⟩ := decD_range hd
    by_cases ht : t = []
    · subst ht
      simp only [decV] at hm; cases hm
      simp only [Nat.mul_zero, Nat.zero_add, List.nil_append, List.head?_cons]
      rw [digits_low d9, ← hc]
      refine ⟨fun _ => ?_, fun _ => rfl⟩
      by_cases e : c = 48
      · subst e; right; rfl
      · left; simp [e]
    · by_cases h0 : t.head? = some 48
      · have hh : (t ++ [c]).head? = some 48 := by cases t with | nil => exact absurd rfl ht | cons a b => simpa using h0
        constructor
        · intro e
          exfalso
          rw [← e] at hh
          by_cases hz : 10 * m + d = 0
          · rw [hz, digits_low (by omega)] at e
            have := congrArg List.length e
            simp at this
            exact ht this
          · exact digits_head _ _ (Nat.le_refl _) hz hh
        · rintro (e | e)
          · exact absurd hh e
          · exfalso
            have := congrArg List.length e
            simp at this
            exact ht this
      · have hm0 := decV_pos hm ht h0
        have ih := (digits_dec k t m (by simp at hk; omega) ht hm).2 (.inl h0)
        have hh : (t ++ [c]).head? ≠ some 48 := by cases t with | nil => exact absurd rfl ht | cons a b => simpa using h0
        refine ⟨fun _ => .inl hh, fun _ => ?_⟩
        rw [digits_high (by omega), show (10 * m + d) / 10 = m by omega, show (10 * m + d) % 10 = d by omega, ih, hc]
theorem digits_decV : ∀ (k n : Nat), n ≤ k → decV 0 (digitsL n) = some n
  | k, n, hk => by
    by_cases h : n ≤ 9
    · rw [digits_low h]
      have : (UInt8.ofNat (48 + n)).toNat = 48 + n := by simp; omega
      simp only [decV, decD, this]
      rw [if_pos (by omega)]
      simp
    · rw [digits_high (by omega), decV_snoc]
      have ih : decV 0 (digitsL (n / 10)) = some (n / 10) := by
        cases k with
        | zero => omega
        | succ k => exact digits_decV k (n / 10) (by omega)
      rw [ih]
      have : (UInt8.ofNat (48 + n % 10)).toNat = 48 + n % 10 := by simp; omega
      simp only [Option.bind_some, decD, this]
      rw [if_pos (by omega)]
      simp; omega
end Go.Proofs.YtanahnknjboplaaDoor
/-
  Layer 6 by the machine: numbers read.
-/
namespace Go.Proofs.YtanahnknjboplaaDoor
set_option linter.unusedSimpArgs false
set_option linter.unusedVariables false
open Nat renaming reduceAdd → κa, reduceMul → κb, reduceEqDiff → κc, reduceLeDiff → κd, reduceSub → κe, reduceLT → κf, reduceBEq → κr, reduceBNe → κs, reducePow → κt
open Int renaming reduceToNat → κg, reduceLE → κh, reduceLT → κi, reduceAdd → κj, reduceSub → κk, reduceMul → κl, reduceNeg → κm, reduceBEq → κn, reduceBNe → κo, reduceEq → κp, reduceNe → κq
open Go Go.RowKit Go.Proofs.YtanahnknjboplaaDoor.Vm Go.Lib

theorem plain_bsG (bs : List UInt8) : plainLL (bs.map byteRow) = true := plainLL_map _ (fun _ => rfl) bs
theorem decV_take {s : List UInt8} {k : Nat} {c : UInt8} (h : s[k]? = some c) : decV 0 (s.take (k + 1)) = (decV 0 (s.take k)).bind fun m => (decD c).map fun d => 10 * m + d := by
  obtain ⟨hk, rfl⟩ := List.getElem?_eq_some_iff.1 h
  rw [List.take_succ_eq_append_getElem hk, decV_snoc]
theorem decV_none : ∀ {s t : List UInt8} {n : Nat}, decV n s = none → decV n (s ++ t) = none
  | [], t, n, h => by simp [decV] at h
  | c :: s, t, n, h => by
    simp only [List.cons_append, decV] at h ⊢
    cases hc : decD c with
    | none => rfl
    | some d => rw [hc] at h; exact decV_none h
def readE (s : List UInt8) : V := match decL s with
  | some n => .tup [.int .i64 n, .int .i64 0]
  | none => .tup [.int .i64 0, .int .i64 60]
theorem readE_none {s : List UInt8} (h : decL s = none) : readE s = .tup [.int .i64 0, .int .i64 60] := by unfold readE; rw [h]
theorem readE_some {s : List UInt8} {n : Nat} (h : decL s = some n) : readE s = .tup [.int .i64 n, .int .i64 0] := by unfold readE; rw [h]
set_option maxRecDepth 100000 in
set_option maxHeartbeats 4000000 in
theorem numRead_ev (s : List UInt8) (hs : s.length ≤ lim) (nm : Nat) : Ev cx 85 nm [.str s] Mem.nil (readE s) [] := by
  unfold lim at hs
  by_cases hbad : s = [] ∨ 16 < s.length ∨ (s.head? = some 48 ∧ s ≠ [48])
  · have hn : decL s = none := by unfold decL; rw [if_pos hbad]
    have hr := readE_none hn
    by_cases h0 : s = []
    · subst h0
      have e0 : (([] : List UInt8) == []) = true := rfl
      refine ev_go (fun cargs w => Tryd.call85 cargs w) Tryd.func85 rfl mixed (by kernel_rfl) rfl ?_; intro b0 hb0
      ((repeat' first | simp only [fins, mems, Tryd.results85, Tryd.ntmps85, κt, wks, e0, hr, vcs, κa, κb, κc, κd, κe, κf, κg, κh, κi, κj, κk, κl, κm, reduceCtorEq, reduceIte, κn, κo, κp, κq, κr, κs, tys] | exact rfl | refine call_off (v := .any) ?_ | ((first | (refine call_val (g := ?_) ?_ ?_) | (refine call_valg (g := ?_) ?_ ?_)); rotate_left 1; (focus (simp only [Tryd.results85, Tryd.ntmps85, κt, wks, e0, hr, vcs, κa, κb, κc, κd, κe, κf, κg, κh, κi, κj, κk, κl, κm, reduceCtorEq, reduceIte, κn, κo, κp, κq, κr, κs, tys] <;> exact rfl))) | refine draw_end (by decide +kernel) ?_ | refine cond_bool (fun hb => ?_) (fun hb => ?_) | refine cond_bit (fun hb => ?_) (fun hb => ?_) | refine And.intro (by omega) ?_ | refine And.intro (fun hb => ?_) (fun hb => ?_) | fail); (all_goals (first | (refine Fin.pure ?_ ?_ ?_ <;> (try simp only [Tryd.results85, Tryd.ntmps85, wks, e0, hr, vcs, κa, κb, κc, κd, κe, κf, κg, κh, κi, κj, κk, κl, κm, reduceCtorEq, reduceIte, κn, κo, κp, κq, κr, κs, tys]) <;> (try simp only [injs])) | skip)))
    · have e0 : (s == []) = false := beq_false_of_ne h0
      by_cases h16 : 16 < s.length
      · have e1 : decide ((16 : Int) < (s.length : Int)) = true := decide_eq_true (by omega)
        refine ev_go (fun cargs w => Tryd.call85 cargs w) Tryd.func85 rfl mixed (by kernel_rfl) rfl ?_; intro b0 hb0
        ((repeat' first | simp only [fins, mems, Tryd.results85, Tryd.ntmps85, κt, wks, e0, e1, hr, vcs, κa, κb, κc, κd, κe, κf, κg, κh, κi, κj, κk, κl, κm, reduceCtorEq, reduceIte, κn, κo, κp, κq, κr, κs, tys] | exact rfl | refine call_off (v := .any) ?_ | ((first | (refine call_val (g := ?_) ?_ ?_) | (refine call_valg (g := ?_) ?_ ?_)); rotate_left 1; (focus (simp only [Tryd.results85, Tryd.ntmps85, κt, wks, e0, e1, hr, vcs, κa, κb, κc, κd, κe, κf, κg, κh, κi, κj, κk, κl, κm, reduceCtorEq, reduceIte, κn, κo, κp, κq, κr, κs, tys] <;> exact rfl))) | refine draw_end (by decide +kernel) ?_ | refine cond_bool (fun hb => ?_) (fun hb => ?_) | refine cond_bit (fun hb => ?_) (fun hb => ?_) | refine And.intro (by omega) ?_ | refine And.intro (fun hb => ?_) (fun hb => ?_) | fail); (all_goals (first | (refine Fin.pure ?_ ?_ ?_ <;> (try simp only [Tryd.results85, Tryd.ntmps85, wks, e0, e1, hr, vcs, κa, κb, κc, κd, κe, κf, κg, κh, κi, κj, κk, κl, κm, reduceCtorEq, reduceIte, κn, κo, κp, κq, κr, κs, tys]) <;> (try simp only [injs])) | skip)))
      · obtain ⟨h1, h2⟩ : s.head? = some 48 ∧ s ≠ [48] := by rcases hbad with h | h | h; exact absurd h h0; exact absurd h h16; exact h
        have e1 : decide ((16 : Int) < (s.length : Int)) = false := decide_eq_false (by omega)
        have e2 : s[0]? = some 48 := by rw [← List.head?_eq_getElem?]; exact h1
        have e3 : (s == [48]) = false := beq_false_of_ne h2
        have e4 : 0 < s.length := List.length_pos_iff.2 h0
        have e6 : (((48 : UInt8).toNat : Int) == 48) = true := rfl
        refine ev_go (fun cargs w => Tryd.call85 cargs w) Tryd.func85 rfl mixed (by kernel_rfl) rfl ?_; intro b0 hb0
        ((repeat' first | simp only [fins, mems, Tryd.results85, Tryd.ntmps85, κt, wks, e0, e1, e2, e3, e4, e6, hr, Bool.not_false, vcs, κa, κb, κc, κd, κe, κf, κg, κh, κi, κj, κk, κl, κm, reduceCtorEq, reduceIte, κn, κo, κp, κq, κr, κs, tys] | exact rfl | refine call_off (v := .any) ?_ | ((first | (refine call_val (g := ?_) ?_ ?_) | (refine call_valg (g := ?_) ?_ ?_)); rotate_left 1; (focus (simp only [Tryd.results85, Tryd.ntmps85, κt, wks, e0, e1, e2, e3, e4, e6, hr, Bool.not_false, vcs, κa, κb, κc, κd, κe, κf, κg, κh, κi, κj, κk, κl, κm, reduceCtorEq, reduceIte, κn, κo, κp, κq, κr, κs, tys] <;> exact rfl))) | refine draw_end (by decide +kernel) ?_ | refine cond_bool (fun hb => ?_) (fun hb => ?_) | refine cond_bit (fun hb => ?_) (fun hb => ?_) | refine And.intro (by omega) ?_ | refine And.intro (fun hb => ?_) (fun hb => ?_) | fail); (all_goals (first | (refine Fin.pure ?_ ?_ ?_ <;> (try simp only [Tryd.results85, Tryd.ntmps85, wks, e0, e1, e2, e3, e4, e6, hr, Bool.not_false, vcs, κa, κb, κc, κd, κe, κf, κg, κh, κi, κj, κk, κl, κm, reduceCtorEq, reduceIte, κn, κo, κp, κq, κr, κs, tys]) <;> (try simp only [injs])) | skip)))
  · have h0 : s ≠ [] := fun h => hbad (.inl h)
    have h16 : ¬ 16 < s.length := fun h => hbad (.inr (.inl h))
    have h48 : ¬ (s.head? = some 48 ∧ s ≠ [48]) := fun h => hbad (.inr (.inr h))
    have hdl : decL s = (decV 0 s).bind fun n => if n ≤ 9007199254740991 then some n else none := by unfold decL; rw [if_neg hbad]
    have e0 : (s == []) = false := beq_false_of_ne h0
    have e1 : decide ((16 : Int) < (s.length : Int)) = false := decide_eq_false (by omega)
    have e4 : 0 < s.length := List.length_pos_iff.2 h0
    obtain ⟨c0, hc0⟩ : ∃ c, s[0]? = some c := ⟨_, List.getElem?_eq_getElem e4⟩
    have e2 : ((c0.toNat : Int) == 48) = decide (c0 = 48) := beq_byte c0 48
    have e3 : c0 = 48 → (s == [48]) = true := fun h => by
      by_cases h5 : s = [48]
      · rw [h5]; rfl
      · exact absurd ⟨by rw [List.head?_eq_getElem?, hc0, h], h5⟩ h48
    have hround : ∀ b : Bool, decide (c0 = 48) = b → (b = true → (s == [48]) = true) := fun b h h2 => e3 (of_decide_eq_true (h.trans h2))
    generalize hb : decide (c0 = 48) = b at e2
    have e5 := hround b hb
    clear hround
    refine ev_go (fun cargs w => Tryd.call85 cargs w) Tryd.func85 rfl mixed (by kernel_rfl) rfl ?_; intro b0 hb0
    cases b
    all_goals (
      first | have e6 := e5 rfl | have e6 : True := trivial
      repeat' first | simp only [fins, mems, Tryd.results85, Tryd.ntmps85, κt, wks, e0, e1, hc0, e2, e4, e6, Bool.not_true, Bool.not_false, vcs, κa, κb, κc, κd, κe, κf, κg, κh, κi, κj, κk, κl, κm, reduceCtorEq, reduceIte, κn, κo, κp, κq, κr, κs, tys] | exact rfl | refine call_off (v := .any) ?_ | (refine ext_toBytes (bs := ?_) ?_ ?_ ?_ ?_; rotate_left 1; (iterate 2 (focus (simp only [Tryd.results85, Tryd.ntmps85, κt, wks, e0, e1, hc0, e2, e4, e6, Bool.not_true, Bool.not_false, vcs, κa, κb, κc, κd, κe, κf, κg, κh, κi, κj, κk, κl, κm, reduceCtorEq, reduceIte, κn, κo, κp, κq, κr, κs, tys]; done))); (focus (simp only [Tryd.results85, Tryd.ntmps85, κt, wks, e0, e1, hc0, e2, e4, e6, Bool.not_true, Bool.not_false, vcs, κa, κb, κc, κd, κe, κf, κg, κh, κi, κj, κk, κl, κm, reduceCtorEq, reduceIte, κn, κo, κp, κq, κr, κs, tys] <;> exact rfl))) | (refine extG_true ?_) | (refine extG_false ?_) | ((first | (refine call_val (g := ?_) ?_ ?_) | (refine call_valg (g := ?_) ?_ ?_)); rotate_left 1; (focus (simp only [Tryd.results85, Tryd.ntmps85, κt, wks, e0, e1, hc0, e2, e4, e6, Bool.not_true, Bool.not_false, vcs, κa, κb, κc, κd, κe, κf, κg, κh, κi, κj, κk, κl, κm, reduceCtorEq, reduceIte, κn, κo, κp, κq, κr, κs, tys] <;> exact rfl))) | refine draw_end (by decide +kernel) ?_ | refine cond_bool (fun hb => ?_) (fun hb => ?_) | refine cond_bit (fun hb => ?_) (fun hb => ?_) | refine And.intro (by omega) ?_ | refine And.intro (fun hb => ?_) (fun hb => ?_) | fail
      (refine loop_can2 cxG (fun x : Nat × Nat => s.length - x.1) (fun x => x.1 ≤ s.length ∧ decV 0 (s.take x.1) = some x.2) (b0 + 16) (fun x => [(2, .int .i64 x.2), (4, .bool false), (25, .sl false 1 (s.map byteRow)), (26, .int .i64 s.length), (27, .int .i64 x.1)]) (fun x => []) ((0, 0)) [] ?_ ?_ ?_ ?_; rotate_left 1; (focus (show b0 ≤ _; omega)); (focus (refine ⟨?_, ?_⟩ <;> (try simp only [cans, plain_bsG, List.length_map, show decV 0 [] = some 0 from rfl, vcs, κa, κb, κc, κd, κe, κf, κg, κh, κi, κj, κk, κl, κm, reduceCtorEq, reduceIte, κn, κo, κp, κq, κr, κs, tys, injs]) <;> (try omega))); rotate_left 1)
      · exact ⟨Nat.zero_le _, rfl⟩
      · rintro ⟨k, m⟩ ⟨hk, hv⟩
        simp only at hk hv
        have hmb := (decV_le _ _ _ hv).2
        have hkl : (s.take k).length = k := by rw [List.length_take]; omega
        rw [hkl] at hmb
        have hp16 : (10 : Nat) ^ k ≤ 10 ^ 16 := Nat.pow_le_pow_right (by omega) (by omega)
        have hm16 : m < 10000000000000000 := by simp only [Nat.zero_add, Nat.one_mul] at hmb; exact Nat.lt_of_lt_of_le hmb hp16
        by_cases hlt : k < s.length
        · obtain ⟨c, hc⟩ : ∃ c, s[k]? = some c := ⟨_, List.getElem?_eq_getElem hlt⟩
          have hh : (s.map byteRow)[k]? = some (byteRow c) := by rw [List.getElem?_map, hc]; rfl
          have hd : decide (k < s.length) = true := decide_eq_true hlt
          have hwk : IntKind.i64.wrap ((k : Int) + 1) = ((k + 1 : Nat) : Int) := wrap_in (by omega) (by omega)
          have hcn : c.toNat < 256 := c.toNat_lt
          have hw1 : IntKind.i64.wrap (c.toNat : Int) = (c.toNat : Int) := wrap_in (by omega) (by omega)
          have hw2 : IntKind.i64.wrap ((c.toNat : Int) - 48) = (c.toNat : Int) - 48 := wrap_in (by omega) (by omega)
          have hnx := decV_take hc
          rw [hv] at hnx
          simp only [Option.bind_some] at hnx
          cases hdc : decD c with
          | none =>
            have hno : decV 0 s = none := by
              rw [hdc] at hnx
              rw [← List.take_append_drop (k + 1) s]
              exact decV_none hnx
            have hr := readE_none (s := s) (by rw [hdl, hno]; rfl)
            have hcs : decide ((c.toNat : Int) - 48 < 0) = true ∨ (decide ((c.toNat : Int) - 48 < 0) = false ∧ decide ((9 : Int) < (c.toNat : Int) - 48) = true) := by
              by_cases h1 : (c.toNat : Int) - 48 < 0
              · exact .inl (decide_eq_true h1)
              · refine .inr ⟨decide_eq_false h1, decide_eq_true ?_⟩
                unfold decD at hdc
                split at hdc
                · cases hdc
                · omega
            rcases hcs with h1 | ⟨h1, h2⟩
            · ((repeat' first | simp only [fins, mems, Tryd.results85, Tryd.ntmps85, κt, wks, hh, hd, hlt, hw1, hw2, h1, hr, byteRow, List.length_map, vcs, κa, κb, κc, κd, κe, κf, κg, κh, κi, κj, κk, κl, κm, reduceCtorEq, reduceIte, κn, κo, κp, κq, κr, κs, tys] | exact rfl | refine call_off (v := .any) ?_ | ((first | (refine call_val (g := ?_) ?_ ?_) | (refine call_valg (g := ?_) ?_ ?_)); rotate_left 1; (focus (simp only [Tryd.results85, Tryd.ntmps85, κt, wks, hh, hd, hlt, hw1, hw2, h1, hr, byteRow, List.length_map, vcs, κa, κb, κc, κd, κe, κf, κg, κh, κi, κj, κk, κl, κm, reduceCtorEq, reduceIte, κn, κo, κp, κq, κr, κs, tys] <;> exact rfl))) | refine draw_end (by decide +kernel) ?_ | refine cond_bool (fun hb => ?_) (fun hb => ?_) | refine cond_bit (fun hb => ?_) (fun hb => ?_) | refine And.intro (by omega) ?_ | refine And.intro (fun hb => ?_) (fun hb => ?_) | fail); (all_goals (first | (refine Fin.pure ?_ ?_ ?_ <;> (try simp only [Tryd.results85, Tryd.ntmps85, wks, hh, hd, hlt, hw1, hw2, h1, hr, byteRow, List.length_map, vcs, κa, κb, κc, κd, κe, κf, κg, κh, κi, κj, κk, κl, κm, reduceCtorEq, reduceIte, κn, κo, κp, κq, κr, κs, tys]) <;> (try simp only [injs])) | skip)))
            · ((repeat' first | simp only [fins, mems, Tryd.results85, Tryd.ntmps85, κt, wks, hh, hd, hlt, hw1, hw2, h1, h2, hr, byteRow, List.length_map, vcs, κa, κb, κc, κd, κe, κf, κg, κh, κi, κj, κk, κl, κm, reduceCtorEq, reduceIte, κn, κo, κp, κq, κr, κs, tys] | exact rfl | refine call_off (v := .any) ?_ | ((first | (refine call_val (g := ?_) ?_ ?_) | (refine call_valg (g := ?_) ?_ ?_)); rotate_left 1; (focus (simp only [Tryd.results85, Tryd.ntmps85, κt, wks, hh, hd, hlt, hw1, hw2, h1, h2, hr, byteRow, List.length_map, vcs, κa, κb, κc, κd, κe, κf, κg, κh, κi, κj, κk, κl, κm, reduceCtorEq, reduceIte, κn, κo, κp, κq, κr, κs, tys] <;> exact rfl))) | refine draw_end (by decide +kernel) ?_ | refine cond_bool (fun hb => ?_) (fun hb => ?_) | refine cond_bit (fun hb => ?_) (fun hb => ?_) | refine And.intro (by omega) ?_ | refine And.intro (fun hb => ?_) (fun hb => ?_) | fail); (all_goals (first | (refine Fin.pure ?_ ?_ ?_ <;> (try simp only [Tryd.results85, Tryd.ntmps85, wks, hh, hd, hlt, hw1, hw2, h1, h2, hr, byteRow, List.length_map, vcs, κa, κb, κc, κd, κe, κf, κg, κh, κi, κj, κk, κl, κm, reduceCtorEq, reduceIte, κn, κo, κp, κq, κr, κs, tys]) <;> (try simp only [injs])) | skip)))
          | some d =>
            obtain ⟨d9, _, hcd⟩ := decD_range hdc
            rw [hdc] at hnx
            have h1 : decide ((c.toNat : Int) - 48 < 0) = false := decide_eq_false (by omega)
            have h2 : decide ((9 : Int) < (c.toNat : Int) - 48) = false := decide_eq_false (by omega)
            have hw3 : IntKind.i64.wrap (10 * (m : Int)) = 10 * (m : Int) := wrap_in (by omega) (by omega)
            have hw4 : IntKind.i64.wrap (10 * (m : Int) + ((c.toNat : Int) - 48)) = ((10 * m + d : Nat) : Int) := by rw [wrap_in (by omega) (by omega)]; omega
            repeat' first | simp only [fins, mems, Tryd.results85, Tryd.ntmps85, κt, wks, hh, hd, hlt, hw1, hw2, hw3, hw4, h1, h2, byteRow, List.length_map, vcs, κa, κb, κc, κd, κe, κf, κg, κh, κi, κj, κk, κl, κm, reduceCtorEq, reduceIte, κn, κo, κp, κq, κr, κs, tys] | exact rfl | refine call_off (v := .any) ?_ | ((first | (refine call_val (g := ?_) ?_ ?_) | (refine call_valg (g := ?_) ?_ ?_)); rotate_left 1; (focus (simp only [Tryd.results85, Tryd.ntmps85, κt, wks, hh, hd, hlt, hw1, hw2, hw3, hw4, h1, h2, byteRow, List.length_map, vcs, κa, κb, κc, κd, κe, κf, κg, κh, κi, κj, κk, κl, κm, reduceCtorEq, reduceIte, κn, κo, κp, κq, κr, κs, tys] <;> exact rfl))) | refine draw_end (by decide +kernel) ?_ | refine cond_bool (fun hb => ?_) (fun hb => ?_) | refine cond_bit (fun hb => ?_) (fun hb => ?_) | refine And.intro (by omega) ?_ | refine And.intro (fun hb => ?_) (fun hb => ?_) | fail
            all_goals ((refine again_can2 cxG ((k + 1, 10 * m + d)) [] ?_ ?_ ?_ ?_; rotate_left 2; (focus (show b0 ≤ _; omega)); (focus (refine ⟨?_, ?_⟩ <;> (try simp only [cans, plain_bsG, hwk, hw4, List.length_map, vcs, κa, κb, κc, κd, κe, κf, κg, κh, κi, κj, κk, κl, κm, reduceCtorEq, reduceIte, κn, κo, κp, κq, κr, κs, tys, injs]) <;> (try omega)))))
            all_goals (first | (show s.length - (k + 1) < s.length - k; omega) | exact ⟨hlt, hnx⟩ | skip)
        · have hke : k = s.length := by omega
          subst hke
          rw [List.take_length] at hv
          have hd : decide (s.length < s.length) = false := decide_eq_false (by omega)
          by_cases hmx : m ≤ 9007199254740991
          · have hr := readE_some (s := s) (n := m) (by rw [hdl, hv]; simp only [Option.bind_some]; rw [if_pos hmx])
            have h1 : decide ((9007199254740991 : Int) < (m : Int)) = false := decide_eq_false (by omega)
            ((repeat' first | simp only [fins, mems, Tryd.results85, Tryd.ntmps85, κt, wks, hd, h1, hr, List.length_map, vcs, κa, κb, κc, κd, κe, κf, κg, κh, κi, κj, κk, κl, κm, reduceCtorEq, reduceIte, κn, κo, κp, κq, κr, κs, tys] | exact rfl | refine call_off (v := .any) ?_ | ((first | (refine call_val (g := ?_) ?_ ?_) | (refine call_valg (g := ?_) ?_ ?_)); rotate_left 1; (focus (simp only [Tryd.results85, Tryd.ntmps85, κt, wks, hd, h1, hr, List.length_map, vcs, κa, κb, κc, κd, κe, κf, κg, κh, κi, κj, κk, κl, κm, reduceCtorEq, reduceIte, κn, κo, κp, κq, κr, κs, tys] <;> exact rfl))) | refine draw_end (by decide +kernel) ?_ | refine cond_bool (fun hb => ?_) (fun hb => ?_) | refine cond_bit (fun hb => ?_) (fun hb => ?_) | refine And.intro (by omega) ?_ | refine And.intro (fun hb => ?_) (fun hb => ?_) | fail); (all_goals (first | (refine Fin.pure ?_ ?_ ?_ <;> (try simp only [Tryd.results85, Tryd.ntmps85, wks, hd, h1, hr, List.length_map, vcs, κa, κb, κc, κd, κe, κf, κg, κh, κi, κj, κk, κl, κm, reduceCtorEq, reduceIte, κn, κo, κp, κq, κr, κs, tys]) <;> (try simp only [injs])) | skip)))
          · have hr := readE_none (s := s) (by rw [hdl, hv]; simp only [Option.bind_some]; rw [if_neg hmx])
            have h1 : decide ((9007199254740991 : Int) < (m : Int)) = true := decide_eq_true (by omega)
            ((repeat' first | simp only [fins, mems, Tryd.results85, Tryd.ntmps85, κt, wks, hd, h1, hr, List.length_map, vcs, κa, κb, κc, κd, κe, κf, κg, κh, κi, κj, κk, κl, κm, reduceCtorEq, reduceIte, κn, κo, κp, κq, κr, κs, tys] | exact rfl | refine call_off (v := .any) ?_ | ((first | (refine call_val (g := ?_) ?_ ?_) | (refine call_valg (g := ?_) ?_ ?_)); rotate_left 1; (focus (simp only [Tryd.results85, Tryd.ntmps85, κt, wks, hd, h1, hr, List.length_map, vcs, κa, κb, κc, κd, κe, κf, κg, κh, κi, κj, κk, κl, κm, reduceCtorEq, reduceIte, κn, κo, κp, κq, κr, κs, tys] <;> exact rfl))) | refine draw_end (by decide +kernel) ?_ | refine cond_bool (fun hb => ?_) (fun hb => ?_) | refine cond_bit (fun hb => ?_) (fun hb => ?_) | refine And.intro (by omega) ?_ | refine And.intro (fun hb => ?_) (fun hb => ?_) | fail); (all_goals (first | (refine Fin.pure ?_ ?_ ?_ <;> (try simp only [Tryd.results85, Tryd.ntmps85, wks, hd, h1, hr, List.length_map, vcs, κa, κb, κc, κd, κe, κf, κg, κh, κi, κj, κk, κl, κm, reduceCtorEq, reduceIte, κn, κo, κp, κq, κr, κs, tys]) <;> (try simp only [injs])) | skip))))
end Go.Proofs.YtanahnknjboplaaDoor
/-
  strconv.ParseUint of hexadecimal digits by the machine.
-/
namespace Go.Proofs.YtanahnknjboplaaDoor
set_option linter.unusedSimpArgs false
set_option linter.unusedVariables false
open Nat renaming reduceAdd → κa, reduceMul → κb, reduceEqDiff → κc, reduceLeDiff → κd, reduceSub → κe, reduceLT → κf, reduceBEq → κr, reduceBNe → κs, reducePow → κt
open Int renaming reduceToNat → κg, reduceLE → κh, reduceLT → κi, reduceAdd → κj, reduceSub → κk, reduceMul → κl, reduceNeg → κm, reduceBEq → κn, reduceBNe → κo, reduceEq → κp, reduceNe → κq
open Go Go.RowKit Go.Proofs.YtanahnknjboplaaDoor.Vm Go.Lib

/-- A byte's small letter. -/
def lowI (c : UInt8) : Int := IntKind.u8.wrap ((BitVec.ofInt IntKind.u8.bits (c.toNat : Int) ||| BitVec.ofInt IntKind.u8.bits 32).toNat : Int)
set_option maxRecDepth 100000 in
theorem lower_ev (c : UInt8) (nm : Nat) : Ev cx 111 nm [.int .u8 c.toNat] Mem.nil (.int .u8 (lowI c)) [] := by
  have h : IntKind.u8.wrap ((BitVec.ofInt IntKind.u8.bits (c.toNat : Int) ||| BitVec.ofInt IntKind.u8.bits 32).toNat : Int) = lowI c := rfl
  refine ev_go (fun cargs w => Tryd.call111 cargs w) Tryd.func111 rfl mixed (by kernel_rfl) rfl ?_; intro b0 hb0
  ((repeat' first | simp only [fins, mems, Tryd.results111, Tryd.ntmps111, κt, wks, h, vcs, κa, κb, κc, κd, κe, κf, κg, κh, κi, κj, κk, κl, κm, reduceCtorEq, reduceIte, κn, κo, κp, κq, κr, κs, tys] | exact rfl | refine call_off (v := .any) ?_ | ((first | (refine call_val (g := ?_) ?_ ?_) | (refine call_valg (g := ?_) ?_ ?_)); rotate_left 1; (focus (simp only [Tryd.results111, Tryd.ntmps111, κt, wks, h, vcs, κa, κb, κc, κd, κe, κf, κg, κh, κi, κj, κk, κl, κm, reduceCtorEq, reduceIte, κn, κo, κp, κq, κr, κs, tys] <;> exact rfl))) | refine draw_end (by decide +kernel) ?_ | refine cond_bool (fun hb => ?_) (fun hb => ?_) | refine cond_bit (fun hb => ?_) (fun hb => ?_) | refine And.intro (by omega) ?_ | refine And.intro (fun hb => ?_) (fun hb => ?_) | fail); (all_goals (first | (refine Fin.pure ?_ ?_ ?_ <;> (try simp only [Tryd.results111, Tryd.ntmps111, wks, h, vcs, κa, κb, κc, κd, κe, κf, κg, κh, κi, κj, κk, κl, κm, reduceCtorEq, reduceIte, κn, κo, κp, κq, κr, κs, tys]) <;> (try simp only [injs])) | skip)))
theorem low_hex {c : UInt8} {d : Nat} (h : hexD c = some d) : (48 ≤ c.toNat ∧ c.toNat ≤ 57 ∧ d = c.toNat - 48) ∨ (57 < c.toNat ∧ c.toNat ≠ 95 ∧ 97 ≤ lowI c ∧ lowI c ≤ 102 ∧ (d : Int) = lowI c - 87) := by
  have key : ∀ n : Fin 256, (97 ≤ n.val ∧ n.val ≤ 102 → lowI (UInt8.ofNat n.val) = n.val) ∧ (65 ≤ n.val ∧ n.val ≤ 70 → lowI (UInt8.ofNat n.val) = n.val + 32) := by decide +kernel
  have hk := key ⟨c.toNat, c.toNat_lt⟩
  simp only [UInt8.ofNat_toNat] at hk
  unfold hexD at h
  split at h
  · rename_i h1; cases h; left; omega
  · split at h
    · rename_i h1; cases h; right
      have := hk.1 h1
      omega
    · split at h
      · rename_i h1; cases h; right
        have := hk.2 h1
        omega
      · cases h
theorem hexV_snoc : ∀ (s : List UInt8) (n : Nat) (c : UInt8), hexV n (s ++ [c]) = (hexV n s).bind fun m => (hexD c).map fun d => 16 * m + d
  | [], n, c => by
    simp only [List.nil_append, hexV, Option.bind_some]
    cases hexD c <;> rfl
  | x :: s, n, c => by
    simp only [List.cons_append, hexV]
    cases hexD x with
    | none => rfl
    | some d => exact hexV_snoc s _ c
theorem hexV_take {s : List UInt8} {k : Nat} {c : UInt8} (h : s[k]? = some c) : hexV 0 (s.take (k + 1)) = (hexV 0 (s.take k)).bind fun m => (hexD c).map fun d => 16 * m + d := by
  obtain ⟨hk, rfl⟩ := List.getElem?_eq_some_iff.1 h
  rw [List.take_succ_eq_append_getElem hk, hexV_snoc]
theorem hexD_lt {c : UInt8} {d : Nat} (h : hexD c = some d) : d < 16 := by
  unfold hexD at h
  split at h
  · cases h; omega
  · split at h
    · cases h; omega
    · split at h
      · cases h; omega
      · cases h
theorem hexV_lt : ∀ (s : List UInt8) (n m : Nat), hexV n s = some m → m < (n + 1) * 16 ^ s.length
  | [], n, m, h => by simp only [hexV] at h; cases h; simp
  | x :: s, n, m, h => by
    simp only [hexV] at h
    cases hx : hexD x with
    | none => rw [hx] at h; cases h
    | some d =>
      rw [hx] at h
      have hd := hexD_lt hx
      refine Nat.lt_of_lt_of_le (hexV_lt s _ m h) ?_
      rw [List.length_cons, Nat.pow_succ', ← Nat.mul_assoc]
      exact Nat.mul_le_mul_right _ (by omega)
theorem hexV_none : ∀ {s t : List UInt8} {n : Nat}, hexV n s = none → hexV n (s ++ t) = none
  | [], t, n, h => by simp [hexV] at h
  | c :: s, t, n, h => by
    simp only [List.cons_append, hexV] at h ⊢
    cases hc : hexD c with
    | none => rfl
    | some d => rw [hc] at h; exact hexV_none h
/-- All hexadecimal digits. -/
def allHex (s : List UInt8) : Bool := s.all fun c => (hexD c).isSome
theorem hexV_all : ∀ (s : List UInt8) (n : Nat), allHex s = (hexV n s).isSome
  | [], n => rfl
  | c :: s, n => by
    simp only [allHex, List.all_cons, hexV]
    cases hc : hexD c with
    | none => simp
    | some d => simpa [allHex] using hexV_all s (16 * n + d)
set_option maxRecDepth 100000 in
set_option maxHeartbeats 8000000 in
theorem uint_ev (s : List UInt8) (n : Nat) (hl : s.length ≤ 6) (h0 : s ≠ []) (hv : hexV 0 s = some n) (nm : Nat) : Ev cx 97 nm [.str s, .int .i64 16, .int .i64 32] Mem.nil (.tup [.int .u64 n, .val .nilIface]) [] := by
  have e0 : (s == []) = false := beq_false_of_ne h0
  have hsh : IntKind.u64.wrap (1 * 2 ^ min 32 IntKind.u64.bits) = 4294967296 := by decide
  have hsh2 : IntKind.u64.wrap (4294967296 - 1) = 4294967295 := by decide
  have hsh3 : IntKind.u64.wrap 4294967295 = 4294967295 := by decide
  have hL : s.length ≤ 6 := hl
  have hw32 : IntKind.u64.wrap 32 = 32 := by decide
  have q16 : IntKind.u8.wrap 16 = 16 := by decide
  have q16' : IntKind.u64.wrap 16 = 16 := by decide
  refine ev_go (fun cargs w => Tryd.call97 cargs w) Tryd.func97 rfl mixed (by kernel_rfl) rfl ?_; intro b0 hb0
  repeat' first | simp only [fins, mems, Tryd.results97, Tryd.ntmps97, κt, wks, e0, hw32, hsh, hsh2, hsh3, vcs, κa, κb, κc, κd, κe, κf, κg, κh, κi, κj, κk, κl, κm, reduceCtorEq, reduceIte, κn, κo, κp, κq, κr, κs, tys] | exact rfl | refine call_off (v := .any) ?_ | (refine ext_toBytes (bs := ?_) ?_ ?_ ?_ ?_; rotate_left 1; (iterate 2 (focus (simp only [Tryd.results97, Tryd.ntmps97, κt, wks, e0, hw32, hsh, hsh2, hsh3, vcs, κa, κb, κc, κd, κe, κf, κg, κh, κi, κj, κk, κl, κm, reduceCtorEq, reduceIte, κn, κo, κp, κq, κr, κs, tys]; done))); (focus (simp only [Tryd.results97, Tryd.ntmps97, κt, wks, e0, hw32, hsh, hsh2, hsh3, vcs, κa, κb, κc, κd, κe, κf, κg, κh, κi, κj, κk, κl, κm, reduceCtorEq, reduceIte, κn, κo, κp, κq, κr, κs, tys] <;> exact rfl))) | (refine extG_true ?_) | (refine extG_false ?_) | ((first | (refine call_val (g := ?_) ?_ ?_) | (refine call_valg (g := ?_) ?_ ?_)); rotate_left 1; (focus (simp only [Tryd.results97, Tryd.ntmps97, κt, wks, e0, hw32, hsh, hsh2, hsh3, vcs, κa, κb, κc, κd, κe, κf, κg, κh, κi, κj, κk, κl, κm, reduceCtorEq, reduceIte, κn, κo, κp, κq, κr, κs, tys] <;> exact rfl))) | refine draw_end (by decide +kernel) ?_ | refine cond_bool (fun hb => ?_) (fun hb => ?_) | refine cond_bit (fun hb => ?_) (fun hb => ?_) | refine And.intro (by omega) ?_ | refine And.intro (fun hb => ?_) (fun hb => ?_) | fail
  (refine loop_can2 cxG (fun x : Nat × Nat => s.length - x.1) (fun x => x.1 ≤ s.length ∧ hexV 0 (s.take x.1) = some x.2) (b0 + 16) (fun x => [(1, .int .i64 16), (8, .bool false), (9, .str s), (10, .int .u64 1152921504606846976), (11, .int .u64 4294967295), (12, .bool false), (13, .int .u64 x.2), (99, .sl false 1 (s.map byteRow)), (100, .int .i64 s.length), (101, .int .i64 x.1)]) (fun x => []) ((0, 0)) [] ?_ ?_ ?_ ?_; rotate_left 1; (focus (show b0 ≤ _; omega)); (focus (refine ⟨?_, ?_⟩ <;> (try simp only [cans, plain_bsG, List.length_map, show hexV 0 [] = some 0 from rfl, vcs, κa, κb, κc, κd, κe, κf, κg, κh, κi, κj, κk, κl, κm, reduceCtorEq, reduceIte, κn, κo, κp, κq, κr, κs, tys, injs]) <;> (try omega))); rotate_left 1)
  · exact ⟨Nat.zero_le _, rfl⟩
  · rintro ⟨k, m⟩ ⟨hk, hm⟩
    simp only at hk hm
    have hmb := hexV_lt _ _ _ hm
    have hkl : (s.take k).length = k := by rw [List.length_take]; omega
    rw [hkl] at hmb
    have hp6 : (16 : Nat) ^ k ≤ 16 ^ 6 := Nat.pow_le_pow_right (by omega) (by omega)
    have hm6 : m < 16777216 := by simp only [Nat.zero_add, Nat.one_mul] at hmb; exact Nat.lt_of_lt_of_le hmb hp6
    by_cases hlt : k < s.length
    · obtain ⟨c, hc⟩ : ∃ c, s[k]? = some c := ⟨_, List.getElem?_eq_getElem hlt⟩
      have hh : (s.map byteRow)[k]? = some (byteRow c) := by rw [List.getElem?_map, hc]; rfl
      have hd : decide (k < s.length) = true := decide_eq_true hlt
      have hwk : IntKind.i64.wrap ((k : Int) + 1) = ((k + 1 : Nat) : Int) := wrap_in (by omega) (by omega)
      have hcn : c.toNat < 256 := c.toNat_lt
      have hnx := hexV_take hc
      rw [hm] at hnx
      simp only [Option.bind_some] at hnx
      cases hdc : hexD c with
      | none =>
        exfalso
        rw [hdc] at hnx
        have : hexV 0 s = none := by rw [← List.take_append_drop (k + 1) s]; exact hexV_none hnx
        rw [this] at hv; cases hv
      | some d =>
        rw [hdc] at hnx
        have hdl := hexD_lt hdc
        have hd16 : decide ((16 : Int) ≤ (d : Int)) = false := decide_eq_false (by omega)
        have hcu : decide ((1152921504606846976 : Int) ≤ (m : Int)) = false := decide_eq_false (by omega)
        have hw3 : IntKind.u64.wrap ((m : Int) * 16) = (m : Int) * 16 := IntWalk.u64_in _ (by omega)
        have hw4 : IntKind.u64.wrap (d : Int) = (d : Int) := IntWalk.u64_in _ (by omega)
        have hw5 : IntKind.u64.wrap ((m : Int) * 16 + (d : Int)) = ((16 * m + d : Nat) : Int) := by rw [IntWalk.u64_in _ (by omega)]; omega
        have hc1 : decide (((16 * m + d : Nat) : Int) < (m : Int) * 16) = false := decide_eq_false (by omega)
        have hc2 : decide ((4294967295 : Int) < ((16 * m + d : Nat) : Int)) = false := decide_eq_false (by omega)
        rcases low_hex hdc with ⟨h1, h2, h3⟩ | ⟨h1, h2, h3, h4, h5⟩
        · have q95 : ((c.toNat : Int) == 95) = false := beq_false_of_ne (by omega)
          have q48 : decide ((48 : Int) ≤ (c.toNat : Int)) = true := decide_eq_true (by omega)
          have q57 : decide ((c.toNat : Int) ≤ 57) = true := decide_eq_true (by omega)
          have hw1 : IntKind.u8.wrap ((c.toNat : Int) - 48) = (d : Int) := by rw [IntWalk.u8_in _ (by omega)]; omega
          repeat' first | simp only [fins, mems, Tryd.results97, Tryd.ntmps97, κt, wks, hh, hd, hlt, hw1, hw3, hw4, hw5, hd16, hcu, hc1, hc2, q95, q48, q57, q16, q16', byteRow, List.length_map, vcs, κa, κb, κc, κd, κe, κf, κg, κh, κi, κj, κk, κl, κm, reduceCtorEq, reduceIte, κn, κo, κp, κq, κr, κs, tys] | exact rfl | refine call_off (v := .any) ?_ | ((first | (refine call_val (g := ?_) ?_ ?_) | (refine call_valg (g := ?_) ?_ ?_)); rotate_left 1; (focus (simp only [Tryd.results97, Tryd.ntmps97, κt, wks, hh, hd, hlt, hw1, hw3, hw4, hw5, hd16, hcu, hc1, hc2, q95, q48, q57, q16, q16', byteRow, List.length_map, vcs, κa, κb, κc, κd, κe, κf, κg, κh, κi, κj, κk, κl, κm, reduceCtorEq, reduceIte, κn, κo, κp, κq, κr, κs, tys] <;> exact rfl))) | refine draw_end (by decide +kernel) ?_ | refine cond_bool (fun hb => ?_) (fun hb => ?_) | refine cond_bit (fun hb => ?_) (fun hb => ?_) | refine And.intro (by omega) ?_ | refine And.intro (fun hb => ?_) (fun hb => ?_) | fail
          all_goals ((refine again_can2 cxG ((k + 1, 16 * m + d)) [] ?_ ?_ ?_ ?_; rotate_left 2; (focus (show b0 ≤ _; omega)); (focus (refine ⟨?_, ?_⟩ <;> (try simp only [cans, plain_bsG, hwk, List.length_map, vcs, κa, κb, κc, κd, κe, κf, κg, κh, κi, κj, κk, κl, κm, reduceCtorEq, reduceIte, κn, κo, κp, κq, κr, κs, tys, injs]) <;> (try omega)))))
          all_goals (first | (show s.length - (k + 1) < s.length - k; omega) | exact ⟨hlt, hnx⟩ | skip)
        · have q95 : ((c.toNat : Int) == 95) = false := beq_false_of_ne (by omega)
          have q48 : decide ((48 : Int) ≤ (c.toNat : Int)) = true := decide_eq_true (by omega)
          have q57 : decide ((c.toNat : Int) ≤ 57) = false := decide_eq_false (by omega)
          have q97 : decide ((97 : Int) ≤ lowI c) = true := decide_eq_true (by omega)
          have q122 : decide (lowI c ≤ (122 : Int)) = true := decide_eq_true (by omega)
          have hw1 : IntKind.u8.wrap (lowI c - 97) = lowI c - 97 := IntWalk.u8_in _ (by omega)
          have hw2 : IntKind.u8.wrap (lowI c - 97 + 10) = (d : Int) := by rw [IntWalk.u8_in _ (by omega)]; omega
          repeat' first | simp only [fins, mems, Tryd.results97, Tryd.ntmps97, κt, wks, hh, hd, hlt, hw1, hw2, hw3, hw4, hw5, hd16, hcu, hc1, hc2, q95, q48, q57, q97, q122, q16, q16', byteRow, List.length_map, vcs, κa, κb, κc, κd, κe, κf, κg, κh, κi, κj, κk, κl, κm, reduceCtorEq, reduceIte, κn, κo, κp, κq, κr, κs, tys] | exact rfl | refine call_off (v := .any) ?_ | (first | (refine call_fn ?_ (lower_ev c _) ?_) | (refine call_fn_g ?_ (fun _ => lower_ev c _) ?_)) | ((first | (refine call_val (g := ?_) ?_ ?_) | (refine call_valg (g := ?_) ?_ ?_)); rotate_left 1; (focus (simp only [Tryd.results97, Tryd.ntmps97, κt, wks, hh, hd, hlt, hw1, hw2, hw3, hw4, hw5, hd16, hcu, hc1, hc2, q95, q48, q57, q97, q122, q16, q16', byteRow, List.length_map, vcs, κa, κb, κc, κd, κe, κf, κg, κh, κi, κj, κk, κl, κm, reduceCtorEq, reduceIte, κn, κo, κp, κq, κr, κs, tys] <;> exact rfl))) | refine draw_end (by decide +kernel) ?_ | refine cond_bool (fun hb => ?_) (fun hb => ?_) | refine cond_bit (fun hb => ?_) (fun hb => ?_) | refine And.intro (by omega) ?_ | refine And.intro (fun hb => ?_) (fun hb => ?_) | fail
          all_goals ((refine again_can2 cxG ((k + 1, 16 * m + d)) [] ?_ ?_ ?_ ?_; rotate_left 2; (focus (show b0 ≤ _; omega)); (focus (refine ⟨?_, ?_⟩ <;> (try simp only [cans, plain_bsG, hwk, List.length_map, vcs, κa, κb, κc, κd, κe, κf, κg, κh, κi, κj, κk, κl, κm, reduceCtorEq, reduceIte, κn, κo, κp, κq, κr, κs, tys, injs]) <;> (try omega)))))
          all_goals (first | (show s.length - (k + 1) < s.length - k; omega) | exact ⟨hlt, hnx⟩ | skip)
    · have hke : k = s.length := by omega
      subst hke
      rw [List.take_length, hv] at hm
      cases hm
      have hd : decide (s.length < s.length) = false := decide_eq_false (by omega)
      ((repeat' first | simp only [fins, mems, Tryd.results97, Tryd.ntmps97, κt, wks, hd, List.length_map, vcs, κa, κb, κc, κd, κe, κf, κg, κh, κi, κj, κk, κl, κm, reduceCtorEq, reduceIte, κn, κo, κp, κq, κr, κs, tys] | exact rfl | refine call_off (v := .any) ?_ | ((first | (refine call_val (g := ?_) ?_ ?_) | (refine call_valg (g := ?_) ?_ ?_)); rotate_left 1; (focus (simp only [Tryd.results97, Tryd.ntmps97, κt, wks, hd, List.length_map, vcs, κa, κb, κc, κd, κe, κf, κg, κh, κi, κj, κk, κl, κm, reduceCtorEq, reduceIte, κn, κo, κp, κq, κr, κs, tys] <;> exact rfl))) | refine draw_end (by decide +kernel) ?_ | refine cond_bool (fun hb => ?_) (fun hb => ?_) | refine cond_bit (fun hb => ?_) (fun hb => ?_) | refine And.intro (by omega) ?_ | refine And.intro (fun hb => ?_) (fun hb => ?_) | fail); (all_goals (first | (refine Fin.pure ?_ ?_ ?_ <;> (try simp only [Tryd.results97, Tryd.ntmps97, wks, hd, List.length_map, vcs, κa, κb, κc, κd, κe, κf, κg, κh, κi, κj, κk, κl, κm, reduceCtorEq, reduceIte, κn, κo, κp, κq, κr, κs, tys]) <;> (try simp only [injs])) | skip)))
end Go.Proofs.YtanahnknjboplaaDoor
