/-
  Facts on the program's types. (Printed by Facts.lean.)
-/
import Derived.Test.YtdbbnhmnlgfjoaaRc
import Derived.Test.YtdbbnhmnlgfjoaaChecked
namespace Go.Proofs.Ytdbbnhmnlgfjoaa
open Go Go.RowKit Go.Proofs.Ytdbbnhmnlgfjoaa.Vm
noncomputable def cx : Cx := ⟨Try.prog, fun _ => .any⟩
theorem mixed : cx.P.follows .mixedOrders = true := by kernel_rfl
theorem lenKind_string {P : Program} {t : TypeId} (h : P.underlying t = some .string) : lenKind P t = true := by simp [lenKind, h]
theorem ty_25 : ty cx.P 25 = some (4, true) := by kernel_rfl
theorem zero_25 : zeroL cx.P 25 = some [.nils, .nils, .int .i64 0, .int .i64 0] := by kernel_rfl
theorem und_3 : cx.P.underlying 3 = some (.int .i64) := by kernel_rfl
theorem und_4 : cx.P.underlying 4 = some .bool := by kernel_rfl
theorem fld_43_3 : fld cx.P 43 3 = some (3, 1, false) := by kernel_rfl
theorem ty_9 : ty cx.P 9 = some (1, false) := by kernel_rfl
theorem und_9 : cx.P.underlying 9 = some .string := by kernel_rfl
theorem lk_9 : lenKind cx.P 9 = true := by kernel_rfl
theorem ty_43 : ty cx.P 43 = some (6, true) := by kernel_rfl
theorem fld_43_0 : fld cx.P 43 0 = some (0, 1, false) := by kernel_rfl
theorem ty_3 : ty cx.P 3 = some (1, false) := by kernel_rfl
theorem und_5 : cx.P.underlying 5 = some (.int .u8) := by kernel_rfl
theorem und_57 : cx.P.underlying 57 = some (.slice 61) := by kernel_rfl
theorem el_57 : elInfo cx.P 57 = some ([.int .u8 0, .int .i64 0, .str []], 32) := by kernel_rfl
theorem lk_57 : lenKind cx.P 57 = true := by kernel_rfl
theorem shape_25 : shapeT cx.P 25 = some ([.nils, .nils, .int .i64 0, .int .i64 0], [(0, 1), (1, 1), (2, 1), (3, 1)]) := by kernel_rfl
theorem elm_57 : elm cx.P 57 = some (none, 3, true) := by kernel_rfl
theorem fld_61_2 : fld cx.P 61 2 = some (2, 1, false) := by kernel_rfl
theorem fld_61_0 : fld cx.P 61 0 = some (0, 1, false) := by kernel_rfl
theorem ty_5 : ty cx.P 5 = some (1, false) := by kernel_rfl
theorem fld_25_2 : fld cx.P 25 2 = some (2, 1, false) := by kernel_rfl
theorem fld_25_0 : fld cx.P 25 0 = some (0, 1, false) := by kernel_rfl
theorem ty_22 : ty cx.P 22 = some (1, false) := by kernel_rfl
theorem und_22 : cx.P.underlying 22 = some (.slice 43) := by kernel_rfl
theorem el_22 : elInfo cx.P 22 = some ([.int .i64 0, .int .i64 0, .int .i64 0, .str [], .int .i64 0, .int .i64 0], 56) := by kernel_rfl
theorem lk_22 : lenKind cx.P 22 = true := by kernel_rfl
theorem shape_43 : shapeT cx.P 43 = some ([.int .i64 0, .int .i64 0, .int .i64 0, .str [], .int .i64 0, .int .i64 0], [(0, 1), (1, 1), (2, 1), (3, 1), (4, 1), (5, 1)]) := by kernel_rfl
theorem und_28 : cx.P.underlying 28 = some (.int .i64) := by kernel_rfl
theorem shape_64 : shapeT cx.P 64 = some ([.int .i64 0, .str []], [(0, 1), (1, 1)]) := by kernel_rfl
theorem el_59 : elInfo cx.P 59 = some ([.int .i64 0, .str []], 24) := by kernel_rfl
theorem und_59 : cx.P.underlying 59 = some (.slice 64) := by kernel_rfl
theorem lk_59 : lenKind cx.P 59 = true := by kernel_rfl
theorem fld_61_1 : fld cx.P 61 1 = some (1, 1, false) := by kernel_rfl
theorem fld_25_1 : fld cx.P 25 1 = some (1, 1, false) := by kernel_rfl
theorem ty_23 : ty cx.P 23 = some (1, false) := by kernel_rfl
theorem und_23 : cx.P.underlying 23 = some (.slice 68) := by kernel_rfl
theorem el_23 : elInfo cx.P 23 = some ([.int .i64 0, .str [], .str [], .int .i64 0], 48) := by kernel_rfl
theorem lk_23 : lenKind cx.P 23 = true := by kernel_rfl
theorem elm_22 : elm cx.P 22 = some (none, 6, true) := by kernel_rfl
theorem fld_43_2 : fld cx.P 43 2 = some (2, 1, false) := by kernel_rfl
theorem elm_23 : elm cx.P 23 = some (none, 4, true) := by kernel_rfl
theorem fld_68_0 : fld cx.P 68 0 = some (0, 1, false) := by kernel_rfl
theorem fld_68_1 : fld cx.P 68 1 = some (1, 1, false) := by kernel_rfl
theorem fld_68_2 : fld cx.P 68 2 = some (2, 1, false) := by kernel_rfl
theorem fld_68_3 : fld cx.P 68 3 = some (3, 1, false) := by kernel_rfl
theorem fld_43_1 : fld cx.P 43 1 = some (1, 1, false) := by kernel_rfl
theorem zero_43 : zeroL cx.P 43 = some [.int .i64 0, .int .i64 0, .int .i64 0, .str [], .int .i64 0, .int .i64 0] := by kernel_rfl
theorem fld_25_3 : fld cx.P 25 3 = some (3, 1, false) := by kernel_rfl
theorem feq_43 : flatEq cx.P 43 = some [(0, 0), (1, 0), (2, 0), (3, 1), (4, 0), (5, 0)] := by kernel_rfl
theorem ty_68 : ty cx.P 68 = some (4, true) := by kernel_rfl
theorem feq_68 : flatEq cx.P 68 = some [(0, 0), (1, 1), (2, 1), (3, 0)] := by kernel_rfl
theorem zero_68 : zeroL cx.P 68 = some [.int .i64 0, .str [], .str [], .int .i64 0] := by kernel_rfl
theorem shape_68 : shapeT cx.P 68 = some ([.int .i64 0, .str [], .str [], .int .i64 0], [(0, 1), (1, 1), (2, 1), (3, 1)]) := by kernel_rfl
theorem elm_59 : elm cx.P 59 = some (none, 2, true) := by kernel_rfl
theorem fld_64_0 : fld cx.P 64 0 = some (0, 1, false) := by kernel_rfl
theorem fld_64_1 : fld cx.P 64 1 = some (1, 1, false) := by kernel_rfl
theorem fld_43_4 : fld cx.P 43 4 = some (4, 1, false) := by kernel_rfl
theorem fld_43_5 : fld cx.P 43 5 = some (5, 1, false) := by kernel_rfl
theorem und_81 : cx.P.underlying 81 = some (.slice 43) := by kernel_rfl
theorem el_81 : elInfo cx.P 81 = some ([.int .i64 0, .int .i64 0, .int .i64 0, .str [], .int .i64 0, .int .i64 0], 56) := by kernel_rfl
theorem lk_81 : lenKind cx.P 81 = true := by kernel_rfl
theorem elm_81 : elm cx.P 81 = some (none, 6, true) := by kernel_rfl
theorem und_83 : cx.P.underlying 83 = some (.slice 68) := by kernel_rfl
theorem el_83 : elInfo cx.P 83 = some ([.int .i64 0, .str [], .str [], .int .i64 0], 48) := by kernel_rfl
theorem lk_83 : lenKind cx.P 83 = true := by kernel_rfl
theorem elm_83 : elm cx.P 83 = some (none, 4, true) := by kernel_rfl
theorem shape_92 : shapeT cx.P 92 = some ([.int .i64 0, .int .i64 0], [(0, 1), (1, 1)]) := by kernel_rfl
theorem shape_93 : shapeT cx.P 93 = some ([.int .i64 0, .int .i64 0, .int .i64 0, .int .i64 0, .int .i64 0, .int .i64 0, .int .i64 0, .int .i64 0, .int .i64 0, .int .i64 0], [(0, 2), (2, 2), (4, 2), (6, 2), (8, 2)]) := by kernel_rfl
theorem zero_93 : zeroL cx.P 93 = some [.int .i64 0, .int .i64 0, .int .i64 0, .int .i64 0, .int .i64 0, .int .i64 0, .int .i64 0, .int .i64 0, .int .i64 0, .int .i64 0] := by kernel_rfl
theorem ty_93 : ty cx.P 93 = some (10, true) := by kernel_rfl
theorem elm_93 : elm cx.P 93 = some (some 5, 2, true) := by kernel_rfl
theorem elm_92 : elm cx.P 92 = some (some 2, 1, false) := by kernel_rfl
set_option linter.defProp false in
def tys := (And.intro ty_25 (And.intro zero_25 (And.intro und_3 (And.intro und_4 (And.intro fld_43_3 (And.intro ty_9 (And.intro und_9 (And.intro lk_9 (And.intro ty_43 (And.intro fld_43_0 (And.intro ty_3 (And.intro und_5 (And.intro und_57 (And.intro el_57 (And.intro lk_57 (And.intro shape_25 (And.intro elm_57 (And.intro fld_61_2 (And.intro fld_61_0 (And.intro ty_5 (And.intro fld_25_2 (And.intro fld_25_0 (And.intro ty_22 (And.intro und_22 (And.intro el_22 (And.intro lk_22 (And.intro shape_43 (And.intro und_28 (And.intro shape_64 (And.intro el_59 (And.intro und_59 (And.intro lk_59 (And.intro fld_61_1 (And.intro fld_25_1 (And.intro ty_23 (And.intro und_23 (And.intro el_23 (And.intro lk_23 (And.intro elm_22 (And.intro fld_43_2 (And.intro elm_23 (And.intro fld_68_0 (And.intro fld_68_1 (And.intro fld_68_2 (And.intro fld_68_3 (And.intro fld_43_1 (And.intro zero_43 (And.intro fld_25_3 (And.intro feq_43 (And.intro ty_68 (And.intro feq_68 (And.intro zero_68 (And.intro shape_68 (And.intro elm_59 (And.intro fld_64_0 (And.intro fld_64_1 (And.intro fld_43_4 (And.intro fld_43_5 (And.intro und_81 (And.intro el_81 (And.intro lk_81 (And.intro elm_81 (And.intro und_83 (And.intro el_83 (And.intro lk_83 (And.intro elm_83 (And.intro shape_92 (And.intro shape_93 (And.intro zero_93 (And.intro ty_93 (And.intro elm_93 (And.intro elm_92 True.intro))))))))))))))))))))))))))))))))))))))))))))))))))))))))))))))))))))))))
theorem kind_68 : kindT cx.P 68 = some (.struct [3, 9, 9, 3]) := by kernel_rfl
theorem kind_23 : kindT cx.P 23 = some (.slice 68 4 48) := by kernel_rfl
theorem kind_9 : kindT cx.P 9 = some .str := by kernel_rfl
theorem kind_3 : kindT cx.P 3 = some (.int .i64) := by kernel_rfl
theorem kind_43 : kindT cx.P 43 = some (.struct [3, 3, 3, 9, 3, 3]) := by kernel_rfl
theorem kind_22 : kindT cx.P 22 = some (.slice 43 6 56) := by kernel_rfl
theorem kind_25 : kindT cx.P 25 = some (.struct [22, 23, 3, 3]) := by kernel_rfl
theorem kind_5 : kindT cx.P 5 = some (.int .u8) := by kernel_rfl
theorem kind_61 : kindT cx.P 61 = some (.struct [5, 3, 9]) := by kernel_rfl
theorem kind_57 : kindT cx.P 57 = some (.slice 61 3 32) := by kernel_rfl
theorem kind_64 : kindT cx.P 64 = some (.struct [3, 9]) := by kernel_rfl
theorem kind_59 : kindT cx.P 59 = some (.slice 64 2 24) := by kernel_rfl
end Go.Proofs.Ytdbbnhmnlgfjoaa
