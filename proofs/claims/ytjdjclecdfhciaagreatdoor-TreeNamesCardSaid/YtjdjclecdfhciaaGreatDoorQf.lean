/-
 Texts joined: XTy,XEp,XEq,XEr,XEs,XEx,XEn,XLa,XUa,XGa,XGb,XNa,XEa.
-/
import Derived.Test.YtjdjclecdfhciaaGreatDoorChecked
import Derived.Lib.LaidU8
import Derived.Lib.ItoaNum
import Derived.Lib.RuneBytes
import Derived.Lib.MapLaws
import Derived.Lib.RuneCountTail
import Derived.Lib.IndexLaws
import Derived.Test.YtjdjclecdfhciaaGreatDoorQe
namespace Go.Proofs.YtjdjclecdfhciaaGreatDoor
set_option maxRecDepth 100000
set_option maxHeartbeats 32000000
set_option linter.unusedSimpArgs false
set_option linter.unusedVariables false
open Go Go.RowKit Vm Go.Lib Tryz
open Vm renaming cond_bool→Ca,cond_bit→Cb
open And renaming intro→Ai
open List renaming length_map→Lm,not_mem_nil→Ln,map_nil→Lo,map_cons→Lc,mem_cons→Lk
open Bool renaming not_false→Bf,not_true→Bt
def firstV:V:=.rp (Lib.firstTab.map fun z=>.int .u8 z)
def accV:V:=.rp ((List.range 16).flatMap fun i=>[V.int .u8 (Lib.accLo i),.int .u8 (Lib.accHi i)])
def tensV:V:=.rp (Lib.pow10Tab.map fun z=>.int .u64 z)
def tabsG (g:Nat):V:=if g=2 then firstV else if g=3 then accV else if g=1 then tensV else .any
theorem tabs_plain:firstV.plain=true∧accV.plain=true∧tensV.plain=true:=by decide +kernel
noncomputable def cx:Cx:=⟨Tryz.prog,tabsG,[]⟩
theorem cxG:∀ g,(cx.G g).plain=true:=fun g=>by
 show(tabsG g).plain=true
 unfold tabsG
 split
 ·exact tabs_plain.1
 ·split
  ·exact tabs_plain.2.1
  ·split
   ·exact tabs_plain.2.2
   ·rfl
theorem mixed:cx.P.follows .mixedOrders=true:=by kernel_rfl
theorem und_9:cx.P.underlying 9=some .string:=by kernel_rfl
theorem lk_9:lenKind cx.P 9=true:=by kernel_rfl
theorem und_3:cx.P.underlying 3=some (.int .i64):=by kernel_rfl
theorem und_25:cx.P.underlying 25=some (.int .i64):=by kernel_rfl
theorem und_38:cx.P.underlying 38=some (.slice 90):=by kernel_rfl
theorem el_38:elInfo cx.P 38=some ([.int .u8 0,.str [],.nils,.str []],64):=by kernel_rfl
theorem lk_38:lenKind cx.P 38=true:=by kernel_rfl
theorem et_38:elemT cx.P 38=some 90:=by kernel_rfl
theorem bet_38:betT cx.P 38=none:=by kernel_rfl
theorem und_22:cx.P.underlying 22=some (.slice 43):=by kernel_rfl
theorem el_22:elInfo cx.P 22=some ([.int .u8 0,.str [],.str [],.nils,.str [],.int .i64 0],88):=by kernel_rfl
theorem lk_22:lenKind cx.P 22=true:=by kernel_rfl
theorem et_22:elemT cx.P 22=some 43:=by kernel_rfl
theorem bet_22:betT cx.P 22=none:=by kernel_rfl
theorem elm_22:elm cx.P 22=some (none,6,true):=by kernel_rfl
theorem fld_43_5:fld cx.P 43 5=some (5,1,false):=by kernel_rfl
theorem ty_3:ty cx.P 3=some (1,false):=by kernel_rfl
theorem und_48:cx.P.underlying 48=some (.slice 3):=by kernel_rfl
theorem el_48:elInfo cx.P 48=some ([.int .i64 0],8):=by kernel_rfl
theorem lk_48:lenKind cx.P 48=true:=by kernel_rfl
theorem et_48:elemT cx.P 48=some 3:=by kernel_rfl
theorem bet_48:betT cx.P 48=none:=by kernel_rfl
theorem elm_48:elm cx.P 48=some (none,1,false):=by kernel_rfl
theorem shape_43:shapeT cx.P 43=some ([.int .u8 0,.str [],.str [],.nils,.str [],.int .i64 0],[(0,1),(1,1),(2,1),(3,1),(4,1),(5,1)]):=by kernel_rfl
theorem fld_43_0:fld cx.P 43 0=some (0,1,false):=by kernel_rfl
theorem ty_5:ty cx.P 5=some (1,false):=by kernel_rfl
theorem und_5:cx.P.underlying 5=some (.int .u8):=by kernel_rfl
theorem ty_43:ty cx.P 43=some (6,true):=by kernel_rfl
theorem el_55:elInfo cx.P 55=some ([.nils],24):=by kernel_rfl
theorem und_55:cx.P.underlying 55=some (.slice 22):=by kernel_rfl
theorem lk_55:lenKind cx.P 55=true:=by kernel_rfl
theorem et_55:elemT cx.P 55=some 22:=by kernel_rfl
theorem bet_55:betT cx.P 55=none:=by kernel_rfl
theorem shape_60:shapeT cx.P 60=some ([.str [],.str [],.str []],[(0,1),(1,1),(2,1)]):=by kernel_rfl
theorem el_41:elInfo cx.P 41=some ([.str [],.str [],.str []],48):=by kernel_rfl
theorem fld_43_3:fld cx.P 43 3=some (3,1,false):=by kernel_rfl
theorem ty_41:ty cx.P 41=some (1,false):=by kernel_rfl
theorem und_41:cx.P.underlying 41=some (.slice 60):=by kernel_rfl
theorem lk_41:lenKind cx.P 41=true:=by kernel_rfl
theorem et_41:elemT cx.P 41=some 60:=by kernel_rfl
theorem bet_41:betT cx.P 41=none:=by kernel_rfl
theorem fld_43_1:fld cx.P 43 1=some (1,1,false):=by kernel_rfl
theorem ty_9:ty cx.P 9=some (1,false):=by kernel_rfl
theorem elm_41:elm cx.P 41=some (none,3,true):=by kernel_rfl
theorem ty_60:ty cx.P 60=some (3,true):=by kernel_rfl
theorem feq_60:flatEq cx.P 60=some [(0,1),(1,1),(2,1)]:=by kernel_rfl
theorem fld_43_2:fld cx.P 43 2=some (2,1,false):=by kernel_rfl
theorem fld_60_0:fld cx.P 60 0=some (0,1,false):=by kernel_rfl
theorem fld_43_4:fld cx.P 43 4=some (4,1,false):=by kernel_rfl
theorem zero_60:zeroL cx.P 60=some [.str [],.str [],.str []]:=by kernel_rfl
theorem bld_60:bldT cx.P 60=none:=by kernel_rfl
theorem fld_60_1:fld cx.P 60 1=some (1,1,false):=by kernel_rfl
theorem fld_60_2:fld cx.P 60 2=some (2,1,false):=by kernel_rfl
theorem zero_43:zeroL cx.P 43=some [.int .u8 0,.str [],.str [],.nils,.str [],.int .i64 0]:=by kernel_rfl
theorem bld_43:bldT cx.P 43=none:=by kernel_rfl
theorem zero_22:zeroL cx.P 22=some [.nils]:=by kernel_rfl
theorem bld_22:bldT cx.P 22=none:=by kernel_rfl
theorem ty_22:ty cx.P 22=some (1,false):=by kernel_rfl
theorem zero_4:zeroL cx.P 4=some [.bool false]:=by kernel_rfl
theorem bld_4:bldT cx.P 4=none:=by kernel_rfl
theorem ty_4:ty cx.P 4=some (1,false):=by kernel_rfl
theorem zero_67:zeroL cx.P 67=some [.val .nilFunc]:=by kernel_rfl
theorem bld_67:bldT cx.P 67=none:=by kernel_rfl
theorem ty_67:ty cx.P 67=some (1,false):=by kernel_rfl
theorem shape_71:shapeT cx.P 71=some ([.str []],[(0,1)]):=by kernel_rfl
theorem zero_80:zeroL cx.P 80=some [.val .nilFunc]:=by kernel_rfl
theorem bld_80:bldT cx.P 80=none:=by kernel_rfl
theorem ty_80:ty cx.P 80=some (1,false):=by kernel_rfl
theorem zero_84:zeroL cx.P 84=some [.val .nilFunc]:=by kernel_rfl
theorem bld_84:bldT cx.P 84=none:=by kernel_rfl
theorem ty_84:ty cx.P 84=some (1,false):=by kernel_rfl
theorem zero_38:zeroL cx.P 38=some [.nils]:=by kernel_rfl
theorem bld_38:bldT cx.P 38=none:=by kernel_rfl
theorem zero_48:zeroL cx.P 48=some [.nils]:=by kernel_rfl
theorem bld_48:bldT cx.P 48=none:=by kernel_rfl
theorem ty_48:ty cx.P 48=some (1,false):=by kernel_rfl
theorem ty_38:ty cx.P 38=some (1,false):=by kernel_rfl
theorem zero_87:zeroL cx.P 87=some [.val .nilFunc]:=by kernel_rfl
theorem bld_87:bldT cx.P 87=none:=by kernel_rfl
theorem ty_87:ty cx.P 87=some (1,false):=by kernel_rfl
theorem shape_98:shapeT cx.P 98=some ([.nils,.nils,.int .u8 0],[(0,1),(1,1),(2,1)]):=by kernel_rfl
theorem elm_38:elm cx.P 38=some (none,4,true):=by kernel_rfl
theorem ty_90:ty cx.P 90=some (4,true):=by kernel_rfl
theorem zero_90:zeroL cx.P 90=some [.int .u8 0,.str [],.nils,.str []]:=by kernel_rfl
theorem bld_90:bldT cx.P 90=none:=by kernel_rfl
theorem fld_90_0:fld cx.P 90 0=some (0,1,false):=by kernel_rfl
theorem fld_98_2:fld cx.P 98 2=some (2,1,false):=by kernel_rfl
theorem fld_98_0:fld cx.P 98 0=some (0,1,false):=by kernel_rfl
theorem fld_98_1:fld cx.P 98 1=some (1,1,false):=by kernel_rfl
theorem zero_99:zeroL cx.P 99=some [.val .nilFunc]:=by kernel_rfl
theorem bld_99:bldT cx.P 99=none:=by kernel_rfl
theorem ty_99:ty cx.P 99=some (1,false):=by kernel_rfl
theorem zero_108:zeroL cx.P 108=some [.nilp,.nils]:=by kernel_rfl
theorem bld_108:bldT cx.P 108=some 108:=by kernel_rfl
theorem zero_44:zeroL cx.P 44=some [.val .nilFunc]:=by kernel_rfl
theorem bld_44:bldT cx.P 44=none:=by kernel_rfl
theorem ty_44:ty cx.P 44=some (1,false):=by kernel_rfl
theorem elm_55:elm cx.P 55=some (none,1,false):=by kernel_rfl
theorem zero_71:zeroL cx.P 71=some [.str []]:=by kernel_rfl
theorem bld_71:bldT cx.P 71=none:=by kernel_rfl
theorem ty_71:ty cx.P 71=some (1,true):=by kernel_rfl
theorem fld_71_0:fld cx.P 71 0=some (0,1,false):=by kernel_rfl
theorem und_127:cx.P.underlying 127=some (.slice 9):=by kernel_rfl
theorem el_127:elInfo cx.P 127=some ([.str []],16):=by kernel_rfl
theorem lk_127:lenKind cx.P 127=true:=by kernel_rfl
theorem et_127:elemT cx.P 127=some 9:=by kernel_rfl
theorem bet_127:betT cx.P 127=none:=by kernel_rfl
theorem zero_132:zeroL cx.P 132=some [.val .nilFunc]:=by kernel_rfl
theorem bld_132:bldT cx.P 132=none:=by kernel_rfl
theorem ty_132:ty cx.P 132=some (1,false):=by kernel_rfl
theorem shape_90:shapeT cx.P 90=some ([.int .u8 0,.str [],.nils,.str []],[(0,1),(1,1),(2,1),(3,1)]):=by kernel_rfl
theorem fld_90_2:fld cx.P 90 2=some (2,1,false):=by kernel_rfl
theorem ty_88:ty cx.P 88=some (1,false):=by kernel_rfl
theorem shape_92:shapeT cx.P 92=some ([.str [],.str []],[(0,1),(1,1)]):=by kernel_rfl
theorem el_88:elInfo cx.P 88=some ([.str [],.str []],32):=by kernel_rfl
theorem und_88:cx.P.underlying 88=some (.slice 92):=by kernel_rfl
theorem lk_88:lenKind cx.P 88=true:=by kernel_rfl
theorem et_88:elemT cx.P 88=some 92:=by kernel_rfl
theorem bet_88:betT cx.P 88=none:=by kernel_rfl
theorem fld_90_1:fld cx.P 90 1=some (1,1,false):=by kernel_rfl
theorem fld_90_3:fld cx.P 90 3=some (3,1,false):=by kernel_rfl
theorem elm_88:elm cx.P 88=some (none,2,true):=by kernel_rfl
theorem ty_92:ty cx.P 92=some (2,true):=by kernel_rfl
theorem zero_92:zeroL cx.P 92=some [.str [],.str []]:=by kernel_rfl
theorem bld_92:bldT cx.P 92=none:=by kernel_rfl
theorem fld_92_0:fld cx.P 92 0=some (0,1,false):=by kernel_rfl
theorem fld_92_1:fld cx.P 92 1=some (1,1,false):=by kernel_rfl
theorem shape_140:shapeT cx.P 140=some ([.str []],[(0,1)]):=by kernel_rfl
theorem shape_142:shapeT cx.P 142=some ([.str []],[(0,1)]):=by kernel_rfl
theorem fld_142_0:fld cx.P 142 0=some (0,1,true):=by kernel_rfl
theorem fld_140_0:fld cx.P 140 0=some (0,1,false):=by kernel_rfl
theorem fld_108_1:fld cx.P 108 1=some (1,1,false):=by kernel_rfl
theorem ty_106:ty cx.P 106=some (1,false):=by kernel_rfl
theorem und_106:cx.P.underlying 106=some (.slice 5):=by kernel_rfl
theorem el_106:elInfo cx.P 106=some ([.int .u8 0],1):=by kernel_rfl
theorem lk_106:lenKind cx.P 106=true:=by kernel_rfl
theorem et_106:elemT cx.P 106=some 5:=by kernel_rfl
theorem bet_106:betT cx.P 106=some 5:=by kernel_rfl
theorem und_145:cx.P.underlying 145=some (.pointer 5):=by kernel_rfl
theorem und_21:cx.P.underlying 21=some (.int .i32):=by kernel_rfl
theorem elm_127:elm cx.P 127=some (none,1,false):=by kernel_rfl
theorem zero_164:zeroL cx.P 164=some [.bool false,.bool false,.bool false,.bool false,.bool false,.bool false,.bool false,.bool false,.bool false,.bool false,.bool false,.bool false,.bool false,.bool false,.bool false,.bool false,.bool false,.bool false,.bool false,.bool false,.bool false,.bool false,.bool false,.bool false,.bool false,.bool false,.bool false,.bool false,.bool false,.bool false,.bool false,.bool false,.bool false,.bool false,.bool false,.bool false,.bool false,.bool false,.bool false,.bool false,.bool false,.bool false,.bool false,.bool false,.bool false,.bool false,.bool false,.bool false,.bool false,.bool false,.bool false,.bool false,.bool false,.bool false,.bool false,.bool false,.bool false,.bool false,.bool false,.bool false,.bool false,.bool false,.bool false,.bool false,.bool false,.bool false,.bool false,.bool false,.bool false,.bool false,.bool false,.bool false,.bool false,.bool false,.bool false,.bool false,.bool false,.bool false,.bool false,.bool false,.bool false,.bool false,.bool false,.bool false,.bool false,.bool false,.bool false,.bool false,.bool false,.bool false,.bool false,.bool false,.bool false,.bool false,.bool false,.bool false,.bool false,.bool false,.bool false,.bool false,.bool false,.bool false,.bool false,.bool false,.bool false,.bool false,.bool false,.bool false,.bool false,.bool false,.bool false,.bool false,.bool false,.bool false,.bool false,.bool false,.bool false,.bool false,.bool false,.bool false,.bool false,.bool false,.bool false,.bool false,.bool false,.bool false,.bool false,.bool false,.bool false,.bool false,.bool false,.bool false,.bool false,.bool false,.bool false,.bool false,.bool false,.bool false,.bool false,.bool false,.bool false,.bool false,.bool false,.bool false,.bool false,.bool false,.bool false,.bool false,.bool false,.bool false,.bool false,.bool false,.bool false,.bool false,.bool false,.bool false,.bool false,.bool false,.bool false,.bool false,.bool false,.bool false,.bool false,.bool false,.bool false,.bool false,.bool false,.bool false,.bool false,.bool false,.bool false,.bool false,.bool false,.bool false,.bool false,.bool false,.bool false,.bool false,.bool false,.bool false,.bool false,.bool false,.bool false,.bool false,.bool false,.bool false,.bool false,.bool false,.bool false,.bool false,.bool false,.bool false,.bool false,.bool false,.bool false,.bool false,.bool false,.bool false,.bool false,.bool false,.bool false,.bool false,.bool false,.bool false,.bool false,.bool false,.bool false,.bool false,.bool false,.bool false,.bool false,.bool false,.bool false,.bool false,.bool false,.bool false,.bool false,.bool false,.bool false,.bool false,.bool false,.bool false,.bool false,.bool false,.bool false,.bool false,.bool false,.bool false,.bool false,.bool false,.bool false,.bool false,.bool false,.bool false,.bool false,.bool false,.bool false,.bool false,.bool false,.bool false,.bool false,.bool false,.bool false,.bool false,.bool false,.bool false,.bool false,.bool false,.bool false,.bool false,.bool false,.bool false,.bool false,.bool false,.bool false,.bool false]:=by kernel_rfl
theorem bld_164:bldT cx.P 164=none:=by kernel_rfl
theorem ty_164:ty cx.P 164=some (256,true):=by kernel_rfl
theorem zero_25:zeroL cx.P 25=some [.int .i64 0]:=by kernel_rfl
theorem bld_25:bldT cx.P 25=none:=by kernel_rfl
theorem ty_25:ty cx.P 25=some (1,false):=by kernel_rfl
theorem fld_108_0:fld cx.P 108 0=some (0,1,false):=by kernel_rfl
theorem ty_105:ty cx.P 105=some (1,false):=by kernel_rfl
theorem und_105:cx.P.underlying 105=some (.pointer 108):=by kernel_rfl
theorem und_172:cx.P.underlying 172=some .unsafePointer:=by kernel_rfl
theorem elm_164:elm cx.P 164=some (some 256,1,false):=by kernel_rfl
theorem shape_185:shapeT cx.P 185=some ([.str [],.nils],[(0,1),(1,1)]):=by kernel_rfl
theorem fld_185_0:fld cx.P 185 0=some (0,1,false):=by kernel_rfl
theorem fld_185_1:fld cx.P 185 1=some (1,1,false):=by kernel_rfl
theorem bt_106:bytesT cx.P 106=true:=by kernel_rfl
theorem und_2:cx.P.underlying 2=some (.int .i64):=by kernel_rfl
theorem zero_188:zeroL cx.P 188=some [.int .u8 0,.int .u8 0,.int .u8 0,.int .u8 0,.int .u8 0,.int .u8 0,.int .u8 0,.int .u8 0,.int .u8 0,.int .u8 0,.int .u8 0,.int .u8 0,.int .u8 0,.int .u8 0,.int .u8 0,.int .u8 0,.int .u8 0,.int .u8 0,.int .u8 0,.int .u8 0,.int .u8 0,.int .u8 0,.int .u8 0,.int .u8 0]:=by kernel_rfl
theorem bld_188:bldT cx.P 188=none:=by kernel_rfl
theorem und_189:cx.P.underlying 189=some (.int .u64):=by kernel_rfl
theorem elm_188:elm cx.P 188=some (some 24,1,false):=by kernel_rfl
theorem und_188:cx.P.underlying 188=some (.array 24 5):=by kernel_rfl
theorem zero_200:zeroL cx.P 200=some [.str []]:=by kernel_rfl
theorem bld_200:bldT cx.P 200=none:=by kernel_rfl
theorem ty_200:ty cx.P 200=some (1,true):=by kernel_rfl
theorem fld_200_0:fld cx.P 200 0=some (0,1,false):=by kernel_rfl
theorem shape_206:shapeT cx.P 206=some ([.str [],.val .nilFunc],[(0,1),(1,1)]):=by kernel_rfl
theorem el_207:elInfo cx.P 207=some ([.str [],.val .nilFunc],24):=by kernel_rfl
theorem und_207:cx.P.underlying 207=some (.slice 206):=by kernel_rfl
theorem lk_207:lenKind cx.P 207=true:=by kernel_rfl
theorem et_207:elemT cx.P 207=some 206:=by kernel_rfl
theorem bet_207:betT cx.P 207=none:=by kernel_rfl
theorem elm_207:elm cx.P 207=some (none,2,true):=by kernel_rfl
theorem ty_206:ty cx.P 206=some (2,true):=by kernel_rfl
theorem zero_206:zeroL cx.P 206=some [.str [],.val .nilFunc]:=by kernel_rfl
theorem bld_206:bldT cx.P 206=none:=by kernel_rfl
theorem fld_206_0:fld cx.P 206 0=some (0,1,false):=by kernel_rfl
theorem fld_206_1:fld cx.P 206 1=some (1,1,false):=by kernel_rfl
theorem ty_204:ty cx.P 204=some (1,false):=by kernel_rfl
theorem und_210:cx.P.underlying 210=some (.int .u32):=by kernel_rfl
theorem elm_214:elm cx.P 214=some (some 20,1,false):=by kernel_rfl
theorem ty_189:ty cx.P 189=some (1,false):=by kernel_rfl
theorem elm_106:elm cx.P 106=some (none,1,false):=by kernel_rfl
theorem zero_215:zeroL cx.P 215=some [.int .u8 0,.int .u8 0,.int .u8 0,.int .u8 0,.int .u8 0,.int .u8 0,.int .u8 0,.int .u8 0,.int .u8 0,.int .u8 0,.int .u8 0,.int .u8 0,.int .u8 0,.int .u8 0,.int .u8 0,.int .u8 0,.int .u8 0,.int .u8 0,.int .u8 0,.int .u8 0,.int .u8 0,.int .u8 0,.int .u8 0,.int .u8 0,.int .u8 0,.int .u8 0,.int .u8 0,.int .u8 0,.int .u8 0,.int .u8 0,.int .u8 0,.int .u8 0,.int .u8 0,.int .u8 0,.int .u8 0,.int .u8 0,.int .u8 0,.int .u8 0,.int .u8 0,.int .u8 0,.int .u8 0,.int .u8 0,.int .u8 0,.int .u8 0,.int .u8 0,.int .u8 0,.int .u8 0,.int .u8 0,.int .u8 0,.int .u8 0,.int .u8 0,.int .u8 0,.int .u8 0,.int .u8 0,.int .u8 0,.int .u8 0,.int .u8 0,.int .u8 0,.int .u8 0,.int .u8 0,.int .u8 0,.int .u8 0,.int .u8 0,.int .u8 0,.int .u8 0]:=by kernel_rfl
theorem bld_215:bldT cx.P 215=none:=by kernel_rfl
theorem und_187:cx.P.underlying 187=some (.int .u64):=by kernel_rfl
theorem elm_215:elm cx.P 215=some (some 65,1,false):=by kernel_rfl
theorem und_215:cx.P.underlying 215=some (.array 65 5):=by kernel_rfl
theorem elm_218:elm cx.P 218=some (some 256,1,false):=by kernel_rfl
theorem elm_221:elm cx.P 221=some (some 16,2,true):=by kernel_rfl
theorem ty_220:ty cx.P 220=some (2,true):=by kernel_rfl
theorem zero_220:zeroL cx.P 220=some [.int .u8 0,.int .u8 0]:=by kernel_rfl
theorem bld_220:bldT cx.P 220=none:=by kernel_rfl
theorem fld_220_0:fld cx.P 220 0=some (0,1,false):=by kernel_rfl
theorem fld_220_1:fld cx.P 220 1=some (1,1,false):=by kernel_rfl
theorem shape_200:shapeT cx.P 200=some ([.str []],[(0,1)]):=by kernel_rfl
theorem zero_106:zeroL cx.P 106=some [.nils]:=by kernel_rfl
theorem bld_106:bldT cx.P 106=none:=by kernel_rfl
theorem elm_233:elm cx.P 233=some (some 32,1,false):=by kernel_rfl
theorem elm_234:elm cx.P 234=some (some 64,1,false):=by kernel_rfl
theorem ty_110:ty cx.P 110=some (1,false):=by kernel_rfl
theorem shape_242:shapeT cx.P 242=some ([.str [],.str [],.val .nilIface],[(0,1),(1,1),(2,1)]):=by kernel_rfl
set_option linter.defProp false in
def tys:=(Ai und_9 (Ai lk_9 (Ai und_3 (Ai und_25 (Ai und_38 (Ai el_38 (Ai lk_38 (Ai et_38 (Ai bet_38 (Ai und_22 (Ai el_22 (Ai lk_22 (Ai et_22 (Ai bet_22 (Ai elm_22 (Ai fld_43_5 (Ai ty_3 (Ai und_48 (Ai el_48 (Ai lk_48 (Ai et_48 (Ai bet_48 (Ai elm_48 (Ai shape_43 (Ai fld_43_0 (Ai ty_5 (Ai und_5 (Ai ty_43 (Ai el_55 (Ai und_55 (Ai lk_55 (Ai et_55 (Ai bet_55 (Ai shape_60 (Ai el_41 (Ai fld_43_3 (Ai ty_41 (Ai und_41 (Ai lk_41 (Ai et_41 (Ai bet_41 (Ai fld_43_1 (Ai ty_9 (Ai elm_41 (Ai ty_60 (Ai feq_60 (Ai fld_43_2 (Ai fld_60_0 (Ai fld_43_4 (Ai zero_60 (Ai bld_60 (Ai fld_60_1 (Ai fld_60_2 (Ai zero_43 (Ai bld_43 (Ai zero_22 (Ai bld_22 (Ai ty_22 (Ai zero_4 (Ai bld_4 (Ai ty_4 (Ai zero_67 (Ai bld_67 (Ai ty_67 (Ai shape_71 (Ai zero_80 (Ai bld_80 (Ai ty_80 (Ai zero_84 (Ai bld_84 (Ai ty_84 (Ai zero_38 (Ai bld_38 (Ai zero_48 (Ai bld_48 (Ai ty_48 (Ai ty_38 (Ai zero_87 (Ai bld_87 (Ai ty_87 (Ai shape_98 (Ai elm_38 (Ai ty_90 (Ai zero_90 (Ai bld_90 (Ai fld_90_0 (Ai fld_98_2 (Ai fld_98_0 (Ai fld_98_1 (Ai zero_99 (Ai bld_99 (Ai ty_99 (Ai zero_108 (Ai bld_108 (Ai zero_44 (Ai bld_44 (Ai ty_44 (Ai elm_55 (Ai zero_71 (Ai bld_71 (Ai ty_71 (Ai fld_71_0 (Ai und_127 (Ai el_127 (Ai lk_127 (Ai et_127 (Ai bet_127 (Ai zero_132 (Ai bld_132 (Ai ty_132 (Ai shape_90 (Ai fld_90_2 (Ai ty_88 (Ai shape_92 (Ai el_88 (Ai und_88 (Ai lk_88 (Ai et_88 (Ai bet_88 (Ai fld_90_1 (Ai fld_90_3 (Ai elm_88 (Ai ty_92 (Ai zero_92 (Ai bld_92 (Ai fld_92_0 (Ai fld_92_1 (Ai shape_140 (Ai shape_142 (Ai fld_142_0 (Ai fld_140_0 (Ai fld_108_1 (Ai ty_106 (Ai und_106 (Ai el_106 (Ai lk_106 (Ai et_106 (Ai bet_106 (Ai und_145 (Ai und_21 (Ai elm_127 (Ai zero_164 (Ai bld_164 (Ai ty_164 (Ai zero_25 (Ai bld_25 (Ai ty_25 (Ai fld_108_0 (Ai ty_105 (Ai und_105 (Ai und_172 (Ai elm_164 (Ai shape_185 (Ai fld_185_0 (Ai fld_185_1 (Ai bt_106 (Ai und_2 (Ai zero_188 (Ai bld_188 (Ai und_189 (Ai elm_188 (Ai und_188 (Ai zero_200 (Ai bld_200 (Ai ty_200 (Ai fld_200_0 (Ai shape_206 (Ai el_207 (Ai und_207 (Ai lk_207 (Ai et_207 (Ai bet_207 (Ai elm_207 (Ai ty_206 (Ai zero_206 (Ai bld_206 (Ai fld_206_0 (Ai fld_206_1 (Ai ty_204 (Ai und_210 (Ai elm_214 (Ai ty_189 (Ai elm_106 (Ai zero_215 (Ai bld_215 (Ai und_187 (Ai elm_215 (Ai und_215 (Ai elm_218 (Ai elm_221 (Ai ty_220 (Ai zero_220 (Ai bld_220 (Ai fld_220_0 (Ai fld_220_1 (Ai shape_200 (Ai zero_106 (Ai bld_106 (Ai elm_233 (Ai elm_234 (Ai ty_110 (Ai shape_242 True.intro))))))))))))))))))))))))))))))))))))))))))))))))))))))))))))))))))))))))))))))))))))))))))))))))))))))))))))))))))))))))))))))))))))))))))))))))))))))))))))))))))))))))))))))))))))))))))))))))))))))))))
theorem kind_3:kindT cx.P 3=some (.int .i64):=by kernel_rfl
theorem kind_60:kindT cx.P 60=some (.struct [9,9,9]):=by kernel_rfl
theorem kind_41:kindT cx.P 41=some (.slice 60 3 48):=by kernel_rfl
theorem kind_9:kindT cx.P 9=some .str:=by kernel_rfl
theorem kind_5:kindT cx.P 5=some (.int .u8):=by kernel_rfl
theorem kind_43:kindT cx.P 43=some (.struct [5,9,9,41,9,3]):=by kernel_rfl
theorem kind_22:kindT cx.P 22=some (.slice 43 6 88):=by kernel_rfl
end Go.Proofs.YtjdjclecdfhciaaGreatDoor
namespace Go.Proofs.YtjdjclecdfhciaaGreatDoor
set_option maxRecDepth 100000
set_option maxHeartbeats 32000000
set_option linter.unusedSimpArgs false
set_option linter.unusedVariables false
open Go Go.RowKit
def may (n:Int):Bool:=decide (n=9∨n=10∨n=13∨(32≤n∧n≤1114111 ∧ ¬(55296≤n∧n≤57343)∧n≠65534∧n≠65535))
theorem may_iff (n:Int):may n=true↔(n=9∨n=10∨n=13∨(32≤n∧n≤1114111 ∧ ¬(55296≤n∧n≤57343)∧n≠65534∧n≠65535)):=by
 unfold may;exact decide_eq_true_iff
theorem may_t {n:Int}(h:n=9∨n=10∨n=13∨(32≤n∧n≤1114111 ∧ ¬(55296≤n∧n≤57343)∧n≠65534∧n≠65535)):true=may n:=((may_iff n).2 h).symm
theorem may_f {n:Int}(h:¬(n=9∨n=10∨n=13∨(32≤n∧n≤1114111 ∧ ¬(55296≤n∧n≤57343)∧n≠65534∧n≠65535))):false=may n:=by
 unfold may;symm;exact decide_eq_false_iff_not.2 h
theorem may_range {n:Int}(h:may n=true):0≤n∧n≤1114111∧(2048≤n→n≤65535→(2048≤n∧n<55296)∨(57343<n∧n≤65535)):=by
 have:=(may_iff n).1 h
 refine⟨by omega,by omega,fun a b=>by omega⟩
def enc (l:List Int):List UInt8:=l.flatMap Lib.encodeRune
def u8 (b:UInt8):Value:=.int .u8 (b.toNat:Int)
def ofErr (l:List Int):Int:=if l.all may then (if 16384<(enc l).length then 4 else 0) else 50
def ofText (l:List Int):List UInt8:=if ofErr l=0 then enc l else []
theorem enc_snoc (a:List Int)(x:Int):enc (a++[x])=enc a++Lib.encodeRune x:=by simp[enc]
theorem encodeRune_length (x:Int):1≤(Lib.encodeRune x).length∧(Lib.encodeRune x).length≤4:=by
 unfold Lib.encodeRune Lib.encodeRuneZ
 repeat' split
 all_goals simp
theorem enc_length (l:List Int):(enc l).length≤4*l.length:=by
 induction l with
 | nil=>simp[enc]
 | cons x l ih =>
  have:=(encodeRune_length x).2
  simp only[enc,List.flatMap_cons,List.length_append,List.length_cons]at ih ⊢
  omega
theorem ofErr_bad {l:List Int}{k:Nat}(hk:k<l.length)(h:may (l.getD k 0)=false):ofErr l=50:=by
 unfold ofErr
 rw[if_neg]
 intro hall
 have:=List.all_eq_true.1 hall (l[k]) (List.getElem_mem hk)
 simp[List.getD_eq_getElem?_getD,hk]at h
 rw[h]at this;cases this
theorem all_snoc {l:List Int}{k:Nat}(hk:k<l.length)(h:(l.take k).all may=true)(hm:may (l.getD k 0)=true):(l.take (k+1)).all may=true:=by
 rw[List.take_succ_eq_append_getElem hk,List.all_append,h]
 simp[List.getD_eq_getElem?_getD,hk]at hm
 simp[hm]
end Go.Proofs.YtjdjclecdfhciaaGreatDoor
namespace Go.Proofs.YtjdjclecdfhciaaGreatDoor
set_option maxRecDepth 100000
set_option maxHeartbeats 32000000
set_option linter.unusedSimpArgs false
set_option linter.unusedVariables false
open Go Go.RowKit Go.Lib
def one (l:List UInt8):Option (Int×Nat) :=
 if l=[] then none
 else if (decodeL l).1=65533∧(decodeL l).2=1 then none
 else if may ((decodeL l).1:Int) then some (((decodeL l).1:Int),(decodeL l).2) else none
def decF:Nat→List UInt8→Option (List Int)
 | _,[]=>some []
 | 0,_=>none
 | f+1,l=>match one l with
  | none=>none
  | some (z,k)=>(decF f (l.drop k)).map (z :: ·)
def dec (l:List UInt8):Option (List Int):=decF l.length l
theorem one_some {l:List UInt8}{z:Int}{k:Nat}(h:one l=some (z,k)):l≠[]∧may z=true∧encodeRune z=l.take k∧1≤k∧k≤l.length:=by
 unfold one at h
 split at h
 ·cases h
 rename_i hne
 split at h
 ·cases h
 rename_i hv
 split at h
 ·rename_i hm
  simp only[Option.some.injEq,Prod.mk.injEq]at h
  obtain⟨rfl,rfl⟩:=h
  have he:=encode_decode l hne hv
  have hle:=decodeL_le l hne
  refine⟨hne,hm,he,?_,hle⟩
  have:=(encodeRune_length ((decodeL l).1:Int)).1
  rw[he,List.length_take]at this
  omega
 ·cases h
theorem mod64 {x:Int}(h0:0≤x)(h1:x<256):(x.toNat.toUInt8).toNat=x.toNat:=by simp;omega
theorem one_enc {z:Int}(hm:may z=true)(rest:List UInt8):one (encodeRune z++rest)=some (z,(encodeRune z).length):=by
 have hmz:=(may_iff z).1 hm
 have key:decodeL (encodeRune z++rest)=(z.toNat,(encodeRune z).length):=by
  rw[decodeL_N]
  by_cases c1:0≤z∧z≤127
  ·have e:encodeRune z=[z.toNat.toUInt8]:=by simp[encodeRune,encodeRuneZ_one c1.1 c1.2]
   rw[e]
   have a:=mod64 (x:=z) (by omega) (by omega)
   simp only[List.cons_append,List.nil_append,List.getD_cons_zero,List.length_cons,List.length_nil,a,decodeN]
   rw[if_pos (by omega)]
  ·by_cases c2:128≤z∧z≤2047
   ·have e:encodeRune z=[(192+z / 64).toNat.toUInt8,(128+z % 64).toNat.toUInt8]:=by simp[encodeRune,encodeRuneZ_two c2.1 c2.2]
    rw[e]
    have a:=mod64 (x:=192+z / 64) (by omega) (by omega)
    have b:=mod64 (x:=128+z % 64) (by omega) (by omega)
    simp only[List.cons_append,List.nil_append,List.getD_cons_zero,List.getD_cons_succ,List.length_cons,List.length_nil,a,b,decodeN]
    rw[if_neg (by omega),if_pos (by omega),if_pos (by omega)]
    simp only[Prod.mk.injEq,and_true];omega
   ·by_cases c3:z≤65535
    ·have e:encodeRune z=[(224+z / 4096).toNat.toUInt8,(128+z / 64 % 64).toNat.toUInt8,(128+z % 64).toNat.toUInt8]:=by simp[encodeRune,encodeRuneZ_three (r:=z) (by omega)]
     rw[e]
     have a:=mod64 (x:=224+z / 4096) (by omega) (by omega)
     have b:=mod64 (x:=128+z / 64 % 64) (by omega) (by omega)
     have c:=mod64 (x:=128+z % 64) (by omega) (by omega)
     simp only[List.cons_append,List.nil_append,List.getD_cons_zero,List.getD_cons_succ,List.length_cons,List.length_nil,a,b,c,decodeN]
     rw[if_neg (by omega),if_neg (by omega),if_pos (by omega),if_pos (by omega)]
     simp only[Prod.mk.injEq,and_true];omega
    ·have e:encodeRune z=[(240+z / 262144).toNat.toUInt8,(128+z / 4096 % 64).toNat.toUInt8,(128+z / 64 % 64).toNat.toUInt8,(128+z % 64).toNat.toUInt8]:=by simp[encodeRune,encodeRuneZ_four (r:=z) (by omega) (by omega)]
     rw[e]
     have a:=mod64 (x:=240+z / 262144) (by omega) (by omega)
     have b:=mod64 (x:=128+z / 4096 % 64) (by omega) (by omega)
     have c:=mod64 (x:=128+z / 64 % 64) (by omega) (by omega)
     have d:=mod64 (x:=128+z % 64) (by omega) (by omega)
     simp only[List.cons_append,List.nil_append,List.getD_cons_zero,List.getD_cons_succ,List.length_cons,List.length_nil,a,b,c,d,decodeN]
     rw[if_neg (by omega),if_neg (by omega),if_neg (by omega),if_pos (by omega),if_pos (by omega)]
     simp only[Prod.mk.injEq,and_true];omega
 have hne:encodeRune z++rest≠[]:=by
  intro h
  have:=(encodeRune_length z).1
  rw[List.append_eq_nil_iff]at h
  rw[h.1]at this;simp at this
 unfold one
 rw[if_neg hne,key]
 have hz:((z.toNat:Nat):Int)=z:=by omega
 simp only[hz,hm,if_true]
 rw[if_neg]
 rintro ⟨h1,h2⟩
 have hz2:z=65533:=by omega
 subst hz2
 revert h2
 decide
theorem decF_fuel:∀(f g:Nat) (l:List UInt8),l.length≤f→l.length≤g→decF f l=decF g l
 | _,_,[],_,_=>by simp[decF]
 | 0,_,x::l,h,_=>by simp at h
 | _,0,x::l,_,h=>by simp at h
 | f+1,g+1,x::l,hf,hg=>by
  simp only[decF]
  cases h1:one (x::l) with
  | none=>rfl
  | some p =>
   obtain⟨z,k⟩:=p
   obtain⟨_,_,_,hk,_⟩:=one_some h1
   simp only
   rw[decF_fuel f g ((x::l).drop k) (by simp at hf ⊢;omega) (by simp at hg ⊢;omega)]
theorem dec_nil:dec []=some []:=rfl
theorem dec_step {l:List UInt8}{z:Int}{k:Nat}(h:one l=some (z,k)):dec l=(dec (l.drop k)).map (z :: ·):=by
 obtain⟨hne,_,_,hk,hkl⟩:=one_some h
 obtain⟨x,l',rfl⟩:=List.exists_cons_of_ne_nil hne
 unfold dec
 rw[show(x::l').length=l'.length+1 from rfl]
 simp only[decF,h]
 rw[decF_fuel l'.length ((x::l').drop k).length _ (by simp;omega) (Nat.le_refl _)]
theorem dec_bad {l:List UInt8}(hne:l≠[])(h:one l=none):dec l=none:=by
 obtain⟨x,l',rfl⟩:=List.exists_cons_of_ne_nil hne
 unfold dec
 rw[show(x::l').length=l'.length+1 from rfl]
 simp only[decF,h]
theorem dec_enc:∀(zs:List Int),zs.all may=true→dec (enc zs)=some zs
 | [],_=>rfl
 | z::zs,h=>by
  simp only[List.all_cons,Bool.and_eq_true]at h
  have e:enc (z::zs)=encodeRune z++enc zs:=by simp[enc]
  rw[e,dec_step (one_enc h.1 (enc zs)),List.drop_left,dec_enc zs h.2]
  rfl
theorem dec_some:∀(n:Nat) (l:List UInt8) (zs:List Int),l.length≤n→dec l=some zs→zs.all may=true∧enc zs=l
 | 0,l,zs,hn,h=>by
  have:l=[]:=List.eq_nil_of_length_eq_zero (by omega)
  subst this
  rw[dec_nil]at h
  cases h
  exact⟨rfl,rfl⟩
 | n+1,l,zs,hn,h=>by
  by_cases hne:l=[]
  ·subst hne
   rw[dec_nil]at h
   cases h
   exact⟨rfl,rfl⟩
  ·cases h1:one l with
   | none=>rw[dec_bad hne h1]at h;cases h
   | some p =>
    obtain⟨z,k⟩:=p
    obtain⟨_,hm,he,hk,hkl⟩:=one_some h1
    rw[dec_step h1]at h
    obtain⟨zs',h2,rfl⟩:=Option.map_eq_some_iff.1 h
    obtain⟨ha,hb⟩:=dec_some n (l.drop k) zs' (by simp;omega) h2
    refine⟨by simp[hm,ha],?_⟩
    show encodeRune z++enc zs'=l
    rw[he,hb,List.take_append_drop]
theorem dec_iff (l:List UInt8)(zs:List Int):dec l=some zs↔zs.all may=true∧enc zs=l :=
 ⟨fun h=>dec_some l.length l zs (Nat.le_refl _) h,fun ⟨h1,h2⟩=>by rw[← h2,dec_enc zs h1]⟩
theorem odd_prefix {l:List UInt8}(h:hasPrefix l [239,191,189]=true):∃ rest,l=encodeRune 65533++rest:=by
 unfold hasPrefix at h
 obtain⟨rest,hr⟩:=List.isPrefixOf_iff_prefix.1 h
 exact⟨rest,by rw[← hr];congr 1⟩
theorem decodeL_odd {l:List UInt8}(h:hasPrefix l [239,191,189]=true):(decodeL l).2≠1:=by
 obtain⟨rest,rfl⟩:=odd_prefix h
 have h1:=one_enc (z:=65533) (by decide) rest
 unfold one at h1
 split at h1
 ·cases h1
 split at h1
 ·cases h1
 rename_i hv
 split at h1
 ·simp only[Option.some.injEq,Prod.mk.injEq]at h1
  rw[h1.2]
  decide
 ·cases h1
theorem one_of_decode {l:List UInt8}(hne:l≠[]):one l=if ((decodeL l).1=65533∧hasPrefix l [239,191,189]=false)∨may ((decodeL l).1:Int)=false then none else some (((decodeL l).1:Int),(decodeL l).2):=by
  unfold one
  rw[if_neg hne]
  by_cases h1:(decodeL l).1=65533∧(decodeL l).2=1
  · rw[if_pos h1,if_pos]
    left
    refine⟨h1.1,?_⟩
    cases hp:hasPrefix l [239,191,189] with
    | false=>rfl
    | true=>exact absurd h1.2 (decodeL_odd hp)
  · rw [if_neg h1]
    by_cases h2:(decodeL l).1=65533
    · have he:=encode_decode l hne h1
      rw[h2]at he
      have hp:hasPrefix l [239,191,189]=true:=by
        unfold hasPrefix
        rw[List.isPrefixOf_iff_prefix,show([239,191,189]:List UInt8)=encodeRune ((65533:Nat):Int) from by decide,he]
        exact List.take_prefix _ _
      rw[hp]
      by_cases hm:may ((decodeL l).1:Int)=true
      · simp[hm]
      · simp[hm]
    · by_cases hm:may ((decodeL l).1:Int)=true
      · simp[hm,h2]
      · simp[hm,h2]
theorem decode_drop (s:ByteArray)(pos:Nat):Utf8.decode s pos=decodeL (s.data.toList.drop pos):=by
 have h:=tail_decode s pos 0
 rw[Nat.add_zero]at h
 rw[← h]
 unfold decodeL
 congr 1
 have h2:(s.extract pos s.size).data.toList=s.data.toList.drop pos:=by
  rw[extract_data,List.take_of_length_le]
  simp
 apply ByteArray.ext
 apply Array.ext'
 simpa using h2
def ptsErr (l:List UInt8):Int:=if 16384<l.length then 4 else match dec l with|none=>50|some _=>0
theorem ptsErr_len {s:List UInt8}(h:ptsErr s=0):s.length≤16384:=by
 unfold ptsErr at h
 split at h
 ·omega
 ·omega
def escB (q:Bool)(c:UInt8):List UInt8 :=
 if c=38 then [38,97,109,112,59] else if c=60 then [38,108,116,59] else if c=62 then [38,103,116,59] else if c=13 then [38,35,49,51,59]
 else if q=true then (if c=34 then [38,113,117,111,116,59] else if c=9 then [38,35,57,59] else if c=10 then [38,35,49,48,59] else [c]) else [c]
def escW (q:Bool)(s:List UInt8):List UInt8:=s.flatMap (escB q)
theorem escB_length (q:Bool)(c:UInt8):1≤(escB q c).length∧(escB q c).length≤6:=by
 unfold escB
 repeat' split
 all_goals simp
theorem escW_length (q:Bool)(s:List UInt8):s.length≤(escW q s).length∧(escW q s).length≤6*s.length:=by
 induction s with
 | nil=>simp[escW]
 | cons c s ih =>
  have:=escB_length q c
  simp only[escW,List.flatMap_cons,List.length_append,List.length_cons]at ih ⊢
  omega
theorem dec_app:∀(p:List Int) (r:List UInt8),p.all may=true→dec (enc p++r)=(dec r).map (p ++ ·)
 | [],r,_=>by simp[enc]
 | z::p,r,h=>by
  simp only[List.all_cons,Bool.and_eq_true]at h
  have e:enc (z::p)++r=encodeRune z++(enc p++r):=by simp[enc]
  rw[e,dec_step (one_enc h.1 _),List.drop_left,dec_app p r h.2,Option.map_map]
  congr 1
theorem dec_both {a b:List UInt8}{x y:List Int}(ha:dec a=some x)(hb:dec b=some y):dec (a++b)=some (x++y):=by
 obtain⟨h1,rfl⟩:=(dec_iff a x).1 ha
 rw[dec_app x b h1,hb];rfl
def letB (c:UInt8):Bool:=(decide (97≤c.toNat)&&decide (c.toNat≤122))||(decide (65≤c.toNat)&&decide (c.toNat≤90))||decide (c=95)
def partB (first:Bool)(c:UInt8):Bool:=letB c||(!first&&((decide (48≤c.toNat)&&decide (c.toNat≤57))||decide (c=46)||decide (c=45)))
def nameL:List UInt8→Bool
 | []=>false
 | c::r=>partB true c&&r.all (partB false)
def cut1 (d:UInt8):List UInt8→Option (List UInt8×List UInt8)
 | []=>none
 | c::r=>if c=d then some ([],r) else (cut1 d r).map (fun p=>(c::p.1,p.2))
def fullL (s:List UInt8):Bool:=match cut1 58 s with
 | none=>nameL s
 | some (a,b)=>nameL a&&nameL b
theorem cut1_none {d:UInt8} : ∀ {s:List UInt8},cut1 d s=none↔d ∉ s
 | []=>by simp[cut1]
 | c::r=>by
  simp only[cut1]
  by_cases h:c=d
  ·simp[h]
  ·rw[if_neg h]
   simp only[Option.map_eq_none_iff,cut1_none (s:=r),List.mem_cons,not_or]
   constructor
   ·intro h2;exact⟨fun e=>h e.symm,h2⟩
   ·intro h2;exact h2.2
theorem cut1_some {d:UInt8} : ∀ {s a b:List UInt8},cut1 d s=some (a,b)→s=a++d::b∧d ∉ a
 | [],a,b,h=>by simp[cut1]at h
 | c::r,a,b,h=>by
  simp only[cut1]at h
  by_cases hc:c=d
  ·rw[if_pos hc]at h;cases h;subst hc;simp
  ·rw[if_neg hc]at h
   obtain⟨⟨a',b'⟩,h1,h2⟩:=Option.map_eq_some_iff.1 h
   cases h2
   obtain⟨e1,e2⟩:=cut1_some h1
   refine⟨by rw[e1];rfl,?_⟩
   simp only[List.mem_cons,not_or]
   exact⟨fun e=>hc e.symm,e2⟩
theorem cut1_of {d:UInt8} : ∀ {a b:List UInt8},d ∉ a→cut1 d (a++d::b)=some (a,b)
 | [],b,_=>by simp[cut1]
 | c::a,b,h=>by
  simp only[List.mem_cons,not_or]at h
  simp only[List.cons_append,cut1]
  rw[if_neg (fun e=>h.1 e.symm),cut1_of h.2];rfl
theorem cut1_at {d:UInt8}{s:List UInt8}{i:Nat}(h1:d ∉ s.take i)(h2:s[i]? = some d):cut1 d s=some (s.take i,s.drop (i+1)):=by
 obtain⟨hi,he⟩:=List.getElem?_eq_some_iff.1 h2
 have:s=s.take i++d::s.drop (i+1):=by
  conv=>lhs;rw[← List.take_append_drop i s]
  rw[List.drop_eq_getElem_cons hi,he]
 have h3:=cut1_of (b:=s.drop (i+1)) h1
 rwa[← this]at h3
theorem index1_none {d:UInt8}{s:List UInt8} : indexByte s d = -1↔cut1 d s=none:=by
 rw[cut1_none]
 constructor
 ·intro h hm
  obtain⟨k,hk,rfl⟩:=List.getElem_of_mem hm
  exact indexByte_none h k (List.getElem?_eq_getElem hk)
 ·intro h
  have hge:=indexByte_ge s d
  by_cases hneg:indexByte s d = -1
  ·exact hneg
  ·obtain⟨o,ho⟩:∃ o:Nat,indexByte s d=o:=⟨(indexByte s d).toNat,by omega⟩
   exact absurd (List.mem_of_getElem? (indexByte_some ho).1) h
theorem index1_some {d:UInt8}{s a b:List UInt8}(h:cut1 d s=some (a,b)):indexByte s d=a.length∧s.take a.length=a∧s.drop (a.length+1)=b∧a.length+1+b.length=s.length:=by
 obtain⟨h1,h2⟩:=cut1_some h
 have hne:indexByte s d ≠ -1:=fun e=>by rw[index1_none.1 e]at h;cases h
 have hge:=indexByte_ge s d
 obtain⟨o,ho⟩:∃ o:Nat,indexByte s d=o:=⟨(indexByte s d).toNat,by omega⟩
 obtain⟨g1,g2⟩:=indexByte_some ho
 have hat:=cut1_at (i:=o) (fun hm=>by
  obtain⟨k,hk,he⟩:=List.getElem_of_mem hm
  rw[List.length_take]at hk
  rw[List.getElem_take]at he
  exact g2 k (by omega) (by rw[List.getElem?_eq_getElem (by omega),he])) g1
 rw[h]at hat
 cases hat
 have hlt:=(List.getElem?_eq_some_iff.1 g1).1
 have hl:(s.take o).length=o:=by rw[List.length_take];omega
 rw[hl]
 refine⟨ho,rfl,rfl,?_⟩
 rw[List.length_drop];omega
def namedTo (s:List UInt8)(k:Nat):Prop:=∀(i:Nat) (c:UInt8),i<k→s[i]? = some c→partB (i==0) c=true
theorem nameL_true {s:List UInt8}(hne:s≠[])(h:namedTo s s.length):nameL s=true:=by
 cases s with
 | nil=>exact absurd rfl hne
 | cons c r =>
  have h0:=h 0 c (by simp) (by simp)
  simp only[beq_self_eq_true]at h0
  simp only[nameL,h0,Bool.true_and,List.all_eq_true]
  intro x hx
  obtain⟨k,hk,rfl⟩:=List.getElem_of_mem hx
  have:=h (k+1) r[k] (by simp;omega) (by simp[hk])
  have h3:((k+1)==0)=false:=beq_false_of_ne (by omega)
  rwa[h3]at this
theorem nameL_false {s:List UInt8}{k:Nat}{c:UInt8}(hc:s[k]? = some c)(h:partB (k==0) c=false):nameL s=false:=by
 cases s with
 | nil=>simp at hc
 | cons x r =>
  cases k with
  | zero =>
   simp at hc;subst hc
   simp only[beq_self_eq_true]at h
   simp[nameL,h]
  | succ k =>
   have h3:((k+1)==0)=false:=beq_false_of_ne (by omega)
   rw[h3]at h
   simp only[List.getElem?_cons_succ]at hc
   simp only[nameL,Bool.and_eq_false_iff,List.all_eq_false]
   right
   exact⟨c,List.mem_of_getElem? hc,by rw[h];simp⟩
theorem beq_byte (c d:UInt8):((c.toNat:Int)==(d.toNat:Int))=decide (c=d):=by
 rw[Bool.eq_iff_iff,beq_iff_eq,decide_eq_true_iff]
 constructor
 ·intro h;exact UInt8.toNat_inj.1 (by omega)
 ·rintro rfl;rfl
theorem ptsErr_iff {s:List UInt8} : ptsErr s=0↔s.length≤16384∧(dec s).isSome=true:=by
 unfold ptsErr
 split
 ·constructor
  ·intro h;omega
  ·rintro ⟨h,_⟩;omega
 ·rename_i hl
  cases dec s with
  | none=>simp
  | some z=>simp;omega
structure Pr where
 name:List UInt8
 value:List UInt8
deriving DecidableEq
structure Tk where
 kind:Nat
 name:List UInt8
 attrs:List Pr
 text:List UInt8
deriving DecidableEq
def okP (l:List Pr)(a:Pr):Bool:=!(l.any fun b=>a.name==b.name)&&fullL a.name&&decide (ptsErr a.value=0)
def attrsTo (l:List Pr)(k:Nat):Prop:=∀(i:Nat) (a:Pr),i<k→l[i]? = some a→okP (l.take i) a=true
def attrsL (l:List Pr):Bool:=decide (l.length≤16)&&l.zipIdx.all fun p=>okP (l.take p.2) p.1
theorem attrs_iff {l:List Pr} : attrsL l=true↔l.length≤16∧attrsTo l l.length:=by
 unfold attrsL attrsTo
 simp only[Bool.and_eq_true,decide_eq_true_eq,List.all_eq_true]
 refine and_congr_right fun _=>⟨fun h i a hi ha=>?_,fun h p hp=>?_⟩
 ·refine h (a,i) ?_
  rw[List.mem_zipIdx_iff_getElem?];exact ha
 ·have:=(List.mem_zipIdx_iff_getElem?).1 hp
  exact h p.2 p.1 (List.getElem?_eq_some_iff.1 this).1 this
def tokL (t:Tk):Bool :=
 if t.kind=1∨t.kind=3 then fullL t.name&&attrsL t.attrs&&t.text.isEmpty
 else if t.kind=2 then fullL t.name&&t.attrs.isEmpty&&t.text.isEmpty
 else if t.kind=4 then t.name.isEmpty&&t.attrs.isEmpty && !t.text.isEmpty&&decide (ptsErr t.text=0)
 else false
def tokE (t:Tk):Int:=if tokL t=true then 0 else 8
def attrW (a:Pr):List UInt8:=[32]++a.name++[61,34]++escW true a.value++[34]
def attrsW (l:List Pr):List UInt8:=l.flatMap attrW
def tokW (t:Tk):List UInt8 :=
 if t.kind=4 then escW false t.text
 else if t.kind=2 then [60,47]++t.name++[62]
 else [60]++t.name++attrsW t.attrs++(if t.kind=3 then [47,62] else [62])
def toksW (l:List Tk):List UInt8:=l.flatMap tokW
def adjL:List Tk→Bool
 | a::b::r=>(a.kind==4&&b.kind==4)||adjL (b::r)
 | _=>false
theorem sum_map_le {α:Type}{f:α→Nat}{l:List α}{x:α}(h:x∈l):f x≤(l.map f).sum:=by
 induction l with
 | nil=>simp at h
 | cons y l ih =>
  simp only[List.map_cons,List.sum_cons]
  rcases List.mem_cons.1 h with rfl|h
  ·omega
  ·have:=ih h;omega
structure At where
 space:List UInt8
 name:List UInt8
 value:List UInt8
deriving DecidableEq
structure Nd where
 kind:Nat
 space:List UInt8
 name:List UInt8
 attrs:List At
 text:List UInt8
 many:Int
deriving DecidableEq
structure Gr where
 v:List Nd
 opn:List Nat
def Nd.inc (n:Nd):Nd:={ n with many:=n.many+1 }
def incG (v:List Nd)(opn:List Nat):List Nd:=match opn.getLast? with
 | some k=>v.modify k Nd.inc
 | none=>v
def addG (g:Gr)(n:Nd):List Nd:=incG g.v g.opn++[n]
def blankB (c:UInt8):Bool:=c==32||c==9||c==10||c==13
def blankL (s:List UInt8):Bool:=s.all blankB
def textN (s:List UInt8):Nd:=⟨2,[],[],[],s,0⟩
def givenL (l:List Pr):List At:=l.map fun a=>⟨[],a.name,a.value⟩
def elemN (t:Tk):Nd:=⟨1,[],t.name,givenL t.attrs,[],0⟩
def lastName (g:Gr):Option (List UInt8):=g.opn.getLast?.bind fun k=>(g.v[k]?).map Nd.name
def stepG (g:Gr)(t:Tk)(txt:Bool):Gr×Int :=
 if t.kind=4 then
  if (txt||(g.opn.isEmpty && !blankL t.text))=true then (g,80)
  else if g.opn.isEmpty=true then (g,0) else (⟨addG g (textN t.text),g.opn⟩,0)
 else if t.kind=2 then
  if lastName g=some t.name then (⟨g.v,g.opn.dropLast⟩,0) else (g,80)
 else if (g.opn.isEmpty && !g.v.isEmpty)=true then (g,80)
 else if 12≤g.opn.length then (g,100)
 else (⟨addG g (elemN t),if t.kind=1 then g.opn++[g.v.length] else g.opn⟩,0)
def goG:Gr→Bool→List Tk→Gr×Int
 | g,_,[]=>(g,0)
 | g,txt,t::r=>if (stepG g t txt).2=0 then goG (stepG g t txt).1 (t.kind==4) r else stepG g t txt
def parseE (l:List Tk):Int:=if 512<l.length then 4 else if (l.any fun t=>!tokL t)=true then 8 else
 if (goG ⟨[],[]⟩ false l).2≠0 then (goG ⟨[],[]⟩ false l).2 else if (goG ⟨[],[]⟩ false l).1.v.isEmpty=true∨(goG ⟨[],[]⟩ false l).1.opn.isEmpty=false then 80 else 0
def parseT (l:List Tk):List Nd:=if parseE l=0 then (goG ⟨[],[]⟩ false l).1.v else []
structure Gr.Ok (g:Gr) (n:Nat):Prop where
 in_:∀ k∈g.opn,k<g.v.length
 deep:g.opn.length≤12
 many:∀ x∈g.v,0≤x.many∧x.many≤n
 len:g.v.length≤n
theorem incG_length (v:List Nd)(o:List Nat):(incG v o).length=v.length:=by
 unfold incG
 split<;>simp
theorem addG_length (g:Gr)(n:Nd):(addG g n).length=g.v.length+1:=by simp[addG,incG_length]
theorem inc_many {v:List Nd}{o:List Nat}{n:Nat}(h:∀ x∈v,0≤x.many∧x.many≤n):∀ x∈incG v o,0≤x.many∧x.many≤((n+1:Nat):Int):=by
 intro x hx
 unfold incG at hx
 split at hx
 ·rename_i k _
  obtain⟨i,hi⟩:=List.mem_iff_getElem?.1 hx
  rw[List.getElem?_modify]at hi
  cases hv:v[i]? with
  | none=>rw[hv]at hi;simp at hi
  | some y =>
   rw[hv]at hi
   have:=h y (List.mem_of_getElem? hv)
   split at hi
   ·simp at hi;subst hi;simp only[Nd.inc];omega
   ·simp at hi;subst hi;omega
 ·have:=h x hx;omega
theorem add_ok {g:Gr}{n:Nat}(h:g.Ok n){x:Nd}(hx:x.many=0):(∀ k∈g.opn,k<(addG g x).length)∧(∀ y∈addG g x,0≤y.many∧y.many≤((n+1:Nat):Int))∧(addG g x).length≤n+1:=by
 refine⟨fun k hk=>?_,fun y hy=>?_,?_⟩
 ·have:=h.in_ k hk;rw[addG_length];omega
 ·rcases List.mem_append.1 hy with hy|hy
  ·exact inc_many h.many y hy
  ·simp at hy;subst hy;omega
 ·rw[addG_length];have:=h.len;omega
theorem step_ok {g:Gr}{n:Nat}(h:g.Ok n)(t:Tk)(txt:Bool):(stepG g t txt).1.Ok (n+1):=by
 have h0:g.Ok (n+1):=⟨h.in_,h.deep,fun x hx=>by have:=h.many x hx;omega,by have:=h.len;omega⟩
 unfold stepG
 split
 ·split
  ·exact h0
  ·split
   ·exact h0
   ·obtain⟨h1,h2,h3⟩:=add_ok h (x:=textN t.text) rfl
    exact⟨h1,h.deep,h2,h3⟩
 ·split
  ·split
   ·exact⟨fun k hk=>h.in_ k (List.dropLast_subset _ hk),by simp;have:=h.deep;omega,h0.many,h0.len⟩
   ·exact h0
  ·split
   ·exact h0
   ·split
    ·exact h0
    ·rename_i h12
     obtain⟨h1,h2,h3⟩:=add_ok h (x:=elemN t) rfl
     refine⟨fun k hk=>?_,?_,h2,h3⟩
     ·simp only at hk
      split at hk
      ·rcases List.mem_append.1 hk with hk|hk
       ·exact h1 k hk
       ·simp at hk;subst hk;simp only[addG_length];omega
      ·exact h1 k hk
     ·simp only
      split
      ·simp;omega
      ·exact h.deep
theorem start_ok:(Gr.mk [] []).Ok 0:=Gr.Ok.mk (fun k h=>by simp at h) (by simp) (fun x h=>by simp at h) (by simp)
theorem incG_nil (v:List Nd):incG v []=v:=rfl
theorem incG_last {v:List Nd}{o:List Nat}{k:Nat}(h:o.getLast? = some k):incG v o=v.modify k Nd.inc:=by unfold incG;rw[h]
theorem set_modify {v:List Nd}{k:Nat}{x:Nd}(h:v[k]? = some x):v.modify k Nd.inc=v.set k x.inc:=by
 refine List.ext_getElem? fun i=>?_
 rw[List.getElem?_modify,List.getElem?_set]
 have hk:=(List.getElem?_eq_some_iff.1 h).1
 by_cases e:k=i
 ·subst e;have hv:=(List.getElem?_eq_some_iff.1 h).2;simp[hk,hv]
 ·simp[e]
theorem last_get {o:List Nat}{k:Nat}(h:o.getLast? = some k):o≠[]∧o[o.length-1]? = some k∧0<o.length:=by
 have hne:o≠[]:=by intro e;subst e;simp at h
 rw[List.getLast?_eq_getElem?]at h
 exact⟨hne,h,List.length_pos_iff.2 hne⟩
theorem last_some {o:List Nat}(h:o≠[]):∃ k,o.getLast? = some k:=⟨_,List.getLast?_eq_some_getLast h⟩
theorem goG_take {l:List Tk} : ∀ {g:Gr} {txt:Bool} {t:Tk} {r:List Tk},l=t::r→(stepG g t txt).2=0→goG g txt l=goG (stepG g t txt).1 (t.kind==4) r:=by
 intro g txt t r h h0
 subst h
 rw[goG,if_pos h0]
theorem goG_err {g:Gr}{txt:Bool}{t:Tk}{r:List Tk}(h0:(stepG g t txt).2≠0):goG g txt (t::r)=stepG g t txt:=by rw[goG,if_neg h0]
theorem goG_nil (g:Gr)(txt:Bool):goG g txt []=(g,0):=rfl
def hexD (c:UInt8):Option Nat:=if 48≤c.toNat∧c.toNat≤57 then some (c.toNat-48) else if 97≤c.toNat∧c.toNat≤102 then some (c.toNat-87) else if 65≤c.toNat∧c.toNat≤70 then some (c.toNat-55) else none
def hexV:Nat→List UInt8→Option Nat
 | n,[]=>some n
 | n,c::r=>match hexD c with|none=>none|some d=>hexV (16*n+d) r
def hexL (s:List UInt8):Option Nat:=if s=[]∨6<s.length∨s.head? = some 48 then none else hexV 0 s
def decD (c:UInt8):Option Nat:=if 48≤c.toNat∧c.toNat≤57 then some (c.toNat-48) else none
def decV:Nat→List UInt8→Option Nat
 | n,[]=>some n
 | n,c::r=>match decD c with|none=>none|some d=>decV (10*n+d) r
def decL (s:List UInt8):Option Nat:=if s=[]∨16<s.length∨(s.head? = some 48∧s≠[48]) then none else (decV 0 s).bind fun n=>if n≤9007199254740991 then some n else none
def pointW (o:Option Nat):Option (List UInt8):=o.bind fun n=>if may (n:Int)=true then some (encodeRune n) else none
def meantL (s:List UInt8):Option (List UInt8) :=
 if s=[97,109,112] then some [38] else if s=[108,116] then some [60] else if s=[103,116] then some [62] else if s=[113,117,111,116] then some [34] else if s=[97,112,111,115] then some [39]
 else if s.head? = some 35 then (if s.tail.head? = some 120 then pointW (hexL s.tail.tail) else pointW (decL s.tail)) else none
theorem cut1_len {d:UInt8}{s a b:List UInt8}(h:cut1 d s=some (a,b)):b.length<s.length:=by
 have:=(cut1_some h).1
 rw[this];simp;omega
def readL:List UInt8→Option (List UInt8)
 | []=>some []
 | c::r=>if c=60 then none else if c=38 then (match h:cut1 59 r with|none=>none|some (a,b)=>match meantL a with|none=>none|some x=>(readL b).map (x ++ ·)) else (readL r).map (c :: ·)
termination_by s=>s.length
decreasing_by
 ·have:=cut1_len h;simp;omega
 ·simp
theorem readL_nil:readL []=some []:=by rw[readL]
theorem readL_lt (r:List UInt8):readL (60::r)=none:=by rw[readL];rfl
theorem readL_other {c:UInt8}(h1:c≠60)(h2:c≠38)(r:List UInt8):readL (c::r)=(readL r).map (c :: ·):=by rw[readL,if_neg h1,if_neg h2]
theorem readL_none {r:List UInt8}(h:cut1 59 r=none):readL (38::r)=none:=by
 rw[readL,if_neg (by decide),if_pos rfl]
 split
 ·rfl
 ·rename_i e;rw[h]at e;cases e
theorem readL_bad {r a b:List UInt8}(h:cut1 59 r=some (a,b))(hm:meantL a=none):readL (38::r)=none:=by
 rw[readL,if_neg (by decide),if_pos rfl]
 split
 ·rfl
 ·rename_i e;rw[h]at e;cases e;rw[hm]
theorem readL_ref {r a b x:List UInt8}(h:cut1 59 r=some (a,b))(hm:meantL a=some x):readL (38::r)=(readL b).map (x ++ ·):=by
 rw[readL,if_neg (by decide),if_pos rfl]
 split
 ·rename_i e;rw[h]at e;cases e
 ·rename_i e;rw[h]at e;cases e;rw[hm]
theorem meant_amp:meantL [97,109,112]=some [38]:=by decide
theorem meant_lt:meantL [108,116]=some [60]:=by decide
theorem meant_gt:meantL [103,116]=some [62]:=by decide
theorem meant_quot:meantL [113,117,111,116]=some [34]:=by decide
theorem enc_low {z:Int}(h0:0≤z)(h:z<128):encodeRune z=[z.toNat.toUInt8]:=by
 unfold encodeRune encodeRuneZ
 rw[if_pos (by omega)]
 rfl
theorem enc_high {z:Int}(h:128≤z):∀ c∈encodeRune z,128≤c.toNat:=by
 intro c hc
 unfold encodeRune encodeRuneZ at hc
 rw[if_neg (by omega)]at hc
 repeat' split at hc
 all_goals (
  simp only[List.map_cons,List.map_nil,List.mem_cons,List.not_mem_nil,or_false]at hc
  rcases hc with rfl|rfl|rfl|rfl<;>(rw[mod64 (by omega) (by omega)];omega))
theorem decD_range {c:UInt8}{d:Nat}(h:decD c=some d):d≤9∧c=UInt8.ofNat (48+d)∧c.toNat=48+d:=by
 unfold decD at h
 split at h
 ·cases h
  refine⟨by omega,?_,by omega⟩
  have:48+(c.toNat-48)=c.toNat:=by omega
  rw[this];simp
 ·cases h
theorem decV_snoc:∀(s:List UInt8) (n:Nat) (c:UInt8),decV n (s++[c])=(decV n s).bind fun m=>(decD c).map fun d=>10*m+d
 | [],n,c=>by
  simp only[List.nil_append,decV,Option.bind_some]
  cases decD c<;>rfl
 | x::s,n,c=>by
  simp only[List.cons_append,decV]
  cases decD x with
  | none=>rfl
  | some d=>exact decV_snoc s _ c
theorem decV_le:∀(s:List UInt8) (n m:Nat),decV n s=some m→n≤m∧m<(n+1)*10 ^ s.length
 | [],n,m,h=>by simp only[decV]at h;cases h;simp
 | x::s,n,m,h=>by
  simp only[decV]at h
  cases hx:decD x with
  | none=>rw[hx]at h;cases h
  | some d =>
   rw[hx]at h
   have hd:=(decD_range hx).1
   obtain⟨h1,h2⟩:=decV_le s _ m h
   refine⟨by omega,Nat.lt_of_lt_of_le h2 ?_⟩
   rw[List.length_cons,Nat.pow_succ',← Nat.mul_assoc]
   exact Nat.mul_le_mul_right _ (by omega)
def skipL (s:List UInt8):List UInt8:=s.dropWhile blankB
def wordB (c:UInt8):Bool:=partB false c||c==58
def wordT (s:List UInt8):List UInt8:=s.takeWhile wordB
def wordR (s:List UInt8):List UInt8:=s.dropWhile wordB
def nameO (s:List UInt8):Option (List UInt8×List UInt8):=if fullL (wordT s)=true then some (wordT s,wordR s) else none
def flatB (c:UInt8):UInt8:=if blankB c=true then 32 else c
def toldO (s:List UInt8):Option (List UInt8):=readL (s.map flatB)
def quoteO:List UInt8→Option (List UInt8×List UInt8)
 | []=>none
 | q::t=>if q=39∨q=34 then cut1 q t else none
def valueO (s:List UInt8):Option (List UInt8×List UInt8):=(quoteO s).bind fun p=>(toldO p.1).map fun v=>(v,p.2)
def afterO (c:UInt8):List UInt8→Option (List UInt8)
 | []=>none
 | d::t=>if d=c then some t else none
def attrO (s:List UInt8):Option (Pr×List UInt8):=(nameO s).bind fun p=>(afterO 61 (skipL p.2)).bind fun t=>(valueO (skipL t)).map fun q=>(⟨p.1,q.1⟩,q.2)
theorem dropWhile_le {p:UInt8→Bool} : ∀ s:List UInt8,(s.dropWhile p).length≤s.length
 | []=>Nat.le_refl _
 | c::s=>by
  rw[List.dropWhile_cons]
  split
  ·have:=dropWhile_le (p:=p) s;simp;omega
  ·exact Nat.le_refl _
theorem skip_le (s:List UInt8):(skipL s).length≤s.length:=dropWhile_le s
theorem word_split (s:List UInt8):s=wordT s++wordR s:=(List.takeWhile_append_dropWhile).symm
theorem full_ne {s:List UInt8}(h:fullL s=true):s≠[]:=by
 intro e;subst e;cases h
theorem name_lt {s n r:List UInt8}(h:nameO s=some (n,r)):s=n++r∧n≠[]∧fullL n=true∧r.length<s.length:=by
 unfold nameO at h
 split at h
 ·rename_i hf
  cases h
  have h1:=word_split s
  have h2:=full_ne hf
  refine⟨h1,h2,hf,?_⟩
  have:=congrArg List.length h1
  rw[List.length_append]at this
  have:=List.length_pos_iff.2 h2
  omega
 ·cases h
theorem after_cons (c d:UInt8)(t:List UInt8):afterO c (d::t)=if d=c then some t else none:=rfl
theorem quote_cons (q:UInt8)(t:List UInt8):quoteO (q::t)=if q=39∨q=34 then cut1 q t else none:=rfl
theorem after_some {c:UInt8}{s t:List UInt8}(h:afterO c s=some t):s=c::t:=by
 cases s with
 | nil=>cases h
 | cons d s =>
  rw[after_cons]at h
  split at h
  ·rename_i e;cases h;rw[e]
  ·cases h
theorem quote_some {s a b:List UInt8}(h:quoteO s=some (a,b)):∃ q,(q=39∨q=34)∧s=q::(a++q::b)∧q ∉ a:=by
 cases s with
 | nil=>cases h
 | cons q t =>
  rw[quote_cons]at h
  split at h
  ·rename_i hq
   obtain⟨h1,h2⟩:=cut1_some h
   exact⟨q,hq,by rw[h1],h2⟩
  ·cases h
theorem value_some {s v r:List UInt8}(h:valueO s=some (v,r)):∃ a,quoteO s=some (a,r)∧toldO a=some v:=by
 unfold valueO at h
 obtain⟨⟨a,b⟩,h1,h2⟩:=Option.bind_eq_some_iff.1 h
 obtain⟨x,h3,h4⟩:=Option.map_eq_some_iff.1 h2
 cases h4
 exact⟨a,h1,h3⟩
theorem attr_some {s r:List UInt8}{a:Pr}(h:attrO s=some (a,r)):∃ r1 t,nameO s=some (a.name,r1)∧skipL r1=61::t∧valueO (skipL t)=some (a.value,r):=by
 unfold attrO at h
 obtain⟨⟨n,r1⟩,h1,h2⟩:=Option.bind_eq_some_iff.1 h
 obtain⟨t,h3,h4⟩:=Option.bind_eq_some_iff.1 h2
 obtain⟨⟨v,r2⟩,h5,h6⟩:=Option.map_eq_some_iff.1 h4
 cases h6
 exact⟨r1,t,h1,after_some h3,h5⟩
theorem attr_lt {s r:List UInt8}{a:Pr}(h:attrO s=some (a,r)):r.length<s.length:=by
 obtain⟨r1,t,h1,h2,h3⟩:=attr_some h
 have l1:=(name_lt h1).2.2.2
 have l2:=skip_le r1
 rw[h2]at l2
 have l3:=skip_le t
 obtain⟨v,h4,_⟩:=value_some h3
 obtain⟨q,_,h5,_⟩:=quote_some h4
 rw[h5]at l3
 simp only[List.length_cons,List.length_append]at l2 l3
 omega
def endO:List UInt8→Option (Nat×List UInt8)
 | 62::t=>some (1,t)
 | 47::62::t=>some (3,t)
 | _=>none
def tagL (n:List UInt8)(l:List Pr)(s:List UInt8):Option (Tk×List UInt8) :=
 match endO (skipL s) with
 | some (k,t)=>some (⟨k,n,l,[]⟩,t)
 | none=>if (skipL s).length<s.length then (match h:attrO (skipL s) with
  | none=>none
  | some (a,r)=>if (l.any fun b=>a.name==b.name)=true then none else tagL n (l++[a]) r) else none
termination_by s.length
decreasing_by
 have:=attr_lt h
 have:=skip_le s
 omega
theorem tag_end {n:List UInt8}{l:List Pr}{s t:List UInt8}{k:Nat}(h:endO (skipL s)=some (k,t)):tagL n l s=some (⟨k,n,l,[]⟩,t):=by rw[tagL,h]
theorem tag_gap {n:List UInt8}{l:List Pr}{s:List UInt8}(h:endO (skipL s)=none)(h2:¬(skipL s).length<s.length):tagL n l s=none:=by rw[tagL,h];simp only[if_neg h2]
theorem tag_bad {n:List UInt8}{l:List Pr}{s:List UInt8}(h:endO (skipL s)=none)(h2:attrO (skipL s)=none):tagL n l s=none:=by
 rw[tagL,h];simp only
 split
 ·split
  ·rfl
  ·rename_i e;rw[h2]at e;cases e
 ·rfl
theorem tag_twice {n:List UInt8}{l:List Pr}{s r:List UInt8}{a:Pr}(h:endO (skipL s)=none)(h2:attrO (skipL s)=some (a,r))(h3:(l.any fun b=>a.name==b.name)=true):tagL n l s=none:=by
 rw[tagL,h];simp only
 split
 ·split
  ·rfl
  ·rename_i e;rw[h2]at e;cases e;rw[if_pos h3]
 ·rfl
theorem tag_attr {n:List UInt8}{l:List Pr}{s r:List UInt8}{a:Pr}(h:endO (skipL s)=none)(hg:(skipL s).length<s.length)(h2:attrO (skipL s)=some (a,r))(h3:(l.any fun b=>a.name==b.name)=false):tagL n l s=tagL n (l++[a]) r:=by
 rw[tagL,h];simp only[if_pos hg]
 split
 ·rename_i e;rw[h2]at e;cases e
 ·rename_i e;rw[h2]at e;cases e;rw[if_neg (by simp[h3])]
def tagO (s:List UInt8):Option (Tk×List UInt8) :=
 match afterO 47 s with
 | some t=>(nameO t).bind fun p=>(afterO 62 (skipL p.2)).map fun r=>(⟨2,p.1,[],[]⟩,r)
 | none=>(nameO s).bind fun p=>tagL p.1 [] p.2
def textB (c:UInt8):Bool:=c != 60
def textT (s:List UInt8):List UInt8:=s.takeWhile textB
def textR (s:List UInt8):List UInt8:=s.dropWhile textB
def oneO (s:List UInt8):Option (Tk×List UInt8) :=
 match afterO 60 s with
 | some t=>tagO t
 | none=>(readL (textT s)).map fun x=>(⟨4,[],[],x⟩,textR s)
theorem tagL_lt:∀(k:Nat) (n:List UInt8) (l:List Pr) (s r:List UInt8) (t:Tk),s.length≤k→tagL n l s=some (t,r)→r.length<s.length:=by
 intro k
 induction k with
 | zero =>
  intro n l s r t hk h
  obtain rfl:=List.length_eq_zero_iff.1 (Nat.le_zero.1 hk)
  rw[tag_gap (by rfl) (by simp[skipL])]at h;cases h
 | succ k ih =>
  intro n l s r t hk h
  have hs:=skip_le s
  cases he:endO (skipL s) with
  | some p =>
   obtain⟨m,u⟩:=p
   rw[tag_end he]at h
   cases h
   unfold endO at he
   split at he
   ·rename_i e;cases he;rw[e]at hs;simp at hs;omega
   ·rename_i e;cases he;rw[e]at hs;simp at hs;omega
   ·cases he
  | none =>
   cases ha:attrO (skipL s) with
   | none=>rw[tag_bad he ha]at h;cases h
   | some p =>
    obtain⟨a,u⟩:=p
    have hl:=attr_lt ha
    cases hd:l.any fun b=>a.name==b.name with
    | true=>rw[tag_twice he ha hd]at h;cases h
    | false =>
     by_cases hg:(skipL s).length<s.length
     ·rw[tag_attr he hg ha hd]at h
      have:=ih n _ u r t (by omega) h
      omega
     ·rw[tag_gap he hg]at h;cases h
theorem tag_lt {s r:List UInt8}{t:Tk}(h:tagO s=some (t,r)):r.length<s.length:=by
 unfold tagO at h
 split at h
 ·rename_i u hu
  obtain⟨⟨n,r1⟩,h1,h2⟩:=Option.bind_eq_some_iff.1 h
  obtain⟨r2,h3,h4⟩:=Option.map_eq_some_iff.1 h2
  cases h4
  have l1:=(name_lt h1).2.2.2
  have l2:=skip_le r1
  rw[after_some h3]at l2
  rw[after_some hu]
  simp only[List.length_cons]at l2 ⊢
  omega
 ·obtain⟨⟨n,r1⟩,h1,h2⟩:=Option.bind_eq_some_iff.1 h
  have l1:=(name_lt h1).2.2.2
  have l2:=tagL_lt _ n [] r1 r t (Nat.le_refl _) h2
  omega
theorem one_lt {s r:List UInt8}{t:Tk}(hne:s≠[])(h:oneO s=some (t,r)):r.length<s.length:=by
 unfold oneO at h
 split at h
 ·rename_i u hu
  have:=tag_lt h
  rw[after_some hu];simp;omega
 ·rename_i hu
  obtain⟨x,_,h2⟩:=Option.map_eq_some_iff.1 h
  cases h2
  cases s with
  | nil=>exact absurd rfl hne
  | cons c s =>
   have hc:textB c=true:=by
    rw[after_cons]at hu
    split at hu
    ·cases hu
    ·rename_i e;simp[textB,e]
   unfold textR
   rw[List.dropWhile_cons,if_pos hc]
   have:=dropWhile_le (p:=textB) s
   simp;omega
def lexG (n:Nat)(l:List Tk)(s:List UInt8):List Tk×Nat×Int :=
 if hn:s=[] then (l,0,0) else if 512≤l.length then ([],n-s.length,4) else match h:oneO s with
  | none=>([],n-s.length,80)
  | some (t,r)=>if 16<t.attrs.length then ([],n-s.length,4) else lexG n (l++[t]) r
termination_by s.length
decreasing_by exact one_lt hn h
theorem lexG_nil (n:Nat)(l:List Tk):lexG n l []=(l,0,0):=by rw[lexG,dif_pos rfl]
theorem lexG_many {n:Nat}{l:List Tk}{s:List UInt8}(h:s≠[])(h2:512≤l.length):lexG n l s=([],n-s.length,4):=by rw[lexG,dif_neg h,if_pos h2]
theorem lexG_bad {n:Nat}{l:List Tk}{s:List UInt8}(h:s≠[])(h2:l.length<512)(h3:oneO s=none):lexG n l s=([],n-s.length,80):=by
 rw[lexG,dif_neg h,if_neg (by omega)]
 split
 ·rfl
 ·rename_i e;rw[h3]at e;cases e
theorem lexG_great {n:Nat}{l:List Tk}{s r:List UInt8}{t:Tk}(h:s≠[])(h2:l.length<512)(h3:oneO s=some (t,r))(h4:16<t.attrs.length):lexG n l s=([],n-s.length,4):=by
 rw[lexG,dif_neg h,if_neg (by omega)]
 split
 ·rename_i e;rw[h3]at e;cases e
 ·rename_i e;rw[h3]at e;cases e;rw[if_pos h4]
theorem lexG_go {n:Nat}{l:List Tk}{s r:List UInt8}{t:Tk}(h:s≠[])(h2:l.length<512)(h3:oneO s=some (t,r))(h4:t.attrs.length≤16):lexG n l s=lexG n (l++[t]) r:=by
 rw[lexG,dif_neg h,if_neg (by omega)]
 split
 ·rename_i e;rw[h3]at e;cases e
 ·rename_i e;rw[h3]at e;cases e;rw[if_neg (by omega)]
def lexA (s:List UInt8):List Tk×Nat×Int:=if ptsErr s≠0 then ([],0,ptsErr s) else lexG s.length [] s
end Go.Proofs.YtjdjclecdfhciaaGreatDoor
namespace Go.Proofs.YtjdjclecdfhciaaGreatDoor
set_option maxRecDepth 100000
set_option maxHeartbeats 32000000
set_option linter.unusedSimpArgs false
set_option linter.unusedVariables false
open Go Go.RowKit Vm Go.Lib Tryz
open Vm renaming cond_bool→Ca,cond_bit→Cb
open And renaming intro→Ai
open List renaming length_map→Lm,not_mem_nil→Ln,map_nil→Lo,map_cons→Lc,mem_cons→Lk
open Bool renaming not_false→Bf,not_true→Bt
def validB (r:Int):Bool:=(decide (0≤r)&&decide (r<55296))||(decide (57343<r)&&decide (r≤1114111))
theorem valid_ev (r:Int)(nm:Nat):Ev cx 154 nm [.int .i32 r] Mem.nil (.bool (validB r)) []:=by
 unfold validB
 refine ev_go rfl (fun cargs w=>call154 cargs w) func154 rfl mixed (by kernel_rfl) rfl ?_;intro b0 hb0
 (repeat' first|simp only[fins,mems,results154,ntmps154,wks,vcs,seval,tys]|exact rfl|refine call_off (v:=.any) ?_|((first|apply Ca|apply Cb)<;>intro hb)|refine Ai (by omega) ?_|(apply Ai<;>intro hb)|refine Fin.pure ?_ ?_ ?_|simp only[injs])
 all_goals simp_all
theorem tMay_ev (n:Int)(nm:Nat):Ev cx 128 nm [.int .i64 n] Mem.nil (.bool (may n)) []:=by
 refine ev_go rfl (fun cargs w=>call128 cargs w) func128 rfl mixed (by kernel_rfl) rfl ?_;intro b0 hb0
 (repeat' first|simp only[fins,mems,results128,ntmps128,wks,vcs,seval,tys]|exact rfl|refine call_off (v:=.any) ?_|((first|apply Ca|apply Cb)<;>intro hb)|refine Ai (by omega) ?_|(apply Ai<;>intro hb)|refine Fin.pure ?_ ?_ ?_|simp only[injs])
 all_goals simp only[decide_eq_true_eq,decide_eq_false_iff_not,beq_iff_eq,beq_eq_false_iff_ne,ne_eq]at *
 all_goals (first|(exfalso;omega)|(exact may_t (by omega))|(exact may_f (by omega))|skip)
 have hw:IntKind.i32.wrap n=n:=IntWalk.i32_in _ (by omega)
 rw[hw]
 have hv:validB n=may n:=by
  cases h:may n with
  | true =>
   have:=(may_iff n).1 h
   unfold validB
   simp only[Bool.or_eq_true,Bool.and_eq_true,decide_eq_true_eq];omega
  | false =>
   have h':¬ _:=fun q=>by rw[(may_iff n).2 q]at h;cases h
   unfold validB
   simp only[Bool.or_eq_false_iff,Bool.and_eq_false_iff,decide_eq_false_iff_not];omega
 (repeat' first|simp only[fins,mems,results128,ntmps128,wks,hv,vcs,seval,tys]|exact rfl|refine call_off (v:=.any) ?_|(first|(refine call_fn ?_ (valid_ev n _) ?_)|(refine call_fn_g ?_ (fun _=>valid_ev n _) ?_))|((first|apply Ca|apply Cb)<;>intro hb)|refine Ai (by omega) ?_|(apply Ai<;>intro hb)|refine Fin.pure ?_ ?_ ?_|simp only[injs])
def preB (s p:List UInt8):Bool:=decide (p.length≤s.length)&&(s.take p.length==p)
theorem hasPre_ev (s p:List UInt8)(hs:s.length≤lim)(hp:p.length≤lim)(nm:Nat):Ev cx 149 nm [.str s,.str p] Mem.nil (.bool (preB s p)) []:=by
 unfold lim at hs hp
 unfold preB
 refine ev_go rfl (fun cargs w=>call149 cargs w) func149 rfl mixed (by kernel_rfl) rfl ?_;intro b0 hb0
 (repeat' first|simp only[fins,mems,results149,ntmps149,wks,decide_eq_true_eq,imp_self,vcs,seval,tys]|exact rfl|refine call_off (v:=.any) ?_|((first|apply Ca|apply Cb)<;>intro hb)|refine Ai (by omega) ?_|(apply Ai<;>intro hb)|refine Fin.pure ?_ ?_ ?_|simp only[injs])
theorem pre_ev (s p:List UInt8)(hs:s.length≤lim)(hp:p.length≤lim)(nm:Nat):Ev cx 127 nm [.str s,.str p] Mem.nil (.bool (preB s p)) []:=by
 refine ev_go rfl (fun cargs w=>call127 cargs w) func127 rfl mixed (by kernel_rfl) rfl ?_;intro b0 hb0
 (repeat' first|simp only[fins,mems,results127,ntmps127,wks,vcs,seval,tys]|exact rfl|refine call_off (v:=.any) ?_|(first|(refine call_fn ?_ (hasPre_ev s p hs hp _) ?_)|(refine call_fn_g ?_ (fun _=>hasPre_ev s p hs hp _) ?_))|((first|apply Ca|apply Cb)<;>intro hb)|refine Ai (by omega) ?_|(apply Ai<;>intro hb)|refine Fin.pure ?_ ?_ ?_|simp only[injs])
end Go.Proofs.YtjdjclecdfhciaaGreatDoor
