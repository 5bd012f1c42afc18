/-
 Texts joined: XTy,XEp,XEq,XEr,XEs,XEx,XEn,XLa,XUa,XGa,XGb,XNa,XEa.
-/
import Derived.Test.YtcllbjanalhjgaaGreatDoorChecked
import Derived.Lib.LaidU8
import Derived.Lib.ItoaNum
import Derived.Lib.RuneBytes
import Derived.Lib.MapLaws
import Derived.Lib.RuneCountTail
import Derived.Lib.IndexLaws
import Derived.Test.YtcllbjanalhjgaaGreatDoorQe
namespace Go.Proofs.YtcllbjanalhjgaaGreatDoor
set_option maxRecDepth 100000
set_option maxHeartbeats 32000000
set_option linter.unusedSimpArgs false
set_option linter.unusedVariables false
open Go Go.RowKit Vm Go.Lib Tryz
open Vm renaming be→Ca,bo→Cb
open And renaming intro→Ai
open List renaming length_map→Lm,not_mem_nil→Ln,map_nil→Lo,map_cons→Lc,mem_cons→Lk
open Bool renaming not_false→Bf,not_true→Bt
def zL:V:=.rp (Lib.firstTab.map fun z=>.int .u8 z)
def Ku:V:=.rp ((List.range 16).flatMap fun i=>[V.int .u8 (Lib.accLo i),.int .u8 (Lib.accHi i)])
def Hg:V:=.rp (Lib.pow10Tab.map fun z=>.int .u64 z)
def ow (g:Nat):V:=if g=4 then zL else if g=5 then Ku else if g=1 then Hg else .any
theorem nn:zL.plain=true∧Ku.plain=true∧Hg.plain=true:=by decide +kernel
noncomputable def cx:Cx:=⟨Tryz.prog,ow,[]⟩
theorem cm:∀ g,(cx.G g).plain=true:=fun g=>by
 show(ow g).plain=true
 unfold ow
 split
 ·exact nn.1
 ·split
  ·exact nn.2.1
  ·split
   ·exact nn.2.2
   ·rfl
theorem mixed:cx.P.follows .mixedOrders=true:=by kernel_rfl
theorem Nh:cx.P.underlying 9=some .string:=by kernel_rfl
theorem Nu:b9 cx.P 9=true:=by kernel_rfl
theorem Nf:cx.P.underlying 3=some (.int .i64):=by kernel_rfl
theorem L8:cx.P.underlying 25=some (.int .i64):=by kernel_rfl
theorem L7:cx.P.underlying 22=some (.slice 42):=by kernel_rfl
theorem Mr:cF cx.P 22=some ([.int .u8 0,.str [],.str [],.nils,.str [],.int .i64 0],88):=by kernel_rfl
theorem MM:b9 cx.P 22=true:=by kernel_rfl
theorem Mx:jd cx.P 22=some 42:=by kernel_rfl
theorem Kx:re cx.P 22=none:=by kernel_rfl
theorem KX:mj cx.P 22=some (none,6,true):=by kernel_rfl
theorem Fv:kH cx.P 42 1=some (1,1,false):=by kernel_rfl
theorem Nz:ty cx.P 9=some (1,false):=by kernel_rfl
theorem Fw:kH cx.P 42 2=some (2,1,false):=by kernel_rfl
theorem Fx:kH cx.P 42 3=some (3,1,false):=by kernel_rfl
theorem MZ:ty cx.P 40=some (1,false):=by kernel_rfl
theorem L9:cx.P.underlying 40=some (.slice 44):=by kernel_rfl
theorem Mt:cF cx.P 40=some ([.str [],.str [],.str []],48):=by kernel_rfl
theorem MN:b9 cx.P 40=true:=by kernel_rfl
theorem My:jd cx.P 40=some 44:=by kernel_rfl
theorem Ky:re cx.P 40=none:=by kernel_rfl
theorem KY:mj cx.P 40=some (none,3,true):=by kernel_rfl
theorem FB:kH cx.P 44 0=some (0,1,false):=by kernel_rfl
theorem Fy:kH cx.P 42 4=some (4,1,false):=by kernel_rfl
theorem M4:ty cx.P 44=some (3,true):=by kernel_rfl
theorem JN:dS cx.P 44=some [.str [],.str [],.str []]:=by kernel_rfl
theorem KF:gF cx.P 44=none:=by kernel_rfl
theorem FC:kH cx.P 44 1=some (1,1,false):=by kernel_rfl
theorem FD:kH cx.P 44 2=some (2,1,false):=by kernel_rfl
theorem M3:ty cx.P 42=some (6,true):=by kernel_rfl
theorem JM:dS cx.P 42=some [.int .u8 0,.str [],.str [],.nils,.str [],.int .i64 0]:=by kernel_rfl
theorem KE:gF cx.P 42=none:=by kernel_rfl
theorem JK:dS cx.P 22=some [.nils]:=by kernel_rfl
theorem KC:gF cx.P 22=none:=by kernel_rfl
theorem MX:ty cx.P 22=some (1,false):=by kernel_rfl
theorem Mc:dS cx.P 4=some [.bool false]:=by kernel_rfl
theorem Mj:gF cx.P 4=none:=by kernel_rfl
theorem Nx:ty cx.P 4=some (1,false):=by kernel_rfl
theorem JO:dS cx.P 48=some [.val .nilFunc]:=by kernel_rfl
theorem KG:gF cx.P 48=none:=by kernel_rfl
theorem M5:ty cx.P 48=some (1,false):=by kernel_rfl
theorem G1:fa cx.P 52=some ([.str []],[(0,1)]):=by kernel_rfl
theorem JQ:dS cx.P 62=some [.val .nilFunc]:=by kernel_rfl
theorem KI:gF cx.P 62=none:=by kernel_rfl
theorem M7:ty cx.P 62=some (1,false):=by kernel_rfl
theorem Fu:kH cx.P 42 0=some (0,1,false):=by kernel_rfl
theorem Ny:ty cx.P 5=some (1,false):=by kernel_rfl
theorem Ng:cx.P.underlying 5=some (.int .u8):=by kernel_rfl
theorem FA:kH cx.P 42 5=some (5,1,false):=by kernel_rfl
theorem Nw:ty cx.P 3=some (1,false):=by kernel_rfl
theorem JR:dS cx.P 67=some [.val .nilFunc]:=by kernel_rfl
theorem KJ:gF cx.P 67=none:=by kernel_rfl
theorem M8:ty cx.P 67=some (1,false):=by kernel_rfl
theorem GZ:fa cx.P 42=some ([.int .u8 0,.str [],.str [],.nils,.str [],.int .i64 0],[(0,1),(1,1),(2,1),(3,1),(4,1),(5,1)]):=by kernel_rfl
theorem G0:fa cx.P 44=some ([.str [],.str [],.str []],[(0,1),(1,1),(2,1)]):=by kernel_rfl
theorem JS:dS cx.P 71=some [.val .nilFunc]:=by kernel_rfl
theorem KK:gF cx.P 71=none:=by kernel_rfl
theorem M9:ty cx.P 71=some (1,false):=by kernel_rfl
theorem Ma:cx.P.underlying 75=some (.slice 3):=by kernel_rfl
theorem MO:b9 cx.P 75=true:=by kernel_rfl
theorem JP:dS cx.P 52=some [.str []]:=by kernel_rfl
theorem KH:gF cx.P 52=none:=by kernel_rfl
theorem M6:ty cx.P 52=some (1,true):=by kernel_rfl
theorem FE:kH cx.P 52 0=some (0,1,false):=by kernel_rfl
theorem Mu:cF cx.P 75=some ([.int .i64 0],8):=by kernel_rfl
theorem Mz:jd cx.P 75=some 3:=by kernel_rfl
theorem Kz:re cx.P 75=none:=by kernel_rfl
theorem KZ:mj cx.P 75=some (none,1,false):=by kernel_rfl
theorem Mb:cx.P.underlying 88=some (.slice 9):=by kernel_rfl
theorem Mv:cF cx.P 88=some ([.str []],16):=by kernel_rfl
theorem MP:b9 cx.P 88=true:=by kernel_rfl
theorem MA:jd cx.P 88=some 9:=by kernel_rfl
theorem KA:re cx.P 88=none:=by kernel_rfl
theorem Lb:rH cx.P 44=some [(0,1),(1,1),(2,1)]:=by kernel_rfl
theorem JT:dS cx.P 75=some [.nils]:=by kernel_rfl
theorem KL:gF cx.P 75=none:=by kernel_rfl
theorem Na:ty cx.P 75=some (1,false):=by kernel_rfl
theorem JU:dS cx.P 94=some [.val .nilFunc]:=by kernel_rfl
theorem KM:gF cx.P 94=none:=by kernel_rfl
theorem Nb:ty cx.P 94=some (1,false):=by kernel_rfl
theorem L6:cx.P.underlying 21=some (.int .i32):=by kernel_rfl
theorem K0:mj cx.P 88=some (none,1,false):=by kernel_rfl
theorem Eb:fa cx.P 119=some ([.str []],[(0,1)]):=by kernel_rfl
theorem Ec:fa cx.P 121=some ([.str []],[(0,1)]):=by kernel_rfl
theorem CT:kH cx.P 121 0=some (0,1,true):=by kernel_rfl
theorem CS:kH cx.P 119 0=some (0,1,false):=by kernel_rfl
theorem Hq:dS cx.P 124=some [.int .u8 0,.str [],.nils,.str []]:=by kernel_rfl
theorem HP:gF cx.P 124=none:=by kernel_rfl
theorem LU:ty cx.P 124=some (4,true):=by kernel_rfl
theorem Jz:cx.P.underlying 107=some (.slice 124):=by kernel_rfl
theorem KT:cF cx.P 107=some ([.int .u8 0,.str [],.nils,.str []],64):=by kernel_rfl
theorem Lv:b9 cx.P 107=true:=by kernel_rfl
theorem K3:jd cx.P 107=some 124:=by kernel_rfl
theorem HK:re cx.P 107=none:=by kernel_rfl
theorem CW:kH cx.P 124 2=some (2,1,false):=by kernel_rfl
theorem LS:ty cx.P 122=some (1,false):=by kernel_rfl
theorem JA:cx.P.underlying 122=some (.slice 150):=by kernel_rfl
theorem KU:cF cx.P 122=some ([.str [],.str []],32):=by kernel_rfl
theorem Lw:b9 cx.P 122=true:=by kernel_rfl
theorem K4:jd cx.P 122=some 150:=by kernel_rfl
theorem HL:re cx.P 122=none:=by kernel_rfl
theorem Ee:fa cx.P 132=some ([.nils,.nils,.int .u8 0],[(0,1),(1,1),(2,1)]):=by kernel_rfl
theorem H5:mj cx.P 107=some (none,4,true):=by kernel_rfl
theorem CU:kH cx.P 124 0=some (0,1,false):=by kernel_rfl
theorem C0:kH cx.P 132 2=some (2,1,false):=by kernel_rfl
theorem CY:kH cx.P 132 0=some (0,1,false):=by kernel_rfl
theorem CZ:kH cx.P 132 1=some (1,1,false):=by kernel_rfl
theorem Nc:cx.P.underlying 2=some (.int .i64):=by kernel_rfl
theorem Hr:dS cx.P 136=some [.int .u8 0,.int .u8 0,.int .u8 0,.int .u8 0,.int .u8 0,.int .u8 0,.int .u8 0,.int .u8 0,.int .u8 0,.int .u8 0,.int .u8 0,.int .u8 0,.int .u8 0,.int .u8 0,.int .u8 0,.int .u8 0,.int .u8 0,.int .u8 0,.int .u8 0,.int .u8 0,.int .u8 0,.int .u8 0,.int .u8 0,.int .u8 0]:=by kernel_rfl
theorem HQ:gF cx.P 136=none:=by kernel_rfl
theorem JD:cx.P.underlying 137=some (.int .u64):=by kernel_rfl
theorem H7:mj cx.P 136=some (some 24,1,false):=by kernel_rfl
theorem JC:cx.P.underlying 136=some (.array 24 5):=by kernel_rfl
theorem B7:cx.P.underlying 140=some (.slice 5):=by kernel_rfl
theorem KO:kW cx.P 140=true:=by kernel_rfl
theorem KV:cF cx.P 140=some ([.int .u8 0],1):=by kernel_rfl
theorem JL:dS cx.P 25=some [.int .i64 0]:=by kernel_rfl
theorem KD:gF cx.P 25=none:=by kernel_rfl
theorem MY:ty cx.P 25=some (1,false):=by kernel_rfl
theorem Ed:fa cx.P 124=some ([.int .u8 0,.str [],.nils,.str []],[(0,1),(1,1),(2,1),(3,1)]):=by kernel_rfl
theorem CV:kH cx.P 124 1=some (1,1,false):=by kernel_rfl
theorem CX:kH cx.P 124 3=some (3,1,false):=by kernel_rfl
theorem H6:mj cx.P 122=some (none,2,true):=by kernel_rfl
theorem LX:ty cx.P 150=some (2,true):=by kernel_rfl
theorem Ht:dS cx.P 150=some [.str [],.str []]:=by kernel_rfl
theorem HS:gF cx.P 150=none:=by kernel_rfl
theorem C1:kH cx.P 150 0=some (0,1,false):=by kernel_rfl
theorem C2:kH cx.P 150 1=some (1,1,false):=by kernel_rfl
theorem JE:cx.P.underlying 155=some (.int .u32):=by kernel_rfl
theorem H9:mj cx.P 159=some (some 20,1,false):=by kernel_rfl
theorem LV:ty cx.P 137=some (1,false):=by kernel_rfl
theorem Ly:b9 cx.P 140=true:=by kernel_rfl
theorem K5:jd cx.P 140=some 5:=by kernel_rfl
theorem HM:re cx.P 140=some 5:=by kernel_rfl
theorem H8:mj cx.P 140=some (none,1,false):=by kernel_rfl
theorem Hu:dS cx.P 160=some [.int .u8 0,.int .u8 0,.int .u8 0,.int .u8 0,.int .u8 0,.int .u8 0,.int .u8 0,.int .u8 0,.int .u8 0,.int .u8 0,.int .u8 0,.int .u8 0,.int .u8 0,.int .u8 0,.int .u8 0,.int .u8 0,.int .u8 0,.int .u8 0,.int .u8 0,.int .u8 0,.int .u8 0,.int .u8 0,.int .u8 0,.int .u8 0,.int .u8 0,.int .u8 0,.int .u8 0,.int .u8 0,.int .u8 0,.int .u8 0,.int .u8 0,.int .u8 0,.int .u8 0,.int .u8 0,.int .u8 0,.int .u8 0,.int .u8 0,.int .u8 0,.int .u8 0,.int .u8 0,.int .u8 0,.int .u8 0,.int .u8 0,.int .u8 0,.int .u8 0,.int .u8 0,.int .u8 0,.int .u8 0,.int .u8 0,.int .u8 0,.int .u8 0,.int .u8 0,.int .u8 0,.int .u8 0,.int .u8 0,.int .u8 0,.int .u8 0,.int .u8 0,.int .u8 0,.int .u8 0,.int .u8 0,.int .u8 0,.int .u8 0,.int .u8 0,.int .u8 0]:=by kernel_rfl
theorem HT:gF cx.P 160=none:=by kernel_rfl
theorem JB:cx.P.underlying 135=some (.int .u64):=by kernel_rfl
theorem Ia:mj cx.P 160=some (some 65,1,false):=by kernel_rfl
theorem JF:cx.P.underlying 160=some (.array 65 5):=by kernel_rfl
theorem Ef:fa cx.P 150=some ([.str [],.str []],[(0,1),(1,1)]):=by kernel_rfl
theorem Eg:fa cx.P 167=some ([.str [],.nils],[(0,1),(1,1)]):=by kernel_rfl
theorem C3:kH cx.P 167 0=some (0,1,false):=by kernel_rfl
theorem C4:kH cx.P 167 1=some (1,1,false):=by kernel_rfl
theorem LW:ty cx.P 140=some (1,false):=by kernel_rfl
theorem Hv:dS cx.P 171=some [.bool false,.bool false,.bool false,.bool false,.bool false,.bool false,.bool false,.bool false,.bool false,.bool false,.bool false,.bool false,.bool false,.bool false,.bool false,.bool false,.bool false,.bool false,.bool false,.bool false,.bool false,.bool false,.bool false,.bool false,.bool false,.bool false,.bool false,.bool false,.bool false,.bool false,.bool false,.bool false,.bool false,.bool false,.bool false,.bool false,.bool false,.bool false,.bool false,.bool false,.bool false,.bool false,.bool false,.bool false,.bool false,.bool false,.bool false,.bool false,.bool false,.bool false,.bool false,.bool false,.bool false,.bool false,.bool false,.bool false,.bool false,.bool false,.bool false,.bool false,.bool false,.bool false,.bool false,.bool false,.bool false,.bool false,.bool false,.bool false,.bool false,.bool false,.bool false,.bool false,.bool false,.bool false,.bool false,.bool false,.bool false,.bool false,.bool false,.bool false,.bool false,.bool false,.bool false,.bool false,.bool false,.bool false,.bool false,.bool false,.bool false,.bool false,.bool false,.bool false,.bool false,.bool false,.bool false,.bool false,.bool false,.bool false,.bool false,.bool false,.bool false,.bool false,.bool false,.bool false,.bool false,.bool false,.bool false,.bool false,.bool false,.bool false,.bool false,.bool false,.bool false,.bool false,.bool false,.bool false,.bool false,.bool false,.bool false,.bool false,.bool false,.bool false,.bool false,.bool false,.bool false,.bool false,.bool false,.bool false,.bool false,.bool false,.bool false,.bool false,.bool false,.bool false,.bool false,.bool false,.bool false,.bool false,.bool false,.bool false,.bool false,.bool false,.bool false,.bool false,.bool false,.bool false,.bool false,.bool false,.bool false,.bool false,.bool false,.bool false,.bool false,.bool false,.bool false,.bool false,.bool false,.bool false,.bool false,.bool false,.bool false,.bool false,.bool false,.bool false,.bool false,.bool false,.bool false,.bool false,.bool false,.bool false,.bool false,.bool false,.bool false,.bool false,.bool false,.bool false,.bool false,.bool false,.bool false,.bool false,.bool false,.bool false,.bool false,.bool false,.bool false,.bool false,.bool false,.bool false,.bool false,.bool false,.bool false,.bool false,.bool false,.bool false,.bool false,.bool false,.bool false,.bool false,.bool false,.bool false,.bool false,.bool false,.bool false,.bool false,.bool false,.bool false,.bool false,.bool false,.bool false,.bool false,.bool false,.bool false,.bool false,.bool false,.bool false,.bool false,.bool false,.bool false,.bool false,.bool false,.bool false,.bool false,.bool false,.bool false,.bool false,.bool false,.bool false,.bool false,.bool false,.bool false,.bool false,.bool false,.bool false,.bool false,.bool false,.bool false,.bool false,.bool false,.bool false,.bool false,.bool false,.bool false,.bool false,.bool false,.bool false,.bool false,.bool false,.bool false,.bool false,.bool false,.bool false,.bool false,.bool false,.bool false,.bool false,.bool false]:=by kernel_rfl
theorem HU:gF cx.P 171=none:=by kernel_rfl
theorem LY:ty cx.P 171=some (256,true):=by kernel_rfl
theorem Hw:dS cx.P 181=some [.str []]:=by kernel_rfl
theorem HV:gF cx.P 181=none:=by kernel_rfl
theorem LZ:ty cx.P 181=some (1,true):=by kernel_rfl
theorem C5:kH cx.P 181 0=some (0,1,false):=by kernel_rfl
theorem Ei:fa cx.P 187=some ([.str [],.val .nilFunc],[(0,1),(1,1)]):=by kernel_rfl
theorem KW:cF cx.P 188=some ([.str [],.val .nilFunc],24):=by kernel_rfl
theorem JG:cx.P.underlying 188=some (.slice 187):=by kernel_rfl
theorem Lz:b9 cx.P 188=true:=by kernel_rfl
theorem K6:jd cx.P 188=some 187:=by kernel_rfl
theorem HN:re cx.P 188=none:=by kernel_rfl
theorem Ic:mj cx.P 188=some (none,2,true):=by kernel_rfl
theorem L1:ty cx.P 187=some (2,true):=by kernel_rfl
theorem Hx:dS cx.P 187=some [.str [],.val .nilFunc]:=by kernel_rfl
theorem HW:gF cx.P 187=none:=by kernel_rfl
theorem C6:kH cx.P 187 0=some (0,1,false):=by kernel_rfl
theorem C7:kH cx.P 187 1=some (1,1,false):=by kernel_rfl
theorem L0:ty cx.P 185=some (1,false):=by kernel_rfl
theorem Ib:mj cx.P 171=some (some 256,1,false):=by kernel_rfl
theorem Ie:mj cx.P 193=some (some 32,1,false):=by kernel_rfl
theorem Ig:mj cx.P 194=some (some 64,1,false):=by kernel_rfl
theorem Hy:dS cx.P 197=some [.nilp,.nils]:=by kernel_rfl
theorem HX:gF cx.P 197=some 197:=by kernel_rfl
theorem Eh:fa cx.P 181=some ([.str []],[(0,1)]):=by kernel_rfl
theorem Hs:dS cx.P 140=some [.nils]:=by kernel_rfl
theorem HR:gF cx.P 140=none:=by kernel_rfl
theorem C9:kH cx.P 197 1=some (1,1,false):=by kernel_rfl
theorem JI:cx.P.underlying 213=some (.pointer 5):=by kernel_rfl
theorem Ih:mj cx.P 215=some (some 256,1,false):=by kernel_rfl
theorem Ii:mj cx.P 218=some (some 16,2,true):=by kernel_rfl
theorem L4:ty cx.P 217=some (2,true):=by kernel_rfl
theorem Hz:dS cx.P 217=some [.int .u8 0,.int .u8 0]:=by kernel_rfl
theorem HY:gF cx.P 217=none:=by kernel_rfl
theorem Da:kH cx.P 217 0=some (0,1,false):=by kernel_rfl
theorem Db:kH cx.P 217 1=some (1,1,false):=by kernel_rfl
theorem C8:kH cx.P 197 0=some (0,1,false):=by kernel_rfl
theorem L2:ty cx.P 195=some (1,false):=by kernel_rfl
theorem JH:cx.P.underlying 195=some (.pointer 197):=by kernel_rfl
theorem JJ:cx.P.underlying 219=some .unsafePointer:=by kernel_rfl
theorem L3:ty cx.P 201=some (1,false):=by kernel_rfl
theorem Ej:fa cx.P 228=some ([.str [],.str [],.val .nilIface],[(0,1),(1,1),(2,1)]):=by kernel_rfl
set_option linter.defProp false in
def ae:=(Ai Nh (Ai Nu (Ai Nf (Ai L8 (Ai L7 (Ai Mr (Ai MM (Ai Mx (Ai Kx (Ai KX (Ai Fv (Ai Nz (Ai Fw (Ai Fx (Ai MZ (Ai L9 (Ai Mt (Ai MN (Ai My (Ai Ky (Ai KY (Ai FB (Ai Fy (Ai M4 (Ai JN (Ai KF (Ai FC (Ai FD (Ai M3 (Ai JM (Ai KE (Ai JK (Ai KC (Ai MX (Ai Mc (Ai Mj (Ai Nx (Ai JO (Ai KG (Ai M5 (Ai G1 (Ai JQ (Ai KI (Ai M7 (Ai Fu (Ai Ny (Ai Ng (Ai FA (Ai Nw (Ai JR (Ai KJ (Ai M8 (Ai GZ (Ai G0 (Ai JS (Ai KK (Ai M9 (Ai Ma (Ai MO (Ai JP (Ai KH (Ai M6 (Ai FE (Ai Mu (Ai Mz (Ai Kz (Ai KZ (Ai Mb (Ai Mv (Ai MP (Ai MA (Ai KA (Ai Lb (Ai JT (Ai KL (Ai Na (Ai JU (Ai KM (Ai Nb (Ai L6 (Ai K0 (Ai Eb (Ai Ec (Ai CT (Ai CS (Ai Hq (Ai HP (Ai LU (Ai Jz (Ai KT (Ai Lv (Ai K3 (Ai HK (Ai CW (Ai LS (Ai JA (Ai KU (Ai Lw (Ai K4 (Ai HL (Ai Ee (Ai H5 (Ai CU (Ai C0 (Ai CY (Ai CZ (Ai Nc (Ai Hr (Ai HQ (Ai JD (Ai H7 (Ai JC (Ai B7 (Ai KO (Ai KV (Ai JL (Ai KD (Ai MY (Ai Ed (Ai CV (Ai CX (Ai H6 (Ai LX (Ai Ht (Ai HS (Ai C1 (Ai C2 (Ai JE (Ai H9 (Ai LV (Ai Ly (Ai K5 (Ai HM (Ai H8 (Ai Hu (Ai HT (Ai JB (Ai Ia (Ai JF (Ai Ef (Ai Eg (Ai C3 (Ai C4 (Ai LW (Ai Hv (Ai HU (Ai LY (Ai Hw (Ai HV (Ai LZ (Ai C5 (Ai Ei (Ai KW (Ai JG (Ai Lz (Ai K6 (Ai HN (Ai Ic (Ai L1 (Ai Hx (Ai HW (Ai C6 (Ai C7 (Ai L0 (Ai Ib (Ai Ie (Ai Ig (Ai Hy (Ai HX (Ai Eh (Ai Hs (Ai HR (Ai C9 (Ai JI (Ai Ih (Ai Ii (Ai L4 (Ai Hz (Ai HY (Ai Da (Ai Db (Ai C8 (Ai L2 (Ai JH (Ai JJ (Ai L3 (Ai Ej True.intro)))))))))))))))))))))))))))))))))))))))))))))))))))))))))))))))))))))))))))))))))))))))))))))))))))))))))))))))))))))))))))))))))))))))))))))))))))))))))))))))))))))))))))))))))))))))))))
theorem jt:uv cx.P 9=some .str:=by kernel_rfl
end Go.Proofs.YtcllbjanalhjgaaGreatDoor
namespace Go.Proofs.YtcllbjanalhjgaaGreatDoor
set_option maxRecDepth 100000
set_option maxHeartbeats 32000000
set_option linter.unusedSimpArgs false
set_option linter.unusedVariables false
open Go Go.RowKit
def gD (n:Int):Bool:=decide (n=9∨n=10∨n=13∨(32≤n∧n≤1114111 ∧ ¬(55296≤n∧n≤57343)∧n≠65534∧n≠65535))
theorem fP (n:Int):gD n=true↔(n=9∨n=10∨n=13∨(32≤n∧n≤1114111 ∧ ¬(55296≤n∧n≤57343)∧n≠65534∧n≠65535)):=by
 unfold gD;exact decide_eq_true_iff
theorem MS {n:Int}(h:n=9∨n=10∨n=13∨(32≤n∧n≤1114111 ∧ ¬(55296≤n∧n≤57343)∧n≠65534∧n≠65535)):true=gD n:=((fP n).2 h).symm
theorem MR {n:Int}(h:¬(n=9∨n=10∨n=13∨(32≤n∧n≤1114111 ∧ ¬(55296≤n∧n≤57343)∧n≠65534∧n≠65535))):false=gD n:=by
 unfold gD;symm;exact decide_eq_false_iff_not.2 h
theorem eX {n:Int}(h:gD n=true):0≤n∧n≤1114111∧(2048≤n→n≤65535→(2048≤n∧n<55296)∨(57343<n∧n≤65535)):=by
 have:=(fP n).1 h
 refine⟨by omega,by omega,fun a b=>by omega⟩
def enc (l:List Int):List UInt8:=l.flatMap Lib.encodeRune
def u8 (b:UInt8):Value:=.int .u8 (b.toNat:Int)
def kK (l:List Int):Int:=if l.all gD then (if 16384<(enc l).length then 4 else 0) else 50
def kq (l:List Int):List UInt8:=if kK l=0 then enc l else []
theorem Fl (a:List Int)(x:Int):enc (a++[x])=enc a++Lib.encodeRune x:=by simp[enc]
theorem bt (x:Int):1≤(Lib.encodeRune x).length∧(Lib.encodeRune x).length≤4:=by
 unfold Lib.encodeRune Lib.encodeRuneZ
 repeat' split
 all_goals simp
theorem zB (l:List Int):(enc l).length≤4*l.length:=by
 induction l with
 | nil=>simp[enc]
 | cons x l ih =>
  have:=(bt x).2
  simp only[enc,List.flatMap_cons,List.length_append,List.length_cons]at ih ⊢
  omega
theorem DP {l:List Int}{k:Nat}(hk:k<l.length)(h:gD (l.getD k 0)=false):kK l=50:=by
 unfold kK
 rw[if_neg]
 intro hall
 have:=List.all_eq_true.1 hall (l[k]) (List.getElem_mem hk)
 simp[List.getD_eq_getElem?_getD,hk]at h
 rw[h]at this;cases this
theorem wJ {l:List Int}{k:Nat}(hk:k<l.length)(h:(l.take k).all gD=true)(hm:gD (l.getD k 0)=true):(l.take (k+1)).all gD=true:=by
 rw[List.take_succ_eq_append_getElem hk,List.all_append,h]
 simp[List.getD_eq_getElem?_getD,hk]at hm
 simp[hm]
end Go.Proofs.YtcllbjanalhjgaaGreatDoor
namespace Go.Proofs.YtcllbjanalhjgaaGreatDoor
set_option maxRecDepth 100000
set_option maxHeartbeats 32000000
set_option linter.unusedSimpArgs false
set_option linter.unusedVariables false
open Go Go.RowKit Go.Lib
def one (l:List UInt8):Option (Int×Nat) :=
 if l=[] then none
 else if (decodeL l).1=65533∧(decodeL l).2=1 then none
 else if gD ((decodeL l).1:Int) then some (((decodeL l).1:Int),(decodeL l).2) else none
def wU:Nat→List UInt8→Option (List Int)
 | _,[]=>some []
 | 0,_=>none
 | f+1,l=>match one l with
  | none=>none
  | some (z,k)=>(wU f (l.drop k)).map (z :: ·)
def dN (l:List UInt8):Option (List Int):=wU l.length l
theorem lD {l:List UInt8}{z:Int}{k:Nat}(h:one l=some (z,k)):l≠[]∧gD z=true∧encodeRune z=l.take k∧1≤k∧k≤l.length:=by
 unfold one at h
 split at h
 ·cases h
 rename_i hne
 split at h
 ·cases h
 rename_i hv
 split at h
 ·rename_i hm
  simp only[Option.some.injEq,Prod.mk.injEq]at h
  obtain⟨rfl,rfl⟩:=h
  have he:=encode_decode l hne hv
  have hle:=decodeL_le l hne
  refine⟨hne,hm,he,?_,hle⟩
  have:=(bt ((decodeL l).1:Int)).1
  rw[he,List.length_take]at this
  omega
 ·cases h
theorem kJ {x:Int}(h0:0≤x)(h1:x<256):(x.toNat.toUInt8).toNat=x.toNat:=by simp;omega
theorem v7 {z:Int}(hm:gD z=true)(rest:List UInt8):one (encodeRune z++rest)=some (z,(encodeRune z).length):=by
 have hmz:=(fP z).1 hm
 have key:decodeL (encodeRune z++rest)=(z.toNat,(encodeRune z).length):=by
  rw[decodeL_N]
  by_cases c1:0≤z∧z≤127
  ·have e:encodeRune z=[z.toNat.toUInt8]:=by simp[encodeRune,encodeRuneZ_one c1.1 c1.2]
   rw[e]
   have a:=kJ (x:=z) (by omega) (by omega)
   simp only[List.cons_append,List.nil_append,List.getD_cons_zero,List.length_cons,List.length_nil,a,decodeN]
   rw[if_pos (by omega)]
  ·by_cases c2:128≤z∧z≤2047
   ·have e:encodeRune z=[(192+z / 64).toNat.toUInt8,(128+z % 64).toNat.toUInt8]:=by simp[encodeRune,encodeRuneZ_two c2.1 c2.2]
    rw[e]
    have a:=kJ (x:=192+z / 64) (by omega) (by omega)
    have b:=kJ (x:=128+z % 64) (by omega) (by omega)
    simp only[List.cons_append,List.nil_append,List.getD_cons_zero,List.getD_cons_succ,List.length_cons,List.length_nil,a,b,decodeN]
    rw[if_neg (by omega),if_pos (by omega),if_pos (by omega)]
    simp only[Prod.mk.injEq,and_true];omega
   ·by_cases c3:z≤65535
    ·have e:encodeRune z=[(224+z / 4096).toNat.toUInt8,(128+z / 64 % 64).toNat.toUInt8,(128+z % 64).toNat.toUInt8]:=by simp[encodeRune,encodeRuneZ_three (r:=z) (by omega)]
     rw[e]
     have a:=kJ (x:=224+z / 4096) (by omega) (by omega)
     have b:=kJ (x:=128+z / 64 % 64) (by omega) (by omega)
     have c:=kJ (x:=128+z % 64) (by omega) (by omega)
     simp only[List.cons_append,List.nil_append,List.getD_cons_zero,List.getD_cons_succ,List.length_cons,List.length_nil,a,b,c,decodeN]
     rw[if_neg (by omega),if_neg (by omega),if_pos (by omega),if_pos (by omega)]
     simp only[Prod.mk.injEq,and_true];omega
    ·have e:encodeRune z=[(240+z / 262144).toNat.toUInt8,(128+z / 4096 % 64).toNat.toUInt8,(128+z / 64 % 64).toNat.toUInt8,(128+z % 64).toNat.toUInt8]:=by simp[encodeRune,encodeRuneZ_four (r:=z) (by omega) (by omega)]
     rw[e]
     have a:=kJ (x:=240+z / 262144) (by omega) (by omega)
     have b:=kJ (x:=128+z / 4096 % 64) (by omega) (by omega)
     have c:=kJ (x:=128+z / 64 % 64) (by omega) (by omega)
     have d:=kJ (x:=128+z % 64) (by omega) (by omega)
     simp only[List.cons_append,List.nil_append,List.getD_cons_zero,List.getD_cons_succ,List.length_cons,List.length_nil,a,b,c,d,decodeN]
     rw[if_neg (by omega),if_neg (by omega),if_neg (by omega),if_pos (by omega),if_pos (by omega)]
     simp only[Prod.mk.injEq,and_true];omega
 have hne:encodeRune z++rest≠[]:=by
  intro h
  have:=(bt z).1
  rw[List.append_eq_nil_iff]at h
  rw[h.1]at this;simp at this
 unfold one
 rw[if_neg hne,key]
 have hz:((z.toNat:Nat):Int)=z:=by omega
 simp only[hz,hm,if_true]
 rw[if_neg]
 rintro ⟨h1,h2⟩
 have hz2:z=65533:=by omega
 subst hz2
 revert h2
 decide
theorem tW:∀(f g:Nat) (l:List UInt8),l.length≤f→l.length≤g→wU f l=wU g l
 | _,_,[],_,_=>by simp[wU]
 | 0,_,x::l,h,_=>by simp at h
 | _,0,x::l,_,h=>by simp at h
 | f+1,g+1,x::l,hf,hg=>by
  simp only[wU]
  cases h1:one (x::l) with
  | none=>rfl
  | some p =>
   obtain⟨z,k⟩:=p
   obtain⟨_,_,_,hk,_⟩:=lD h1
   simp only
   rw[tW f g ((x::l).drop k) (by simp at hf ⊢;omega) (by simp at hg ⊢;omega)]
theorem qr:dN []=some []:=rfl
theorem k9 {l:List UInt8}{z:Int}{k:Nat}(h:one l=some (z,k)):dN l=(dN (l.drop k)).map (z :: ·):=by
 obtain⟨hne,_,_,hk,hkl⟩:=lD h
 obtain⟨x,l',rfl⟩:=List.exists_cons_of_ne_nil hne
 unfold dN
 rw[show(x::l').length=l'.length+1 from rfl]
 simp only[wU,h]
 rw[tW l'.length ((x::l').drop k).length _ (by simp;omega) (Nat.le_refl _)]
theorem vj {l:List UInt8}(hne:l≠[])(h:one l=none):dN l=none:=by
 obtain⟨x,l',rfl⟩:=List.exists_cons_of_ne_nil hne
 unfold dN
 rw[show(x::l').length=l'.length+1 from rfl]
 simp only[wU,h]
theorem gw:∀(zs:List Int),zs.all gD=true→dN (enc zs)=some zs
 | [],_=>rfl
 | z::zs,h=>by
  simp only[List.all_cons,Bool.and_eq_true]at h
  have e:enc (z::zs)=encodeRune z++enc zs:=by simp[enc]
  rw[e,k9 (v7 h.1 (enc zs)),List.drop_left,gw zs h.2]
  rfl
theorem wW:∀(n:Nat) (l:List UInt8) (zs:List Int),l.length≤n→dN l=some zs→zs.all gD=true∧enc zs=l
 | 0,l,zs,hn,h=>by
  have:l=[]:=List.eq_nil_of_length_eq_zero (by omega)
  subst this
  rw[qr]at h
  cases h
  exact⟨rfl,rfl⟩
 | n+1,l,zs,hn,h=>by
  by_cases hne:l=[]
  ·subst hne
   rw[qr]at h
   cases h
   exact⟨rfl,rfl⟩
  ·cases h1:one l with
   | none=>rw[vj hne h1]at h;cases h
   | some p =>
    obtain⟨z,k⟩:=p
    obtain⟨_,hm,he,hk,hkl⟩:=lD h1
    rw[k9 h1]at h
    obtain⟨zs',h2,rfl⟩:=Option.map_eq_some_iff.1 h
    obtain⟨ha,hb⟩:=wW n (l.drop k) zs' (by simp;omega) h2
    refine⟨by simp[hm,ha],?_⟩
    show encodeRune z++enc zs'=l
    rw[he,hb,List.take_append_drop]
theorem nE (l:List UInt8)(zs:List Int):dN l=some zs↔zs.all gD=true∧enc zs=l :=
 ⟨fun h=>wW l.length l zs (Nat.le_refl _) h,fun ⟨h1,h2⟩=>by rw[← h2,gw zs h1]⟩
theorem Aw {l:List UInt8}(h:hasPrefix l [239,191,189]=true):∃ rest,l=encodeRune 65533++rest:=by
 unfold hasPrefix at h
 obtain⟨rest,hr⟩:=List.isPrefixOf_iff_prefix.1 h
 exact⟨rest,by rw[← hr];congr 1⟩
theorem wY {l:List UInt8}(h:hasPrefix l [239,191,189]=true):(decodeL l).2≠1:=by
 obtain⟨rest,rfl⟩:=Aw h
 have h1:=v7 (z:=65533) (by decide) rest
 unfold one at h1
 split at h1
 ·cases h1
 split at h1
 ·cases h1
 rename_i hv
 split at h1
 ·simp only[Option.some.injEq,Prod.mk.injEq]at h1
  rw[h1.2]
  decide
 ·cases h1
theorem tM {l:List UInt8}(hne:l≠[]):one l=if ((decodeL l).1=65533∧hasPrefix l [239,191,189]=false)∨gD ((decodeL l).1:Int)=false then none else some (((decodeL l).1:Int),(decodeL l).2):=by
  unfold one
  rw[if_neg hne]
  by_cases h1:(decodeL l).1=65533∧(decodeL l).2=1
  · rw[if_pos h1,if_pos]
    left
    refine⟨h1.1,?_⟩
    cases hp:hasPrefix l [239,191,189] with
    | false=>rfl
    | true=>exact absurd h1.2 (wY hp)
  · rw [if_neg h1]
    by_cases h2:(decodeL l).1=65533
    · have he:=encode_decode l hne h1
      rw[h2]at he
      have hp:hasPrefix l [239,191,189]=true:=by
        unfold hasPrefix
        rw[List.isPrefixOf_iff_prefix,show([239,191,189]:List UInt8)=encodeRune ((65533:Nat):Int) from by decide,he]
        exact List.take_prefix _ _
      rw[hp]
      by_cases hm:gD ((decodeL l).1:Int)=true
      · simp[hm]
      · simp[hm]
    · by_cases hm:gD ((decodeL l).1:Int)=true
      · simp[hm,h2]
      · simp[hm,h2]
theorem wZ (s:ByteArray)(pos:Nat):Utf8.decode s pos=decodeL (s.data.toList.drop pos):=by
 have h:=tail_decode s pos 0
 rw[Nat.add_zero]at h
 rw[← h]
 unfold decodeL
 congr 1
 have h2:(s.extract pos s.size).data.toList=s.data.toList.drop pos:=by
  rw[extract_data,List.take_of_length_le]
  simp
 apply ByteArray.ext
 apply Array.ext'
 simpa using h2
def aO (l:List UInt8):Int:=if 16384<l.length then 4 else match dN l with|none=>50|some _=>0
theorem sr {s:List UInt8}(h:aO s=0):s.length≤16384:=by
 unfold aO at h
 split at h
 ·omega
 ·omega
def Iq (q:Bool)(c:UInt8):List UInt8 :=
 if c=38 then [38,97,109,112,59] else if c=60 then [38,108,116,59] else if c=62 then [38,103,116,59] else if c=13 then [38,35,49,51,59]
 else if q=true then (if c=34 then [38,113,117,111,116,59] else if c=9 then [38,35,57,59] else if c=10 then [38,35,49,48,59] else [c]) else [c]
def xc (q:Bool)(s:List UInt8):List UInt8:=s.flatMap (Iq q)
theorem xb (q:Bool)(c:UInt8):1≤(Iq q c).length∧(Iq q c).length≤6:=by
 unfold Iq
 repeat' split
 all_goals simp
theorem je (q:Bool)(s:List UInt8):s.length≤(xc q s).length∧(xc q s).length≤6*s.length:=by
 induction s with
 | nil=>simp[xc]
 | cons c s ih =>
  have:=xb q c
  simp only[xc,List.flatMap_cons,List.length_append,List.length_cons]at ih ⊢
  omega
theorem Bk:∀(p:List Int) (r:List UInt8),p.all gD=true→dN (enc p++r)=(dN r).map (p ++ ·)
 | [],r,_=>by simp[enc]
 | z::p,r,h=>by
  simp only[List.all_cons,Bool.and_eq_true]at h
  have e:enc (z::p)++r=encodeRune z++(enc p++r):=by simp[enc]
  rw[e,k9 (v7 h.1 _),List.drop_left,Bk p r h.2,Option.map_map]
  congr 1
theorem ro {a b:List UInt8}{x y:List Int}(ha:dN a=some x)(hb:dN b=some y):dN (a++b)=some (x++y):=by
 obtain⟨h1,rfl⟩:=(nE a x).1 ha
 rw[Bk x b h1,hb];rfl
def ML (c:UInt8):Bool:=(decide (97≤c.toNat)&&decide (c.toNat≤122))||(decide (65≤c.toNat)&&decide (c.toNat≤90))||decide (c=95)
def iM (first:Bool)(c:UInt8):Bool:=ML c||(!first&&((decide (48≤c.toNat)&&decide (c.toNat≤57))||decide (c=46)||decide (c=45)))
def cU:List UInt8→Bool
 | []=>false
 | c::r=>iM true c&&r.all (iM false)
def dH (d:UInt8):List UInt8→Option (List UInt8×List UInt8)
 | []=>none
 | c::r=>if c=d then some ([],r) else (dH d r).map (fun p=>(c::p.1,p.2))
def b8 (s:List UInt8):Bool:=match dH 58 s with
 | none=>cU s
 | some (a,b)=>cU a&&cU b
theorem il {d:UInt8} : ∀ {s:List UInt8},dH d s=none↔d ∉ s
 | []=>by simp[dH]
 | c::r=>by
  simp only[dH]
  by_cases h:c=d
  ·simp[h]
  ·rw[if_neg h]
   simp only[Option.map_eq_none_iff,il (s:=r),List.mem_cons,not_or]
   constructor
   ·intro h2;exact⟨fun e=>h e.symm,h2⟩
   ·intro h2;exact h2.2
theorem ek {d:UInt8} : ∀ {s a b:List UInt8},dH d s=some (a,b)→s=a++d::b∧d ∉ a
 | [],a,b,h=>by simp[dH]at h
 | c::r,a,b,h=>by
  simp only[dH]at h
  by_cases hc:c=d
  ·rw[if_pos hc]at h;cases h;subst hc;simp
  ·rw[if_neg hc]at h
   obtain⟨⟨a',b'⟩,h1,h2⟩:=Option.map_eq_some_iff.1 h
   cases h2
   obtain⟨e1,e2⟩:=ek h1
   refine⟨by rw[e1];rfl,?_⟩
   simp only[List.mem_cons,not_or]
   exact⟨fun e=>hc e.symm,e2⟩
theorem jc {d:UInt8} : ∀ {a b:List UInt8},d ∉ a→dH d (a++d::b)=some (a,b)
 | [],b,_=>by simp[dH]
 | c::a,b,h=>by
  simp only[List.mem_cons,not_or]at h
  simp only[List.cons_append,dH]
  rw[if_neg (fun e=>h.1 e.symm),jc h.2];rfl
theorem H2 {d:UInt8}{s:List UInt8}{i:Nat}(h1:d ∉ s.take i)(h2:s[i]? = some d):dH d s=some (s.take i,s.drop (i+1)):=by
 obtain⟨hi,he⟩:=List.getElem?_eq_some_iff.1 h2
 have:s=s.take i++d::s.drop (i+1):=by
  conv=>lhs;rw[← List.take_append_drop i s]
  rw[List.drop_eq_getElem_cons hi,he]
 have h3:=jc (b:=s.drop (i+1)) h1
 rwa[← this]at h3
theorem gP {d:UInt8}{s:List UInt8} : indexByte s d = -1↔dH d s=none:=by
 rw[il]
 constructor
 ·intro h hm
  obtain⟨k,hk,rfl⟩:=List.getElem_of_mem hm
  exact indexByte_none h k (List.getElem?_eq_getElem hk)
 ·intro h
  have hge:=indexByte_ge s d
  by_cases hneg:indexByte s d = -1
  ·exact hneg
  ·obtain⟨o,ho⟩:∃ o:Nat,indexByte s d=o:=⟨(indexByte s d).toNat,by omega⟩
   exact absurd (List.mem_of_getElem? (indexByte_some ho).1) h
theorem jg {d:UInt8}{s a b:List UInt8}(h:dH d s=some (a,b)):indexByte s d=a.length∧s.take a.length=a∧s.drop (a.length+1)=b∧a.length+1+b.length=s.length:=by
 obtain⟨h1,h2⟩:=ek h
 have hne:indexByte s d ≠ -1:=fun e=>by rw[gP.1 e]at h;cases h
 have hge:=indexByte_ge s d
 obtain⟨o,ho⟩:∃ o:Nat,indexByte s d=o:=⟨(indexByte s d).toNat,by omega⟩
 obtain⟨g1,g2⟩:=indexByte_some ho
 have hat:=H2 (i:=o) (fun hm=>by
  obtain⟨k,hk,he⟩:=List.getElem_of_mem hm
  rw[List.length_take]at hk
  rw[List.getElem_take]at he
  exact g2 k (by omega) (by rw[List.getElem?_eq_getElem (by omega),he])) g1
 rw[h]at hat
 cases hat
 have hlt:=(List.getElem?_eq_some_iff.1 g1).1
 have hl:(s.take o).length=o:=by rw[List.length_take];omega
 rw[hl]
 refine⟨ho,rfl,rfl,?_⟩
 rw[List.length_drop];omega
def qB (s:List UInt8)(k:Nat):Prop:=∀(i:Nat) (c:UInt8),i<k→s[i]? = some c→iM (i==0) c=true
theorem Ap {s:List UInt8}(hne:s≠[])(h:qB s s.length):cU s=true:=by
 cases s with
 | nil=>exact absurd rfl hne
 | cons c r =>
  have h0:=h 0 c (by simp) (by simp)
  simp only[beq_self_eq_true]at h0
  simp only[cU,h0,Bool.true_and,List.all_eq_true]
  intro x hx
  obtain⟨k,hk,rfl⟩:=List.getElem_of_mem hx
  have:=h (k+1) r[k] (by simp;omega) (by simp[hk])
  have h3:((k+1)==0)=false:=beq_false_of_ne (by omega)
  rwa[h3]at this
theorem yh {s:List UInt8}{k:Nat}{c:UInt8}(hc:s[k]? = some c)(h:iM (k==0) c=false):cU s=false:=by
 cases s with
 | nil=>simp at hc
 | cons x r =>
  cases k with
  | zero =>
   simp at hc;subst hc
   simp only[beq_self_eq_true]at h
   simp[cU,h]
  | succ k =>
   have h3:((k+1)==0)=false:=beq_false_of_ne (by omega)
   rw[h3]at h
   simp only[List.getElem?_cons_succ]at hc
   simp only[cU,Bool.and_eq_false_iff,List.all_eq_false]
   right
   exact⟨c,List.mem_of_getElem? hc,by rw[h];simp⟩
theorem fI (c d:UInt8):((c.toNat:Int)==(d.toNat:Int))=decide (c=d):=by
 rw[Bool.eq_iff_iff,beq_iff_eq,decide_eq_true_iff]
 constructor
 ·intro h;exact UInt8.toNat_inj.1 (by omega)
 ·rintro rfl;rfl
theorem eP {s:List UInt8} : aO s=0↔s.length≤16384∧(dN s).isSome=true:=by
 unfold aO
 split
 ·constructor
  ·intro h;omega
  ·rintro ⟨h,_⟩;omega
 ·rename_i hl
  cases dN s with
  | none=>simp
  | some z=>simp;omega
structure Pr where
 name:List UInt8
 value:List UInt8
deriving DecidableEq
structure Tk where
 kind:Nat
 name:List UInt8
 attrs:List Pr
 text:List UInt8
deriving DecidableEq
def LI (l:List Pr)(a:Pr):Bool:=!(l.any fun b=>a.name==b.name)&&b8 a.name&&decide (aO a.value=0)
def hO (l:List Pr)(k:Nat):Prop:=∀(i:Nat) (a:Pr),i<k→l[i]? = some a→LI (l.take i) a=true
def iw (l:List Pr):Bool:=decide (l.length≤16)&&l.zipIdx.all fun p=>LI (l.take p.2) p.1
theorem ik {l:List Pr} : iw l=true↔l.length≤16∧hO l l.length:=by
 unfold iw hO
 simp only[Bool.and_eq_true,decide_eq_true_eq,List.all_eq_true]
 refine and_congr_right fun _=>⟨fun h i a hi ha=>?_,fun h p hp=>?_⟩
 ·refine h (a,i) ?_
  rw[List.mem_zipIdx_iff_getElem?];exact ha
 ·have:=(List.mem_zipIdx_iff_getElem?).1 hp
  exact h p.2 p.1 (List.getElem?_eq_some_iff.1 this).1 this
def gn (t:Tk):Bool :=
 if t.kind=1∨t.kind=3 then b8 t.name&&iw t.attrs&&t.text.isEmpty
 else if t.kind=2 then b8 t.name&&t.attrs.isEmpty&&t.text.isEmpty
 else if t.kind=4 then t.name.isEmpty&&t.attrs.isEmpty && !t.text.isEmpty&&decide (aO t.text=0)
 else false
def LR (t:Tk):Int:=if gn t=true then 0 else 8
def qV (a:Pr):List UInt8:=[32]++a.name++[61,34]++xc true a.value++[34]
def gW (l:List Pr):List UInt8:=l.flatMap qV
def pA (t:Tk):List UInt8 :=
 if t.kind=4 then xc false t.text
 else if t.kind=2 then [60,47]++t.name++[62]
 else [60]++t.name++gW t.attrs++(if t.kind=3 then [47,62] else [62])
def oz (l:List Tk):List UInt8:=l.flatMap pA
def wG:List Tk→Bool
 | a::b::r=>(a.kind==4&&b.kind==4)||wG (b::r)
 | _=>false
theorem sG {α:Type}{f:α→Nat}{l:List α}{x:α}(h:x∈l):f x≤(l.map f).sum:=by
 induction l with
 | nil=>simp at h
 | cons y l ih =>
  simp only[List.map_cons,List.sum_cons]
  rcases List.mem_cons.1 h with rfl|h
  ·omega
  ·have:=ih h;omega
structure At where
 space:List UInt8
 name:List UInt8
 value:List UInt8
deriving DecidableEq
structure Nd where
 kind:Nat
 space:List UInt8
 name:List UInt8
 attrs:List At
 text:List UInt8
 many:Int
deriving DecidableEq
structure Gr where
 v:List Nd
 opn:List Nat
def Nd.inc (n:Nd):Nd:={ n with many:=n.many+1 }
def lp (v:List Nd)(opn:List Nat):List Nd:=match opn.getLast? with
 | some k=>v.modify k Nd.inc
 | none=>v
def jW (g:Gr)(n:Nd):List Nd:=lp g.v g.opn++[n]
def gX (c:UInt8):Bool:=c==32||c==9||c==10||c==13
def mJ (s:List UInt8):Bool:=s.all gX
def iS (s:List UInt8):Nd:=⟨2,[],[],[],s,0⟩
def cK (l:List Pr):List At:=l.map fun a=>⟨[],a.name,a.value⟩
def fW (t:Tk):Nd:=⟨1,[],t.name,cK t.attrs,[],0⟩
def lr (g:Gr):Option (List UInt8):=g.opn.getLast?.bind fun k=>(g.v[k]?).map Nd.name
def stepG (g:Gr)(t:Tk)(txt:Bool):Gr×Int :=
 if t.kind=4 then
  if (txt||(g.opn.isEmpty && !mJ t.text))=true then (g,80)
  else if g.opn.isEmpty=true then (g,0) else (⟨jW g (iS t.text),g.opn⟩,0)
 else if t.kind=2 then
  if lr g=some t.name then (⟨g.v,g.opn.dropLast⟩,0) else (g,80)
 else if (g.opn.isEmpty && !g.v.isEmpty)=true then (g,80)
 else if 12≤g.opn.length then (g,100)
 else (⟨jW g (fW t),if t.kind=1 then g.opn++[g.v.length] else g.opn⟩,0)
def sZ:Gr→Bool→List Tk→Gr×Int
 | g,_,[]=>(g,0)
 | g,txt,t::r=>if (stepG g t txt).2=0 then sZ (stepG g t txt).1 (t.kind==4) r else stepG g t txt
def cS (l:List Tk):Int:=if 512<l.length then 4 else if (l.any fun t=>!gn t)=true then 8 else
 if (sZ ⟨[],[]⟩ false l).2≠0 then (sZ ⟨[],[]⟩ false l).2 else if (sZ ⟨[],[]⟩ false l).1.v.isEmpty=true∨(sZ ⟨[],[]⟩ false l).1.opn.isEmpty=false then 80 else 0
def dy (l:List Tk):List Nd:=if cS l=0 then (sZ ⟨[],[]⟩ false l).1.v else []
structure Gr.Ok (g:Gr) (n:Nat):Prop where
 in_:∀ k∈g.opn,k<g.v.length
 deep:g.opn.length≤12
 many:∀ x∈g.v,0≤x.many∧x.many≤n
 len:g.v.length≤n
theorem xV (v:List Nd)(o:List Nat):(lp v o).length=v.length:=by
 unfold lp
 split<;>simp
theorem fA (g:Gr)(n:Nd):(jW g n).length=g.v.length+1:=by simp[jW,xV]
theorem FS {v:List Nd}{o:List Nat}{n:Nat}(h:∀ x∈v,0≤x.many∧x.many≤n):∀ x∈lp v o,0≤x.many∧x.many≤((n+1:Nat):Int):=by
 intro x hx
 unfold lp at hx
 split at hx
 ·rename_i k _
  obtain⟨i,hi⟩:=List.mem_iff_getElem?.1 hx
  rw[List.getElem?_modify]at hi
  cases hv:v[i]? with
  | none=>rw[hv]at hi;simp at hi
  | some y =>
   rw[hv]at hi
   have:=h y (List.mem_of_getElem? hv)
   split at hi
   ·simp at hi;subst hi;simp only[Nd.inc];omega
   ·simp at hi;subst hi;omega
 ·have:=h x hx;omega
theorem EO {g:Gr}{n:Nat}(h:g.Ok n){x:Nd}(hx:x.many=0):(∀ k∈g.opn,k<(jW g x).length)∧(∀ y∈jW g x,0≤y.many∧y.many≤((n+1:Nat):Int))∧(jW g x).length≤n+1:=by
 refine⟨fun k hk=>?_,fun y hy=>?_,?_⟩
 ·have:=h.in_ k hk;rw[fA];omega
 ·rcases List.mem_append.1 hy with hy|hy
  ·exact FS h.many y hy
  ·simp at hy;subst hy;omega
 ·rw[fA];have:=h.len;omega
theorem B0 {g:Gr}{n:Nat}(h:g.Ok n)(t:Tk)(txt:Bool):(stepG g t txt).1.Ok (n+1):=by
 have h0:g.Ok (n+1):=⟨h.in_,h.deep,fun x hx=>by have:=h.many x hx;omega,by have:=h.len;omega⟩
 unfold stepG
 split
 ·split
  ·exact h0
  ·split
   ·exact h0
   ·obtain⟨h1,h2,h3⟩:=EO h (x:=iS t.text) rfl
    exact⟨h1,h.deep,h2,h3⟩
 ·split
  ·split
   ·exact⟨fun k hk=>h.in_ k (List.dropLast_subset _ hk),by simp;have:=h.deep;omega,h0.many,h0.len⟩
   ·exact h0
  ·split
   ·exact h0
   ·split
    ·exact h0
    ·rename_i h12
     obtain⟨h1,h2,h3⟩:=EO h (x:=fW t) rfl
     refine⟨fun k hk=>?_,?_,h2,h3⟩
     ·simp only at hk
      split at hk
      ·rcases List.mem_append.1 hk with hk|hk
       ·exact h1 k hk
       ·simp at hk;subst hk;simp only[fA];omega
      ·exact h1 k hk
     ·simp only
      split
      ·simp;omega
      ·exact h.deep
theorem yH:(Gr.mk [] []).Ok 0:=Gr.Ok.mk (fun k h=>by simp at h) (by simp) (fun x h=>by simp at h) (by simp)
theorem uq {v:List Nd}{o:List Nat}{k:Nat}(h:o.getLast? = some k):lp v o=v.modify k Nd.inc:=by unfold lp;rw[h]
theorem AX {v:List Nd}{k:Nat}{x:Nd}(h:v[k]? = some x):v.modify k Nd.inc=v.set k x.inc:=by
 refine List.ext_getElem? fun i=>?_
 rw[List.getElem?_modify,List.getElem?_set]
 have hk:=(List.getElem?_eq_some_iff.1 h).1
 by_cases e:k=i
 ·subst e;have hv:=(List.getElem?_eq_some_iff.1 h).2;simp[hk,hv]
 ·simp[e]
theorem ls {o:List Nat}{k:Nat}(h:o.getLast? = some k):o≠[]∧o[o.length-1]? = some k∧0<o.length:=by
 have hne:o≠[]:=by intro e;subst e;simp at h
 rw[List.getLast?_eq_getElem?]at h
 exact⟨hne,h,List.length_pos_iff.2 hne⟩
theorem o6 {o:List Nat}(h:o≠[]):∃ k,o.getLast? = some k:=⟨_,List.getLast?_eq_some_getLast h⟩
theorem FJ {l:List Tk} : ∀ {g:Gr} {txt:Bool} {t:Tk} {r:List Tk},l=t::r→(stepG g t txt).2=0→sZ g txt l=sZ (stepG g t txt).1 (t.kind==4) r:=by
 intro g txt t r h h0
 subst h
 rw[sZ,if_pos h0]
theorem Iw {g:Gr}{txt:Bool}{t:Tk}{r:List Tk}(h0:(stepG g t txt).2≠0):sZ g txt (t::r)=stepG g t txt:=by rw[sZ,if_neg h0]
theorem Ix (g:Gr)(txt:Bool):sZ g txt []=(g,0):=rfl
def mo (c:UInt8):Option Nat:=if 48≤c.toNat∧c.toNat≤57 then some (c.toNat-48) else if 97≤c.toNat∧c.toNat≤102 then some (c.toNat-87) else if 65≤c.toNat∧c.toNat≤70 then some (c.toNat-55) else none
def ga:Nat→List UInt8→Option Nat
 | n,[]=>some n
 | n,c::r=>match mo c with|none=>none|some d=>ga (16*n+d) r
def nU (s:List UInt8):Option Nat:=if s=[]∨6<s.length∨s.head? = some 48 then none else ga 0 s
def rm (c:UInt8):Option Nat:=if 48≤c.toNat∧c.toNat≤57 then some (c.toNat-48) else none
def j0:Nat→List UInt8→Option Nat
 | n,[]=>some n
 | n,c::r=>match rm c with|none=>none|some d=>j0 (10*n+d) r
def mO (s:List UInt8):Option Nat:=if s=[]∨16<s.length∨(s.head? = some 48∧s≠[48]) then none else (j0 0 s).bind fun n=>if n≤9007199254740991 then some n else none
def ew (o:Option Nat):Option (List UInt8):=o.bind fun n=>if gD (n:Int)=true then some (encodeRune n) else none
def ce (s:List UInt8):Option (List UInt8) :=
 if s=[97,109,112] then some [38] else if s=[108,116] then some [60] else if s=[103,116] then some [62] else if s=[113,117,111,116] then some [34] else if s=[97,112,111,115] then some [39]
 else if s.head? = some 35 then (if s.tail.head? = some 120 then ew (nU s.tail.tail) else ew (mO s.tail)) else none
theorem rl {d:UInt8}{s a b:List UInt8}(h:dH d s=some (a,b)):b.length<s.length:=by
 have:=(ek h).1
 rw[this];simp;omega
def bR:List UInt8→Option (List UInt8)
 | []=>some []
 | c::r=>if c=60 then none else if c=38 then (match h:dH 59 r with|none=>none|some (a,b)=>match ce a with|none=>none|some x=>(bR b).map (x ++ ·)) else (bR r).map (c :: ·)
termination_by s=>s.length
decreasing_by
 ·have:=rl h;simp;omega
 ·simp
theorem jN:bR []=some []:=by rw[bR]
theorem lF (r:List UInt8):bR (60::r)=none:=by rw[bR];rfl
theorem fG {c:UInt8}(h1:c≠60)(h2:c≠38)(r:List UInt8):bR (c::r)=(bR r).map (c :: ·):=by rw[bR,if_neg h1,if_neg h2]
theorem iO {r:List UInt8}(h:dH 59 r=none):bR (38::r)=none:=by
 rw[bR,if_neg (by decide),if_pos rfl]
 split
 ·rfl
 ·rename_i e;rw[h]at e;cases e
theorem jM {r a b:List UInt8}(h:dH 59 r=some (a,b))(hm:ce a=none):bR (38::r)=none:=by
 rw[bR,if_neg (by decide),if_pos rfl]
 split
 ·rfl
 ·rename_i e;rw[h]at e;cases e;rw[hm]
theorem jO {r a b x:List UInt8}(h:dH 59 r=some (a,b))(hm:ce a=some x):bR (38::r)=(bR b).map (x ++ ·):=by
 rw[bR,if_neg (by decide),if_pos rfl]
 split
 ·rename_i e;rw[h]at e;cases e
 ·rename_i e;rw[h]at e;cases e;rw[hm]
theorem Dw:ce [97,109,112]=some [38]:=by decide
theorem Gc:ce [108,116]=some [60]:=by decide
theorem Gb:ce [103,116]=some [62]:=by decide
theorem Ao:ce [113,117,111,116]=some [34]:=by decide
theorem vp {z:Int}(h0:0≤z)(h:z<128):encodeRune z=[z.toNat.toUInt8]:=by
 unfold encodeRune encodeRuneZ
 rw[if_pos (by omega)]
 rfl
theorem nH {z:Int}(h:128≤z):∀ c∈encodeRune z,128≤c.toNat:=by
 intro c hc
 unfold encodeRune encodeRuneZ at hc
 rw[if_neg (by omega)]at hc
 repeat' split at hc
 all_goals (
  simp only[List.map_cons,List.map_nil,List.mem_cons,List.not_mem_nil,or_false]at hc
  rcases hc with rfl|rfl|rfl|rfl<;>(rw[kJ (by omega) (by omega)];omega))
theorem rn {c:UInt8}{d:Nat}(h:rm c=some d):d≤9∧c=UInt8.ofNat (48+d)∧c.toNat=48+d:=by
 unfold rm at h
 split at h
 ·cases h
  refine⟨by omega,?_,by omega⟩
  have:48+(c.toNat-48)=c.toNat:=by omega
  rw[this];simp
 ·cases h
theorem tY:∀(s:List UInt8) (n:Nat) (c:UInt8),j0 n (s++[c])=(j0 n s).bind fun m=>(rm c).map fun d=>10*m+d
 | [],n,c=>by
  simp only[List.nil_append,j0,Option.bind_some]
  cases rm c<;>rfl
 | x::s,n,c=>by
  simp only[List.cons_append,j0]
  cases rm x with
  | none=>rfl
  | some d=>exact tY s _ c
theorem Bj:∀(s:List UInt8) (n m:Nat),j0 n s=some m→n≤m∧m<(n+1)*10 ^ s.length
 | [],n,m,h=>by simp only[j0]at h;cases h;simp
 | x::s,n,m,h=>by
  simp only[j0]at h
  cases hx:rm x with
  | none=>rw[hx]at h;cases h
  | some d =>
   rw[hx]at h
   have hd:=(rn hx).1
   obtain⟨h1,h2⟩:=Bj s _ m h
   refine⟨by omega,Nat.lt_of_lt_of_le h2 ?_⟩
   rw[List.length_cons,Nat.pow_succ',← Nat.mul_assoc]
   exact Nat.mul_le_mul_right _ (by omega)
def aZ (s:List UInt8):List UInt8:=s.dropWhile gX
def eS (c:UInt8):Bool:=iM false c||c==58
def iV (s:List UInt8):List UInt8:=s.takeWhile eS
def sU (s:List UInt8):List UInt8:=s.dropWhile eS
def eL (s:List UInt8):Option (List UInt8×List UInt8):=if b8 (iV s)=true then some (iV s,sU s) else none
def b7 (c:UInt8):UInt8:=if gX c=true then 32 else c
def yO (s:List UInt8):Option (List UInt8):=bR (s.map b7)
def ss:List UInt8→Option (List UInt8×List UInt8)
 | []=>none
 | q::t=>if q=39∨q=34 then dH q t else none
def gZ (s:List UInt8):Option (List UInt8×List UInt8):=(ss s).bind fun p=>(yO p.1).map fun v=>(v,p.2)
def bS (c:UInt8):List UInt8→Option (List UInt8)
 | []=>none
 | d::t=>if d=c then some t else none
def fU (s:List UInt8):Option (Pr×List UInt8):=(eL s).bind fun p=>(bS 61 (aZ p.2)).bind fun t=>(gZ (aZ t)).map fun q=>(⟨p.1,q.1⟩,q.2)
theorem j4 {p:UInt8→Bool} : ∀ s:List UInt8,(s.dropWhile p).length≤s.length
 | []=>Nat.le_refl _
 | c::s=>by
  rw[List.dropWhile_cons]
  split
  ·have:=j4 (p:=p) s;simp;omega
  ·exact Nat.le_refl _
theorem cX (s:List UInt8):(aZ s).length≤s.length:=j4 s
theorem A9 (s:List UInt8):s=iV s++sU s:=(List.takeWhile_append_dropWhile).symm
theorem It {s:List UInt8}(h:b8 s=true):s≠[]:=by
 intro e;subst e;cases h
theorem fp {s n r:List UInt8}(h:eL s=some (n,r)):s=n++r∧n≠[]∧b8 n=true∧r.length<s.length:=by
 unfold eL at h
 split at h
 ·rename_i hf
  cases h
  have h1:=A9 s
  have h2:=It hf
  refine⟨h1,h2,hf,?_⟩
  have:=congrArg List.length h1
  rw[List.length_append]at this
  have:=List.length_pos_iff.2 h2
  omega
 ·cases h
theorem iv (c d:UInt8)(t:List UInt8):bS c (d::t)=if d=c then some t else none:=rfl
theorem su (q:UInt8)(t:List UInt8):ss (q::t)=if q=39∨q=34 then dH q t else none:=rfl
theorem bU {c:UInt8}{s t:List UInt8}(h:bS c s=some t):s=c::t:=by
 cases s with
 | nil=>cases h
 | cons d s =>
  rw[iv]at h
  split at h
  ·rename_i e;cases h;rw[e]
  ·cases h
theorem kr {s a b:List UInt8}(h:ss s=some (a,b)):∃ q,(q=39∨q=34)∧s=q::(a++q::b)∧q ∉ a:=by
 cases s with
 | nil=>cases h
 | cons q t =>
  rw[su]at h
  split at h
  ·rename_i hq
   obtain⟨h1,h2⟩:=ek h
   exact⟨q,hq,by rw[h1],h2⟩
  ·cases h
theorem kD {s v r:List UInt8}(h:gZ s=some (v,r)):∃ a,ss s=some (a,r)∧yO a=some v:=by
 unfold gZ at h
 obtain⟨⟨a,b⟩,h1,h2⟩:=Option.bind_eq_some_iff.1 h
 obtain⟨x,h3,h4⟩:=Option.map_eq_some_iff.1 h2
 cases h4
 exact⟨a,h1,h3⟩
theorem lR {s r:List UInt8}{a:Pr}(h:fU s=some (a,r)):∃ r1 t,eL s=some (a.name,r1)∧aZ r1=61::t∧gZ (aZ t)=some (a.value,r):=by
 unfold fU at h
 obtain⟨⟨n,r1⟩,h1,h2⟩:=Option.bind_eq_some_iff.1 h
 obtain⟨t,h3,h4⟩:=Option.bind_eq_some_iff.1 h2
 obtain⟨⟨v,r2⟩,h5,h6⟩:=Option.map_eq_some_iff.1 h4
 cases h6
 exact⟨r1,t,h1,bU h3,h5⟩
theorem jX {s r:List UInt8}{a:Pr}(h:fU s=some (a,r)):r.length<s.length:=by
 obtain⟨r1,t,h1,h2,h3⟩:=lR h
 have l1:=(fp h1).2.2.2
 have l2:=cX r1
 rw[h2]at l2
 have l3:=cX t
 obtain⟨v,h4,_⟩:=kD h3
 obtain⟨q,_,h5,_⟩:=kr h4
 rw[h5]at l3
 simp only[List.length_cons,List.length_append]at l2 l3
 omega
def j5:List UInt8→Option (Nat×List UInt8)
 | 62::t=>some (1,t)
 | 47::62::t=>some (3,t)
 | _=>none
def iR (n:List UInt8)(l:List Pr)(s:List UInt8):Option (Tk×List UInt8) :=
 match j5 (aZ s) with
 | some (k,t)=>some (⟨k,n,l,[]⟩,t)
 | none=>if (aZ s).length<s.length then (match h:fU (aZ s) with
  | none=>none
  | some (a,r)=>if (l.any fun b=>a.name==b.name)=true then none else iR n (l++[a]) r) else none
termination_by s.length
decreasing_by
 have:=jX h
 have:=cX s
 omega
theorem kA {n:List UInt8}{l:List Pr}{s t:List UInt8}{k:Nat}(h:j5 (aZ s)=some (k,t)):iR n l s=some (⟨k,n,l,[]⟩,t):=by rw[iR,h]
theorem kB {n:List UInt8}{l:List Pr}{s:List UInt8}(h:j5 (aZ s)=none)(h2:¬(aZ s).length<s.length):iR n l s=none:=by rw[iR,h];simp only[if_neg h2]
theorem qK {n:List UInt8}{l:List Pr}{s:List UInt8}(h:j5 (aZ s)=none)(h2:fU (aZ s)=none):iR n l s=none:=by
 rw[iR,h];simp only
 split
 ·split
  ·rfl
  ·rename_i e;rw[h2]at e;cases e
 ·rfl
theorem mf {n:List UInt8}{l:List Pr}{s r:List UInt8}{a:Pr}(h:j5 (aZ s)=none)(h2:fU (aZ s)=some (a,r))(h3:(l.any fun b=>a.name==b.name)=true):iR n l s=none:=by
 rw[iR,h];simp only
 split
 ·split
  ·rfl
  ·rename_i e;rw[h2]at e;cases e;rw[if_pos h3]
 ·rfl
theorem lJ {n:List UInt8}{l:List Pr}{s r:List UInt8}{a:Pr}(h:j5 (aZ s)=none)(hg:(aZ s).length<s.length)(h2:fU (aZ s)=some (a,r))(h3:(l.any fun b=>a.name==b.name)=false):iR n l s=iR n (l++[a]) r:=by
 rw[iR,h];simp only[if_pos hg]
 split
 ·rename_i e;rw[h2]at e;cases e
 ·rename_i e;rw[h2]at e;cases e;rw[if_neg (by simp[h3])]
def sI (s:List UInt8):Option (Tk×List UInt8) :=
 match bS 47 s with
 | some t=>(eL t).bind fun p=>(bS 62 (aZ p.2)).map fun r=>(⟨2,p.1,[],[]⟩,r)
 | none=>(eL s).bind fun p=>iR p.1 [] p.2
def jp (c:UInt8):Bool:=c != 60
def cq (s:List UInt8):List UInt8:=s.takeWhile jp
def fS (s:List UInt8):List UInt8:=s.dropWhile jp
def iL (s:List UInt8):Option (Tk×List UInt8) :=
 match bS 60 s with
 | some t=>sI t
 | none=>(bR (cq s)).map fun x=>(⟨4,[],[],x⟩,fS s)
theorem Ju:∀(k:Nat) (n:List UInt8) (l:List Pr) (s r:List UInt8) (t:Tk),s.length≤k→iR n l s=some (t,r)→r.length<s.length:=by
 intro k
 induction k with
 | zero =>
  intro n l s r t hk h
  obtain rfl:=List.length_eq_zero_iff.1 (Nat.le_zero.1 hk)
  rw[kB (by rfl) (by simp[aZ])]at h;cases h
 | succ k ih =>
  intro n l s r t hk h
  have hs:=cX s
  cases he:j5 (aZ s) with
  | some p =>
   obtain⟨m,u⟩:=p
   rw[kA he]at h
   cases h
   unfold j5 at he
   split at he
   ·rename_i e;cases he;rw[e]at hs;simp at hs;omega
   ·rename_i e;cases he;rw[e]at hs;simp at hs;omega
   ·cases he
  | none =>
   cases ha:fU (aZ s) with
   | none=>rw[qK he ha]at h;cases h
   | some p =>
    obtain⟨a,u⟩:=p
    have hl:=jX ha
    cases hd:l.any fun b=>a.name==b.name with
    | true=>rw[mf he ha hd]at h;cases h
    | false =>
     by_cases hg:(aZ s).length<s.length
     ·rw[lJ he hg ha hd]at h
      have:=ih n _ u r t (by omega) h
      omega
     ·rw[kB he hg]at h;cases h
theorem LQ {s r:List UInt8}{t:Tk}(h:sI s=some (t,r)):r.length<s.length:=by
 unfold sI at h
 split at h
 ·rename_i u hu
  obtain⟨⟨n,r1⟩,h1,h2⟩:=Option.bind_eq_some_iff.1 h
  obtain⟨r2,h3,h4⟩:=Option.map_eq_some_iff.1 h2
  cases h4
  have l1:=(fp h1).2.2.2
  have l2:=cX r1
  rw[bU h3]at l2
  rw[bU hu]
  simp only[List.length_cons]at l2 ⊢
  omega
 ·obtain⟨⟨n,r1⟩,h1,h2⟩:=Option.bind_eq_some_iff.1 h
  have l1:=(fp h1).2.2.2
  have l2:=Ju _ n [] r1 r t (Nat.le_refl _) h2
  omega
theorem v8 {s r:List UInt8}{t:Tk}(hne:s≠[])(h:iL s=some (t,r)):r.length<s.length:=by
 unfold iL at h
 split at h
 ·rename_i u hu
  have:=LQ h
  rw[bU hu];simp;omega
 ·rename_i hu
  obtain⟨x,_,h2⟩:=Option.map_eq_some_iff.1 h
  cases h2
  cases s with
  | nil=>exact absurd rfl hne
  | cons c s =>
   have hc:jp c=true:=by
    rw[iv]at hu
    split at hu
    ·cases hu
    ·rename_i e;simp[jp,e]
   unfold fS
   rw[List.dropWhile_cons,if_pos hc]
   have:=j4 (p:=jp) s
   simp;omega
def gf (n:Nat)(l:List Tk)(s:List UInt8):List Tk×Nat×Int :=
 if hn:s=[] then (l,0,0) else if 512≤l.length then ([],n-s.length,4) else match h:iL s with
  | none=>([],n-s.length,80)
  | some (t,r)=>if 16<t.attrs.length then ([],n-s.length,4) else gf n (l++[t]) r
termination_by s.length
decreasing_by exact v8 hn h
theorem lA (n:Nat)(l:List Tk):gf n l []=(l,0,0):=by rw[gf,dif_pos rfl]
theorem pd {n:Nat}{l:List Tk}{s:List UInt8}(h:s≠[])(h2:512≤l.length):gf n l s=([],n-s.length,4):=by rw[gf,dif_neg h,if_pos h2]
theorem sa {n:Nat}{l:List Tk}{s:List UInt8}(h:s≠[])(h2:l.length<512)(h3:iL s=none):gf n l s=([],n-s.length,80):=by
 rw[gf,dif_neg h,if_neg (by omega)]
 split
 ·rfl
 ·rename_i e;rw[h3]at e;cases e
theorem nb {n:Nat}{l:List Tk}{s r:List UInt8}{t:Tk}(h:s≠[])(h2:l.length<512)(h3:iL s=some (t,r))(h4:16<t.attrs.length):gf n l s=([],n-s.length,4):=by
 rw[gf,dif_neg h,if_neg (by omega)]
 split
 ·rename_i e;rw[h3]at e;cases e
 ·rename_i e;rw[h3]at e;cases e;rw[if_pos h4]
theorem qy {n:Nat}{l:List Tk}{s r:List UInt8}{t:Tk}(h:s≠[])(h2:l.length<512)(h3:iL s=some (t,r))(h4:t.attrs.length≤16):gf n l s=gf n (l++[t]) r:=by
 rw[gf,dif_neg h,if_neg (by omega)]
 split
 ·rename_i e;rw[h3]at e;cases e
 ·rename_i e;rw[h3]at e;cases e;rw[if_neg (by omega)]
def eB (s:List UInt8):List Tk×Nat×Int:=if aO s≠0 then ([],0,aO s) else gf s.length [] s
end Go.Proofs.YtcllbjanalhjgaaGreatDoor
namespace Go.Proofs.YtcllbjanalhjgaaGreatDoor
set_option maxRecDepth 100000
set_option maxHeartbeats 32000000
set_option linter.unusedSimpArgs false
set_option linter.unusedVariables false
open Go Go.RowKit Vm Go.Lib Tryz
open Vm renaming be→Ca,bo→Cb
open And renaming intro→Ai
open List renaming length_map→Lm,not_mem_nil→Ln,map_nil→Lo,map_cons→Lc,mem_cons→Lk
open Bool renaming not_false→Bf,not_true→Bt
def nu (r:Int):Bool:=(decide (0≤r)&&decide (r<55296))||(decide (57343<r)&&decide (r≤1114111))
theorem sR (r:Int)(nm:Nat):Ev cx 95 nm [.int .i32 r] ao.nil (.bool (nu r)) []:=by
 unfold nu
 refine ay rfl (fun cargs w=>call95 cargs w) func95 rfl mixed (by kernel_rfl) rfl ?_;intro b0 hb0
 (repeat' first|simp only[am,ah,results95,ntmps95,ap,ag,seval,ae]|exact rfl|refine aa (v:=.any) ?_|((first|apply Ca|apply Cb)<;>intro hb)|refine Ai (by omega) ?_|(apply Ai<;>intro hb)|refine Fin.pure ?_ ?_ ?_|simp only[au])
 all_goals simp_all
theorem jo (n:Int)(nm:Nat):Ev cx 81 nm [.int .i64 n] ao.nil (.bool (gD n)) []:=by
 refine ay rfl (fun cargs w=>call81 cargs w) func81 rfl mixed (by kernel_rfl) rfl ?_;intro b0 hb0
 (repeat' first|simp only[am,ah,results81,ntmps81,ap,ag,seval,ae]|exact rfl|refine aa (v:=.any) ?_|((first|apply Ca|apply Cb)<;>intro hb)|refine Ai (by omega) ?_|(apply Ai<;>intro hb)|refine Fin.pure ?_ ?_ ?_|simp only[au])
 all_goals simp only[decide_eq_true_eq,decide_eq_false_iff_not,beq_iff_eq,beq_eq_false_iff_ne,ne_eq]at *
 all_goals (first|(exfalso;omega)|(exact MS (by omega))|(exact MR (by omega))|skip)
 have hw:IntKind.i32.wrap n=n:=IntWalk.i32_in _ (by omega)
 rw[hw]
 have hv:nu n=gD n:=by
  cases h:gD n with
  | true =>
   have:=(fP n).1 h
   unfold nu
   simp only[Bool.or_eq_true,Bool.and_eq_true,decide_eq_true_eq];omega
  | false =>
   have h':¬ _:=fun q=>by rw[(fP n).2 q]at h;cases h
   unfold nu
   simp only[Bool.or_eq_false_iff,Bool.and_eq_false_iff,decide_eq_false_iff_not];omega
 (repeat' first|simp only[am,ah,results81,ntmps81,ap,hv,ag,seval,ae]|exact rfl|refine aa (v:=.any) ?_|(first|(refine ac ?_ (sR n _) ?_)|(refine ab ?_ (fun _=>sR n _) ?_))|((first|apply Ca|apply Cb)<;>intro hb)|refine Ai (by omega) ?_|(apply Ai<;>intro hb)|refine Fin.pure ?_ ?_ ?_|simp only[au])
def preB (s p:List UInt8):Bool:=decide (p.length≤s.length)&&(s.take p.length==p)
theorem oX (s p:List UInt8)(hs:s.length≤bk)(hp:p.length≤bk)(nm:Nat):Ev cx 90 nm [.str s,.str p] ao.nil (.bool (preB s p)) []:=by
 unfold bk at hs hp
 unfold preB
 refine ay rfl (fun cargs w=>call90 cargs w) func90 rfl mixed (by kernel_rfl) rfl ?_;intro b0 hb0
 (repeat' first|simp only[am,ah,results90,ntmps90,ap,decide_eq_true_eq,imp_self,ag,seval,ae]|exact rfl|refine aa (v:=.any) ?_|((first|apply Ca|apply Cb)<;>intro hb)|refine Ai (by omega) ?_|(apply Ai<;>intro hb)|refine Fin.pure ?_ ?_ ?_|simp only[au])
theorem wc (s p:List UInt8)(hs:s.length≤bk)(hp:p.length≤bk)(nm:Nat):Ev cx 80 nm [.str s,.str p] ao.nil (.bool (preB s p)) []:=by
 refine ay rfl (fun cargs w=>call80 cargs w) func80 rfl mixed (by kernel_rfl) rfl ?_;intro b0 hb0
 (repeat' first|simp only[am,ah,results80,ntmps80,ap,ag,seval,ae]|exact rfl|refine aa (v:=.any) ?_|(first|(refine ac ?_ (oX s p hs hp _) ?_)|(refine ab ?_ (fun _=>oX s p hs hp _) ?_))|((first|apply Ca|apply Cb)<;>intro hb)|refine Ai (by omega) ?_|(apply Ai<;>intro hb)|refine Fin.pure ?_ ?_ ?_|simp only[au])
end Go.Proofs.YtcllbjanalhjgaaGreatDoor
