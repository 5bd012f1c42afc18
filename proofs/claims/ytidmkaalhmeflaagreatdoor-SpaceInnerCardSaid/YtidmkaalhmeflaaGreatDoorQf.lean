/-
 Texts joined: XTy,XEp,XEq,XEr,XEs,XEx,XEn,XLa,XUa,XGa,XGb,XNa,XEa.
-/
import Derived.Test.YtidmkaalhmeflaaGreatDoorChecked
import Derived.Lib.LaidU8
import Derived.Lib.ItoaNum
import Derived.Lib.RuneBytes
import Derived.Lib.MapLaws
import Derived.Lib.RuneCountTail
import Derived.Lib.IndexLaws
import Derived.Test.YtidmkaalhmeflaaGreatDoorQe
namespace Go.Proofs.YtidmkaalhmeflaaGreatDoor
set_option maxRecDepth 100000
set_option maxHeartbeats 32000000
set_option linter.unusedSimpArgs false
set_option linter.unusedVariables false
open Go Go.RowKit Vm Go.Lib Tryz
open Vm renaming aZ→Ca,bj→Cb
open And renaming intro→Ai
open List renaming length_map→Lm,not_mem_nil→Ln,map_nil→Lo,map_cons→Lc,mem_cons→Lk
open Bool renaming not_false→Bf,not_true→Bt
def BW:V:=.rp (Lib.firstTab.map fun z=>.int .u8 z)
def Nq:V:=.rp ((List.range 16).flatMap fun i=>[V.int .u8 (Lib.accLo i),.int .u8 (Lib.accHi i)])
def GA:V:=.rp (Lib.pow10Tab.map fun z=>.int .u64 z)
def pc (g:Nat):V:=if g=5 then BW else if g=6 then Nq else if g=2 then GA else .any
theorem nR:BW.plain=true∧Nq.plain=true∧GA.plain=true:=by decide +kernel
noncomputable def cx:Cx:=⟨Tryz.prog,pc,[]⟩
theorem co:∀ g,(cx.G g).plain=true:=fun g=>by
 show(pc g).plain=true
 unfold pc
 split
 ·exact nR.1
 ·split
  ·exact nR.2.1
  ·split
   ·exact nR.2.2
   ·rfl
theorem mixed:cx.P.follows .mixedOrders=true:=by kernel_rfl
theorem Oq:cx.P.underlying 9=some .string:=by kernel_rfl
theorem Pz:cm cx.P 9=true:=by kernel_rfl
theorem N7:cx.P.underlying 3=some (.int .i64):=by kernel_rfl
theorem G8:eT cx.P 44=some ([.str [],.str [],.str []],[(0,1),(1,1),(2,1)]):=by kernel_rfl
theorem Ot:cE cx.P 45=some ([.str [],.str [],.str []],48):=by kernel_rfl
theorem GZ:eT cx.P 47=some ([.int .u8 0,.str [],.str [],.nils,.str [],.int .i64 0],[(0,1),(1,1),(2,1),(3,1),(4,1),(5,1)]):=by kernel_rfl
theorem Of:cE cx.P 22=some ([.int .u8 0,.str [],.str [],.nils,.str [],.int .i64 0],88):=by kernel_rfl
theorem Mi:cx.P.underlying 25=some (.int .i64):=by kernel_rfl
theorem MI:cx.P.underlying 22=some (.slice 47):=by kernel_rfl
theorem OI:cm cx.P 22=true:=by kernel_rfl
theorem ON:jf cx.P 22=some 47:=by kernel_rfl
theorem NO:qK cx.P 22=none:=by kernel_rfl
theorem L9:mC cx.P 22=some (none,6,true):=by kernel_rfl
theorem Hg:jn cx.P 47 3=some (3,1,false):=by kernel_rfl
theorem Od:ty cx.P 45=some (1,false):=by kernel_rfl
theorem L2:cx.P.underlying 45=some (.slice 44):=by kernel_rfl
theorem Om:cm cx.P 45=true:=by kernel_rfl
theorem O0:jf cx.P 45=some 44:=by kernel_rfl
theorem LV:qK cx.P 45=none:=by kernel_rfl
theorem FU:jn cx.P 47 1=some (1,1,false):=by kernel_rfl
theorem Pm:ty cx.P 9=some (1,false):=by kernel_rfl
theorem Mq:mC cx.P 45=some (none,3,true):=by kernel_rfl
theorem OG:ty cx.P 44=some (3,true):=by kernel_rfl
theorem NM:s7 cx.P 44=some [(0,1),(1,1),(2,1)]:=by kernel_rfl
theorem Hv:jn cx.P 47 2=some (2,1,false):=by kernel_rfl
theorem GX:jn cx.P 44 0=some (0,1,false):=by kernel_rfl
theorem Nx:cx.P.underlying 60=some (.slice 3):=by kernel_rfl
theorem Og:cE cx.P 60=some ([.int .i64 0],8):=by kernel_rfl
theorem Oa:cm cx.P 60=true:=by kernel_rfl
theorem OQ:jf cx.P 60=some 3:=by kernel_rfl
theorem Mh:qK cx.P 60=none:=by kernel_rfl
theorem MF:mC cx.P 60=some (none,1,false):=by kernel_rfl
theorem Pu:ty cx.P 3=some (1,false):=by kernel_rfl
theorem II:jn cx.P 47 0=some (0,1,false):=by kernel_rfl
theorem PD:ty cx.P 5=some (1,false):=by kernel_rfl
theorem Oy:cx.P.underlying 5=some (.int .u8):=by kernel_rfl
theorem Hf:jn cx.P 47 4=some (4,1,false):=by kernel_rfl
theorem J7:dG cx.P 44=some [.str [],.str [],.str []]:=by kernel_rfl
theorem M7:gh cx.P 44=none:=by kernel_rfl
theorem IU:jn cx.P 44 1=some (1,1,false):=by kernel_rfl
theorem Iy:jn cx.P 44 2=some (2,1,false):=by kernel_rfl
theorem OH:ty cx.P 47=some (6,true):=by kernel_rfl
theorem K7:dG cx.P 47=some [.int .u8 0,.str [],.str [],.nils,.str [],.int .i64 0]:=by kernel_rfl
theorem Ns:gh cx.P 47=none:=by kernel_rfl
theorem Ja:dG cx.P 22=some [.nils]:=by kernel_rfl
theorem MT:gh cx.P 22=none:=by kernel_rfl
theorem OV:ty cx.P 22=some (1,false):=by kernel_rfl
theorem Mx:dG cx.P 4=some [.bool false]:=by kernel_rfl
theorem N8:gh cx.P 4=none:=by kernel_rfl
theorem O6:ty cx.P 4=some (1,false):=by kernel_rfl
theorem KI:dG cx.P 66=some [.val .nilFunc]:=by kernel_rfl
theorem MH:gh cx.P 66=none:=by kernel_rfl
theorem N6:ty cx.P 66=some (1,false):=by kernel_rfl
theorem HH:eT cx.P 70=some ([.str []],[(0,1)]):=by kernel_rfl
theorem Jc:dG cx.P 78=some [.val .nilFunc]:=by kernel_rfl
theorem M5:gh cx.P 78=none:=by kernel_rfl
theorem Oe:ty cx.P 78=some (1,false):=by kernel_rfl
theorem Ij:jn cx.P 47 5=some (5,1,false):=by kernel_rfl
theorem Jk:dG cx.P 82=some [.val .nilFunc]:=by kernel_rfl
theorem Nf:gh cx.P 82=none:=by kernel_rfl
theorem Oz:ty cx.P 82=some (1,false):=by kernel_rfl
theorem F0:eT cx.P 87=some ([.str [],.str [],.nils,.nils],[(0,1),(1,1),(2,1),(3,1)]):=by kernel_rfl
theorem MO:cE cx.P 118=some ([.val .nilFunc],8):=by kernel_rfl
theorem H0:jn cx.P 87 1=some (1,1,false):=by kernel_rfl
theorem JI:dG cx.P 94=some [.val .nilFunc]:=by kernel_rfl
theorem NR:gh cx.P 94=none:=by kernel_rfl
theorem OJ:ty cx.P 94=some (1,false):=by kernel_rfl
theorem HI:jn cx.P 87 3=some (3,1,false):=by kernel_rfl
theorem JP:dG cx.P 70=some [.str []]:=by kernel_rfl
theorem Nj:gh cx.P 70=none:=by kernel_rfl
theorem Ow:ty cx.P 70=some (1,true):=by kernel_rfl
theorem Hb:jn cx.P 70 0=some (0,1,false):=by kernel_rfl
theorem KG:cx.P.underlying 113=some (.slice 9):=by kernel_rfl
theorem NI:cE cx.P 113=some ([.str []],16):=by kernel_rfl
theorem NS:cm cx.P 113=true:=by kernel_rfl
theorem NF:jf cx.P 113=some 9:=by kernel_rfl
theorem KF:qK cx.P 113=none:=by kernel_rfl
theorem I0:dG cx.P 25=some [.int .i64 0]:=by kernel_rfl
theorem MS:gh cx.P 25=none:=by kernel_rfl
theorem Li:cx.P.underlying 118=some (.slice 89):=by kernel_rfl
theorem NB:cm cx.P 118=true:=by kernel_rfl
theorem My:jf cx.P 118=some 89:=by kernel_rfl
theorem KX:qK cx.P 118=none:=by kernel_rfl
theorem KV:mC cx.P 118=some (none,1,false):=by kernel_rfl
theorem OK:ty cx.P 89=some (1,false):=by kernel_rfl
theorem Ol:ty cx.P 25=some (1,false):=by kernel_rfl
theorem GU:jn cx.P 87 0=some (0,1,false):=by kernel_rfl
theorem ID:jn cx.P 87 2=some (2,1,false):=by kernel_rfl
theorem N0:ty cx.P 85=some (1,false):=by kernel_rfl
theorem L8:cx.P.underlying 85=some (.slice 131):=by kernel_rfl
theorem N4:cE cx.P 85=some ([.int .u8 0,.str [],.nils,.str []],64):=by kernel_rfl
theorem Oh:cm cx.P 85=true:=by kernel_rfl
theorem Oc:jf cx.P 85=some 131:=by kernel_rfl
theorem NP:qK cx.P 85=none:=by kernel_rfl
theorem Nu:mC cx.P 85=some (none,4,true):=by kernel_rfl
theorem LZ:ty cx.P 131=some (4,true):=by kernel_rfl
theorem E7:jn cx.P 131 0=some (0,1,false):=by kernel_rfl
theorem HC:dG cx.P 131=some [.int .u8 0,.str [],.nils,.str []]:=by kernel_rfl
theorem Jb:gh cx.P 131=none:=by kernel_rfl
theorem EG:jn cx.P 131 2=some (2,1,false):=by kernel_rfl
theorem Nc:ty cx.P 129=some (1,false):=by kernel_rfl
theorem Jm:cx.P.underlying 129=some (.slice 170):=by kernel_rfl
theorem MV:cE cx.P 129=some ([.str [],.str []],32):=by kernel_rfl
theorem ML:cm cx.P 129=true:=by kernel_rfl
theorem Mb:jf cx.P 129=some 170:=by kernel_rfl
theorem JU:qK cx.P 129=none:=by kernel_rfl
theorem IB:dG cx.P 139=some [.nils,.nils]:=by kernel_rfl
theorem IZ:gh cx.P 139=none:=by kernel_rfl
theorem L0:ty cx.P 139=some (2,true):=by kernel_rfl
theorem E6:jn cx.P 139 0=some (0,1,false):=by kernel_rfl
theorem Dc:jn cx.P 139 1=some (1,1,false):=by kernel_rfl
theorem OO:ty cx.P 60=some (1,false):=by kernel_rfl
theorem Jz:dG cx.P 60=some [.nils]:=by kernel_rfl
theorem NH:gh cx.P 60=none:=by kernel_rfl
theorem H1:dG cx.P 143=some [.val .nilFunc]:=by kernel_rfl
theorem Lj:gh cx.P 143=none:=by kernel_rfl
theorem NL:ty cx.P 143=some (1,false):=by kernel_rfl
theorem Mp:cx.P.underlying 21=some (.int .i32):=by kernel_rfl
theorem LC:mC cx.P 113=some (none,1,false):=by kernel_rfl
theorem KP:dG cx.P 85=some [.nils]:=by kernel_rfl
theorem Mc:gh cx.P 85=none:=by kernel_rfl
theorem H7:dG cx.P 168=some [.val .nilFunc]:=by kernel_rfl
theorem K4:gh cx.P 168=none:=by kernel_rfl
theorem NU:ty cx.P 168=some (1,false):=by kernel_rfl
theorem GH:dG cx.P 176=some [.nilp,.nils]:=by kernel_rfl
theorem Ju:gh cx.P 176=some 176:=by kernel_rfl
theorem Dp:eT cx.P 131=some ([.int .u8 0,.str [],.nils,.str []],[(0,1),(1,1),(2,1),(3,1)]):=by kernel_rfl
theorem EH:jn cx.P 131 1=some (1,1,false):=by kernel_rfl
theorem DO:jn cx.P 131 3=some (3,1,false):=by kernel_rfl
theorem Jg:mC cx.P 129=some (none,2,true):=by kernel_rfl
theorem Dg:jn cx.P 170 0=some (0,1,false):=by kernel_rfl
theorem E8:jn cx.P 170 1=some (1,1,false):=by kernel_rfl
theorem DD:eT cx.P 186=some ([.str []],[(0,1)]):=by kernel_rfl
theorem Ej:eT cx.P 188=some ([.str []],[(0,1)]):=by kernel_rfl
theorem Eg:jn cx.P 188 0=some (0,1,true):=by kernel_rfl
theorem EB:jn cx.P 186 0=some (0,1,false):=by kernel_rfl
theorem Ed:eT cx.P 193=some ([.nils,.nils,.int .u8 0],[(0,1),(1,1),(2,1)]):=by kernel_rfl
theorem D4:jn cx.P 193 2=some (2,1,false):=by kernel_rfl
theorem Dl:jn cx.P 193 0=some (0,1,false):=by kernel_rfl
theorem Dv:jn cx.P 193 1=some (1,1,false):=by kernel_rfl
theorem Dm:eT cx.P 170=some ([.str [],.str []],[(0,1),(1,1)]):=by kernel_rfl
theorem M8:ty cx.P 170=some (2,true):=by kernel_rfl
theorem G0:dG cx.P 170=some [.str [],.str []]:=by kernel_rfl
theorem KR:gh cx.P 170=none:=by kernel_rfl
theorem C3:jn cx.P 176 1=some (1,1,false):=by kernel_rfl
theorem Mn:ty cx.P 174=some (1,false):=by kernel_rfl
theorem CC:cx.P.underlying 174=some (.slice 5):=by kernel_rfl
theorem MJ:cE cx.P 174=some ([.int .u8 0],1):=by kernel_rfl
theorem NQ:cm cx.P 174=true:=by kernel_rfl
theorem L4:jf cx.P 174=some 5:=by kernel_rfl
theorem Lf:qK cx.P 174=some 5:=by kernel_rfl
theorem JW:cx.P.underlying 219=some (.pointer 5):=by kernel_rfl
theorem Mj:md cx.P 174=true:=by kernel_rfl
theorem OD:cx.P.underlying 2=some (.int .i64):=by kernel_rfl
theorem Iz:dG cx.P 232=some [.int .u8 0,.int .u8 0,.int .u8 0,.int .u8 0,.int .u8 0,.int .u8 0,.int .u8 0,.int .u8 0,.int .u8 0,.int .u8 0,.int .u8 0,.int .u8 0,.int .u8 0,.int .u8 0,.int .u8 0,.int .u8 0,.int .u8 0,.int .u8 0,.int .u8 0,.int .u8 0,.int .u8 0,.int .u8 0,.int .u8 0,.int .u8 0]:=by kernel_rfl
theorem Kx:gh cx.P 232=none:=by kernel_rfl
theorem Lu:cx.P.underlying 233=some (.int .u64):=by kernel_rfl
theorem JS:mC cx.P 232=some (some 24,1,false):=by kernel_rfl
theorem I6:cx.P.underlying 232=some (.array 24 5):=by kernel_rfl
theorem DC:jn cx.P 176 0=some (0,1,false):=by kernel_rfl
theorem MU:ty cx.P 173=some (1,false):=by kernel_rfl
theorem Kv:cx.P.underlying 173=some (.pointer 176):=by kernel_rfl
theorem J8:cx.P.underlying 156=some .unsafePointer:=by kernel_rfl
theorem Fs:eT cx.P 246=some ([.str [],.nils],[(0,1),(1,1)]):=by kernel_rfl
theorem Fc:jn cx.P 246 0=some (0,1,false):=by kernel_rfl
theorem Eh:jn cx.P 246 1=some (1,1,false):=by kernel_rfl
theorem Gw:dG cx.P 249=some [.bool false,.bool false,.bool false,.bool false,.bool false,.bool false,.bool false,.bool false,.bool false,.bool false,.bool false,.bool false,.bool false,.bool false,.bool false,.bool false,.bool false,.bool false,.bool false,.bool false,.bool false,.bool false,.bool false,.bool false,.bool false,.bool false,.bool false,.bool false,.bool false,.bool false,.bool false,.bool false,.bool false,.bool false,.bool false,.bool false,.bool false,.bool false,.bool false,.bool false,.bool false,.bool false,.bool false,.bool false,.bool false,.bool false,.bool false,.bool false,.bool false,.bool false,.bool false,.bool false,.bool false,.bool false,.bool false,.bool false,.bool false,.bool false,.bool false,.bool false,.bool false,.bool false,.bool false,.bool false,.bool false,.bool false,.bool false,.bool false,.bool false,.bool false,.bool false,.bool false,.bool false,.bool false,.bool false,.bool false,.bool false,.bool false,.bool false,.bool false,.bool false,.bool false,.bool false,.bool false,.bool false,.bool false,.bool false,.bool false,.bool false,.bool false,.bool false,.bool false,.bool false,.bool false,.bool false,.bool false,.bool false,.bool false,.bool false,.bool false,.bool false,.bool false,.bool false,.bool false,.bool false,.bool false,.bool false,.bool false,.bool false,.bool false,.bool false,.bool false,.bool false,.bool false,.bool false,.bool false,.bool false,.bool false,.bool false,.bool false,.bool false,.bool false,.bool false,.bool false,.bool false,.bool false,.bool false,.bool false,.bool false,.bool false,.bool false,.bool false,.bool false,.bool false,.bool false,.bool false,.bool false,.bool false,.bool false,.bool false,.bool false,.bool false,.bool false,.bool false,.bool false,.bool false,.bool false,.bool false,.bool false,.bool false,.bool false,.bool false,.bool false,.bool false,.bool false,.bool false,.bool false,.bool false,.bool false,.bool false,.bool false,.bool false,.bool false,.bool false,.bool false,.bool false,.bool false,.bool false,.bool false,.bool false,.bool false,.bool false,.bool false,.bool false,.bool false,.bool false,.bool false,.bool false,.bool false,.bool false,.bool false,.bool false,.bool false,.bool false,.bool false,.bool false,.bool false,.bool false,.bool false,.bool false,.bool false,.bool false,.bool false,.bool false,.bool false,.bool false,.bool false,.bool false,.bool false,.bool false,.bool false,.bool false,.bool false,.bool false,.bool false,.bool false,.bool false,.bool false,.bool false,.bool false,.bool false,.bool false,.bool false,.bool false,.bool false,.bool false,.bool false,.bool false,.bool false,.bool false,.bool false,.bool false,.bool false,.bool false,.bool false,.bool false,.bool false,.bool false,.bool false,.bool false,.bool false,.bool false,.bool false,.bool false,.bool false,.bool false,.bool false,.bool false,.bool false,.bool false,.bool false,.bool false,.bool false,.bool false,.bool false,.bool false,.bool false,.bool false,.bool false,.bool false,.bool false,.bool false,.bool false,.bool false,.bool false,.bool false]:=by kernel_rfl
theorem I5:gh cx.P 249=none:=by kernel_rfl
theorem MG:ty cx.P 249=some (256,true):=by kernel_rfl
theorem JD:cx.P.underlying 254=some (.int .u32):=by kernel_rfl
theorem Ky:mC cx.P 258=some (some 20,1,false):=by kernel_rfl
theorem MP:ty cx.P 233=some (1,false):=by kernel_rfl
theorem JH:mC cx.P 174=some (none,1,false):=by kernel_rfl
theorem FI:dG cx.P 259=some [.int .u8 0,.int .u8 0,.int .u8 0,.int .u8 0,.int .u8 0,.int .u8 0,.int .u8 0,.int .u8 0,.int .u8 0,.int .u8 0,.int .u8 0,.int .u8 0,.int .u8 0,.int .u8 0,.int .u8 0,.int .u8 0,.int .u8 0,.int .u8 0,.int .u8 0,.int .u8 0,.int .u8 0,.int .u8 0,.int .u8 0,.int .u8 0,.int .u8 0,.int .u8 0,.int .u8 0,.int .u8 0,.int .u8 0,.int .u8 0,.int .u8 0,.int .u8 0,.int .u8 0,.int .u8 0,.int .u8 0,.int .u8 0,.int .u8 0,.int .u8 0,.int .u8 0,.int .u8 0,.int .u8 0,.int .u8 0,.int .u8 0,.int .u8 0,.int .u8 0,.int .u8 0,.int .u8 0,.int .u8 0,.int .u8 0,.int .u8 0,.int .u8 0,.int .u8 0,.int .u8 0,.int .u8 0,.int .u8 0,.int .u8 0,.int .u8 0,.int .u8 0,.int .u8 0,.int .u8 0,.int .u8 0,.int .u8 0,.int .u8 0,.int .u8 0,.int .u8 0]:=by kernel_rfl
theorem Jo:gh cx.P 259=none:=by kernel_rfl
theorem I2:cx.P.underlying 231=some (.int .u64):=by kernel_rfl
theorem KL:mC cx.P 259=some (some 65,1,false):=by kernel_rfl
theorem KS:cx.P.underlying 259=some (.array 65 5):=by kernel_rfl
theorem Hc:dG cx.P 265=some [.str []]:=by kernel_rfl
theorem Jw:gh cx.P 265=none:=by kernel_rfl
theorem Nh:ty cx.P 265=some (1,true):=by kernel_rfl
theorem EF:jn cx.P 265 0=some (0,1,false):=by kernel_rfl
theorem EU:eT cx.P 274=some ([.str [],.val .nilFunc],[(0,1),(1,1)]):=by kernel_rfl
theorem Mr:cE cx.P 275=some ([.str [],.val .nilFunc],24):=by kernel_rfl
theorem Jv:cx.P.underlying 275=some (.slice 274):=by kernel_rfl
theorem MA:cm cx.P 275=true:=by kernel_rfl
theorem MY:jf cx.P 275=some 274:=by kernel_rfl
theorem Jj:qK cx.P 275=none:=by kernel_rfl
theorem JY:mC cx.P 275=some (none,2,true):=by kernel_rfl
theorem MZ:ty cx.P 274=some (2,true):=by kernel_rfl
theorem IL:dG cx.P 274=some [.str [],.val .nilFunc]:=by kernel_rfl
theorem JA:gh cx.P 274=none:=by kernel_rfl
theorem E2:jn cx.P 274 0=some (0,1,false):=by kernel_rfl
theorem Ee:jn cx.P 274 1=some (1,1,false):=by kernel_rfl
theorem Mu:ty cx.P 272=some (1,false):=by kernel_rfl
theorem Kz:mC cx.P 249=some (some 256,1,false):=by kernel_rfl
theorem Db:eT cx.P 265=some ([.str []],[(0,1)]):=by kernel_rfl
theorem Ha:dG cx.P 174=some [.nils]:=by kernel_rfl
theorem Lh:gh cx.P 174=none:=by kernel_rfl
theorem Ji:mC cx.P 289=some (some 32,1,false):=by kernel_rfl
theorem KE:mC cx.P 290=some (some 64,1,false):=by kernel_rfl
theorem JG:mC cx.P 292=some (some 256,1,false):=by kernel_rfl
theorem Ls:mC cx.P 295=some (some 16,2,true):=by kernel_rfl
theorem Nl:ty cx.P 294=some (2,true):=by kernel_rfl
theorem Ho:dG cx.P 294=some [.int .u8 0,.int .u8 0]:=by kernel_rfl
theorem JB:gh cx.P 294=none:=by kernel_rfl
theorem ET:jn cx.P 294 0=some (0,1,false):=by kernel_rfl
theorem EK:jn cx.P 294 1=some (1,1,false):=by kernel_rfl
theorem L6:ty cx.P 120=some (1,false):=by kernel_rfl
theorem FG:eT cx.P 303=some ([.str [],.str [],.val .nilIface],[(0,1),(1,1),(2,1)]):=by kernel_rfl
theorem Fk:jn cx.P 303 2=some (2,1,false):=by kernel_rfl
set_option linter.defProp false in
def ah:=(Ai Oq (Ai Pz (Ai N7 (Ai G8 (Ai Ot (Ai GZ (Ai Of (Ai Mi (Ai MI (Ai OI (Ai ON (Ai NO (Ai L9 (Ai Hg (Ai Od (Ai L2 (Ai Om (Ai O0 (Ai LV (Ai FU (Ai Pm (Ai Mq (Ai OG (Ai NM (Ai Hv (Ai GX (Ai Nx (Ai Og (Ai Oa (Ai OQ (Ai Mh (Ai MF (Ai Pu (Ai II (Ai PD (Ai Oy (Ai Hf (Ai J7 (Ai M7 (Ai IU (Ai Iy (Ai OH (Ai K7 (Ai Ns (Ai Ja (Ai MT (Ai OV (Ai Mx (Ai N8 (Ai O6 (Ai KI (Ai MH (Ai N6 (Ai HH (Ai Jc (Ai M5 (Ai Oe (Ai Ij (Ai Jk (Ai Nf (Ai Oz (Ai F0 (Ai MO (Ai H0 (Ai JI (Ai NR (Ai OJ (Ai HI (Ai JP (Ai Nj (Ai Ow (Ai Hb (Ai KG (Ai NI (Ai NS (Ai NF (Ai KF (Ai I0 (Ai MS (Ai Li (Ai NB (Ai My (Ai KX (Ai KV (Ai OK (Ai Ol (Ai GU (Ai ID (Ai N0 (Ai L8 (Ai N4 (Ai Oh (Ai Oc (Ai NP (Ai Nu (Ai LZ (Ai E7 (Ai HC (Ai Jb (Ai EG (Ai Nc (Ai Jm (Ai MV (Ai ML (Ai Mb (Ai JU (Ai IB (Ai IZ (Ai L0 (Ai E6 (Ai Dc (Ai OO (Ai Jz (Ai NH (Ai H1 (Ai Lj (Ai NL (Ai Mp (Ai LC (Ai KP (Ai Mc (Ai H7 (Ai K4 (Ai NU (Ai GH (Ai Ju (Ai Dp (Ai EH (Ai DO (Ai Jg (Ai Dg (Ai E8 (Ai DD (Ai Ej (Ai Eg (Ai EB (Ai Ed (Ai D4 (Ai Dl (Ai Dv (Ai Dm (Ai M8 (Ai G0 (Ai KR (Ai C3 (Ai Mn (Ai CC (Ai MJ (Ai NQ (Ai L4 (Ai Lf (Ai JW (Ai Mj (Ai OD (Ai Iz (Ai Kx (Ai Lu (Ai JS (Ai I6 (Ai DC (Ai MU (Ai Kv (Ai J8 (Ai Fs (Ai Fc (Ai Eh (Ai Gw (Ai I5 (Ai MG (Ai JD (Ai Ky (Ai MP (Ai JH (Ai FI (Ai Jo (Ai I2 (Ai KL (Ai KS (Ai Hc (Ai Jw (Ai Nh (Ai EF (Ai EU (Ai Mr (Ai Jv (Ai MA (Ai MY (Ai Jj (Ai JY (Ai MZ (Ai IL (Ai JA (Ai E2 (Ai Ee (Ai Mu (Ai Kz (Ai Db (Ai Ha (Ai Lh (Ai Ji (Ai KE (Ai JG (Ai Ls (Ai Nl (Ai Ho (Ai JB (Ai ET (Ai EK (Ai L6 (Ai FG (Ai Fk True.intro)))))))))))))))))))))))))))))))))))))))))))))))))))))))))))))))))))))))))))))))))))))))))))))))))))))))))))))))))))))))))))))))))))))))))))))))))))))))))))))))))))))))))))))))))))))))))))))))))))))))))))))))))))
theorem Nb:gy cx.P 3=some (.int .i64):=by kernel_rfl
theorem I4:gy cx.P 44=some (.struct [9,9,9]):=by kernel_rfl
theorem JE:gy cx.P 45=some (.slice 44 3 48):=by kernel_rfl
theorem jJ:gy cx.P 9=some .str:=by kernel_rfl
theorem Nk:gy cx.P 5=some (.int .u8):=by kernel_rfl
theorem Lp:gy cx.P 47=some (.struct [5,9,9,45,9,3]):=by kernel_rfl
theorem rl:gy cx.P 22=some (.slice 47 6 88):=by kernel_rfl
end Go.Proofs.YtidmkaalhmeflaaGreatDoor
namespace Go.Proofs.YtidmkaalhmeflaaGreatDoor
set_option maxRecDepth 100000
set_option maxHeartbeats 32000000
set_option linter.unusedSimpArgs false
set_option linter.unusedVariables false
open Go Go.RowKit
def gR (n:Int):Bool:=decide (n=9∨n=10∨n=13∨(32≤n∧n≤1114111 ∧ ¬(55296≤n∧n≤57343)∧n≠65534∧n≠65535))
theorem gj (n:Int):gR n=true↔(n=9∨n=10∨n=13∨(32≤n∧n≤1114111 ∧ ¬(55296≤n∧n≤57343)∧n≠65534∧n≠65535)):=by
 unfold gR;exact decide_eq_true_iff
theorem N1 {n:Int}(h:n=9∨n=10∨n=13∨(32≤n∧n≤1114111 ∧ ¬(55296≤n∧n≤57343)∧n≠65534∧n≠65535)):true=gR n:=((gj n).2 h).symm
theorem OT {n:Int}(h:¬(n=9∨n=10∨n=13∨(32≤n∧n≤1114111 ∧ ¬(55296≤n∧n≤57343)∧n≠65534∧n≠65535))):false=gR n:=by
 unfold gR;symm;exact decide_eq_false_iff_not.2 h
theorem fq {n:Int}(h:gR n=true):0≤n∧n≤1114111∧(2048≤n→n≤65535→(2048≤n∧n<55296)∨(57343<n∧n≤65535)):=by
 have:=(gj n).1 h
 refine⟨by omega,by omega,fun a b=>by omega⟩
def enc (l:List Int):List UInt8:=l.flatMap Lib.encodeRune
def u8 (b:UInt8):Value:=.int .u8 (b.toNat:Int)
def li (l:List Int):Int:=if l.all gR then (if 16384<(enc l).length then 4 else 0) else 50
def kU (l:List Int):List UInt8:=if li l=0 then enc l else []
theorem FV (a:List Int)(x:Int):enc (a++[x])=enc a++Lib.encodeRune x:=by simp[enc]
theorem bv (x:Int):1≤(Lib.encodeRune x).length∧(Lib.encodeRune x).length≤4:=by
 unfold Lib.encodeRune Lib.encodeRuneZ
 repeat' split
 all_goals simp
theorem BD (l:List Int):(enc l).length≤4*l.length:=by
 induction l with
 | nil=>simp[enc]
 | cons x l ih =>
  have:=(bv x).2
  simp only[enc,List.flatMap_cons,List.length_append,List.length_cons]at ih ⊢
  omega
theorem EO {l:List Int}{k:Nat}(hk:k<l.length)(h:gR (l.getD k 0)=false):li l=50:=by
 unfold li
 rw[if_neg]
 intro hall
 have:=List.all_eq_true.1 hall (l[k]) (List.getElem_mem hk)
 simp[List.getD_eq_getElem?_getD,hk]at h
 rw[h]at this;cases this
theorem zf {l:List Int}{k:Nat}(hk:k<l.length)(h:(l.take k).all gR=true)(hm:gR (l.getD k 0)=true):(l.take (k+1)).all gR=true:=by
 rw[List.take_succ_eq_append_getElem hk,List.all_append,h]
 simp[List.getD_eq_getElem?_getD,hk]at hm
 simp[hm]
end Go.Proofs.YtidmkaalhmeflaaGreatDoor
namespace Go.Proofs.YtidmkaalhmeflaaGreatDoor
set_option maxRecDepth 100000
set_option maxHeartbeats 32000000
set_option linter.unusedSimpArgs false
set_option linter.unusedVariables false
open Go Go.RowKit Go.Lib
def one (l:List UInt8):Option (Int×Nat) :=
 if l=[] then none
 else if (decodeL l).1=65533∧(decodeL l).2=1 then none
 else if gR ((decodeL l).1:Int) then some (((decodeL l).1:Int),(decodeL l).2) else none
def yg:Nat→List UInt8→Option (List Int)
 | _,[]=>some []
 | 0,_=>none
 | f+1,l=>match one l with
  | none=>none
  | some (z,k)=>(yg f (l.drop k)).map (z :: ·)
def dZ (l:List UInt8):Option (List Int):=yg l.length l
theorem l6 {l:List UInt8}{z:Int}{k:Nat}(h:one l=some (z,k)):l≠[]∧gR z=true∧encodeRune z=l.take k∧1≤k∧k≤l.length:=by
 unfold one at h
 split at h
 ·cases h
 rename_i hne
 split at h
 ·cases h
 rename_i hv
 split at h
 ·rename_i hm
  simp only[Option.some.injEq,Prod.mk.injEq]at h
  obtain⟨rfl,rfl⟩:=h
  have he:=encode_decode l hne hv
  have hle:=decodeL_le l hne
  refine⟨hne,hm,he,?_,hle⟩
  have:=(bv ((decodeL l).1:Int)).1
  rw[he,List.length_take]at this
  omega
 ·cases h
theorem lb {x:Int}(h0:0≤x)(h1:x<256):(x.toNat.toUInt8).toNat=x.toNat:=by simp;omega
theorem wv {z:Int}(hm:gR z=true)(rest:List UInt8):one (encodeRune z++rest)=some (z,(encodeRune z).length):=by
 have hmz:=(gj z).1 hm
 have key:decodeL (encodeRune z++rest)=(z.toNat,(encodeRune z).length):=by
  rw[decodeL_N]
  by_cases c1:0≤z∧z≤127
  ·have e:encodeRune z=[z.toNat.toUInt8]:=by simp[encodeRune,encodeRuneZ_one c1.1 c1.2]
   rw[e]
   have a:=lb (x:=z) (by omega) (by omega)
   simp only[List.cons_append,List.nil_append,List.getD_cons_zero,List.length_cons,List.length_nil,a,decodeN]
   rw[if_pos (by omega)]
  ·by_cases c2:128≤z∧z≤2047
   ·have e:encodeRune z=[(192+z / 64).toNat.toUInt8,(128+z % 64).toNat.toUInt8]:=by simp[encodeRune,encodeRuneZ_two c2.1 c2.2]
    rw[e]
    have a:=lb (x:=192+z / 64) (by omega) (by omega)
    have b:=lb (x:=128+z % 64) (by omega) (by omega)
    simp only[List.cons_append,List.nil_append,List.getD_cons_zero,List.getD_cons_succ,List.length_cons,List.length_nil,a,b,decodeN]
    rw[if_neg (by omega),if_pos (by omega),if_pos (by omega)]
    simp only[Prod.mk.injEq,and_true];omega
   ·by_cases c3:z≤65535
    ·have e:encodeRune z=[(224+z / 4096).toNat.toUInt8,(128+z / 64 % 64).toNat.toUInt8,(128+z % 64).toNat.toUInt8]:=by simp[encodeRune,encodeRuneZ_three (r:=z) (by omega)]
     rw[e]
     have a:=lb (x:=224+z / 4096) (by omega) (by omega)
     have b:=lb (x:=128+z / 64 % 64) (by omega) (by omega)
     have c:=lb (x:=128+z % 64) (by omega) (by omega)
     simp only[List.cons_append,List.nil_append,List.getD_cons_zero,List.getD_cons_succ,List.length_cons,List.length_nil,a,b,c,decodeN]
     rw[if_neg (by omega),if_neg (by omega),if_pos (by omega),if_pos (by omega)]
     simp only[Prod.mk.injEq,and_true];omega
    ·have e:encodeRune z=[(240+z / 262144).toNat.toUInt8,(128+z / 4096 % 64).toNat.toUInt8,(128+z / 64 % 64).toNat.toUInt8,(128+z % 64).toNat.toUInt8]:=by simp[encodeRune,encodeRuneZ_four (r:=z) (by omega) (by omega)]
     rw[e]
     have a:=lb (x:=240+z / 262144) (by omega) (by omega)
     have b:=lb (x:=128+z / 4096 % 64) (by omega) (by omega)
     have c:=lb (x:=128+z / 64 % 64) (by omega) (by omega)
     have d:=lb (x:=128+z % 64) (by omega) (by omega)
     simp only[List.cons_append,List.nil_append,List.getD_cons_zero,List.getD_cons_succ,List.length_cons,List.length_nil,a,b,c,d,decodeN]
     rw[if_neg (by omega),if_neg (by omega),if_neg (by omega),if_pos (by omega),if_pos (by omega)]
     simp only[Prod.mk.injEq,and_true];omega
 have hne:encodeRune z++rest≠[]:=by
  intro h
  have:=(bv z).1
  rw[List.append_eq_nil_iff]at h
  rw[h.1]at this;simp at this
 unfold one
 rw[if_neg hne,key]
 have hz:((z.toNat:Nat):Int)=z:=by omega
 simp only[hz,hm,if_true]
 rw[if_neg]
 rintro ⟨h1,h2⟩
 have hz2:z=65533:=by omega
 subst hz2
 revert h2
 decide
theorem vw:∀(f g:Nat) (l:List UInt8),l.length≤f→l.length≤g→yg f l=yg g l
 | _,_,[],_,_=>by simp[yg]
 | 0,_,x::l,h,_=>by simp at h
 | _,0,x::l,_,h=>by simp at h
 | f+1,g+1,x::l,hf,hg=>by
  simp only[yg]
  cases h1:one (x::l) with
  | none=>rfl
  | some p =>
   obtain⟨z,k⟩:=p
   obtain⟨_,_,_,hk,_⟩:=l6 h1
   simp only
   rw[vw f g ((x::l).drop k) (by simp at hf ⊢;omega) (by simp at hg ⊢;omega)]
theorem rH:dZ []=some []:=rfl
theorem lI {l:List UInt8}{z:Int}{k:Nat}(h:one l=some (z,k)):dZ l=(dZ (l.drop k)).map (z :: ·):=by
 obtain⟨hne,_,_,hk,hkl⟩:=l6 h
 obtain⟨x,l',rfl⟩:=List.exists_cons_of_ne_nil hne
 unfold dZ
 rw[show(x::l').length=l'.length+1 from rfl]
 simp only[yg,h]
 rw[vw l'.length ((x::l').drop k).length _ (by simp;omega) (Nat.le_refl _)]
theorem xa {l:List UInt8}(hne:l≠[])(h:one l=none):dZ l=none:=by
 obtain⟨x,l',rfl⟩:=List.exists_cons_of_ne_nil hne
 unfold dZ
 rw[show(x::l').length=l'.length+1 from rfl]
 simp only[yg,h]
theorem gX:∀(zs:List Int),zs.all gR=true→dZ (enc zs)=some zs
 | [],_=>rfl
 | z::zs,h=>by
  simp only[List.all_cons,Bool.and_eq_true]at h
  have e:enc (z::zs)=encodeRune z++enc zs:=by simp[enc]
  rw[e,lI (wv h.1 (enc zs)),List.drop_left,gX zs h.2]
  rfl
theorem zx:∀(n:Nat) (l:List UInt8) (zs:List Int),l.length≤n→dZ l=some zs→zs.all gR=true∧enc zs=l
 | 0,l,zs,hn,h=>by
  have:l=[]:=List.eq_nil_of_length_eq_zero (by omega)
  subst this
  rw[rH]at h
  cases h
  exact⟨rfl,rfl⟩
 | n+1,l,zs,hn,h=>by
  by_cases hne:l=[]
  ·subst hne
   rw[rH]at h
   cases h
   exact⟨rfl,rfl⟩
  ·cases h1:one l with
   | none=>rw[xa hne h1]at h;cases h
   | some p =>
    obtain⟨z,k⟩:=p
    obtain⟨_,hm,he,hk,hkl⟩:=l6 h1
    rw[lI h1]at h
    obtain⟨zs',h2,rfl⟩:=Option.map_eq_some_iff.1 h
    obtain⟨ha,hb⟩:=zx n (l.drop k) zs' (by simp;omega) h2
    refine⟨by simp[hm,ha],?_⟩
    show encodeRune z++enc zs'=l
    rw[he,hb,List.take_append_drop]
theorem oG (l:List UInt8)(zs:List Int):dZ l=some zs↔zs.all gR=true∧enc zs=l :=
 ⟨fun h=>zx l.length l zs (Nat.le_refl _) h,fun ⟨h1,h2⟩=>by rw[← h2,gX zs h1]⟩
theorem Af {l:List UInt8}(h:hasPrefix l [239,191,189]=true):∃ rest,l=encodeRune 65533++rest:=by
 unfold hasPrefix at h
 obtain⟨rest,hr⟩:=List.isPrefixOf_iff_prefix.1 h
 exact⟨rest,by rw[← hr];congr 1⟩
theorem y5 {l:List UInt8}(h:hasPrefix l [239,191,189]=true):(decodeL l).2≠1:=by
 obtain⟨rest,rfl⟩:=Af h
 have h1:=wv (z:=65533) (by decide) rest
 unfold one at h1
 split at h1
 ·cases h1
 split at h1
 ·cases h1
 rename_i hv
 split at h1
 ·simp only[Option.some.injEq,Prod.mk.injEq]at h1
  rw[h1.2]
  decide
 ·cases h1
theorem uJ {l:List UInt8}(hne:l≠[]):one l=if ((decodeL l).1=65533∧hasPrefix l [239,191,189]=false)∨gR ((decodeL l).1:Int)=false then none else some (((decodeL l).1:Int),(decodeL l).2):=by
  unfold one
  rw[if_neg hne]
  by_cases h1:(decodeL l).1=65533∧(decodeL l).2=1
  · rw[if_pos h1,if_pos]
    left
    refine⟨h1.1,?_⟩
    cases hp:hasPrefix l [239,191,189] with
    | false=>rfl
    | true=>exact absurd h1.2 (y5 hp)
  · rw [if_neg h1]
    by_cases h2:(decodeL l).1=65533
    · have he:=encode_decode l hne h1
      rw[h2]at he
      have hp:hasPrefix l [239,191,189]=true:=by
        unfold hasPrefix
        rw[List.isPrefixOf_iff_prefix,show([239,191,189]:List UInt8)=encodeRune ((65533:Nat):Int) from by decide,he]
        exact List.take_prefix _ _
      rw[hp]
      by_cases hm:gR ((decodeL l).1:Int)=true
      · simp[hm]
      · simp[hm]
    · by_cases hm:gR ((decodeL l).1:Int)=true
      · simp[hm,h2]
      · simp[hm,h2]
theorem xV (s:ByteArray)(pos:Nat):Utf8.decode s pos=decodeL (s.data.toList.drop pos):=by
 have h:=tail_decode s pos 0
 rw[Nat.add_zero]at h
 rw[← h]
 unfold decodeL
 congr 1
 have h2:(s.extract pos s.size).data.toList=s.data.toList.drop pos:=by
  rw[extract_data,List.take_of_length_le]
  simp
 apply ByteArray.ext
 apply Array.ext'
 simpa using h2
def aQ (l:List UInt8):Int:=if 16384<l.length then 4 else match dZ l with|none=>50|some _=>0
theorem ss {s:List UInt8}(h:aQ s=0):s.length≤16384:=by
 unfold aQ at h
 split at h
 ·omega
 ·omega
def Le (q:Bool)(c:UInt8):List UInt8 :=
 if c=38 then [38,97,109,112,59] else if c=60 then [38,108,116,59] else if c=62 then [38,103,116,59] else if c=13 then [38,35,49,51,59]
 else if q=true then (if c=34 then [38,113,117,111,116,59] else if c=9 then [38,35,57,59] else if c=10 then [38,35,49,48,59] else [c]) else [c]
def yl (q:Bool)(s:List UInt8):List UInt8:=s.flatMap (Le q)
theorem yR (q:Bool)(c:UInt8):1≤(Le q c).length∧(Le q c).length≤6:=by
 unfold Le
 repeat' split
 all_goals simp
theorem ju (q:Bool)(s:List UInt8):s.length≤(yl q s).length∧(yl q s).length≤6*s.length:=by
 induction s with
 | nil=>simp[yl]
 | cons c s ih =>
  have:=yR q c
  simp only[yl,List.flatMap_cons,List.length_append,List.length_cons]at ih ⊢
  omega
theorem Cu:∀(p:List Int) (r:List UInt8),p.all gR=true→dZ (enc p++r)=(dZ r).map (p ++ ·)
 | [],r,_=>by simp[enc]
 | z::p,r,h=>by
  simp only[List.all_cons,Bool.and_eq_true]at h
  have e:enc (z::p)++r=encodeRune z++(enc p++r):=by simp[enc]
  rw[e,lI (wv h.1 _),List.drop_left,Cu p r h.2,Option.map_map]
  congr 1
theorem si {a b:List UInt8}{x y:List Int}(ha:dZ a=some x)(hb:dZ b=some y):dZ (a++b)=some (x++y):=by
 obtain⟨h1,rfl⟩:=(oG a x).1 ha
 rw[Cu x b h1,hb];rfl
def On (c:UInt8):Bool:=(decide (97≤c.toNat)&&decide (c.toNat≤122))||(decide (65≤c.toNat)&&decide (c.toNat≤90))||decide (c=95)
def jb (first:Bool)(c:UInt8):Bool:=On c||(!first&&((decide (48≤c.toNat)&&decide (c.toNat≤57))||decide (c=46)||decide (c=45)))
def dc:List UInt8→Bool
 | []=>false
 | c::r=>jb true c&&r.all (jb false)
def dP (d:UInt8):List UInt8→Option (List UInt8×List UInt8)
 | []=>none
 | c::r=>if c=d then some ([],r) else (dP d r).map (fun p=>(c::p.1,p.2))
def b8 (s:List UInt8):Bool:=match dP 58 s with
 | none=>dc s
 | some (a,b)=>dc a&&dc b
theorem fQ {d:UInt8} : ∀ {s:List UInt8},dP d s=none↔d ∉ s
 | []=>by simp[dP]
 | c::r=>by
  simp only[dP]
  by_cases h:c=d
  ·simp[h]
  ·rw[if_neg h]
   simp only[Option.map_eq_none_iff,fQ (s:=r),List.mem_cons,not_or]
   constructor
   ·intro h2;exact⟨fun e=>h e.symm,h2⟩
   ·intro h2;exact h2.2
theorem eG {d:UInt8} : ∀ {s a b:List UInt8},dP d s=some (a,b)→s=a++d::b∧d ∉ a
 | [],a,b,h=>by simp[dP]at h
 | c::r,a,b,h=>by
  simp only[dP]at h
  by_cases hc:c=d
  ·rw[if_pos hc]at h;cases h;subst hc;simp
  ·rw[if_neg hc]at h
   obtain⟨⟨a',b'⟩,h1,h2⟩:=Option.map_eq_some_iff.1 h
   cases h2
   obtain⟨e1,e2⟩:=eG h1
   refine⟨by rw[e1];rfl,?_⟩
   simp only[List.mem_cons,not_or]
   exact⟨fun e=>hc e.symm,e2⟩
theorem mE {d:UInt8} : ∀ {a b:List UInt8},d ∉ a→dP d (a++d::b)=some (a,b)
 | [],b,_=>by simp[dP]
 | c::a,b,h=>by
  simp only[List.mem_cons,not_or]at h
  simp only[List.cons_append,dP]
  rw[if_neg (fun e=>h.1 e.symm),mE h.2];rfl
theorem LB {d:UInt8}{s:List UInt8}{i:Nat}(h1:d ∉ s.take i)(h2:s[i]? = some d):dP d s=some (s.take i,s.drop (i+1)):=by
 obtain⟨hi,he⟩:=List.getElem?_eq_some_iff.1 h2
 have:s=s.take i++d::s.drop (i+1):=by
  conv=>lhs;rw[← List.take_append_drop i s]
  rw[List.drop_eq_getElem_cons hi,he]
 have h3:=mE (b:=s.drop (i+1)) h1
 rwa[← this]at h3
theorem ii {d:UInt8}{s:List UInt8} : indexByte s d = -1↔dP d s=none:=by
 rw[fQ]
 constructor
 ·intro h hm
  obtain⟨k,hk,rfl⟩:=List.getElem_of_mem hm
  exact indexByte_none h k (List.getElem?_eq_getElem hk)
 ·intro h
  have hge:=indexByte_ge s d
  by_cases hneg:indexByte s d = -1
  ·exact hneg
  ·obtain⟨o,ho⟩:∃ o:Nat,indexByte s d=o:=⟨(indexByte s d).toNat,by omega⟩
   exact absurd (List.mem_of_getElem? (indexByte_some ho).1) h
theorem jw {d:UInt8}{s a b:List UInt8}(h:dP d s=some (a,b)):indexByte s d=a.length∧s.take a.length=a∧s.drop (a.length+1)=b∧a.length+1+b.length=s.length:=by
 obtain⟨h1,h2⟩:=eG h
 have hne:indexByte s d ≠ -1:=fun e=>by rw[ii.1 e]at h;cases h
 have hge:=indexByte_ge s d
 obtain⟨o,ho⟩:∃ o:Nat,indexByte s d=o:=⟨(indexByte s d).toNat,by omega⟩
 obtain⟨g1,g2⟩:=indexByte_some ho
 have hat:=LB (i:=o) (fun hm=>by
  obtain⟨k,hk,he⟩:=List.getElem_of_mem hm
  rw[List.length_take]at hk
  rw[List.getElem_take]at he
  exact g2 k (by omega) (by rw[List.getElem?_eq_getElem (by omega),he])) g1
 rw[h]at hat
 cases hat
 have hlt:=(List.getElem?_eq_some_iff.1 g1).1
 have hl:(s.take o).length=o:=by rw[List.length_take];omega
 rw[hl]
 refine⟨ho,rfl,rfl,?_⟩
 rw[List.length_drop];omega
def ro (s:List UInt8)(k:Nat):Prop:=∀(i:Nat) (c:UInt8),i<k→s[i]? = some c→jb (i==0) c=true
theorem Ap {s:List UInt8}(hne:s≠[])(h:ro s s.length):dc s=true:=by
 cases s with
 | nil=>exact absurd rfl hne
 | cons c r =>
  have h0:=h 0 c (by simp) (by simp)
  simp only[beq_self_eq_true]at h0
  simp only[dc,h0,Bool.true_and,List.all_eq_true]
  intro x hx
  obtain⟨k,hk,rfl⟩:=List.getElem_of_mem hx
  have:=h (k+1) r[k] (by simp;omega) (by simp[hk])
  have h3:((k+1)==0)=false:=beq_false_of_ne (by omega)
  rwa[h3]at this
theorem yW {s:List UInt8}{k:Nat}{c:UInt8}(hc:s[k]? = some c)(h:jb (k==0) c=false):dc s=false:=by
 cases s with
 | nil=>simp at hc
 | cons x r =>
  cases k with
  | zero =>
   simp at hc;subst hc
   simp only[beq_self_eq_true]at h
   simp[dc,h]
  | succ k =>
   have h3:((k+1)==0)=false:=beq_false_of_ne (by omega)
   rw[h3]at h
   simp only[List.getElem?_cons_succ]at hc
   simp only[dc,Bool.and_eq_false_iff,List.all_eq_false]
   right
   exact⟨c,List.mem_of_getElem? hc,by rw[h];simp⟩
theorem gp (c d:UInt8):((c.toNat:Int)==(d.toNat:Int))=decide (c=d):=by
 rw[Bool.eq_iff_iff,beq_iff_eq,decide_eq_true_iff]
 constructor
 ·intro h;exact UInt8.toNat_inj.1 (by omega)
 ·rintro rfl;rfl
theorem eR {s:List UInt8} : aQ s=0↔s.length≤16384∧(dZ s).isSome=true:=by
 unfold aQ
 split
 ·constructor
  ·intro h;omega
  ·rintro ⟨h,_⟩;omega
 ·rename_i hl
  cases dZ s with
  | none=>simp
  | some z=>simp;omega
structure Pr where
 name:List UInt8
 value:List UInt8
deriving DecidableEq
structure Tk where
 kind:Nat
 name:List UInt8
 attrs:List Pr
 text:List UInt8
deriving DecidableEq
def Nn (l:List Pr)(a:Pr):Bool:=!(l.any fun b=>a.name==b.name)&&b8 a.name&&decide (aQ a.value=0)
def iH (l:List Pr)(k:Nat):Prop:=∀(i:Nat) (a:Pr),i<k→l[i]? = some a→Nn (l.take i) a=true
def i0 (l:List Pr):Bool:=decide (l.length≤16)&&l.zipIdx.all fun p=>Nn (l.take p.2) p.1
theorem iM {l:List Pr} : i0 l=true↔l.length≤16∧iH l l.length:=by
 unfold i0 iH
 simp only[Bool.and_eq_true,decide_eq_true_eq,List.all_eq_true]
 refine and_congr_right fun _=>⟨fun h i a hi ha=>?_,fun h p hp=>?_⟩
 ·refine h (a,i) ?_
  rw[List.mem_zipIdx_iff_getElem?];exact ha
 ·have:=(List.mem_zipIdx_iff_getElem?).1 hp
  exact h p.2 p.1 (List.getElem?_eq_some_iff.1 this).1 this
def gI (t:Tk):Bool :=
 if t.kind=1∨t.kind=3 then b8 t.name&&i0 t.attrs&&t.text.isEmpty
 else if t.kind=2 then b8 t.name&&t.attrs.isEmpty&&t.text.isEmpty
 else if t.kind=4 then t.name.isEmpty&&t.attrs.isEmpty && !t.text.isEmpty&&decide (aQ t.text=0)
 else false
def ND (t:Tk):Int:=if gI t=true then 0 else 8
def uf (a:Pr):List UInt8:=[32]++a.name++[61,34]++yl true a.value++[34]
def iv (l:List Pr):List UInt8:=l.flatMap uf
def pO (t:Tk):List UInt8 :=
 if t.kind=4 then yl false t.text
 else if t.kind=2 then [60,47]++t.name++[62]
 else [60]++t.name++iv t.attrs++(if t.kind=3 then [47,62] else [62])
def ov (l:List Tk):List UInt8:=l.flatMap pO
def zl:List Tk→Bool
 | a::b::r=>(a.kind==4&&b.kind==4)||zl (b::r)
 | _=>false
theorem tW {α:Type}{f:α→Nat}{l:List α}{x:α}(h:x∈l):f x≤(l.map f).sum:=by
 induction l with
 | nil=>simp at h
 | cons y l ih =>
  simp only[List.map_cons,List.sum_cons]
  rcases List.mem_cons.1 h with rfl|h
  ·omega
  ·have:=ih h;omega
structure At where
 space:List UInt8
 name:List UInt8
 value:List UInt8
deriving DecidableEq
structure Nd where
 kind:Nat
 space:List UInt8
 name:List UInt8
 attrs:List At
 text:List UInt8
 many:Int
deriving DecidableEq
structure Gr where
 v:List Nd
 opn:List Nat
def Nd.inc (n:Nd):Nd:={ n with many:=n.many+1 }
def lF (v:List Nd)(opn:List Nat):List Nd:=match opn.getLast? with
 | some k=>v.modify k Nd.inc
 | none=>v
def kw (g:Gr)(n:Nd):List Nd:=lF g.v g.opn++[n]
def iw (c:UInt8):Bool:=c==32||c==9||c==10||c==13
def nQ (s:List UInt8):Bool:=s.all iw
def iQ (s:List UInt8):Nd:=⟨2,[],[],[],s,0⟩
def cR (l:List Pr):List At:=l.map fun a=>⟨[],a.name,a.value⟩
def gq (t:Tk):Nd:=⟨1,[],t.name,cR t.attrs,[],0⟩
def lU (g:Gr):Option (List UInt8):=g.opn.getLast?.bind fun k=>(g.v[k]?).map Nd.name
def stepG (g:Gr)(t:Tk)(txt:Bool):Gr×Int :=
 if t.kind=4 then
  if (txt||(g.opn.isEmpty && !nQ t.text))=true then (g,80)
  else if g.opn.isEmpty=true then (g,0) else (⟨kw g (iQ t.text),g.opn⟩,0)
 else if t.kind=2 then
  if lU g=some t.name then (⟨g.v,g.opn.dropLast⟩,0) else (g,80)
 else if (g.opn.isEmpty && !g.v.isEmpty)=true then (g,80)
 else if 12≤g.opn.length then (g,100)
 else (⟨kw g (gq t),if t.kind=1 then g.opn++[g.v.length] else g.opn⟩,0)
def uh:Gr→Bool→List Tk→Gr×Int
 | g,_,[]=>(g,0)
 | g,txt,t::r=>if (stepG g t txt).2=0 then uh (stepG g t txt).1 (t.kind==4) r else stepG g t txt
def cP (l:List Tk):Int:=if 512<l.length then 4 else if (l.any fun t=>!gI t)=true then 8 else
 if (uh ⟨[],[]⟩ false l).2≠0 then (uh ⟨[],[]⟩ false l).2 else if (uh ⟨[],[]⟩ false l).1.v.isEmpty=true∨(uh ⟨[],[]⟩ false l).1.opn.isEmpty=false then 80 else 0
def dn (l:List Tk):List Nd:=if cP l=0 then (uh ⟨[],[]⟩ false l).1.v else []
structure Gr.Ok (g:Gr) (n:Nat):Prop where
 in_:∀ k∈g.opn,k<g.v.length
 deep:g.opn.length≤12
 many:∀ x∈g.v,0≤x.many∧x.many≤n
 len:g.v.length≤n
theorem yL (v:List Nd)(o:List Nat):(lF v o).length=v.length:=by
 unfold lF
 split<;>simp
theorem fT (g:Gr)(n:Nd):(kw g n).length=g.v.length+1:=by simp[kw,yL]
theorem FY {v:List Nd}{o:List Nat}{n:Nat}(h:∀ x∈v,0≤x.many∧x.many≤n):∀ x∈lF v o,0≤x.many∧x.many≤((n+1:Nat):Int):=by
 intro x hx
 unfold lF at hx
 split at hx
 ·rename_i k _
  obtain⟨i,hi⟩:=List.mem_iff_getElem?.1 hx
  rw[List.getElem?_modify]at hi
  cases hv:v[i]? with
  | none=>rw[hv]at hi;simp at hi
  | some y =>
   rw[hv]at hi
   have:=h y (List.mem_of_getElem? hv)
   split at hi
   ·simp at hi;subst hi;simp only[Nd.inc];omega
   ·simp at hi;subst hi;omega
 ·have:=h x hx;omega
theorem FQ {g:Gr}{n:Nat}(h:g.Ok n){x:Nd}(hx:x.many=0):(∀ k∈g.opn,k<(kw g x).length)∧(∀ y∈kw g x,0≤y.many∧y.many≤((n+1:Nat):Int))∧(kw g x).length≤n+1:=by
 refine⟨fun k hk=>?_,fun y hy=>?_,?_⟩
 ·have:=h.in_ k hk;rw[fT];omega
 ·rcases List.mem_append.1 hy with hy|hy
  ·exact FY h.many y hy
  ·simp at hy;subst hy;omega
 ·rw[fT];have:=h.len;omega
theorem B9 {g:Gr}{n:Nat}(h:g.Ok n)(t:Tk)(txt:Bool):(stepG g t txt).1.Ok (n+1):=by
 have h0:g.Ok (n+1):=⟨h.in_,h.deep,fun x hx=>by have:=h.many x hx;omega,by have:=h.len;omega⟩
 unfold stepG
 split
 ·split
  ·exact h0
  ·split
   ·exact h0
   ·obtain⟨h1,h2,h3⟩:=FQ h (x:=iQ t.text) rfl
    exact⟨h1,h.deep,h2,h3⟩
 ·split
  ·split
   ·exact⟨fun k hk=>h.in_ k (List.dropLast_subset _ hk),by simp;have:=h.deep;omega,h0.many,h0.len⟩
   ·exact h0
  ·split
   ·exact h0
   ·split
    ·exact h0
    ·rename_i h12
     obtain⟨h1,h2,h3⟩:=FQ h (x:=gq t) rfl
     refine⟨fun k hk=>?_,?_,h2,h3⟩
     ·simp only at hk
      split at hk
      ·rcases List.mem_append.1 hk with hk|hk
       ·exact h1 k hk
       ·simp at hk;subst hk;simp only[fT];omega
      ·exact h1 k hk
     ·simp only
      split
      ·simp;omega
      ·exact h.deep
theorem yN:(Gr.mk [] []).Ok 0:=Gr.Ok.mk (fun k h=>by simp at h) (by simp) (fun x h=>by simp at h) (by simp)
theorem vf {v:List Nd}{o:List Nat}{k:Nat}(h:o.getLast? = some k):lF v o=v.modify k Nd.inc:=by unfold lF;rw[h]
theorem AF {v:List Nd}{k:Nat}{x:Nd}(h:v[k]? = some x):v.modify k Nd.inc=v.set k x.inc:=by
 refine List.ext_getElem? fun i=>?_
 rw[List.getElem?_modify,List.getElem?_set]
 have hk:=(List.getElem?_eq_some_iff.1 h).1
 by_cases e:k=i
 ·subst e;have hv:=(List.getElem?_eq_some_iff.1 h).2;simp[hk,hv]
 ·simp[e]
theorem lV {o:List Nat}{k:Nat}(h:o.getLast? = some k):o≠[]∧o[o.length-1]? = some k∧0<o.length:=by
 have hne:o≠[]:=by intro e;subst e;simp at h
 rw[List.getLast?_eq_getElem?]at h
 exact⟨hne,h,List.length_pos_iff.2 hne⟩
theorem pM {o:List Nat}(h:o≠[]):∃ k,o.getLast? = some k:=⟨_,List.getLast?_eq_some_getLast h⟩
theorem Ip {l:List Tk} : ∀ {g:Gr} {txt:Bool} {t:Tk} {r:List Tk},l=t::r→(stepG g t txt).2=0→uh g txt l=uh (stepG g t txt).1 (t.kind==4) r:=by
 intro g txt t r h h0
 subst h
 rw[uh,if_pos h0]
theorem I1 {g:Gr}{txt:Bool}{t:Tk}{r:List Tk}(h0:(stepG g t txt).2≠0):uh g txt (t::r)=stepG g t txt:=by rw[uh,if_neg h0]
theorem IX (g:Gr)(txt:Bool):uh g txt []=(g,0):=rfl
def mQ (c:UInt8):Option Nat:=if 48≤c.toNat∧c.toNat≤57 then some (c.toNat-48) else if 97≤c.toNat∧c.toNat≤102 then some (c.toNat-87) else if 65≤c.toNat∧c.toNat≤70 then some (c.toNat-55) else none
def gM:Nat→List UInt8→Option Nat
 | n,[]=>some n
 | n,c::r=>match mQ c with|none=>none|some d=>gM (16*n+d) r
def o6 (s:List UInt8):Option Nat:=if s=[]∨6<s.length∨s.head? = some 48 then none else gM 0 s
def tP (c:UInt8):Option Nat:=if 48≤c.toNat∧c.toNat≤57 then some (c.toNat-48) else none
def kR:Nat→List UInt8→Option Nat
 | n,[]=>some n
 | n,c::r=>match tP c with|none=>none|some d=>kR (10*n+d) r
def nx (s:List UInt8):Option Nat:=if s=[]∨16<s.length∨(s.head? = some 48∧s≠[48]) then none else (kR 0 s).bind fun n=>if n≤9007199254740991 then some n else none
def eJ (o:Option Nat):Option (List UInt8):=o.bind fun n=>if gR (n:Int)=true then some (encodeRune n) else none
def cp (s:List UInt8):Option (List UInt8) :=
 if s=[97,109,112] then some [38] else if s=[108,116] then some [60] else if s=[103,116] then some [62] else if s=[113,117,111,116] then some [34] else if s=[97,112,111,115] then some [39]
 else if s.head? = some 35 then (if s.tail.head? = some 120 then eJ (o6 s.tail.tail) else eJ (nx s.tail)) else none
theorem rY {d:UInt8}{s a b:List UInt8}(h:dP d s=some (a,b)):b.length<s.length:=by
 have:=(eG h).1
 rw[this];simp;omega
def bV:List UInt8→Option (List UInt8)
 | []=>some []
 | c::r=>if c=60 then none else if c=38 then (match h:dP 59 r with|none=>none|some (a,b)=>match cp a with|none=>none|some x=>(bV b).map (x ++ ·)) else (bV r).map (c :: ·)
termination_by s=>s.length
decreasing_by
 ·have:=rY h;simp;omega
 ·simp
theorem jZ:bV []=some []:=by rw[bV]
theorem ls (r:List UInt8):bV (60::r)=none:=by rw[bV];rfl
theorem fP {c:UInt8}(h1:c≠60)(h2:c≠38)(r:List UInt8):bV (c::r)=(bV r).map (c :: ·):=by rw[bV,if_neg h1,if_neg h2]
theorem jk {r:List UInt8}(h:dP 59 r=none):bV (38::r)=none:=by
 rw[bV,if_neg (by decide),if_pos rfl]
 split
 ·rfl
 ·rename_i e;rw[h]at e;cases e
theorem j7 {r a b:List UInt8}(h:dP 59 r=some (a,b))(hm:cp a=none):bV (38::r)=none:=by
 rw[bV,if_neg (by decide),if_pos rfl]
 split
 ·rfl
 ·rename_i e;rw[h]at e;cases e;rw[hm]
theorem jP {r a b x:List UInt8}(h:dP 59 r=some (a,b))(hm:cp a=some x):bV (38::r)=(bV b).map (x ++ ·):=by
 rw[bV,if_neg (by decide),if_pos rfl]
 split
 ·rename_i e;rw[h]at e;cases e
 ·rename_i e;rw[h]at e;cases e;rw[hm]
theorem C5:cp [97,109,112]=some [38]:=by decide
theorem GR:cp [108,116]=some [60]:=by decide
theorem IE:cp [103,116]=some [62]:=by decide
theorem Bx:cp [113,117,111,116]=some [34]:=by decide
theorem wm {z:Int}(h0:0≤z)(h:z<128):encodeRune z=[z.toNat.toUInt8]:=by
 unfold encodeRune encodeRuneZ
 rw[if_pos (by omega)]
 rfl
theorem oo {z:Int}(h:128≤z):∀ c∈encodeRune z,128≤c.toNat:=by
 intro c hc
 unfold encodeRune encodeRuneZ at hc
 rw[if_neg (by omega)]at hc
 repeat' split at hc
 all_goals (
  simp only[List.map_cons,List.map_nil,List.mem_cons,List.not_mem_nil,or_false]at hc
  rcases hc with rfl|rfl|rfl|rfl<;>(rw[lb (by omega) (by omega)];omega))
theorem tz {c:UInt8}{d:Nat}(h:tP c=some d):d≤9∧c=UInt8.ofNat (48+d)∧c.toNat=48+d:=by
 unfold tP at h
 split at h
 ·cases h
  refine⟨by omega,?_,by omega⟩
  have:48+(c.toNat-48)=c.toNat:=by omega
  rw[this];simp
 ·cases h
theorem uX:∀(s:List UInt8) (n:Nat) (c:UInt8),kR n (s++[c])=(kR n s).bind fun m=>(tP c).map fun d=>10*m+d
 | [],n,c=>by
  simp only[List.nil_append,kR,Option.bind_some]
  cases tP c<;>rfl
 | x::s,n,c=>by
  simp only[List.cons_append,kR]
  cases tP x with
  | none=>rfl
  | some d=>exact uX s _ c
theorem Cp:∀(s:List UInt8) (n m:Nat),kR n s=some m→n≤m∧m<(n+1)*10 ^ s.length
 | [],n,m,h=>by simp only[kR]at h;cases h;simp
 | x::s,n,m,h=>by
  simp only[kR]at h
  cases hx:tP x with
  | none=>rw[hx]at h;cases h
  | some d =>
   rw[hx]at h
   have hd:=(tz hx).1
   obtain⟨h1,h2⟩:=Cp s _ m h
   refine⟨by omega,Nat.lt_of_lt_of_le h2 ?_⟩
   rw[List.length_cons,Nat.pow_succ',← Nat.mul_assoc]
   exact Nat.mul_le_mul_right _ (by omega)
def bd (s:List UInt8):List UInt8:=s.dropWhile iw
def eZ (c:UInt8):Bool:=jb false c||c==58
def iX (s:List UInt8):List UInt8:=s.takeWhile eZ
def tO (s:List UInt8):List UInt8:=s.dropWhile eZ
def eQ (s:List UInt8):Option (List UInt8×List UInt8):=if b8 (iX s)=true then some (iX s,tO s) else none
def ct (c:UInt8):UInt8:=if iw c=true then 32 else c
def yu (s:List UInt8):Option (List UInt8):=bV (s.map ct)
def tA:List UInt8→Option (List UInt8×List UInt8)
 | []=>none
 | q::t=>if q=39∨q=34 then dP q t else none
def iu (s:List UInt8):Option (List UInt8×List UInt8):=(tA s).bind fun p=>(yu p.1).map fun v=>(v,p.2)
def bY (c:UInt8):List UInt8→Option (List UInt8)
 | []=>none
 | d::t=>if d=c then some t else none
def gB (s:List UInt8):Option (Pr×List UInt8):=(eQ s).bind fun p=>(bY 61 (bd p.2)).bind fun t=>(iu (bd t)).map fun q=>(⟨p.1,q.1⟩,q.2)
theorem k7 {p:UInt8→Bool} : ∀ s:List UInt8,(s.dropWhile p).length≤s.length
 | []=>Nat.le_refl _
 | c::s=>by
  rw[List.dropWhile_cons]
  split
  ·have:=k7 (p:=p) s;simp;omega
  ·exact Nat.le_refl _
theorem c5 (s:List UInt8):(bd s).length≤s.length:=k7 s
theorem AH (s:List UInt8):s=iX s++tO s:=(List.takeWhile_append_dropWhile).symm
theorem LG {s:List UInt8}(h:b8 s=true):s≠[]:=by
 intro e;subst e;cases h
theorem fH {s n r:List UInt8}(h:eQ s=some (n,r)):s=n++r∧n≠[]∧b8 n=true∧r.length<s.length:=by
 unfold eQ at h
 split at h
 ·rename_i hf
  cases h
  have h1:=AH s
  have h2:=LG hf
  refine⟨h1,h2,hf,?_⟩
  have:=congrArg List.length h1
  rw[List.length_append]at this
  have:=List.length_pos_iff.2 h2
  omega
 ·cases h
theorem iS (c d:UInt8)(t:List UInt8):bY c (d::t)=if d=c then some t else none:=rfl
theorem sn (q:UInt8)(t:List UInt8):tA (q::t)=if q=39∨q=34 then dP q t else none:=rfl
theorem bX {c:UInt8}{s t:List UInt8}(h:bY c s=some t):s=c::t:=by
 cases s with
 | nil=>cases h
 | cons d s =>
  rw[iS]at h
  split at h
  ·rename_i e;cases h;rw[e]
  ·cases h
theorem kQ {s a b:List UInt8}(h:tA s=some (a,b)):∃ q,(q=39∨q=34)∧s=q::(a++q::b)∧q ∉ a:=by
 cases s with
 | nil=>cases h
 | cons q t =>
  rw[sn]at h
  split at h
  ·rename_i hq
   obtain⟨h1,h2⟩:=eG h
   exact⟨q,hq,by rw[h1],h2⟩
  ·cases h
theorem kM {s v r:List UInt8}(h:iu s=some (v,r)):∃ a,tA s=some (a,r)∧yu a=some v:=by
 unfold iu at h
 obtain⟨⟨a,b⟩,h1,h2⟩:=Option.bind_eq_some_iff.1 h
 obtain⟨x,h3,h4⟩:=Option.map_eq_some_iff.1 h2
 cases h4
 exact⟨a,h1,h3⟩
theorem mG {s r:List UInt8}{a:Pr}(h:gB s=some (a,r)):∃ r1 t,eQ s=some (a.name,r1)∧bd r1=61::t∧iu (bd t)=some (a.value,r):=by
 unfold gB at h
 obtain⟨⟨n,r1⟩,h1,h2⟩:=Option.bind_eq_some_iff.1 h
 obtain⟨t,h3,h4⟩:=Option.bind_eq_some_iff.1 h2
 obtain⟨⟨v,r2⟩,h5,h6⟩:=Option.map_eq_some_iff.1 h4
 cases h6
 exact⟨r1,t,h1,bX h3,h5⟩
theorem ks {s r:List UInt8}{a:Pr}(h:gB s=some (a,r)):r.length<s.length:=by
 obtain⟨r1,t,h1,h2,h3⟩:=mG h
 have l1:=(fH h1).2.2.2
 have l2:=c5 r1
 rw[h2]at l2
 have l3:=c5 t
 obtain⟨v,h4,_⟩:=kM h3
 obtain⟨q,_,h5,_⟩:=kQ h4
 rw[h5]at l3
 simp only[List.length_cons,List.length_append]at l2 l3
 omega
def kW:List UInt8→Option (Nat×List UInt8)
 | 62::t=>some (1,t)
 | 47::62::t=>some (3,t)
 | _=>none
def iU (n:List UInt8)(l:List Pr)(s:List UInt8):Option (Tk×List UInt8) :=
 match kW (bd s) with
 | some (k,t)=>some (⟨k,n,l,[]⟩,t)
 | none=>if (bd s).length<s.length then (match h:gB (bd s) with
  | none=>none
  | some (a,r)=>if (l.any fun b=>a.name==b.name)=true then none else iU n (l++[a]) r) else none
termination_by s.length
decreasing_by
 have:=ks h
 have:=c5 s
 omega
theorem kT {n:List UInt8}{l:List Pr}{s t:List UInt8}{k:Nat}(h:kW (bd s)=some (k,t)):iU n l s=some (⟨k,n,l,[]⟩,t):=by rw[iU,h]
theorem kN {n:List UInt8}{l:List Pr}{s:List UInt8}(h:kW (bd s)=none)(h2:¬(bd s).length<s.length):iU n l s=none:=by rw[iU,h];simp only[if_neg h2]
theorem rE {n:List UInt8}{l:List Pr}{s:List UInt8}(h:kW (bd s)=none)(h2:gB (bd s)=none):iU n l s=none:=by
 rw[iU,h];simp only
 split
 ·split
  ·rfl
  ·rename_i e;rw[h2]at e;cases e
 ·rfl
theorem mf {n:List UInt8}{l:List Pr}{s r:List UInt8}{a:Pr}(h:kW (bd s)=none)(h2:gB (bd s)=some (a,r))(h3:(l.any fun b=>a.name==b.name)=true):iU n l s=none:=by
 rw[iU,h];simp only
 split
 ·split
  ·rfl
  ·rename_i e;rw[h2]at e;cases e;rw[if_pos h3]
 ·rfl
theorem lE {n:List UInt8}{l:List Pr}{s r:List UInt8}{a:Pr}(h:kW (bd s)=none)(hg:(bd s).length<s.length)(h2:gB (bd s)=some (a,r))(h3:(l.any fun b=>a.name==b.name)=false):iU n l s=iU n (l++[a]) r:=by
 rw[iU,h];simp only[if_pos hg]
 split
 ·rename_i e;rw[h2]at e;cases e
 ·rename_i e;rw[h2]at e;cases e;rw[if_neg (by simp[h3])]
def sM (s:List UInt8):Option (Tk×List UInt8) :=
 match bY 47 s with
 | some t=>(eQ t).bind fun p=>(bY 62 (bd p.2)).map fun r=>(⟨2,p.1,[],[]⟩,r)
 | none=>(eQ s).bind fun p=>iU p.1 [] p.2
def jr (c:UInt8):Bool:=c != 60
def cD (s:List UInt8):List UInt8:=s.takeWhile jr
def fZ (s:List UInt8):List UInt8:=s.dropWhile jr
def jj (s:List UInt8):Option (Tk×List UInt8) :=
 match bY 60 s with
 | some t=>sM t
 | none=>(bV (cD s)).map fun x=>(⟨4,[],[],x⟩,fZ s)
theorem Lt:∀(k:Nat) (n:List UInt8) (l:List Pr) (s r:List UInt8) (t:Tk),s.length≤k→iU n l s=some (t,r)→r.length<s.length:=by
 intro k
 induction k with
 | zero =>
  intro n l s r t hk h
  obtain rfl:=List.length_eq_zero_iff.1 (Nat.le_zero.1 hk)
  rw[kN (by rfl) (by simp[bd])]at h;cases h
 | succ k ih =>
  intro n l s r t hk h
  have hs:=c5 s
  cases he:kW (bd s) with
  | some p =>
   obtain⟨m,u⟩:=p
   rw[kT he]at h
   cases h
   unfold kW at he
   split at he
   ·rename_i e;cases he;rw[e]at hs;simp at hs;omega
   ·rename_i e;cases he;rw[e]at hs;simp at hs;omega
   ·cases he
  | none =>
   cases ha:gB (bd s) with
   | none=>rw[rE he ha]at h;cases h
   | some p =>
    obtain⟨a,u⟩:=p
    have hl:=ks ha
    cases hd:l.any fun b=>a.name==b.name with
    | true=>rw[mf he ha hd]at h;cases h
    | false =>
     by_cases hg:(bd s).length<s.length
     ·rw[lE he hg ha hd]at h
      have:=ih n _ u r t (by omega) h
      omega
     ·rw[kN he hg]at h;cases h
theorem NC {s r:List UInt8}{t:Tk}(h:sM s=some (t,r)):r.length<s.length:=by
 unfold sM at h
 split at h
 ·rename_i u hu
  obtain⟨⟨n,r1⟩,h1,h2⟩:=Option.bind_eq_some_iff.1 h
  obtain⟨r2,h3,h4⟩:=Option.map_eq_some_iff.1 h2
  cases h4
  have l1:=(fH h1).2.2.2
  have l2:=c5 r1
  rw[bX h3]at l2
  rw[bX hu]
  simp only[List.length_cons]at l2 ⊢
  omega
 ·obtain⟨⟨n,r1⟩,h1,h2⟩:=Option.bind_eq_some_iff.1 h
  have l1:=(fH h1).2.2.2
  have l2:=Lt _ n [] r1 r t (Nat.le_refl _) h2
  omega
theorem wG {s r:List UInt8}{t:Tk}(hne:s≠[])(h:jj s=some (t,r)):r.length<s.length:=by
 unfold jj at h
 split at h
 ·rename_i u hu
  have:=NC h
  rw[bX hu];simp;omega
 ·rename_i hu
  obtain⟨x,_,h2⟩:=Option.map_eq_some_iff.1 h
  cases h2
  cases s with
  | nil=>exact absurd rfl hne
  | cons c s =>
   have hc:jr c=true:=by
    rw[iS]at hu
    split at hu
    ·cases hu
    ·rename_i e;simp[jr,e]
   unfold fZ
   rw[List.dropWhile_cons,if_pos hc]
   have:=k7 (p:=jr) s
   simp;omega
def gL (n:Nat)(l:List Tk)(s:List UInt8):List Tk×Nat×Int :=
 if hn:s=[] then (l,0,0) else if 512≤l.length then ([],n-s.length,4) else match h:jj s with
  | none=>([],n-s.length,80)
  | some (t,r)=>if 16<t.attrs.length then ([],n-s.length,4) else gL n (l++[t]) r
termination_by s.length
decreasing_by exact wG hn h
theorem l7 (n:Nat)(l:List Tk):gL n l []=(l,0,0):=by rw[gL,dif_pos rfl]
theorem qf {n:Nat}{l:List Tk}{s:List UInt8}(h:s≠[])(h2:512≤l.length):gL n l s=([],n-s.length,4):=by rw[gL,dif_neg h,if_pos h2]
theorem s9 {n:Nat}{l:List Tk}{s:List UInt8}(h:s≠[])(h2:l.length<512)(h3:jj s=none):gL n l s=([],n-s.length,80):=by
 rw[gL,dif_neg h,if_neg (by omega)]
 split
 ·rfl
 ·rename_i e;rw[h3]at e;cases e
theorem nN {n:Nat}{l:List Tk}{s r:List UInt8}{t:Tk}(h:s≠[])(h2:l.length<512)(h3:jj s=some (t,r))(h4:16<t.attrs.length):gL n l s=([],n-s.length,4):=by
 rw[gL,dif_neg h,if_neg (by omega)]
 split
 ·rename_i e;rw[h3]at e;cases e
 ·rename_i e;rw[h3]at e;cases e;rw[if_pos h4]
theorem ri {n:Nat}{l:List Tk}{s r:List UInt8}{t:Tk}(h:s≠[])(h2:l.length<512)(h3:jj s=some (t,r))(h4:t.attrs.length≤16):gL n l s=gL n (l++[t]) r:=by
 rw[gL,dif_neg h,if_neg (by omega)]
 split
 ·rename_i e;rw[h3]at e;cases e
 ·rename_i e;rw[h3]at e;cases e;rw[if_neg (by omega)]
def eO (s:List UInt8):List Tk×Nat×Int:=if aQ s≠0 then ([],0,aQ s) else gL s.length [] s
end Go.Proofs.YtidmkaalhmeflaaGreatDoor
namespace Go.Proofs.YtidmkaalhmeflaaGreatDoor
set_option maxRecDepth 100000
set_option maxHeartbeats 32000000
set_option linter.unusedSimpArgs false
set_option linter.unusedVariables false
open Go Go.RowKit Vm Go.Lib Tryz
open Vm renaming aZ→Ca,bj→Cb
open And renaming intro→Ai
open List renaming length_map→Lm,not_mem_nil→Ln,map_nil→Lo,map_cons→Lc,mem_cons→Lk
open Bool renaming not_false→Bf,not_true→Bt
def nt (r:Int):Bool:=(decide (0≤r)&&decide (r<55296))||(decide (57343<r)&&decide (r≤1114111))
theorem s8 (r:Int)(nm:Nat):Ev cx 168 nm [.int .i32 r] aq.nil (.bool (nt r)) []:=by
 unfold nt
 refine ay rfl (fun cargs w=>call168 cargs w) func168 rfl mixed (by kernel_rfl) rfl ?_;intro b0 hb0
 (repeat' first|simp only[al,aj,results168,ntmps168,am,ai,seval,ah]|exact rfl|refine aa (v:=.any) ?_|((first|apply Ca|apply Cb)<;>intro hb)|refine Ai (by omega) ?_|(apply Ai<;>intro hb)|refine Fin.pure ?_ ?_ ?_|simp only[au])
 all_goals simp_all
theorem jz (n:Int)(nm:Nat):Ev cx 130 nm [.int .i64 n] aq.nil (.bool (gR n)) []:=by
 refine ay rfl (fun cargs w=>call130 cargs w) func130 rfl mixed (by kernel_rfl) rfl ?_;intro b0 hb0
 (repeat' first|simp only[al,aj,results130,ntmps130,am,ai,seval,ah]|exact rfl|refine aa (v:=.any) ?_|((first|apply Ca|apply Cb)<;>intro hb)|refine Ai (by omega) ?_|(apply Ai<;>intro hb)|refine Fin.pure ?_ ?_ ?_|simp only[au])
 all_goals simp only[decide_eq_true_eq,decide_eq_false_iff_not,beq_iff_eq,beq_eq_false_iff_ne,ne_eq]at *
 all_goals (first|(exfalso;omega)|(exact N1 (by omega))|(exact OT (by omega))|skip)
 have hw:IntKind.i32.wrap n=n:=IntWalk.i32_in _ (by omega)
 rw[hw]
 have hv:nt n=gR n:=by
  cases h:gR n with
  | true =>
   have:=(gj n).1 h
   unfold nt
   simp only[Bool.or_eq_true,Bool.and_eq_true,decide_eq_true_eq];omega
  | false =>
   have h':¬ _:=fun q=>by rw[(gj n).2 q]at h;cases h
   unfold nt
   simp only[Bool.or_eq_false_iff,Bool.and_eq_false_iff,decide_eq_false_iff_not];omega
 (repeat' first|simp only[al,aj,results130,ntmps130,am,hv,ai,seval,ah]|exact rfl|refine aa (v:=.any) ?_|(first|(refine ac ?_ (s8 n _) ?_)|(refine ab ?_ (fun _=>s8 n _) ?_))|((first|apply Ca|apply Cb)<;>intro hb)|refine Ai (by omega) ?_|(apply Ai<;>intro hb)|refine Fin.pure ?_ ?_ ?_|simp only[au])
def preB (s p:List UInt8):Bool:=decide (p.length≤s.length)&&(s.take p.length==p)
theorem qe (s p:List UInt8)(hs:s.length≤bh)(hp:p.length≤bh)(nm:Nat):Ev cx 164 nm [.str s,.str p] aq.nil (.bool (preB s p)) []:=by
 unfold bh at hs hp
 unfold preB
 refine ay rfl (fun cargs w=>call164 cargs w) func164 rfl mixed (by kernel_rfl) rfl ?_;intro b0 hb0
 (repeat' first|simp only[al,aj,results164,ntmps164,am,decide_eq_true_eq,imp_self,ai,seval,ah]|exact rfl|refine aa (v:=.any) ?_|((first|apply Ca|apply Cb)<;>intro hb)|refine Ai (by omega) ?_|(apply Ai<;>intro hb)|refine Fin.pure ?_ ?_ ?_|simp only[au])
theorem v7 (s p:List UInt8)(hs:s.length≤bh)(hp:p.length≤bh)(nm:Nat):Ev cx 129 nm [.str s,.str p] aq.nil (.bool (preB s p)) []:=by
 refine ay rfl (fun cargs w=>call129 cargs w) func129 rfl mixed (by kernel_rfl) rfl ?_;intro b0 hb0
 (repeat' first|simp only[al,aj,results129,ntmps129,am,ai,seval,ah]|exact rfl|refine aa (v:=.any) ?_|(first|(refine ac ?_ (qe s p hs hp _) ?_)|(refine ab ?_ (fun _=>qe s p hs hp _) ?_))|((first|apply Ca|apply Cb)<;>intro hb)|refine Ai (by omega) ?_|(apply Ai<;>intro hb)|refine Fin.pure ?_ ?_ ?_|simp only[au])
end Go.Proofs.YtidmkaalhmeflaaGreatDoor
