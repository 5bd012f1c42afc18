/-
 Texts joined: XTy,XEp,XEq,XEr,XEs,XEx,XEn,XLa,XUa,XGa,XGb,XNa,XEa.
-/
import Derived.Test.YtlnlopnpcmahgaaGreatDoorChecked
import Derived.Lib.LaidU8
import Derived.Lib.ItoaNum
import Derived.Lib.RuneBytes
import Derived.Lib.MapLaws
import Derived.Lib.RuneCountTail
import Derived.Lib.IndexLaws
import Derived.Test.YtlnlopnpcmahgaaGreatDoorQe
set_option linter.all false
namespace Go.Proofs.YtlnlopnpcmahgaaGreatDoor
set_option maxRecDepth 100000
set_option maxHeartbeats 32000000
open Go Go.RowKit Vm Go.Lib Tryz
open Vm renaming aH->Ca,aL->Cb
open And renaming intro->Ai
open List renaming length_map->Lm,not_mem_nil->Ln,map_nil->Lo,map_cons->Lc,mem_cons->Lk
open Bool renaming not_false->Bf,not_true->Bt
def EG:V:=.rp (Lib.pow10Tab.map fun z=>.int .u64 z)
def ve:V:=.rp [.iface 167 (.agg [.val (.pointer (some ⟨9,73,none⟩))])]
def ww (g:Nat):V:=if g=2 then EG else if g=0 then ve else .any
def yD:EG.plain=true:=by decide +kernel
noncomputable def cx:Cx:=⟨Tryz.prog,ww,[]⟩
def bu:∀ g,(cx.G g).plain=true:=fun g=>by
 show(ww g).plain=true
 unfold ww
 split
 ·exact yD
 ·split
  ·rfl
  ·rfl
def mixed:cx.P.follows .mixedOrders=true:=by kernel_rfl
def aV {f:FuncId}{nm:Nat}{args:List V}{M:am}{v:V}{eff:List (Nat×Option Blk)}{fn:Func}{c:Code}(hcall:∀ cargs w,(callFunc f cargs).run cx.P w = .ok (.enter f cargs) w)(hf:cx.P.funcs[f]? = some fn)(hb:fn.body=some c)(hin:cY fn.ntmps c=true)(hargs:decide (args.length<=fn.ntmps)=true)
  (hvc:∀ b0,(∀ x,b0<=x->M x=none)->go cx (rA cx fn nm M v eff b0) [] b0 (jj args) M c):Ev cx f nm args M v eff:=JQ rfl hcall hf hb mixed hin hargs hvc
def KO:cx.P.underlying 9=some .string:=by kernel_rfl
def K7:bE cx.P 9=true:=by kernel_rfl
def KM:cx.P.underlying 3=some (.int .i64):=by kernel_rfl
def Ek:dy cx.P 43=some ([.int .u8 0,.str [],.str [],.nils,.str [],.int .i64 0],[(0,1),(1,1),(2,1),(3,1),(4,1),(5,1)]):=by kernel_rfl
def JC:bM cx.P 22=some ([.int .u8 0,.str [],.str [],.nils,.str [],.int .i64 0],88):=by kernel_rfl
def Ji:cx.P.underlying 25=some (.int .i64):=by kernel_rfl
def Jk:cx.P.underlying 46=some (.slice 3):=by kernel_rfl
def JF:bM cx.P 46=some ([.int .i64 0],8):=by kernel_rfl
def J1:bE cx.P 46=true:=by kernel_rfl
def JM:ga cx.P 46=some 3:=by kernel_rfl
def HH:m8 cx.P 46=none:=by kernel_rfl
def H6:jM cx.P 46=some (none,1,false):=by kernel_rfl
def K8:ty cx.P 3=some (1,false):=by kernel_rfl
def H4:jM cx.P 22=some (none,6,true):=by kernel_rfl
def CP:gL cx.P 43 0=some (0,1,false):=by kernel_rfl
def La:ty cx.P 5=some (1,false):=by kernel_rfl
def KN:cx.P.underlying 5=some (.int .u8):=by kernel_rfl
def CQ:gL cx.P 43 1=some (1,1,false):=by kernel_rfl
def Lb:ty cx.P 9=some (1,false):=by kernel_rfl
def CR:gL cx.P 43 2=some (2,1,false):=by kernel_rfl
def Jh:cx.P.underlying 22=some (.slice 43):=by kernel_rfl
def JZ:bE cx.P 22=true:=by kernel_rfl
def JK:ga cx.P 22=some 43:=by kernel_rfl
def HF:m8 cx.P 22=none:=by kernel_rfl
def CT:gL cx.P 43 4=some (4,1,false):=by kernel_rfl
def CS:gL cx.P 43 3=some (3,1,false):=by kernel_rfl
def KA:ty cx.P 41=some (1,false):=by kernel_rfl
def Jj:cx.P.underlying 41=some (.slice 51):=by kernel_rfl
def JD:bM cx.P 41=some ([.str [],.str [],.str []],48):=by kernel_rfl
def J0:bE cx.P 41=true:=by kernel_rfl
def JL:ga cx.P 41=some 51:=by kernel_rfl
def HG:m8 cx.P 41=none:=by kernel_rfl
def H5:jM cx.P 41=some (none,3,true):=by kernel_rfl
def KD:ty cx.P 51=some (3,true):=by kernel_rfl
def Hp:cI cx.P 51=some [.str [],.str [],.str []]:=by kernel_rfl
def HQ:eP cx.P 51=none:=by kernel_rfl
def CW:gL cx.P 51 1=some (1,1,false):=by kernel_rfl
def CV:gL cx.P 51 0=some (0,1,false):=by kernel_rfl
def CX:gL cx.P 51 2=some (2,1,false):=by kernel_rfl
def KB:ty cx.P 43=some (6,true):=by kernel_rfl
def Hn:cI cx.P 43=some [.int .u8 0,.str [],.str [],.nils,.str [],.int .i64 0]:=by kernel_rfl
def HO:eP cx.P 43=none:=by kernel_rfl
def Em:dy cx.P 55=some ([.str [],.str [],.nils,.nils],[(0,1),(1,1),(2,1),(3,1)]):=by kernel_rfl
def JH:bM cx.P 71=some ([.val .nilFunc],8):=by kernel_rfl
def CZ:gL cx.P 55 1=some (1,1,false):=by kernel_rfl
def CU:gL cx.P 43 5=some (5,1,false):=by kernel_rfl
def C1:gL cx.P 55 3=some (3,1,false):=by kernel_rfl
def Ky:ty cx.P 22=some (1,false):=by kernel_rfl
def Hr:cI cx.P 67=some [.val .nilFunc]:=by kernel_rfl
def HS:eP cx.P 67=none:=by kernel_rfl
def KG:ty cx.P 67=some (1,false):=by kernel_rfl
def Hm:cI cx.P 25=some [.int .i64 0]:=by kernel_rfl
def HN:eP cx.P 25=none:=by kernel_rfl
def Jm:cx.P.underlying 71=some (.slice 57):=by kernel_rfl
def J3:bE cx.P 71=true:=by kernel_rfl
def JO:ga cx.P 71=some 57:=by kernel_rfl
def HJ:m8 cx.P 71=none:=by kernel_rfl
def H8:jM cx.P 71=some (none,1,false):=by kernel_rfl
def KF:ty cx.P 57=some (1,false):=by kernel_rfl
def Kz:ty cx.P 25=some (1,false):=by kernel_rfl
def CY:gL cx.P 55 0=some (0,1,false):=by kernel_rfl
def C0:gL cx.P 55 2=some (2,1,false):=by kernel_rfl
def KE:ty cx.P 53=some (1,false):=by kernel_rfl
def Jl:cx.P.underlying 53=some (.slice 87):=by kernel_rfl
def JG:bM cx.P 53=some ([.int .u8 0,.str [],.nils,.str []],64):=by kernel_rfl
def J2:bE cx.P 53=true:=by kernel_rfl
def JN:ga cx.P 53=some 87:=by kernel_rfl
def HI:m8 cx.P 53=none:=by kernel_rfl
def H7:jM cx.P 53=some (none,4,true):=by kernel_rfl
def KJ:ty cx.P 87=some (4,true):=by kernel_rfl
def C2:gL cx.P 87 0=some (0,1,false):=by kernel_rfl
def Ii:qa cx.P 51=some [(0,1),(1,1),(2,1)]:=by kernel_rfl
def Hs:cI cx.P 87=some [.int .u8 0,.str [],.nils,.str []]:=by kernel_rfl
def HT:eP cx.P 87=none:=by kernel_rfl
def C4:gL cx.P 87 2=some (2,1,false):=by kernel_rfl
def KI:ty cx.P 85=some (1,false):=by kernel_rfl
def Jn:cx.P.underlying 85=some (.slice 125):=by kernel_rfl
def JI:bM cx.P 85=some ([.str [],.str []],32):=by kernel_rfl
def J4:bE cx.P 85=true:=by kernel_rfl
def JP:ga cx.P 85=some 125:=by kernel_rfl
def HK:m8 cx.P 85=none:=by kernel_rfl
def Ht:cI cx.P 96=some [.nils,.nils]:=by kernel_rfl
def HU:eP cx.P 96=none:=by kernel_rfl
def KK:ty cx.P 96=some (2,true):=by kernel_rfl
def C6:gL cx.P 96 0=some (0,1,false):=by kernel_rfl
def C7:gL cx.P 96 1=some (1,1,false):=by kernel_rfl
def KC:ty cx.P 46=some (1,false):=by kernel_rfl
def EZ:cI cx.P 106=some [.nilp,.nilp,.int .u64 0]:=by kernel_rfl
def FB:eP cx.P 106=none:=by kernel_rfl
def IY:ty cx.P 106=some (3,true):=by kernel_rfl
def G8:cx.P.underlying 111=some (.int .u8):=by kernel_rfl
def IZ:ty cx.P 109=some (1,false):=by kernel_rfl
def Hl:cI cx.P 22=some [.nils]:=by kernel_rfl
def HM:eP cx.P 22=none:=by kernel_rfl
def E0:cI cx.P 117=some [.val .nilFunc]:=by kernel_rfl
def FC:eP cx.P 117=none:=by kernel_rfl
def I0:ty cx.P 117=some (1,false):=by kernel_rfl
def Hq:cI cx.P 53=some [.nils]:=by kernel_rfl
def HR:eP cx.P 53=none:=by kernel_rfl
def Ho:cI cx.P 46=some [.nils]:=by kernel_rfl
def HP:eP cx.P 46=none:=by kernel_rfl
def Jo:cI cx.P 4=some [.bool false]:=by kernel_rfl
def Jt:eP cx.P 4=none:=by kernel_rfl
def K9:ty cx.P 4=some (1,false):=by kernel_rfl
def E1:cI cx.P 121=some [.val .nilFunc]:=by kernel_rfl
def FD:eP cx.P 121=none:=by kernel_rfl
def I1:ty cx.P 121=some (1,false):=by kernel_rfl
def E5:cI cx.P 131=some [.nilp,.nils]:=by kernel_rfl
def FH:eP cx.P 131=some 131:=by kernel_rfl
def En:dy cx.P 87=some ([.int .u8 0,.str [],.nils,.str []],[(0,1),(1,1),(2,1),(3,1)]):=by kernel_rfl
def C3:gL cx.P 87 1=some (1,1,false):=by kernel_rfl
def C5:gL cx.P 87 3=some (3,1,false):=by kernel_rfl
def H9:jM cx.P 85=some (none,2,true):=by kernel_rfl
def Aj:gL cx.P 125 0=some (0,1,false):=by kernel_rfl
def Ak:gL cx.P 125 1=some (1,1,false):=by kernel_rfl
def Bu:dy cx.P 144=some ([.str []],[(0,1)]):=by kernel_rfl
def Bv:dy cx.P 146=some ([.str []],[(0,1)]):=by kernel_rfl
def Ao:gL cx.P 146 0=some (0,1,true):=by kernel_rfl
def An:gL cx.P 144 0=some (0,1,false):=by kernel_rfl
def Bw:dy cx.P 151=some ([.nils,.nils,.int .u8 0],[(0,1),(1,1),(2,1)]):=by kernel_rfl
def Ar:gL cx.P 151 2=some (2,1,false):=by kernel_rfl
def Ap:gL cx.P 151 0=some (0,1,false):=by kernel_rfl
def Aq:gL cx.P 151 1=some (1,1,false):=by kernel_rfl
def E6:cI cx.P 152=some [.val .nilFunc]:=by kernel_rfl
def FI:eP cx.P 152=none:=by kernel_rfl
def I6:ty cx.P 152=some (1,false):=by kernel_rfl
def Bx:dy cx.P 156=some ([.str []],[(0,1)]):=by kernel_rfl
def E8:cI cx.P 165=some [.val .nilFunc]:=by kernel_rfl
def FK:eP cx.P 165=none:=by kernel_rfl
def I8:ty cx.P 165=some (1,false):=by kernel_rfl
def Hb:cx.P.underlying 177=some (.slice 73):=by kernel_rfl
def H1:bM cx.P 177=some ([.val .nilIface],16):=by kernel_rfl
def ID:bE cx.P 177=true:=by kernel_rfl
def Ic:ga cx.P 177=some 73:=by kernel_rfl
def Fw:m8 cx.P 177=none:=by kernel_rfl
def FW:jM cx.P 177=some (none,1,false):=by kernel_rfl
def KH:ty cx.P 73=some (1,false):=by kernel_rfl
def E2:cI cx.P 123=some [.val .nilFunc]:=by kernel_rfl
def FE:eP cx.P 123=none:=by kernel_rfl
def I2:ty cx.P 123=some (1,false):=by kernel_rfl
def El:dy cx.P 51=some ([.str [],.str [],.str []],[(0,1),(1,1),(2,1)]):=by kernel_rfl
def Hc:cx.P.underlying 180=some (.slice 9):=by kernel_rfl
def H2:bM cx.P 180=some ([.str []],16):=by kernel_rfl
def IE:bE cx.P 180=true:=by kernel_rfl
def Ie:ga cx.P 180=some 9:=by kernel_rfl
def Fx:m8 cx.P 180=none:=by kernel_rfl
def Bs:dy cx.P 125=some ([.str [],.str []],[(0,1),(1,1)]):=by kernel_rfl
def I3:ty cx.P 125=some (2,true):=by kernel_rfl
def E3:cI cx.P 125=some [.str [],.str []]:=by kernel_rfl
def FF:eP cx.P 125=none:=by kernel_rfl
def Am:gL cx.P 131 1=some (1,1,false):=by kernel_rfl
def I5:ty cx.P 129=some (1,false):=by kernel_rfl
def Ha:cx.P.underlying 129=some (.slice 5):=by kernel_rfl
def H0:bM cx.P 129=some ([.int .u8 0],1):=by kernel_rfl
def IC:bE cx.P 129=true:=by kernel_rfl
def Ib:ga cx.P 129=some 5:=by kernel_rfl
def Fv:m8 cx.P 129=some 5:=by kernel_rfl
def Hd:cx.P.underlying 189=some (.pointer 5):=by kernel_rfl
def HX:jF cx.P 129=true:=by kernel_rfl
def E7:cI cx.P 156=some [.str []]:=by kernel_rfl
def FJ:eP cx.P 156=none:=by kernel_rfl
def I7:ty cx.P 156=some (1,true):=by kernel_rfl
def As:gL cx.P 156 0=some (0,1,false):=by kernel_rfl
def Jg:cx.P.underlying 21=some (.int .i32):=by kernel_rfl
def FY:jM cx.P 180=some (none,1,false):=by kernel_rfl
def Al:gL cx.P 131 0=some (0,1,false):=by kernel_rfl
def I4:ty cx.P 128=some (1,false):=by kernel_rfl
def G9:cx.P.underlying 128=some (.pointer 131):=by kernel_rfl
def G7:cx.P.underlying 103=some .unsafePointer:=by kernel_rfl
def Bz:dy cx.P 226=some ([.str [],.nils],[(0,1),(1,1)]):=by kernel_rfl
def Au:gL cx.P 226 0=some (0,1,false):=by kernel_rfl
def Av:gL cx.P 226 1=some (1,1,false):=by kernel_rfl
def E9:cI cx.P 229=some [.bool false,.bool false,.bool false,.bool false,.bool false,.bool false,.bool false,.bool false,.bool false,.bool false,.bool false,.bool false,.bool false,.bool false,.bool false,.bool false,.bool false,.bool false,.bool false,.bool false,.bool false,.bool false,.bool false,.bool false,.bool false,.bool false,.bool false,.bool false,.bool false,.bool false,.bool false,.bool false,.bool false,.bool false,.bool false,.bool false,.bool false,.bool false,.bool false,.bool false,.bool false,.bool false,.bool false,.bool false,.bool false,.bool false,.bool false,.bool false,.bool false,.bool false,.bool false,.bool false,.bool false,.bool false,.bool false,.bool false,.bool false,.bool false,.bool false,.bool false,.bool false,.bool false,.bool false,.bool false,.bool false,.bool false,.bool false,.bool false,.bool false,.bool false,.bool false,.bool false,.bool false,.bool false,.bool false,.bool false,.bool false,.bool false,.bool false,.bool false,.bool false,.bool false,.bool false,.bool false,.bool false,.bool false,.bool false,.bool false,.bool false,.bool false,.bool false,.bool false,.bool false,.bool false,.bool false,.bool false,.bool false,.bool false,.bool false,.bool false,.bool false,.bool false,.bool false,.bool false,.bool false,.bool false,.bool false,.bool false,.bool false,.bool false,.bool false,.bool false,.bool false,.bool false,.bool false,.bool false,.bool false,.bool false,.bool false,.bool false,.bool false,.bool false,.bool false,.bool false,.bool false,.bool false,.bool false,.bool false,.bool false,.bool false,.bool false,.bool false,.bool false,.bool false,.bool false,.bool false,.bool false,.bool false,.bool false,.bool false,.bool false,.bool false,.bool false,.bool false,.bool false,.bool false,.bool false,.bool false,.bool false,.bool false,.bool false,.bool false,.bool false,.bool false,.bool false,.bool false,.bool false,.bool false,.bool false,.bool false,.bool false,.bool false,.bool false,.bool false,.bool false,.bool false,.bool false,.bool false,.bool false,.bool false,.bool false,.bool false,.bool false,.bool false,.bool false,.bool false,.bool false,.bool false,.bool false,.bool false,.bool false,.bool false,.bool false,.bool false,.bool false,.bool false,.bool false,.bool false,.bool false,.bool false,.bool false,.bool false,.bool false,.bool false,.bool false,.bool false,.bool false,.bool false,.bool false,.bool false,.bool false,.bool false,.bool false,.bool false,.bool false,.bool false,.bool false,.bool false,.bool false,.bool false,.bool false,.bool false,.bool false,.bool false,.bool false,.bool false,.bool false,.bool false,.bool false,.bool false,.bool false,.bool false,.bool false,.bool false,.bool false,.bool false,.bool false,.bool false,.bool false,.bool false,.bool false,.bool false,.bool false,.bool false,.bool false,.bool false,.bool false,.bool false,.bool false,.bool false,.bool false,.bool false,.bool false,.bool false,.bool false,.bool false,.bool false,.bool false,.bool false,.bool false,.bool false,.bool false,.bool false,.bool false,.bool false,.bool false]:=by kernel_rfl
def FL:eP cx.P 229=none:=by kernel_rfl
def I9:ty cx.P 229=some (256,true):=by kernel_rfl
def FV:jM cx.P 129=some (none,1,false):=by kernel_rfl
def Fa:cI cx.P 240=some [.str []]:=by kernel_rfl
def FM:eP cx.P 240=none:=by kernel_rfl
def Ja:ty cx.P 240=some (1,true):=by kernel_rfl
def Aw:gL cx.P 240 0=some (0,1,false):=by kernel_rfl
def BB:dy cx.P 251=some ([.str [],.val .nilFunc],[(0,1),(1,1)]):=by kernel_rfl
def H3:bM cx.P 252=some ([.str [],.val .nilFunc],24):=by kernel_rfl
def He:cx.P.underlying 252=some (.slice 251):=by kernel_rfl
def IF:bE cx.P 252=true:=by kernel_rfl
def Ig:ga cx.P 252=some 251:=by kernel_rfl
def Fy:m8 cx.P 252=none:=by kernel_rfl
def F0:jM cx.P 252=some (none,2,true):=by kernel_rfl
def Jc:ty cx.P 251=some (2,true):=by kernel_rfl
def Fb:cI cx.P 251=some [.str [],.val .nilFunc]:=by kernel_rfl
def FN:eP cx.P 251=none:=by kernel_rfl
def Ax:gL cx.P 251 0=some (0,1,false):=by kernel_rfl
def Ay:gL cx.P 251 1=some (1,1,false):=by kernel_rfl
def Jb:ty cx.P 249=some (1,false):=by kernel_rfl
def FZ:jM cx.P 229=some (some 256,1,false):=by kernel_rfl
def KL:cx.P.underlying 2=some (.int .i64):=by kernel_rfl
def Fc:cI cx.P 257=some [.int .u8 0,.int .u8 0,.int .u8 0,.int .u8 0,.int .u8 0,.int .u8 0,.int .u8 0,.int .u8 0,.int .u8 0,.int .u8 0,.int .u8 0,.int .u8 0,.int .u8 0,.int .u8 0,.int .u8 0,.int .u8 0,.int .u8 0,.int .u8 0,.int .u8 0,.int .u8 0,.int .u8 0,.int .u8 0,.int .u8 0,.int .u8 0]:=by kernel_rfl
def FO:eP cx.P 257=none:=by kernel_rfl
def Hg:cx.P.underlying 258=some (.int .u64):=by kernel_rfl
def F1:jM cx.P 257=some (some 24,1,false):=by kernel_rfl
def Hf:cx.P.underlying 257=some (.array 24 5):=by kernel_rfl
def BA:dy cx.P 240=some ([.str []],[(0,1)]):=by kernel_rfl
def E4:cI cx.P 129=some [.nils]:=by kernel_rfl
def FG:eP cx.P 129=none:=by kernel_rfl
def F2:jM cx.P 275=some (some 20,1,false):=by kernel_rfl
def Jd:ty cx.P 258=some (1,false):=by kernel_rfl
def Hi:cx.P.underlying 276=some (.int .u32):=by kernel_rfl
def Fe:cI cx.P 277=some [.int .u8 0,.int .u8 0,.int .u8 0,.int .u8 0,.int .u8 0,.int .u8 0,.int .u8 0,.int .u8 0,.int .u8 0,.int .u8 0,.int .u8 0,.int .u8 0,.int .u8 0,.int .u8 0,.int .u8 0,.int .u8 0,.int .u8 0,.int .u8 0,.int .u8 0,.int .u8 0,.int .u8 0,.int .u8 0,.int .u8 0,.int .u8 0,.int .u8 0,.int .u8 0,.int .u8 0,.int .u8 0,.int .u8 0,.int .u8 0,.int .u8 0,.int .u8 0,.int .u8 0,.int .u8 0,.int .u8 0,.int .u8 0,.int .u8 0,.int .u8 0,.int .u8 0,.int .u8 0,.int .u8 0,.int .u8 0,.int .u8 0,.int .u8 0,.int .u8 0,.int .u8 0,.int .u8 0,.int .u8 0,.int .u8 0,.int .u8 0,.int .u8 0,.int .u8 0,.int .u8 0,.int .u8 0,.int .u8 0,.int .u8 0,.int .u8 0,.int .u8 0,.int .u8 0,.int .u8 0,.int .u8 0,.int .u8 0,.int .u8 0,.int .u8 0,.int .u8 0]:=by kernel_rfl
def FP:eP cx.P 277=none:=by kernel_rfl
def Hh:cx.P.underlying 273=some (.int .u64):=by kernel_rfl
def F3:jM cx.P 277=some (some 65,1,false):=by kernel_rfl
def Hj:cx.P.underlying 277=some (.array 65 5):=by kernel_rfl
def F4:jM cx.P 280=some (some 256,1,false):=by kernel_rfl
def F5:jM cx.P 283=some (some 16,2,true):=by kernel_rfl
def Je:ty cx.P 282=some (2,true):=by kernel_rfl
def Ff:cI cx.P 282=some [.int .u8 0,.int .u8 0]:=by kernel_rfl
def FQ:eP cx.P 282=none:=by kernel_rfl
def Az:gL cx.P 282 0=some (0,1,false):=by kernel_rfl
def AA:gL cx.P 282 1=some (1,1,false):=by kernel_rfl
def F6:jM cx.P 292=some (some 32,1,false):=by kernel_rfl
def F7:jM cx.P 293=some (some 64,1,false):=by kernel_rfl
def BC:dy cx.P 296=some ([.str [],.str [],.val .nilIface],[(0,1),(1,1),(2,1)]):=by kernel_rfl
def BD:dy cx.P 300=some ([.str []],[(0,1)]):=by kernel_rfl
def AB:gL cx.P 296 2=some (2,1,false):=by kernel_rfl
set_option linter.defProp false in
def ah:=(Ai KO (Ai K7 (Ai KM (Ai Ek (Ai JC (Ai Ji (Ai Jk (Ai JF (Ai J1 (Ai JM (Ai HH (Ai H6 (Ai K8 (Ai H4 (Ai CP (Ai La (Ai KN (Ai CQ (Ai Lb (Ai CR (Ai Jh (Ai JZ (Ai JK (Ai HF (Ai CT (Ai CS (Ai KA (Ai Jj (Ai JD (Ai J0 (Ai JL (Ai HG (Ai H5 (Ai KD (Ai Hp (Ai HQ (Ai CW (Ai CV (Ai CX (Ai KB (Ai Hn (Ai HO (Ai Em (Ai JH (Ai CZ (Ai CU (Ai C1 (Ai Ky (Ai Hr (Ai HS (Ai KG (Ai Hm (Ai HN (Ai Jm (Ai J3 (Ai JO (Ai HJ (Ai H8 (Ai KF (Ai Kz (Ai CY (Ai C0 (Ai KE (Ai Jl (Ai JG (Ai J2 (Ai JN (Ai HI (Ai H7 (Ai KJ (Ai C2 (Ai Ii (Ai Hs (Ai HT (Ai C4 (Ai KI (Ai Jn (Ai JI (Ai J4 (Ai JP (Ai HK (Ai Ht (Ai HU (Ai KK (Ai C6 (Ai C7 (Ai KC (Ai EZ (Ai FB (Ai IY (Ai G8 (Ai IZ (Ai Hl (Ai HM (Ai E0 (Ai FC (Ai I0 (Ai Hq (Ai HR (Ai Ho (Ai HP (Ai Jo (Ai Jt (Ai K9 (Ai E1 (Ai FD (Ai I1 (Ai E5 (Ai FH (Ai En (Ai C3 (Ai C5 (Ai H9 (Ai Aj (Ai Ak (Ai Bu (Ai Bv (Ai Ao (Ai An (Ai Bw (Ai Ar (Ai Ap (Ai Aq (Ai E6 (Ai FI (Ai I6 (Ai Bx (Ai E8 (Ai FK (Ai I8 (Ai Hb (Ai H1 (Ai ID (Ai Ic (Ai Fw (Ai FW (Ai KH (Ai E2 (Ai FE (Ai I2 (Ai El (Ai Hc (Ai H2 (Ai IE (Ai Ie (Ai Fx (Ai Bs (Ai I3 (Ai E3 (Ai FF (Ai Am (Ai I5 (Ai Ha (Ai H0 (Ai IC (Ai Ib (Ai Fv (Ai Hd (Ai HX (Ai E7 (Ai FJ (Ai I7 (Ai As (Ai Jg (Ai FY (Ai Al (Ai I4 (Ai G9 (Ai G7 (Ai Bz (Ai Au (Ai Av (Ai E9 (Ai FL (Ai I9 (Ai FV (Ai Fa (Ai FM (Ai Ja (Ai Aw (Ai BB (Ai H3 (Ai He (Ai IF (Ai Ig (Ai Fy (Ai F0 (Ai Jc (Ai Fb (Ai FN (Ai Ax (Ai Ay (Ai Jb (Ai FZ (Ai KL (Ai Fc (Ai FO (Ai Hg (Ai F1 (Ai Hf (Ai BA (Ai E4 (Ai FG (Ai F2 (Ai Jd (Ai Hi (Ai Fe (Ai FP (Ai Hh (Ai F3 (Ai Hj (Ai F4 (Ai F5 (Ai Je (Ai Ff (Ai FQ (Ai Az (Ai AA (Ai F6 (Ai F7 (Ai BC (Ai BD (Ai AB True.intro)))))))))))))))))))))))))))))))))))))))))))))))))))))))))))))))))))))))))))))))))))))))))))))))))))))))))))))))))))))))))))))))))))))))))))))))))))))))))))))))))))))))))))))))))))))))))))))))))))))))))))))))))))))))))))))))
def Iq:fc cx.P 3=some (.int .i64):=by kernel_rfl
def Gq:fc cx.P 51=some (.struct [9,9,9]):=by kernel_rfl
def Gn:fc cx.P 41=some (.slice 51 3 48):=by kernel_rfl
def jZ:fc cx.P 9=some .str:=by kernel_rfl
def Ir:fc cx.P 5=some (.int .u8):=by kernel_rfl
def Gp:fc cx.P 43=some (.struct [5,9,9,41,9,3]):=by kernel_rfl
def y5:fc cx.P 22=some (.slice 43 6 88):=by kernel_rfl
end Go.Proofs.YtlnlopnpcmahgaaGreatDoor
namespace Go.Proofs.YtlnlopnpcmahgaaGreatDoor
set_option maxRecDepth 100000
set_option maxHeartbeats 32000000
open Go Go.RowKit
def k9 (n:Int):Bool:=decide (n=9\/n=10\/n=13\/(32<=n/\n<=1114111 /\ ¬(55296<=n/\n<=57343)/\n≠65534/\n≠65535))
def gT (n:Int):k9 n=true↔(n=9\/n=10\/n=13\/(32<=n/\n<=1114111 /\ ¬(55296<=n/\n<=57343)/\n≠65534/\n≠65535)):=by
 unfold k9;exact decide_eq_true_iff
def J7 {n:Int}(h:n=9\/n=10\/n=13\/(32<=n/\n<=1114111 /\ ¬(55296<=n/\n<=57343)/\n≠65534/\n≠65535)):true=k9 n:=((gT n).2 h).symm
def J6 {n:Int}(h:¬(n=9\/n=10\/n=13\/(32<=n/\n<=1114111 /\ ¬(55296<=n/\n<=57343)/\n≠65534/\n≠65535))):false=k9 n:=by
 unfold k9;symm;exact decide_eq_false_iff_not.2 h
def nG {n:Int}(h:k9 n=true):0<=n/\n<=1114111/\(2048<=n->n<=65535->(2048<=n/\n<55296)\/(57343<n/\n<=65535)):=by
 have:=(gT n).1 h
 refine⟨by omega,by omega,fun a b=>by omega⟩
def enc (l:List Int):List UInt8:=l.flatMap Lib.encodeRune
def u8 (b:UInt8):Value:=.int .u8 (b.toNat:Int)
def bN (x:Int):1<=(Lib.encodeRune x).length/\(Lib.encodeRune x).length<=4:=by
 unfold Lib.encodeRune Lib.encodeRuneZ
 repeat' split
 all_goals simp
end Go.Proofs.YtlnlopnpcmahgaaGreatDoor
namespace Go.Proofs.YtlnlopnpcmahgaaGreatDoor
set_option maxRecDepth 100000
set_option maxHeartbeats 32000000
open Go Go.RowKit Go.Lib
def one (l:List UInt8):Option (Int×Nat) :=
 if l=[] then none
 else if (decodeL l).1=65533/\(decodeL l).2=1 then none
 else if k9 ((decodeL l).1:Int) then some (((decodeL l).1:Int),(decodeL l).2) else none
def u4:Nat->List UInt8->Option (List Int)
 | _,[]=>some []
 | 0,_=>none
 | f+1,l=>match one l with
  | none=>none
  | some (z,k)=>(u4 f (l.drop k)).map (z :: ·)
def cL (l:List UInt8):Option (List Int):=u4 l.length l
def iw {l:List UInt8}{z:Int}{k:Nat}(h:one l=some (z,k)):l≠[]/\k9 z=true/\encodeRune z=l.take k/\1<=k/\k<=l.length:=by
 unfold one at h
 split at h
 ·cases h
 rename_i hne
 split at h
 ·cases h
 rename_i hv
 split at h
 ·rename_i hm
  simp only[Option.some.injEq,Prod.mk.injEq]at h
  obtain⟨rfl,rfl⟩:=h
  have he:=encode_decode l hne hv
  have hle:=decodeL_le l hne
  refine⟨hne,hm,he,?_,hle⟩
  have:=(bN ((decodeL l).1:Int)).1
  rw[he,List.length_take]at this
  omega
 ·cases h
def dF {x:Int}(h0:0<=x)(h1:x<256):(x.toNat.toUInt8).toNat=x.toNat:=by simp;omega
def pj {z:Int}(hm:k9 z=true)(rest:List UInt8):one (encodeRune z++rest)=some (z,(encodeRune z).length):=by
 have hmz:=(gT z).1 hm
 have key:decodeL (encodeRune z++rest)=(z.toNat,(encodeRune z).length):=by
  rw[decodeL_N]
  by_cases c1:0<=z/\z<=127
  ·have e:encodeRune z=[z.toNat.toUInt8]:=by simp[encodeRune,encodeRuneZ_one c1.1 c1.2]
   rw[e]
   have a:=dF (x:=z) (by omega) (by omega)
   simp only[List.cons_append,List.nil_append,List.getD_cons_zero,List.length_cons,List.length_nil,a,decodeN]
   rw[if_pos (by omega)]
  ·by_cases c2:128<=z/\z<=2047
   ·have e:encodeRune z=[(192+z / 64).toNat.toUInt8,(128+z % 64).toNat.toUInt8]:=by simp[encodeRune,encodeRuneZ_two c2.1 c2.2]
    rw[e]
    have a:=dF (x:=192+z / 64) (by omega) (by omega)
    have b:=dF (x:=128+z % 64) (by omega) (by omega)
    simp only[List.cons_append,List.nil_append,List.getD_cons_zero,List.getD_cons_succ,List.length_cons,List.length_nil,a,b,decodeN]
    rw[if_neg (by omega),if_pos (by omega),if_pos (by omega)]
    simp only[Prod.mk.injEq,and_true];omega
   ·by_cases c3:z<=65535
    ·have e:encodeRune z=[(224+z / 4096).toNat.toUInt8,(128+z / 64 % 64).toNat.toUInt8,(128+z % 64).toNat.toUInt8]:=by simp[encodeRune,encodeRuneZ_three (r:=z) (by omega)]
     rw[e]
     have a:=dF (x:=224+z / 4096) (by omega) (by omega)
     have b:=dF (x:=128+z / 64 % 64) (by omega) (by omega)
     have c:=dF (x:=128+z % 64) (by omega) (by omega)
     simp only[List.cons_append,List.nil_append,List.getD_cons_zero,List.getD_cons_succ,List.length_cons,List.length_nil,a,b,c,decodeN]
     rw[if_neg (by omega),if_neg (by omega),if_pos (by omega),if_pos (by omega)]
     simp only[Prod.mk.injEq,and_true];omega
    ·have e:encodeRune z=[(240+z / 262144).toNat.toUInt8,(128+z / 4096 % 64).toNat.toUInt8,(128+z / 64 % 64).toNat.toUInt8,(128+z % 64).toNat.toUInt8]:=by simp[encodeRune,encodeRuneZ_four (r:=z) (by omega) (by omega)]
     rw[e]
     have a:=dF (x:=240+z / 262144) (by omega) (by omega)
     have b:=dF (x:=128+z / 4096 % 64) (by omega) (by omega)
     have c:=dF (x:=128+z / 64 % 64) (by omega) (by omega)
     have d:=dF (x:=128+z % 64) (by omega) (by omega)
     simp only[List.cons_append,List.nil_append,List.getD_cons_zero,List.getD_cons_succ,List.length_cons,List.length_nil,a,b,c,d,decodeN]
     rw[if_neg (by omega),if_neg (by omega),if_neg (by omega),if_pos (by omega),if_pos (by omega)]
     simp only[Prod.mk.injEq,and_true];omega
 have hne:encodeRune z++rest≠[]:=by
  intro h
  have:=(bN z).1
  rw[List.append_eq_nil_iff]at h
  rw[h.1]at this;simp at this
 unfold one
 rw[if_neg hne,key]
 have hz:((z.toNat:Nat):Int)=z:=by omega
 simp only[hz,hm,if_true]
 rw[if_neg]
 rintro ⟨h1,h2⟩
 have hz2:z=65533:=by omega
 subst hz2
 revert h2
 decide
def se:∀(f g:Nat) (l:List UInt8),l.length<=f->l.length<=g->u4 f l=u4 g l
 | _,_,[],_,_=>by simp[u4]
 | 0,_,x::l,h,_=>by simp at h
 | _,0,x::l,_,h=>by simp at h
 | f+1,g+1,x::l,hf,hg=>by
  simp only[u4]
  cases h1:one (x::l) with
  | none=>rfl
  | some p =>
   obtain⟨z,k⟩:=p
   obtain⟨_,_,_,hk,_⟩:=iw h1
   simp only
   rw[se f g ((x::l).drop k) (by simp at hf ⊢;omega) (by simp at hg ⊢;omega)]
def l7:cL []=some []:=rfl
def jK {l:List UInt8}{z:Int}{k:Nat}(h:one l=some (z,k)):cL l=(cL (l.drop k)).map (z :: ·):=by
 obtain⟨hne,_,_,hk,hkl⟩:=iw h
 obtain⟨x,l',rfl⟩:=List.exists_cons_of_ne_nil hne
 unfold cL
 rw[show(x::l').length=l'.length+1 from rfl]
 simp only[u4,h]
 rw[se l'.length ((x::l').drop k).length _ (by simp;omega) (Nat.le_refl _)]
def tA {l:List UInt8}(hne:l≠[])(h:one l=none):cL l=none:=by
 obtain⟨x,l',rfl⟩:=List.exists_cons_of_ne_nil hne
 unfold cL
 rw[show(x::l').length=l'.length+1 from rfl]
 simp only[u4,h]
def eS:∀(zs:List Int),zs.all k9=true->cL (enc zs)=some zs
 | [],_=>rfl
 | z::zs,h=>by
  simp only[List.all_cons,Bool.and_eq_true]at h
  have e:enc (z::zs)=encodeRune z++enc zs:=by simp[enc]
  rw[e,jK (pj h.1 (enc zs)),List.drop_left,eS zs h.2]
  rfl
def u5:∀(n:Nat) (l:List UInt8) (zs:List Int),l.length<=n->cL l=some zs->zs.all k9=true/\enc zs=l
 | 0,l,zs,hn,h=>by
  have:l=[]:=List.eq_nil_of_length_eq_zero (by omega)
  subst this
  rw[l7]at h
  cases h
  exact⟨rfl,rfl⟩
 | n+1,l,zs,hn,h=>by
  by_cases hne:l=[]
  ·subst hne
   rw[l7]at h
   cases h
   exact⟨rfl,rfl⟩
  ·cases h1:one l with
   | none=>rw[tA hne h1]at h;cases h
   | some p =>
    obtain⟨z,k⟩:=p
    obtain⟨_,hm,he,hk,hkl⟩:=iw h1
    rw[jK h1]at h
    obtain⟨zs',h2,rfl⟩:=Option.map_eq_some_iff.1 h
    obtain⟨ha,hb⟩:=u5 n (l.drop k) zs' (by simp;omega) h2
    refine⟨by simp[hm,ha],?_⟩
    show encodeRune z++enc zs'=l
    rw[he,hb,List.take_append_drop]
def kC (l:List UInt8)(zs:List Int):cL l=some zs↔zs.all k9=true/\enc zs=l :=
 ⟨fun h=>u5 l.length l zs (Nat.le_refl _) h,fun ⟨h1,h2⟩=>by rw[<- h2,eS zs h1]⟩
def xW {l:List UInt8}(h:hasPrefix l [239,191,189]=true):∃ rest,l=encodeRune 65533++rest:=by
 unfold hasPrefix at h
 obtain⟨rest,hr⟩:=List.isPrefixOf_iff_prefix.1 h
 exact⟨rest,by rw[<- hr];congr 1⟩
def u6 {l:List UInt8}(h:hasPrefix l [239,191,189]=true):(decodeL l).2≠1:=by
 obtain⟨rest,rfl⟩:=xW h
 have h1:=pj (z:=65533) (by decide) rest
 unfold one at h1
 split at h1
 ·cases h1
 split at h1
 ·cases h1
 rename_i hv
 split at h1
 ·simp only[Option.some.injEq,Prod.mk.injEq]at h1
  rw[h1.2]
  decide
 ·cases h1
def rS {l:List UInt8}(hne:l≠[]):one l=if ((decodeL l).1=65533/\hasPrefix l [239,191,189]=false)\/k9 ((decodeL l).1:Int)=false then none else some (((decodeL l).1:Int),(decodeL l).2):=by
  unfold one
  rw[if_neg hne]
  by_cases h1:(decodeL l).1=65533/\(decodeL l).2=1
  · rw[if_pos h1,if_pos]
    left
    refine⟨h1.1,?_⟩
    cases hp:hasPrefix l [239,191,189] with
    | false=>rfl
    | true=>exact absurd h1.2 (u6 hp)
  · rw [if_neg h1]
    by_cases h2:(decodeL l).1=65533
    · have he:=encode_decode l hne h1
      rw[h2]at he
      have hp:hasPrefix l [239,191,189]=true:=by
        unfold hasPrefix
        rw[List.isPrefixOf_iff_prefix,show([239,191,189]:List UInt8)=encodeRune ((65533:Nat):Int) from by decide,he]
        exact List.take_prefix _ _
      rw[hp]
      by_cases hm:k9 ((decodeL l).1:Int)=true
      · simp[hm]
      · simp[hm]
    · by_cases hm:k9 ((decodeL l).1:Int)=true
      · simp[hm,h2]
      · simp[hm,h2]
def u7 (s:ByteArray)(pos:Nat):Utf8.decode s pos=decodeL (s.data.toList.drop pos):=by
 have h:=tail_decode s pos 0
 rw[Nat.add_zero]at h
 rw[<- h]
 unfold decodeL
 congr 1
 have h2:(s.extract pos s.size).data.toList=s.data.toList.drop pos:=by
  rw[extract_data,List.take_of_length_le]
  simp
 apply ByteArray.ext
 apply Array.ext'
 simpa using h2
def fN (c:Int):Int:=if c<128 then 1 else if 192<=c/\c<224 then 2 else if 224<=c/\c<240 then 3 else if 240<=c/\c<248 then 4 else 0
def ij (c:Int):Int:=if c<128 then c else if 192<=c/\c<224 then c-192 else if 224<=c/\c<240 then c-224 else if 240<=c/\c<248 then c-240 else 0
def bL (n:Int)(l:List UInt8):Int:=l.foldl (fun n b=>64*n+(b.toNat:Int) % 64) n
def DP (l:List UInt8):Int:=match one l with|some (z,_)=>z|none=>0
def DO (l:List UInt8):Int:=match one l with|some (_,k)=>(k:Int)|none=>0
def vM (c:Int):0<=fN c/\fN c<=4:=by
 unfold fN;repeat' split
 all_goals omega
def vL {c:Int}(h:0<=c/\c<256):0<=ij c/\ij c<=127/\(fN c≠1->ij c<=31):=by
 unfold ij fN;repeat' split
 all_goals omega
def w8 (n:Int)(l:List UInt8)(b:UInt8):bL n (l++[b])=64*bL n l+(b.toNat:Int) % 64:=by simp[bL]
def vN {z:Int}(hm:k9 z=true):∃ b rest,encodeRune z=b::rest/\fN (b.toNat:Int)=((encodeRune z).length:Nat)/\bL (ij (b.toNat:Int)) rest=z:=by
 have hmz:=(gT z).1 hm
 by_cases c1:0<=z/\z<=127
 ·have e:encodeRune z=[z.toNat.toUInt8]:=by simp[encodeRune,encodeRuneZ_one c1.1 c1.2]
  have a:=dF (x:=z) (by omega) (by omega)
  refine⟨_,_,e,?_,?_⟩
  ·rw[e,a];unfold fN;rw[if_pos (by omega)];rfl
  ·rw[a];unfold ij;rw[if_pos (by omega)];simp[bL];omega
 ·by_cases c2:128<=z/\z<=2047
  ·have e:encodeRune z=[(192+z / 64).toNat.toUInt8,(128+z % 64).toNat.toUInt8]:=by simp[encodeRune,encodeRuneZ_two c2.1 c2.2]
   have a:=dF (x:=192+z / 64) (by omega) (by omega)
   have b:=dF (x:=128+z % 64) (by omega) (by omega)
   refine⟨_,_,e,?_,?_⟩
   ·rw[e,a];unfold fN;rw[if_neg (by omega),if_pos (by omega)];rfl
   ·rw[a];unfold ij;rw[if_neg (by omega),if_pos (by omega)];simp only[bL,List.foldl_cons,List.foldl_nil,b];omega
  ·by_cases c3:z<=65535
   ·have e:encodeRune z=[(224+z / 4096).toNat.toUInt8,(128+z / 64 % 64).toNat.toUInt8,(128+z % 64).toNat.toUInt8]:=by simp[encodeRune,encodeRuneZ_three (r:=z) (by omega)]
    have a:=dF (x:=224+z / 4096) (by omega) (by omega)
    have b:=dF (x:=128+z / 64 % 64) (by omega) (by omega)
    have c:=dF (x:=128+z % 64) (by omega) (by omega)
    refine⟨_,_,e,?_,?_⟩
    ·rw[e,a];unfold fN;rw[if_neg (by omega),if_neg (by omega),if_pos (by omega)];rfl
    ·rw[a];unfold ij;rw[if_neg (by omega),if_neg (by omega),if_pos (by omega)];simp only[bL,List.foldl_cons,List.foldl_nil,b,c];omega
   ·have e:encodeRune z=[(240+z / 262144).toNat.toUInt8,(128+z / 4096 % 64).toNat.toUInt8,(128+z / 64 % 64).toNat.toUInt8,(128+z % 64).toNat.toUInt8]:=by simp[encodeRune,encodeRuneZ_four (r:=z) (by omega) (by omega)]
    have a:=dF (x:=240+z / 262144) (by omega) (by omega)
    have b:=dF (x:=128+z / 4096 % 64) (by omega) (by omega)
    have c:=dF (x:=128+z / 64 % 64) (by omega) (by omega)
    have d:=dF (x:=128+z % 64) (by omega) (by omega)
    refine⟨_,_,e,?_,?_⟩
    ·rw[e,a];unfold fN;rw[if_neg (by omega),if_neg (by omega),if_neg (by omega),if_pos (by omega)];rfl
    ·rw[a];unfold ij;rw[if_neg (by omega),if_neg (by omega),if_neg (by omega),if_pos (by omega)];simp only[bL,List.foldl_cons,List.foldl_nil,b,c,d];omega
def GT {l:List UInt8}{n:Int}{k:Nat}(hm:k9 n=true)(he:encodeRune n=l.take k)(hk:k<=l.length):one l=some (n,k):=by
 have h:=pj hm (l.drop k)
 have hlen:(encodeRune n).length=k:=by rw[he,List.length_take];omega
 rw[hlen,he,List.take_append_drop]at h
 exact h
def xY {b:UInt8}{l:List UInt8}{k:Nat}(hs:fN (b.toNat:Int)=k)(hno:k=0\/(b::l).length<k\/(k<=(b::l).length /\ ∀ n,n=bL (ij (b.toNat:Int)) (l.take (k-1))->k9 n=true->encodeRune n≠(b::l).take k)):one (b::l)=none:=by
 cases h:one (b::l) with
 | none=>rfl
 | some p =>
  obtain⟨z,j⟩:=p
  obtain⟨_,hm,he,hj1,hj2⟩:=iw h
  obtain⟨b',rest,e1,e2,e3⟩:=vN hm
  have hlen:(encodeRune z).length=j:=by rw[he,List.length_take];omega
  obtain⟨j',rfl⟩:∃ j',j=j'+1:=⟨j-1,by omega⟩
  rw[he,List.take_succ_cons]at e1
  obtain⟨e4,e5⟩:=List.cons.inj e1
  subst e4
  rw[hlen]at e2
  have hkj:k=j'+1:=by rw[hs]at e2;exact Int.ofNat.inj e2
  subst hkj
  rcases hno with h0|h0|⟨_,h0⟩
  ·omega
  ·omega
  ·refine absurd he (h0 z ?_ hm)
   rw[<- e3,<- e5];rfl
def az (l:List UInt8):Int:=if 16384<l.length then 4 else match cL l with|none=>50|some _=>0
def qD {s:List UInt8}(h:az s=0):s.length<=16384:=by
 unfold az at h
 split at h
 ·omega
 ·omega
def jO (q:Bool)(c:UInt8):List UInt8 :=
 if c=38 then [38,97,109,112,59] else if c=60 then [38,108,116,59] else if c=62 then [38,103,116,59] else if c=13 then [38,35,49,51,59]
 else if q=true then (if c=34 then [38,113,117,111,116,59] else if c=9 then [38,35,57,59] else if c=10 then [38,35,49,48,59] else [c]) else [c]
def bo (q:Bool)(s:List UInt8):List UInt8:=s.flatMap (jO q)
def pW (q:Bool):bo q []=[]:=rfl
def vg (q:Bool)(a b:List UInt8):bo q (a++b)=bo q a++bo q b:=by simp[bo]
def Ab (q:Bool)(a:List UInt8)(c:UInt8):bo q (a++[c])=bo q a++jO q c:=by simp[bo]
def gP (q:Bool)(c:UInt8):1<=(jO q c).length/\(jO q c).length<=6:=by
 unfold jO
 repeat' split
 all_goals simp
def Ge (q:Bool)(c:UInt8):jO q c≠[]:=by
 intro h
 have:=(gP q c).1
 rw[h]at this;simp at this
def bm (q:Bool)(s:List UInt8):s.length<=(bo q s).length/\(bo q s).length<=6*s.length:=by
 induction s with
 | nil=>simp[bo]
 | cons c s ih =>
  have:=gP q c
  simp only[bo,List.flatMap_cons,List.length_append,List.length_cons]at ih ⊢
  omega
def sj (q:Bool){s:List UInt8}{k:Nat}{c:UInt8}(h:s[k]? = some c):bo q (s.take (k+1))=bo q (s.take k)++jO q c:=by
 obtain⟨hk,rfl⟩:=List.getElem?_eq_some_iff.1 h
 rw[List.take_succ_eq_append_getElem hk,Ab]
def yS:∀(p:List Int) (r:List UInt8),p.all k9=true->cL (enc p++r)=(cL r).map (p ++ ·)
 | [],r,_=>by simp[enc]
 | z::p,r,h=>by
  simp only[List.all_cons,Bool.and_eq_true]at h
  have e:enc (z::p)++r=encodeRune z++(enc p++r):=by simp[enc]
  rw[e,jK (pj h.1 _),List.drop_left,yS p r h.2,Option.map_map]
  congr 1
def pM {a b:List UInt8}{x y:List Int}(ha:cL a=some x)(hb:cL b=some y):cL (a++b)=some (x++y):=by
 obtain⟨h1,rfl⟩:=(kC a x).1 ha
 rw[yS x b h1,hb];rfl
def BS {z:Int}{k:Nat}(h1:1<=k)(h2:k<(encodeRune z).length):∃ b t,(encodeRune z).drop k=b::t/\128<=b.toNat/\b.toNat<192:=by
 have key:∀ x:Int,0<=x -> ∀ y,(128+x % 64).toNat.toUInt8=y->128<=y.toNat/\y.toNat<192:=by
  intro x _ y hy
  subst hy
  rw[dF (by omega) (by omega)]
  omega
 unfold encodeRune encodeRuneZ at h2 ⊢
 repeat' split
 ·rename_i c;rw[if_pos c]at h2;simp at h2;omega
 ·rename_i c1 c2;rw[if_neg c1,if_pos c2]at h2
  have:k=1:=by simp at h2;omega
  subst this
  exact⟨_,_,rfl,key z (by omega) _ rfl⟩
 ·rename_i c1 c2 c3;rw[if_neg c1,if_neg c2,if_pos c3]at h2
  have:k=1\/k=2:=by simp at h2;omega
  rcases this with rfl|rfl
  ·exact⟨_,_,rfl,key (z / 64) (by omega) _ rfl⟩
  ·exact⟨_,_,rfl,key z (by omega) _ rfl⟩
 ·rename_i c1 c2 c3 c4;rw[if_neg c1,if_neg c2,if_neg c3,if_pos c4]at h2
  have:k=1\/k=2\/k=3:=by simp at h2;omega
  rcases this with rfl|rfl|rfl
  ·exact⟨_,_,rfl,key (z / 4096) (by omega) _ rfl⟩
  ·exact⟨_,_,rfl,key (z / 64) (by omega) _ rfl⟩
  ·exact⟨_,_,rfl,key z (by omega) _ rfl⟩
 ·rename_i c1 c2 c3 c4;rw[if_neg c1,if_neg c2,if_neg c3,if_neg c4]at h2
  have:k=1\/k=2:=by simp at h2;omega
  rcases this with rfl|rfl
  ·exact⟨_,_,rfl,by decide⟩
  ·exact⟨_,_,rfl,by decide⟩
def CE:∀(zs:List Int) (k:Nat),k<=(enc zs).length->(∃ p q,zs=p++q/\(enc zs).take k=enc p/\(enc zs).drop k=enc q) \/ ∃ b t,(enc zs).drop k=b::t/\128<=b.toNat/\b.toNat<192
 | [],k,h=>by
  have:k=0:=by simpa [enc] using h
  subst this
  exact .inl ⟨[],[],rfl,rfl,rfl⟩
 | z::zs,k,h=>by
  have e:enc (z::zs)=encodeRune z++enc zs:=by simp[enc]
  rw[e]at h ⊢
  by_cases h0:k=0
  ·subst h0
   exact .inl ⟨[],z::zs,rfl,rfl,by rw[e];rfl⟩
  by_cases h1:k<(encodeRune z).length
  ·obtain⟨b,t,ht,hb⟩:=BS (by omega) h1
   exact .inr ⟨b,t++enc zs,by rw[List.drop_append_of_le_length (by omega),ht];rfl,hb⟩
  ·obtain⟨j,rfl⟩:∃ j,k=(encodeRune z).length+j:=⟨k-(encodeRune z).length,by omega⟩
   have hj:j<=(enc zs).length:=by simp at h;omega
   rcases CE zs j hj with ⟨p,q,rfl,h3,h4⟩|⟨b,t,h3,hb⟩
   ·refine .inl ⟨z::p,q,rfl,?_,?_⟩
    ·rw[List.take_length_add_append,h3];simp[enc]
    ·rw[List.drop_length_add_append,h4]
   ·exact .inr ⟨b,t,by rw[List.drop_length_add_append,h3],hb⟩
def xM (c:UInt8):Bool:=(decide (97<=c.toNat)&&decide (c.toNat<=122))||(decide (65<=c.toNat)&&decide (c.toNat<=90))||decide (c=95)
def iz (first:Bool)(c:UInt8):Bool:=xM c||(!first&&((decide (48<=c.toNat)&&decide (c.toNat<=57))||decide (c=46)||decide (c=45)))
def cU:List UInt8->Bool
 | []=>false
 | c::r=>iz true c&&r.all (iz false)
def eA (d:UInt8):List UInt8->Option (List UInt8×List UInt8)
 | []=>none
 | c::r=>if c=d then some ([],r) else (eA d r).map (fun p=>(c::p.1,p.2))
def bC (s:List UInt8):Bool:=match eA 58 s with
 | none=>cU s
 | some (a,b)=>cU a&&cU b
def nd {d:UInt8} : ∀ {s:List UInt8},eA d s=none↔d ∉ s
 | []=>by simp[eA]
 | c::r=>by
  simp only[eA]
  by_cases h:c=d
  ·simp[h]
  ·rw[if_neg h]
   simp only[Option.map_eq_none_iff,nd (s:=r),List.mem_cons,not_or]
   constructor
   ·intro h2;exact⟨fun e=>h e.symm,h2⟩
   ·intro h2;exact h2.2
def gk {d:UInt8} : ∀ {s a b:List UInt8},eA d s=some (a,b)->s=a++d::b/\d ∉ a
 | [],a,b,h=>by simp[eA]at h
 | c::r,a,b,h=>by
  simp only[eA]at h
  by_cases hc:c=d
  ·rw[if_pos hc]at h;cases h;subst hc;simp
  ·rw[if_neg hc]at h
   obtain⟨⟨a',b'⟩,h1,h2⟩:=Option.map_eq_some_iff.1 h
   cases h2
   obtain⟨e1,e2⟩:=gk h1
   refine⟨by rw[e1];rfl,?_⟩
   simp only[List.mem_cons,not_or]
   exact⟨fun e=>hc e.symm,e2⟩
def yR {d:UInt8} : ∀ {a b:List UInt8},d ∉ a->eA d (a++d::b)=some (a,b)
 | [],b,_=>by simp[eA]
 | c::a,b,h=>by
  simp only[List.mem_cons,not_or]at h
  simp only[List.cons_append,eA]
  rw[if_neg (fun e=>h.1 e.symm),yR h.2];rfl
def yQ {d:UInt8}{s:List UInt8}{i:Nat}(h1:d ∉ s.take i)(h2:s[i]? = some d):eA d s=some (s.take i,s.drop (i+1)):=by
 obtain⟨hi,he⟩:=List.getElem?_eq_some_iff.1 h2
 have:s=s.take i++d::s.drop (i+1):=by
  conv=>lhs;rw[<- List.take_append_drop i s]
  rw[List.drop_eq_getElem_cons hi,he]
 have h3:=yR (b:=s.drop (i+1)) h1
 rwa[<- this]at h3
def ov {d:UInt8}{s:List UInt8} : indexByte s d = -1↔eA d s=none:=by
 rw[nd]
 constructor
 ·intro h hm
  obtain⟨k,hk,rfl⟩:=List.getElem_of_mem hm
  exact indexByte_none h k (List.getElem?_eq_getElem hk)
 ·intro h
  have hge:=indexByte_ge s d
  by_cases hneg:indexByte s d = -1
  ·exact hneg
  ·obtain⟨o,ho⟩:∃ o:Nat,indexByte s d=o:=⟨(indexByte s d).toNat,by omega⟩
   exact absurd (List.mem_of_getElem? (indexByte_some ho).1) h
def jX {d:UInt8}{s a b:List UInt8}(h:eA d s=some (a,b)):indexByte s d=a.length/\s.take a.length=a/\s.drop (a.length+1)=b/\a.length+1+b.length=s.length:=by
 obtain⟨h1,h2⟩:=gk h
 have hne:indexByte s d ≠ -1:=fun e=>by rw[ov.1 e]at h;cases h
 have hge:=indexByte_ge s d
 obtain⟨o,ho⟩:∃ o:Nat,indexByte s d=o:=⟨(indexByte s d).toNat,by omega⟩
 obtain⟨g1,g2⟩:=indexByte_some ho
 have hat:=yQ (i:=o) (fun hm=>by
  obtain⟨k,hk,he⟩:=List.getElem_of_mem hm
  rw[List.length_take]at hk
  rw[List.getElem_take]at he
  exact g2 k (by omega) (by rw[List.getElem?_eq_getElem (by omega),he])) g1
 rw[h]at hat
 cases hat
 have hlt:=(List.getElem?_eq_some_iff.1 g1).1
 have hl:(s.take o).length=o:=by rw[List.length_take];omega
 rw[hl]
 refine⟨ho,rfl,rfl,?_⟩
 rw[List.length_drop];omega
def mB (s:List UInt8)(k:Nat):Prop:=∀(i:Nat) (c:UInt8),i<k->s[i]? = some c->iz (i==0) c=true
def qy {s:List UInt8}(hne:s≠[])(h:mB s s.length):cU s=true:=by
 cases s with
 | nil=>exact absurd rfl hne
 | cons c r =>
  have h0:=h 0 c (by simp) (by simp)
  simp only[beq_self_eq_true]at h0
  simp only[cU,h0,Bool.true_and,List.all_eq_true]
  intro x hx
  obtain⟨k,hk,rfl⟩:=List.getElem_of_mem hx
  have:=h (k+1) r[k] (by simp;omega) (by simp[hk])
  have h3:((k+1)==0)=false:=beq_false_of_ne (by omega)
  rwa[h3]at this
def oA {s:List UInt8}{k:Nat}{c:UInt8}(hc:s[k]? = some c)(h:iz (k==0) c=false):cU s=false:=by
 cases s with
 | nil=>simp at hc
 | cons x r =>
  cases k with
  | zero =>
   simp at hc;subst hc
   simp only[beq_self_eq_true]at h
   simp[cU,h]
  | succ k =>
   have h3:((k+1)==0)=false:=beq_false_of_ne (by omega)
   rw[h3]at h
   simp only[List.getElem?_cons_succ]at hc
   simp only[cU,Bool.and_eq_false_iff,List.all_eq_false]
   right
   exact⟨c,List.mem_of_getElem? hc,by rw[h];simp⟩
def cP (c d:UInt8):((c.toNat:Int)==(d.toNat:Int))=decide (c=d):=by
 rw[Bool.eq_iff_iff,beq_iff_eq,decide_eq_true_iff]
 constructor
 ·intro h;exact UInt8.toNat_inj.1 (by omega)
 ·rintro rfl;rfl
def lZ (b:UInt8):Bool:=decide (128<=b.toNat)&&decide (b.toNat<192)
def u0:∀(zs:List Int) (k:Nat),k<=(enc zs).length -> ∃ j,k<=j/\j<=k+3/\j<=(enc zs).length /\ ∃ p q,zs=p++q/\(enc zs).take j=enc p/\(enc zs).drop j=enc q
 | [],k,h=>by
  have:k=0:=by simpa [enc] using h
  subst this
  exact⟨0,Nat.le_refl _,by omega,by simp,[],[],rfl,rfl,rfl⟩
 | z::zs,k,h=>by
  have e:enc (z::zs)=encodeRune z++enc zs:=by simp[enc]
  have hl:=bN z
  rw[e]at h ⊢
  by_cases h0:k=0
  ·subst h0
   exact⟨0,Nat.le_refl _,by omega,by omega,[],z::zs,rfl,rfl,by rw[e];rfl⟩
  by_cases h1:k<(encodeRune z).length
  ·refine⟨(encodeRune z).length,by omega,by omega,by simp,[z],zs,rfl,?_,?_⟩
   ·rw[List.take_left];simp[enc]
   ·rw[List.drop_left]
  ·obtain⟨j,rfl⟩:∃ j,k=(encodeRune z).length+j:=⟨k-(encodeRune z).length,by omega⟩
   have hj:j<=(enc zs).length:=by simp at h;omega
   obtain⟨i,i1,i2,i3,p,q,rfl,h3,h4⟩:=u0 zs j hj
   refine⟨(encodeRune z).length+i,by omega,by omega,by simp at i3 ⊢;omega,z::p,q,rfl,?_,?_⟩
   ·rw[List.take_length_add_append,h3];simp[enc]
   ·rw[List.drop_length_add_append,h4]
def CH {zs:List Int}(hm:zs.all k9=true){b:UInt8}(h:(enc zs)[0]? = some b):lZ b=false:=by
 cases zs with
 | nil=>simp[enc]at h
 | cons z zs =>
  simp only[List.all_cons,Bool.and_eq_true]at hm
  obtain⟨c,rest,e1,e2,_⟩:=vN hm.1
  have e:enc (z::zs)=encodeRune z++enc zs:=by simp[enc]
  rw[e,e1]at h
  simp at h;subst h
  have hl:=(bN z).1
  unfold lZ
  by_cases hc:128<=c.toNat/\c.toNat<192
  ·exfalso
   have:fN (c.toNat:Int)=0:=by
    unfold fN;rw[if_neg (by omega),if_neg (by omega),if_neg (by omega),if_neg (by omega)]
   omega
  ·simp only[Bool.and_eq_false_iff,decide_eq_false_iff_not];omega
def BT {r:List UInt8}(h:(cL r).isSome=true){k:Nat}(hk:k<=r.length):∃ j,k<=j/\j<=k+3/\j<=r.length /\ ∀ b,r[j]? = some b->lZ b=false:=by
 obtain⟨zs,hz⟩:=Option.isSome_iff_exists.1 h
 obtain⟨hm,rfl⟩:=(kC r zs).1 hz
 obtain⟨j,j1,j2,j3,p,q,rfl,h3,h4⟩:=u0 zs k hk
 rw[List.all_append,Bool.and_eq_true]at hm
 refine⟨j,j1,j2,j3,fun b hb=>CH hm.2 ?_⟩
 rw[<- h4,List.getElem?_drop];simpa using hb
def EH {r:List UInt8}(h:(cL r).isSome=true){k:Nat}(hk:k<=r.length)(hc:∀ b,r[k]? = some b->lZ b=false):(cL (r.take k)).isSome=true/\(cL (r.drop k)).isSome=true:=by
 obtain⟨zs,hz⟩:=Option.isSome_iff_exists.1 h
 obtain⟨hm,rfl⟩:=(kC r zs).1 hz
 rcases CE zs k hk with ⟨p,q,rfl,h3,h4⟩|⟨b,t,h3,hb1,hb2⟩
 ·rw[List.all_append,Bool.and_eq_true]at hm
  rw[h3,h4,eS p hm.1,eS q hm.2]
  exact⟨rfl,rfl⟩
 ·exfalso
  have:(enc zs)[k]? = some b:=by
   have:=congrArg (fun l=>l[0]?) h3
   simpa using this
  have:=hc b this
  simp only[lZ,Bool.and_eq_false_iff,decide_eq_false_iff_not]at this
  omega
def eD {s:List UInt8} : az s=0↔s.length<=16384/\(cL s).isSome=true:=by
 unfold az
 split
 ·constructor
  ·intro h;omega
  ·rintro ⟨h,_⟩;omega
 ·rename_i hl
  cases cL s with
  | none=>simp
  | some z=>simp;omega
structure Pr where
 name:List UInt8
 value:List UInt8
deriving DecidableEq
structure Tk where
 kind:Nat
 name:List UInt8
 attrs:List Pr
 text:List UInt8
deriving DecidableEq
def Fj (l:List Pr)(a:Pr):Bool:=!(l.any fun b=>a.name==b.name)&&bC a.name&&decide (az a.value=0)
def fC (l:List Pr)(k:Nat):Prop:=∀(i:Nat) (a:Pr),i<k->l[i]? = some a->Fj (l.take i) a=true
def dV (l:List Pr):Bool:=decide (l.length<=16)&&l.zipIdx.all fun p=>Fj (l.take p.2) p.1
def dO {l:List Pr} : dV l=true↔l.length<=16/\fC l l.length:=by
 unfold dV fC
 simp only[Bool.and_eq_true,decide_eq_true_eq,List.all_eq_true]
 refine and_congr_right fun _=>⟨fun h i a hi ha=>?_,fun h p hp=>?_⟩
 ·refine h (a,i) ?_
  rw[List.mem_zipIdx_iff_getElem?];exact ha
 ·have:=(List.mem_zipIdx_iff_getElem?).1 hp
  exact h p.2 p.1 (List.getElem?_eq_some_iff.1 this).1 this
def dN (t:Tk):Bool :=
 if t.kind=1\/t.kind=3 then bC t.name&&dV t.attrs&&t.text.isEmpty
 else if t.kind=2 then bC t.name&&t.attrs.isEmpty&&t.text.isEmpty
 else if t.kind=4 then t.name.isEmpty&&t.attrs.isEmpty && !t.text.isEmpty&&decide (az t.text=0)
 else false
def IX (t:Tk):Int:=if dN t=true then 0 else 8
def jC (a:Pr):List UInt8:=[32]++a.name++[61,34]++bo true a.value++[34]
def cX (l:List Pr):List UInt8:=l.flatMap jC
def c9 (t:Tk):List UInt8 :=
 if t.kind=4 then bo false t.text
 else if t.kind=2 then [60,47]++t.name++[62]
 else [60]++t.name++cX t.attrs++(if t.kind=3 then [47,62] else [62])
def bI (l:List Tk):List UInt8:=l.flatMap c9
def qY {l:List Tk}{k:Nat}{t:Tk}(h:l[k]? = some t):bI (l.take (k+1))=bI (l.take k)++c9 t:=by
 obtain⟨hk,rfl⟩:=List.getElem?_eq_some_iff.1 h
 rw[List.take_succ_eq_append_getElem hk];unfold bI;rw[List.flatMap_append];simp
def uT {l:List Pr}{k:Nat}{t:Pr}(h:l[k]? = some t):cX (l.take (k+1))=cX (l.take k)++jC t:=by
 obtain⟨hk,rfl⟩:=List.getElem?_eq_some_iff.1 h
 rw[List.take_succ_eq_append_getElem hk];unfold cX;rw[List.flatMap_append];simp
def ia:List Tk->Bool
 | a::b::r=>(a.kind==4&&b.kind==4)||ia (b::r)
 | _=>false
def ji (l:List Tk)(k:Nat):Prop:=∀(i:Nat) (a b:Tk),i+1<k->l[i]? = some a->l[i+1]? = some b -> ¬(a.kind=4/\b.kind=4)
def kw:∀ {l:List Tk},ia l=false↔ji l l.length
 | []=>by simp[ia,ji]
 | [a]=>by simp[ia,ji]
 | a::b::r=>by
  simp only[ia,Bool.or_eq_false_iff,kw (l:=b::r)]
  constructor
  ·rintro ⟨h1,h2⟩ i x y hi hx hy
   cases i with
   | zero =>
    simp at hx hy;subst hx;subst hy
    intro⟨e1,e2⟩
    simp[e1,e2]at h1
   | succ i=>exact h2 i x y (by simp at hi ⊢;omega) (by simpa using hx) (by simpa using hy)
  ·intro h
   refine⟨?_,fun i x y hi hx hy=>h (i+1) x y (by simp at hi ⊢;omega) (by simpa using hx) (by simpa using hy)⟩
   have:=h 0 a b (by simp) (by simp) (by simp)
   simp only[Bool.and_eq_false_iff,beq_eq_false_iff_ne]
   by_cases e:a.kind=4
   ·right;exact fun e2=>this ⟨e,e2⟩
   ·left;exact e
def uI {l:List Tk}{i:Nat}{a b:Tk}(ha:l[i]? = some a)(hb:l[i+1]? = some b)(h1:a.kind=4)(h2:b.kind=4):ia l=true:=by
 cases h:ia l with
 | true=>rfl
 | false =>
  have:=kw.1 h
  exact absurd ⟨h1,h2⟩ (this i a b (List.getElem?_eq_some_iff.1 hb).1 ha hb)
def ed (l:List Tk):Int:=if (l.any fun t=>!dN t)=true\/ia l=true then 8 else if 512<l.length\/16384<(bI l).length then 4 else 0
def jY (l:List Tk):List UInt8:=if ed l=0 then bI l else []
def qS {α:Type}{f:α->Nat}{l:List α}{x:α}(h:x∈l):f x<=(l.map f).sum:=by
 induction l with
 | nil=>simp at h
 | cons y l ih =>
  simp only[List.map_cons,List.sum_cons]
  rcases List.mem_cons.1 h with rfl|h
  ·omega
  ·have:=ih h;omega
def tu (a:Pr):(jC a).length<=4+a.name.length+6*a.value.length:=by
 have:=bm true a.value
 simp only[jC,List.length_append,List.length_cons,List.length_nil];omega
def lv {α:Type}{f:α->List UInt8}{n:Nat} : ∀ {l:List α},(∀ x∈l,(f x).length<=n)->(l.flatMap f).length<=l.length*n
 | [],_=>by simp
 | x::l,h=>by
  have h1:=h x (by simp)
  have h2:=lv (l:=l) (fun y hy=>h y (by simp[hy]))
  simp only[List.flatMap_cons,List.length_append,List.length_cons,Nat.succ_mul];omega
def oH {t:Tk}{n:Nat}(h1:t.attrs.length<=30)(h2:t.name.length<=n)(h3:t.text.length<=n)(h4:∀ a∈t.attrs,a.name.length<=n/\a.value.length<=n):(cX t.attrs).length<=30*(4+7*n)/\(c9 t).length<=124+217*n:=by
 have e:=bm false t.text
 have ha:(cX t.attrs).length<=t.attrs.length*(4+7*n):=lv (fun a ha=>by
  have:=tu a
  have:=h4 a ha
  omega)
 have hb:t.attrs.length*(4+7*n)<=30*(4+7*n):=Nat.mul_le_mul_right _ h1
 refine⟨by omega,?_⟩
 unfold c9
 split
 ·omega
 ·split
  ·simp only[List.length_append,List.length_cons,List.length_nil];omega
  ·simp only[List.length_append,List.length_cons,List.length_nil]
   split<;>simp only[List.length_cons,List.length_nil]<;>omega
structure At where
 space:List UInt8
 name:List UInt8
 value:List UInt8
deriving DecidableEq
structure Nd where
 kind:Nat
 space:List UInt8
 name:List UInt8
 attrs:List At
 text:List UInt8
 many:Int
deriving DecidableEq
structure Gr where
 v:List Nd
 opn:List Nat
def Nd.inc (n:Nd):Nd:={ n with many:=n.many+1 }
def K6 (v:List Nd)(opn:List Nat):List Nd:=match opn.getLast? with
 | some k=>v.modify k Nd.inc
 | none=>v
def Jr (g:Gr)(n:Nd):List Nd:=K6 g.v g.opn++[n]
def m9 (c:UInt8):Bool:=c==32||c==9||c==10||c==13
def HL (s:List UInt8):Bool:=s.all m9
def Kx (s:List UInt8):Nd:=⟨2,[],[],[],s,0⟩
def Ik (l:List Pr):List At:=l.map fun a=>⟨[],a.name,a.value⟩
def JJ (t:Tk):Nd:=⟨1,[],t.name,Ik t.attrs,[],0⟩
def Dm (g:Gr):Option (List UInt8):=g.opn.getLast?.bind fun k=>(g.v[k]?).map Nd.name
def stepG (g:Gr)(t:Tk)(txt:Bool):Gr×Int :=
 if t.kind=4 then
  if (txt||(g.opn.isEmpty && !HL t.text))=true then (g,80)
  else if g.opn.isEmpty=true then (g,0) else (⟨Jr g (Kx t.text),g.opn⟩,0)
 else if t.kind=2 then
  if Dm g=some t.name then (⟨g.v,g.opn.dropLast⟩,0) else (g,80)
 else if (g.opn.isEmpty && !g.v.isEmpty)=true then (g,80)
 else if 12<=g.opn.length then (g,100)
 else (⟨Jr g (JJ t),if t.kind=1 then g.opn++[g.v.length] else g.opn⟩,0)
def K3:Gr->Bool->List Tk->Gr×Int
 | g,_,[]=>(g,0)
 | g,txt,t::r=>if (stepG g t txt).2=0 then K3 (stepG g t txt).1 (t.kind==4) r else stepG g t txt
structure Gr.Ok (g:Gr) (n:Nat):Prop where
 in_:∀ k∈g.opn,k<g.v.length
 deep:g.opn.length<=12
 many:∀ x∈g.v,0<=x.many/\x.many<=n
 len:g.v.length<=n
def K4 (c:UInt8):Option Nat:=if 48<=c.toNat/\c.toNat<=57 then some (c.toNat-48) else if 97<=c.toNat/\c.toNat<=102 then some (c.toNat-87) else if 65<=c.toNat/\c.toNat<=70 then some (c.toNat-55) else none
def JS:Nat->List UInt8->Option Nat
 | n,[]=>some n
 | n,c::r=>match K4 c with|none=>none|some d=>JS (16*n+d) r
def K5 (s:List UInt8):Option Nat:=if s=[]\/6<s.length\/s.head? = some 48 then none else JS 0 s
def KR (c:UInt8):Option Nat:=if 48<=c.toNat/\c.toNat<=57 then some (c.toNat-48) else none
def JA:Nat->List UInt8->Option Nat
 | n,[]=>some n
 | n,c::r=>match KR c with|none=>none|some d=>JA (10*n+d) r
def Jz (s:List UInt8):Option Nat:=if s=[]\/16<s.length\/(s.head? = some 48/\s≠[48]) then none else (JA 0 s).bind fun n=>if n<=9007199254740991 then some n else none
def nI (o:Option Nat):Option (List UInt8):=o.bind fun n=>if k9 (n:Int)=true then some (encodeRune n) else none
def iU (s:List UInt8):Option (List UInt8) :=
 if s=[97,109,112] then some [38] else if s=[108,116] then some [60] else if s=[103,116] then some [62] else if s=[113,117,111,116] then some [34] else if s=[97,112,111,115] then some [39]
 else if s.head? = some 35 then (if s.tail.head? = some 120 then nI (K5 s.tail.tail) else nI (Jz s.tail)) else none
def CD {d:UInt8}{s a b:List UInt8}(h:eA d s=some (a,b)):b.length<s.length:=by
 have:=(gk h).1
 rw[this];simp;omega
def cS:List UInt8->Option (List UInt8)
 | []=>some []
 | c::r=>if c=60 then none else if c=38 then (match h:eA 59 r with|none=>none|some (a,b)=>match iU a with|none=>none|some x=>(cS b).map (x ++ ·)) else (cS r).map (c :: ·)
termination_by s=>s.length
decreasing_by
 ·have:=CD h;simp;omega
 ·simp
def nM:cS []=some []:=by rw[cS]
def qH (r:List UInt8):cS (60::r)=none:=by rw[cS];rfl
def gX {c:UInt8}(h1:c≠60)(h2:c≠38)(r:List UInt8):cS (c::r)=(cS r).map (c :: ·):=by rw[cS,if_neg h1,if_neg h2]
def lN {r:List UInt8}(h:eA 59 r=none):cS (38::r)=none:=by
 rw[cS,if_neg (by decide),if_pos rfl]
 split
 ·rfl
 ·rename_i e;rw[h]at e;cases e
def nL {r a b:List UInt8}(h:eA 59 r=some (a,b))(hm:iU a=none):cS (38::r)=none:=by
 rw[cS,if_neg (by decide),if_pos rfl]
 split
 ·rfl
 ·rename_i e;rw[h]at e;cases e;rw[hm]
def nN {r a b x:List UInt8}(h:eA 59 r=some (a,b))(hm:iU a=some x):cS (38::r)=(cS b).map (x ++ ·):=by
 rw[cS,if_neg (by decide),if_pos rfl]
 split
 ·rename_i e;rw[h]at e;cases e
 ·rename_i e;rw[h]at e;cases e;rw[hm]
def tE {z:Int}(h0:0<=z)(h:z<128):encodeRune z=[z.toNat.toUInt8]:=by
 unfold encodeRune encodeRuneZ
 rw[if_pos (by omega)]
 rfl
def pV {z:Int}(h:128<=z):∀ c∈encodeRune z,128<=c.toNat:=by
 intro c hc
 unfold encodeRune encodeRuneZ at hc
 rw[if_neg (by omega)]at hc
 repeat' split at hc
 all_goals (
  simp only[List.map_cons,List.map_nil,List.mem_cons,List.not_mem_nil,or_false]at hc
  rcases hc with rfl|rfl|rfl|rfl<;>(rw[dF (by omega) (by omega)];omega))
def ei (n:Nat):List UInt8:=if n<=9 then [UInt8.ofNat (48+n)] else ei (n / 10)++[UInt8.ofNat (48+n % 10)]
termination_by n
decreasing_by omega
def gq {n:Nat}(h:n<=9):ei n=[UInt8.ofNat (48+n)]:=by rw[ei,if_pos h]
def jL {n:Nat}(h:9<n):ei n=ei (n / 10)++[UInt8.ofNat (48+n % 10)]:=by rw[ei,if_neg (by omega)]
def cC (s:List UInt8):List UInt8:=s.dropWhile m9
def zB (c:UInt8):Bool:=iz false c||c==58
def zC (s:List UInt8):List UInt8:=s.takeWhile zB
def EU (s:List UInt8):List UInt8:=s.dropWhile zB
def mw (s:List UInt8):Option (List UInt8×List UInt8):=if bC (zC s)=true then some (zC s,EU s) else none
def so (c:UInt8):UInt8:=if m9 c=true then 32 else c
def EN (s:List UInt8):Option (List UInt8):=cS (s.map so)
def un:List UInt8->Option (List UInt8×List UInt8)
 | []=>none
 | q::t=>if q=39\/q=34 then eA q t else none
def nV (s:List UInt8):Option (List UInt8×List UInt8):=(un s).bind fun p=>(EN p.1).map fun v=>(v,p.2)
def g0 (c:UInt8):List UInt8->Option (List UInt8)
 | []=>none
 | d::t=>if d=c then some t else none
def jl (s:List UInt8):Option (Pr×List UInt8):=(mw s).bind fun p=>(g0 61 (cC p.2)).bind fun t=>(nV (cC t)).map fun q=>(⟨p.1,q.1⟩,q.2)
def iL {p:UInt8->Bool} : ∀ s:List UInt8,(s.dropWhile p).length<=s.length
 | []=>Nat.le_refl _
 | c::s=>by
  rw[List.dropWhile_cons]
  split
  ·have:=iL (p:=p) s;simp;omega
  ·exact Nat.le_refl _
def fJ (s:List UInt8):(cC s).length<=s.length:=iL s
def yI (s:List UInt8):s=zC s++EU s:=(List.takeWhile_append_dropWhile).symm
def Gg {s:List UInt8}(h:bC s=true):s≠[]:=by
 intro e;subst e;cases h
def kK {s n r:List UInt8}(h:mw s=some (n,r)):s=n++r/\n≠[]/\bC n=true/\r.length<s.length:=by
 unfold mw at h
 split at h
 ·rename_i hf
  cases h
  have h1:=yI s
  have h2:=Gg hf
  refine⟨h1,h2,hf,?_⟩
  have:=congrArg List.length h1
  rw[List.length_append]at this
  have:=List.length_pos_iff.2 h2
  omega
 ·cases h
def iG (c d:UInt8)(t:List UInt8):g0 c (d::t)=if d=c then some t else none:=rfl
def x8 (q:UInt8)(t:List UInt8):un (q::t)=if q=39\/q=34 then eA q t else none:=rfl
def eu {c:UInt8}{s t:List UInt8}(h:g0 c s=some t):s=c::t:=by
 cases s with
 | nil=>cases h
 | cons d s =>
  rw[iG]at h
  split at h
  ·rename_i e;cases h;rw[e]
  ·cases h
def lL {s a b:List UInt8}(h:un s=some (a,b)):∃ q,(q=39\/q=34)/\s=q::(a++q::b)/\q ∉ a:=by
 cases s with
 | nil=>cases h
 | cons q t =>
  rw[x8]at h
  split at h
  ·rename_i hq
   obtain⟨h1,h2⟩:=gk h
   exact⟨q,hq,by rw[h1],h2⟩
  ·cases h
def lP {s v r:List UInt8}(h:nV s=some (v,r)):∃ a,un s=some (a,r)/\EN a=some v:=by
 unfold nV at h
 obtain⟨⟨a,b⟩,h1,h2⟩:=Option.bind_eq_some_iff.1 h
 obtain⟨x,h3,h4⟩:=Option.map_eq_some_iff.1 h2
 cases h4
 exact⟨a,h1,h3⟩
def mZ {s r:List UInt8}{a:Pr}(h:jl s=some (a,r)):∃ r1 t,mw s=some (a.name,r1)/\cC r1=61::t/\nV (cC t)=some (a.value,r):=by
 unfold jl at h
 obtain⟨⟨n,r1⟩,h1,h2⟩:=Option.bind_eq_some_iff.1 h
 obtain⟨t,h3,h4⟩:=Option.bind_eq_some_iff.1 h2
 obtain⟨⟨v,r2⟩,h5,h6⟩:=Option.map_eq_some_iff.1 h4
 cases h6
 exact⟨r1,t,h1,eu h3,h5⟩
def o8 {s r:List UInt8}{a:Pr}(h:jl s=some (a,r)):r.length<s.length:=by
 obtain⟨r1,t,h1,h2,h3⟩:=mZ h
 have l1:=(kK h1).2.2.2
 have l2:=fJ r1
 rw[h2]at l2
 have l3:=fJ t
 obtain⟨v,h4,_⟩:=lP h3
 obtain⟨q,_,h5,_⟩:=lL h4
 rw[h5]at l3
 simp only[List.length_cons,List.length_append]at l2 l3
 omega
def ni:List UInt8->Option (Nat×List UInt8)
 | 62::t=>some (1,t)
 | 47::62::t=>some (3,t)
 | _=>none
def ki (n:List UInt8)(l:List Pr)(s:List UInt8):Option (Tk×List UInt8) :=
 match ni (cC s) with
 | some (k,t)=>some (⟨k,n,l,[]⟩,t)
 | none=>if (cC s).length<s.length then (match h:jl (cC s) with
  | none=>none
  | some (a,r)=>if (l.any fun b=>a.name==b.name)=true then none else ki n (l++[a]) r) else none
termination_by s.length
decreasing_by
 have:=o8 h
 have:=fJ s
 omega
def zt {n:List UInt8}{l:List Pr}{s t:List UInt8}{k:Nat}(h:ni (cC s)=some (k,t)):ki n l s=some (⟨k,n,l,[]⟩,t):=by rw[ki,h]
def po {n:List UInt8}{l:List Pr}{s:List UInt8}(h:ni (cC s)=none)(h2:¬(cC s).length<s.length):ki n l s=none:=by rw[ki,h];simp only[if_neg h2]
def zq {n:List UInt8}{l:List Pr}{s:List UInt8}(h:ni (cC s)=none)(h2:jl (cC s)=none):ki n l s=none:=by
 rw[ki,h];simp only
 split
 ·split
  ·rfl
  ·rename_i e;rw[h2]at e;cases e
 ·rfl
def sY {n:List UInt8}{l:List Pr}{s r:List UInt8}{a:Pr}(h:ni (cC s)=none)(h2:jl (cC s)=some (a,r))(h3:(l.any fun b=>a.name==b.name)=true):ki n l s=none:=by
 rw[ki,h];simp only
 split
 ·split
  ·rfl
  ·rename_i e;rw[h2]at e;cases e;rw[if_pos h3]
 ·rfl
def wy {n:List UInt8}{l:List Pr}{s r:List UInt8}{a:Pr}(h:ni (cC s)=none)(hg:(cC s).length<s.length)(h2:jl (cC s)=some (a,r))(h3:(l.any fun b=>a.name==b.name)=false):ki n l s=ki n (l++[a]) r:=by
 rw[ki,h];simp only[if_pos hg]
 split
 ·rename_i e;rw[h2]at e;cases e
 ·rename_i e;rw[h2]at e;cases e;rw[if_neg (by simp[h3])]
def EE (s:List UInt8):Option (Tk×List UInt8) :=
 match g0 47 s with
 | some t=>(mw t).bind fun p=>(g0 62 (cC p.2)).map fun r=>(⟨2,p.1,[],[]⟩,r)
 | none=>(mw s).bind fun p=>ki p.1 [] p.2
def jr (c:UInt8):Bool:=c != 60
def oG (s:List UInt8):List UInt8:=s.takeWhile jr
def ld (s:List UInt8):List UInt8:=s.dropWhile jr
def oW (s:List UInt8):Option (Tk×List UInt8) :=
 match g0 60 s with
 | some t=>EE t
 | none=>(cS (oG s)).map fun x=>(⟨4,[],[],x⟩,ld s)
def G3:∀(k:Nat) (n:List UInt8) (l:List Pr) (s r:List UInt8) (t:Tk),s.length<=k->ki n l s=some (t,r)->r.length<s.length:=by
 intro k
 induction k with
 | zero =>
  intro n l s r t hk h
  obtain rfl:=List.length_eq_zero_iff.1 (Nat.le_zero.1 hk)
  rw[po (by rfl) (by simp[cC])]at h;cases h
 | succ k ih =>
  intro n l s r t hk h
  have hs:=fJ s
  cases he:ni (cC s) with
  | some p =>
   obtain⟨m,u⟩:=p
   rw[zt he]at h
   cases h
   unfold ni at he
   split at he
   ·rename_i e;cases he;rw[e]at hs;simp at hs;omega
   ·rename_i e;cases he;rw[e]at hs;simp at hs;omega
   ·cases he
  | none =>
   cases ha:jl (cC s) with
   | none=>rw[zq he ha]at h;cases h
   | some p =>
    obtain⟨a,u⟩:=p
    have hl:=o8 ha
    cases hd:l.any fun b=>a.name==b.name with
    | true=>rw[sY he ha hd]at h;cases h
    | false =>
     by_cases hg:(cC s).length<s.length
     ·rw[wy he hg ha hd]at h
      have:=ih n _ u r t (by omega) h
      omega
     ·rw[po he hg]at h;cases h
def IW {s r:List UInt8}{t:Tk}(h:EE s=some (t,r)):r.length<s.length:=by
 unfold EE at h
 split at h
 ·rename_i u hu
  obtain⟨⟨n,r1⟩,h1,h2⟩:=Option.bind_eq_some_iff.1 h
  obtain⟨r2,h3,h4⟩:=Option.map_eq_some_iff.1 h2
  cases h4
  have l1:=(kK h1).2.2.2
  have l2:=fJ r1
  rw[eu h3]at l2
  rw[eu hu]
  simp only[List.length_cons]at l2 ⊢
  omega
 ·obtain⟨⟨n,r1⟩,h1,h2⟩:=Option.bind_eq_some_iff.1 h
  have l1:=(kK h1).2.2.2
  have l2:=G3 _ n [] r1 r t (Nat.le_refl _) h2
  omega
def DS {s r:List UInt8}{t:Tk}(hne:s≠[])(h:oW s=some (t,r)):r.length<s.length:=by
 unfold oW at h
 split at h
 ·rename_i u hu
  have:=IW h
  rw[eu hu];simp;omega
 ·rename_i hu
  obtain⟨x,_,h2⟩:=Option.map_eq_some_iff.1 h
  cases h2
  cases s with
  | nil=>exact absurd rfl hne
  | cons c s =>
   have hc:jr c=true:=by
    rw[iG]at hu
    split at hu
    ·cases hu
    ·rename_i e;simp[jr,e]
   unfold ld
   rw[List.dropWhile_cons,if_pos hc]
   have:=iL (p:=jr) s
   simp;omega
def gA (n:Nat)(l:List Tk)(s:List UInt8):List Tk×Nat×Int :=
 if hn:s=[] then (l,0,0) else if 512<=l.length then ([],n-s.length,4) else match h:oW s with
  | none=>([],n-s.length,80)
  | some (t,r)=>if 16<t.attrs.length then ([],n-s.length,4) else gA n (l++[t]) r
termination_by s.length
decreasing_by exact DS hn h
def vZ (n:Nat)(l:List Tk):gA n l []=(l,0,0):=by rw[gA,dif_pos rfl]
def AO {n:Nat}{l:List Tk}{s:List UInt8}(h:s≠[])(h2:512<=l.length):gA n l s=([],n-s.length,4):=by rw[gA,dif_neg h,if_pos h2]
def Dp {n:Nat}{l:List Tk}{s:List UInt8}(h:s≠[])(h2:l.length<512)(h3:oW s=none):gA n l s=([],n-s.length,80):=by
 rw[gA,dif_neg h,if_neg (by omega)]
 split
 ·rfl
 ·rename_i e;rw[h3]at e;cases e
def xN {n:Nat}{l:List Tk}{s r:List UInt8}{t:Tk}(h:s≠[])(h2:l.length<512)(h3:oW s=some (t,r))(h4:16<t.attrs.length):gA n l s=([],n-s.length,4):=by
 rw[gA,dif_neg h,if_neg (by omega)]
 split
 ·rename_i e;rw[h3]at e;cases e
 ·rename_i e;rw[h3]at e;cases e;rw[if_pos h4]
def GA {n:Nat}{l:List Tk}{s r:List UInt8}{t:Tk}(h:s≠[])(h2:l.length<512)(h3:oW s=some (t,r))(h4:t.attrs.length<=16):gA n l s=gA n (l++[t]) r:=by
 rw[gA,dif_neg h,if_neg (by omega)]
 split
 ·rename_i e;rw[h3]at e;cases e
 ·rename_i e;rw[h3]at e;cases e;rw[if_neg (by omega)]
def jw (s:List UInt8):List Tk×Nat×Int:=if az s≠0 then ([],0,az s) else gA s.length [] s
end Go.Proofs.YtlnlopnpcmahgaaGreatDoor
namespace Go.Proofs.YtlnlopnpcmahgaaGreatDoor
set_option maxRecDepth 100000
set_option maxHeartbeats 32000000
open Go Go.RowKit Vm Go.Lib Tryz
open Vm renaming aH->Ca,aL->Cb
open And renaming intro->Ai
open List renaming length_map->Lm,not_mem_nil->Ln,map_nil->Lo,map_cons->Lc,mem_cons->Lk
open Bool renaming not_false->Bf,not_true->Bt
def re (r:Int):Bool:=(decide (0<=r)&&decide (r<55296))||(decide (57343<r)&&decide (r<=1114111))
def wF (r:Int)(nm:Nat):Ev cx 201 nm [.int .i32 r] am.nil (.bool (re r)) []:=by
 unfold re
 refine aV call201 func201 rfl (by kernel_rfl) rfl ?_;intro b0 hb0
 (repeat' first|simp only[aj,ag,results201,ntmps201,ap,ai,seval,ah]|exact rfl|refine aa (v:=.any) ?_|((first|apply Ca|apply Cb)<;>intro hb)|refine Ai (by omega) ?_|(apply Ai<;>intro hb)|refine Fin.pure ?_ ?_ ?_|simp only[al])
 all_goals simp_all
def pn (n:Int)(nm:Nat):Ev cx 170 nm [.int .i64 n] am.nil (.bool (k9 n)) []:=by
 refine aV call170 func170 rfl (by kernel_rfl) rfl ?_;intro b0 hb0
 (repeat' first|simp only[aj,ag,results170,ntmps170,ap,ai,seval,ah]|exact rfl|refine aa (v:=.any) ?_|((first|apply Ca|apply Cb)<;>intro hb)|refine Ai (by omega) ?_|(apply Ai<;>intro hb)|refine Fin.pure ?_ ?_ ?_|simp only[al])
 all_goals simp only[decide_eq_true_eq,decide_eq_false_iff_not,beq_iff_eq,beq_eq_false_iff_ne,ne_eq]at *
 all_goals (first|(exfalso;omega)|(exact J7 (by omega))|(exact J6 (by omega))|skip)
 have hw:IntKind.i32.wrap n=n:=IntWalk.i32_in _ (by omega)
 rw[hw]
 have hv:re n=k9 n:=by
  cases h:k9 n with
  | true =>
   have:=(gT n).1 h
   unfold re
   simp only[Bool.or_eq_true,Bool.and_eq_true,decide_eq_true_eq];omega
  | false =>
   have h':¬ _:=fun q=>by rw[(gT n).2 q]at h;cases h
   unfold re
   simp only[Bool.or_eq_false_iff,Bool.and_eq_false_iff,decide_eq_false_iff_not];omega
 (repeat' first|simp only[aj,ag,results170,ntmps170,ap,hv,ai,seval,ah]|exact rfl|refine aa (v:=.any) ?_|(first|(refine ac ?_ (wF n _) ?_)|(refine ab ?_ (fun _=>wF n _) ?_))|((first|apply Ca|apply Cb)<;>intro hb)|refine Ai (by omega) ?_|(apply Ai<;>intro hb)|refine Fin.pure ?_ ?_ ?_|simp only[al])
def preB (s p:List UInt8):Bool:=decide (p.length<=s.length)&&(s.take p.length==p)
def ss (s p:List UInt8)(hs:s.length<=aS)(hp:p.length<=aS)(nm:Nat):Ev cx 200 nm [.str s,.str p] am.nil (.bool (preB s p)) []:=by
 unfold aS at hs hp
 unfold preB
 refine aV call200 func200 rfl (by kernel_rfl) rfl ?_;intro b0 hb0
 (repeat' first|simp only[aj,ag,results200,ntmps200,ap,decide_eq_true_eq,imp_self,ai,seval,ah]|exact rfl|refine aa (v:=.any) ?_|((first|apply Ca|apply Cb)<;>intro hb)|refine Ai (by omega) ?_|(apply Ai<;>intro hb)|refine Fin.pure ?_ ?_ ?_|simp only[al])
def uk (s p:List UInt8)(hs:s.length<=aS)(hp:p.length<=aS)(nm:Nat):Ev cx 169 nm [.str s,.str p] am.nil (.bool (preB s p)) []:=by
 refine aV call169 func169 rfl (by kernel_rfl) rfl ?_;intro b0 hb0
 (repeat' first|simp only[aj,ag,results169,ntmps169,ap,ai,seval,ah]|exact rfl|refine aa (v:=.any) ?_|(first|(refine ac ?_ (ss s p hs hp _) ?_)|(refine ab ?_ (fun _=>ss s p hs hp _) ?_))|((first|apply Ca|apply Cb)<;>intro hb)|refine Ai (by omega) ?_|(apply Ai<;>intro hb)|refine Fin.pure ?_ ?_ ?_|simp only[al])
end Go.Proofs.YtlnlopnpcmahgaaGreatDoor
