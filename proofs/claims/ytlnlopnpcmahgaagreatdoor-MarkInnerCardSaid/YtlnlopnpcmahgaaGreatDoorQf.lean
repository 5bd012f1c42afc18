/-
 Texts joined: XTy,XEp,XEq,XEr,XEs,XEx,XEn,XLa,XUa,XGa,XGb,XNa,XEa.
-/
import Derived.Test.YtlnlopnpcmahgaaGreatDoorChecked
import Derived.Lib.LaidU8
import Derived.Lib.ItoaNum
import Derived.Lib.RuneBytes
import Derived.Lib.MapLaws
import Derived.Lib.RuneCountTail
import Derived.Lib.IndexLaws
import Derived.Test.YtlnlopnpcmahgaaGreatDoorQe
set_option linter.all false
namespace Go.Proofs.YtlnlopnpcmahgaaGreatDoor
set_option maxRecDepth 100000
set_option maxHeartbeats 32000000
open Go Go.RowKit Vm Go.Lib Tryz
open Vm renaming aW->Ca,bf->Cb
open And renaming intro->Ai
open List renaming length_map->Lm,not_mem_nil->Ln,map_nil->Lo,map_cons->Lc,mem_cons->Lk
open Bool renaming not_false->Bf,not_true->Bt
def Cn:V:=.rp (Lib.firstTab.map fun z=>.int .u8 z)
def Pa:V:=.rp ((List.range 16).flatMap fun i=>[V.int .u8 (Lib.accLo i),.int .u8 (Lib.accHi i)])
def LA:V:=.rp (Lib.pow10Tab.map fun z=>.int .u64 z)
def zG:V:=.rp [.iface 167 (.agg [.val (.pointer (some ⟨9,73,none⟩))])]
def qn (g:Nat):V:=if g=3 then Cn else if g=4 then Pa else if g=2 then LA else if g=0 then zG else .any
def pk:Cn.plain=true/\Pa.plain=true/\LA.plain=true:=by decide +kernel
noncomputable def cx:Cx:=⟨Tryz.prog,qn,[]⟩
def bM:∀ g,(cx.G g).plain=true:=fun g=>by
 show(qn g).plain=true
 unfold qn
 split
 ·exact pk.1
 ·split
  ·exact pk.2.1
  ·split
   ·exact pk.2.2
   ·split
    ·rfl
    ·rfl
def mixed:cx.P.follows .mixedOrders=true:=by kernel_rfl
def bh {f:FuncId}{nm:Nat}{args:List V}{M:am}{v:V}{eff:List (Nat×Option Blk)}{fn:Func}{c:Code}(hcall:∀ cargs w,(callFunc f cargs).run cx.P w = .ok (.enter f cargs) w)(hf:cx.P.funcs[f]? = some fn)(hb:fn.body=some c)(hin:de fn.ntmps c=true)(hargs:decide (args.length<=fn.ntmps)=true)
  (hvc:∀ b0,(∀ x,b0<=x->M x=none)->go cx (vq cx fn nm M v eff b0) [] b0 (eW args) M c):Ev cx f nm args M v eff:=Rv rfl hcall hf hb mixed hin hargs hvc
def R8:cx.P.underlying 9=some .string:=by kernel_rfl
def Sm:cg cx.P 9=true:=by kernel_rfl
def R6:cx.P.underlying 3=some (.int .i64):=by kernel_rfl
def K8:ff cx.P 43=some ([.int .u8 0,.str [],.str [],.nils,.str [],.int .i64 0],[(0,1),(1,1),(2,1),(3,1),(4,1),(5,1)]):=by kernel_rfl
def Ri:cG cx.P 22=some ([.int .u8 0,.str [],.str [],.nils,.str [],.int .i64 0],88):=by kernel_rfl
def QW:cx.P.underlying 25=some (.int .i64):=by kernel_rfl
def QY:cx.P.underlying 46=some (.slice 3):=by kernel_rfl
def Rk:cG cx.P 46=some ([.int .i64 0],8):=by kernel_rfl
def RH:cg cx.P 46=true:=by kernel_rfl
def Rr:iX cx.P 46=some 3:=by kernel_rfl
def Ph:qy cx.P 46=none:=by kernel_rfl
def PI:mL cx.P 46=some (none,1,false):=by kernel_rfl
def So:ty cx.P 3=some (1,false):=by kernel_rfl
def PG:mL cx.P 22=some (none,6,true):=by kernel_rfl
def IX:jY cx.P 43 0=some (0,1,false):=by kernel_rfl
def Sq:ty cx.P 5=some (1,false):=by kernel_rfl
def R7:cx.P.underlying 5=some (.int .u8):=by kernel_rfl
def IY:jY cx.P 43 1=some (1,1,false):=by kernel_rfl
def Sr:ty cx.P 9=some (1,false):=by kernel_rfl
def IZ:jY cx.P 43 2=some (2,1,false):=by kernel_rfl
def QV:cx.P.underlying 22=some (.slice 43):=by kernel_rfl
def RF:cg cx.P 22=true:=by kernel_rfl
def Rp:iX cx.P 22=some 43:=by kernel_rfl
def Pf:qy cx.P 22=none:=by kernel_rfl
def I1:jY cx.P 43 4=some (4,1,false):=by kernel_rfl
def I0:jY cx.P 43 3=some (3,1,false):=by kernel_rfl
def RT:ty cx.P 41=some (1,false):=by kernel_rfl
def QX:cx.P.underlying 41=some (.slice 51):=by kernel_rfl
def Rj:cG cx.P 41=some ([.str [],.str [],.str []],48):=by kernel_rfl
def RG:cg cx.P 41=true:=by kernel_rfl
def Rq:iX cx.P 41=some 51:=by kernel_rfl
def Pg:qy cx.P 41=none:=by kernel_rfl
def PH:mL cx.P 41=some (none,3,true):=by kernel_rfl
def RW:ty cx.P 51=some (3,true):=by kernel_rfl
def OR:dQ cx.P 51=some [.str [],.str [],.str []]:=by kernel_rfl
def Pq:gC cx.P 51=none:=by kernel_rfl
def I4:jY cx.P 51 1=some (1,1,false):=by kernel_rfl
def I3:jY cx.P 51 0=some (0,1,false):=by kernel_rfl
def I5:jY cx.P 51 2=some (2,1,false):=by kernel_rfl
def RU:ty cx.P 43=some (6,true):=by kernel_rfl
def OP:dQ cx.P 43=some [.int .u8 0,.str [],.str [],.nils,.str [],.int .i64 0]:=by kernel_rfl
def Pn:gC cx.P 43=none:=by kernel_rfl
def La:ff cx.P 55=some ([.str [],.str [],.nils,.nils],[(0,1),(1,1),(2,1),(3,1)]):=by kernel_rfl
def Rm:cG cx.P 71=some ([.val .nilFunc],8):=by kernel_rfl
def I7:jY cx.P 55 1=some (1,1,false):=by kernel_rfl
def I2:jY cx.P 43 5=some (5,1,false):=by kernel_rfl
def I9:jY cx.P 55 3=some (3,1,false):=by kernel_rfl
def RR:ty cx.P 22=some (1,false):=by kernel_rfl
def OT:dQ cx.P 67=some [.val .nilFunc]:=by kernel_rfl
def Pt:gC cx.P 67=none:=by kernel_rfl
def RZ:ty cx.P 67=some (1,false):=by kernel_rfl
def OO:dQ cx.P 25=some [.int .i64 0]:=by kernel_rfl
def Pm:gC cx.P 25=none:=by kernel_rfl
def Q0:cx.P.underlying 71=some (.slice 57):=by kernel_rfl
def RJ:cg cx.P 71=true:=by kernel_rfl
def Rt:iX cx.P 71=some 57:=by kernel_rfl
def Pj:qy cx.P 71=none:=by kernel_rfl
def PK:mL cx.P 71=some (none,1,false):=by kernel_rfl
def RY:ty cx.P 57=some (1,false):=by kernel_rfl
def RS:ty cx.P 25=some (1,false):=by kernel_rfl
def I6:jY cx.P 55 0=some (0,1,false):=by kernel_rfl
def I8:jY cx.P 55 2=some (2,1,false):=by kernel_rfl
def RX:ty cx.P 53=some (1,false):=by kernel_rfl
def QZ:cx.P.underlying 53=some (.slice 87):=by kernel_rfl
def Rl:cG cx.P 53=some ([.int .u8 0,.str [],.nils,.str []],64):=by kernel_rfl
def RI:cg cx.P 53=true:=by kernel_rfl
def Rs:iX cx.P 53=some 87:=by kernel_rfl
def Pi:qy cx.P 53=none:=by kernel_rfl
def PJ:mL cx.P 53=some (none,4,true):=by kernel_rfl
def R3:ty cx.P 87=some (4,true):=by kernel_rfl
def Ja:jY cx.P 87 0=some (0,1,false):=by kernel_rfl
def PU:tQ cx.P 51=some [(0,1),(1,1),(2,1)]:=by kernel_rfl
def OU:dQ cx.P 87=some [.int .u8 0,.str [],.nils,.str []]:=by kernel_rfl
def Pu:gC cx.P 87=none:=by kernel_rfl
def Jc:jY cx.P 87 2=some (2,1,false):=by kernel_rfl
def R1:ty cx.P 85=some (1,false):=by kernel_rfl
def Q1:cx.P.underlying 85=some (.slice 125):=by kernel_rfl
def Rn:cG cx.P 85=some ([.str [],.str []],32):=by kernel_rfl
def RK:cg cx.P 85=true:=by kernel_rfl
def Ru:iX cx.P 85=some 125:=by kernel_rfl
def Pk:qy cx.P 85=none:=by kernel_rfl
def OV:dQ cx.P 96=some [.nils,.nils]:=by kernel_rfl
def Pv:gC cx.P 96=none:=by kernel_rfl
def R4:ty cx.P 96=some (2,true):=by kernel_rfl
def Je:jY cx.P 96 0=some (0,1,false):=by kernel_rfl
def Jf:jY cx.P 96 1=some (1,1,false):=by kernel_rfl
def RV:ty cx.P 46=some (1,false):=by kernel_rfl
def LS:dQ cx.P 106=some [.nilp,.nilp,.int .u64 0]:=by kernel_rfl
def Mt:gC cx.P 106=none:=by kernel_rfl
def QC:ty cx.P 106=some (3,true):=by kernel_rfl
def OB:cx.P.underlying 111=some (.int .u8):=by kernel_rfl
def QD:ty cx.P 109=some (1,false):=by kernel_rfl
def ON:dQ cx.P 22=some [.nils]:=by kernel_rfl
def Pl:gC cx.P 22=none:=by kernel_rfl
def LU:dQ cx.P 117=some [.val .nilFunc]:=by kernel_rfl
def Mu:gC cx.P 117=none:=by kernel_rfl
def QE:ty cx.P 117=some (1,false):=by kernel_rfl
def OS:dQ cx.P 53=some [.nils]:=by kernel_rfl
def Ps:gC cx.P 53=none:=by kernel_rfl
def OQ:dQ cx.P 46=some [.nils]:=by kernel_rfl
def Po:gC cx.P 46=none:=by kernel_rfl
def Q2:dQ cx.P 4=some [.bool false]:=by kernel_rfl
def Q9:gC cx.P 4=none:=by kernel_rfl
def Sp:ty cx.P 4=some (1,false):=by kernel_rfl
def LV:dQ cx.P 121=some [.val .nilFunc]:=by kernel_rfl
def Mv:gC cx.P 121=none:=by kernel_rfl
def QF:ty cx.P 121=some (1,false):=by kernel_rfl
def LZ:dQ cx.P 131=some [.nilp,.nils]:=by kernel_rfl
def Mz:gC cx.P 131=some 131:=by kernel_rfl
def Lb:ff cx.P 87=some ([.int .u8 0,.str [],.nils,.str []],[(0,1),(1,1),(2,1),(3,1)]):=by kernel_rfl
def Jb:jY cx.P 87 1=some (1,1,false):=by kernel_rfl
def Jd:jY cx.P 87 3=some (3,1,false):=by kernel_rfl
def PL:mL cx.P 85=some (none,2,true):=by kernel_rfl
def FW:jY cx.P 125 0=some (0,1,false):=by kernel_rfl
def FY:jY cx.P 125 1=some (1,1,false):=by kernel_rfl
def Hi:ff cx.P 144=some ([.str []],[(0,1)]):=by kernel_rfl
def Hj:ff cx.P 146=some ([.str []],[(0,1)]):=by kernel_rfl
def F2:jY cx.P 146 0=some (0,1,true):=by kernel_rfl
def F1:jY cx.P 144 0=some (0,1,false):=by kernel_rfl
def Hk:ff cx.P 151=some ([.nils,.nils,.int .u8 0],[(0,1),(1,1),(2,1)]):=by kernel_rfl
def F5:jY cx.P 151 2=some (2,1,false):=by kernel_rfl
def F3:jY cx.P 151 0=some (0,1,false):=by kernel_rfl
def F4:jY cx.P 151 1=some (1,1,false):=by kernel_rfl
def L0:dQ cx.P 152=some [.val .nilFunc]:=by kernel_rfl
def MA:gC cx.P 152=none:=by kernel_rfl
def QK:ty cx.P 152=some (1,false):=by kernel_rfl
def Hl:ff cx.P 156=some ([.str []],[(0,1)]):=by kernel_rfl
def L2:dQ cx.P 165=some [.val .nilFunc]:=by kernel_rfl
def MC:gC cx.P 165=none:=by kernel_rfl
def QM:ty cx.P 165=some (1,false):=by kernel_rfl
def OD:cx.P.underlying 177=some (.slice 73):=by kernel_rfl
def PD:cG cx.P 177=some ([.val .nilIface],16):=by kernel_rfl
def Qd:cg cx.P 177=true:=by kernel_rfl
def PO:iX cx.P 177=some 73:=by kernel_rfl
def Mo:qy cx.P 177=none:=by kernel_rfl
def MR:mL cx.P 177=some (none,1,false):=by kernel_rfl
def R0:ty cx.P 73=some (1,false):=by kernel_rfl
def LW:dQ cx.P 123=some [.val .nilFunc]:=by kernel_rfl
def Mw:gC cx.P 123=none:=by kernel_rfl
def QG:ty cx.P 123=some (1,false):=by kernel_rfl
def K9:ff cx.P 51=some ([.str [],.str [],.str []],[(0,1),(1,1),(2,1)]):=by kernel_rfl
def OE:cx.P.underlying 180=some (.slice 9):=by kernel_rfl
def PE:cG cx.P 180=some ([.str []],16):=by kernel_rfl
def Qe:cg cx.P 180=true:=by kernel_rfl
def PP:iX cx.P 180=some 9:=by kernel_rfl
def Mp:qy cx.P 180=none:=by kernel_rfl
def Hh:ff cx.P 125=some ([.str [],.str []],[(0,1),(1,1)]):=by kernel_rfl
def QH:ty cx.P 125=some (2,true):=by kernel_rfl
def LX:dQ cx.P 125=some [.str [],.str []]:=by kernel_rfl
def Mx:gC cx.P 125=none:=by kernel_rfl
def F0:jY cx.P 131 1=some (1,1,false):=by kernel_rfl
def QJ:ty cx.P 129=some (1,false):=by kernel_rfl
def E5:cx.P.underlying 129=some (.slice 5):=by kernel_rfl
def PC:cG cx.P 129=some ([.int .u8 0],1):=by kernel_rfl
def Qc:cg cx.P 129=true:=by kernel_rfl
def PN:iX cx.P 129=some 5:=by kernel_rfl
def Mn:qy cx.P 129=some 5:=by kernel_rfl
def OG:cx.P.underlying 189=some (.pointer 5):=by kernel_rfl
def Px:mz cx.P 129=true:=by kernel_rfl
def L1:dQ cx.P 156=some [.str []]:=by kernel_rfl
def MB:gC cx.P 156=none:=by kernel_rfl
def QL:ty cx.P 156=some (1,true):=by kernel_rfl
def F6:jY cx.P 156 0=some (0,1,false):=by kernel_rfl
def QU:cx.P.underlying 21=some (.int .i32):=by kernel_rfl
def MS:mL cx.P 180=some (none,1,false):=by kernel_rfl
def FZ:jY cx.P 131 0=some (0,1,false):=by kernel_rfl
def QI:ty cx.P 128=some (1,false):=by kernel_rfl
def OC:cx.P.underlying 128=some (.pointer 131):=by kernel_rfl
def OA:cx.P.underlying 103=some .unsafePointer:=by kernel_rfl
def Hm:ff cx.P 226=some ([.str [],.nils],[(0,1),(1,1)]):=by kernel_rfl
def F7:jY cx.P 226 0=some (0,1,false):=by kernel_rfl
def F8:jY cx.P 226 1=some (1,1,false):=by kernel_rfl
def L3:dQ cx.P 229=some [.bool false,.bool false,.bool false,.bool false,.bool false,.bool false,.bool false,.bool false,.bool false,.bool false,.bool false,.bool false,.bool false,.bool false,.bool false,.bool false,.bool false,.bool false,.bool false,.bool false,.bool false,.bool false,.bool false,.bool false,.bool false,.bool false,.bool false,.bool false,.bool false,.bool false,.bool false,.bool false,.bool false,.bool false,.bool false,.bool false,.bool false,.bool false,.bool false,.bool false,.bool false,.bool false,.bool false,.bool false,.bool false,.bool false,.bool false,.bool false,.bool false,.bool false,.bool false,.bool false,.bool false,.bool false,.bool false,.bool false,.bool false,.bool false,.bool false,.bool false,.bool false,.bool false,.bool false,.bool false,.bool false,.bool false,.bool false,.bool false,.bool false,.bool false,.bool false,.bool false,.bool false,.bool false,.bool false,.bool false,.bool false,.bool false,.bool false,.bool false,.bool false,.bool false,.bool false,.bool false,.bool false,.bool false,.bool false,.bool false,.bool false,.bool false,.bool false,.bool false,.bool false,.bool false,.bool false,.bool false,.bool false,.bool false,.bool false,.bool false,.bool false,.bool false,.bool false,.bool false,.bool false,.bool false,.bool false,.bool false,.bool false,.bool false,.bool false,.bool false,.bool false,.bool false,.bool false,.bool false,.bool false,.bool false,.bool false,.bool false,.bool false,.bool false,.bool false,.bool false,.bool false,.bool false,.bool false,.bool false,.bool false,.bool false,.bool false,.bool false,.bool false,.bool false,.bool false,.bool false,.bool false,.bool false,.bool false,.bool false,.bool false,.bool false,.bool false,.bool false,.bool false,.bool false,.bool false,.bool false,.bool false,.bool false,.bool false,.bool false,.bool false,.bool false,.bool false,.bool false,.bool false,.bool false,.bool false,.bool false,.bool false,.bool false,.bool false,.bool false,.bool false,.bool false,.bool false,.bool false,.bool false,.bool false,.bool false,.bool false,.bool false,.bool false,.bool false,.bool false,.bool false,.bool false,.bool false,.bool false,.bool false,.bool false,.bool false,.bool false,.bool false,.bool false,.bool false,.bool false,.bool false,.bool false,.bool false,.bool false,.bool false,.bool false,.bool false,.bool false,.bool false,.bool false,.bool false,.bool false,.bool false,.bool false,.bool false,.bool false,.bool false,.bool false,.bool false,.bool false,.bool false,.bool false,.bool false,.bool false,.bool false,.bool false,.bool false,.bool false,.bool false,.bool false,.bool false,.bool false,.bool false,.bool false,.bool false,.bool false,.bool false,.bool false,.bool false,.bool false,.bool false,.bool false,.bool false,.bool false,.bool false,.bool false,.bool false,.bool false,.bool false,.bool false,.bool false,.bool false,.bool false,.bool false,.bool false,.bool false,.bool false,.bool false,.bool false,.bool false,.bool false,.bool false,.bool false,.bool false,.bool false,.bool false,.bool false,.bool false]:=by kernel_rfl
def MD:gC cx.P 229=none:=by kernel_rfl
def QN:ty cx.P 229=some (256,true):=by kernel_rfl
def MQ:mL cx.P 129=some (none,1,false):=by kernel_rfl
def L4:dQ cx.P 240=some [.str []]:=by kernel_rfl
def ME:gC cx.P 240=none:=by kernel_rfl
def QO:ty cx.P 240=some (1,true):=by kernel_rfl
def F9:jY cx.P 240 0=some (0,1,false):=by kernel_rfl
def Ho:ff cx.P 251=some ([.str [],.val .nilFunc],[(0,1),(1,1)]):=by kernel_rfl
def PF:cG cx.P 252=some ([.str [],.val .nilFunc],24):=by kernel_rfl
def OH:cx.P.underlying 252=some (.slice 251):=by kernel_rfl
def Qf:cg cx.P 252=true:=by kernel_rfl
def PQ:iX cx.P 252=some 251:=by kernel_rfl
def Mq:qy cx.P 252=none:=by kernel_rfl
def MU:mL cx.P 252=some (none,2,true):=by kernel_rfl
def QQ:ty cx.P 251=some (2,true):=by kernel_rfl
def L5:dQ cx.P 251=some [.str [],.val .nilFunc]:=by kernel_rfl
def MF:gC cx.P 251=none:=by kernel_rfl
def Ga:jY cx.P 251 0=some (0,1,false):=by kernel_rfl
def Gb:jY cx.P 251 1=some (1,1,false):=by kernel_rfl
def QP:ty cx.P 249=some (1,false):=by kernel_rfl
def MT:mL cx.P 229=some (some 256,1,false):=by kernel_rfl
def R5:cx.P.underlying 2=some (.int .i64):=by kernel_rfl
def L6:dQ cx.P 257=some [.int .u8 0,.int .u8 0,.int .u8 0,.int .u8 0,.int .u8 0,.int .u8 0,.int .u8 0,.int .u8 0,.int .u8 0,.int .u8 0,.int .u8 0,.int .u8 0,.int .u8 0,.int .u8 0,.int .u8 0,.int .u8 0,.int .u8 0,.int .u8 0,.int .u8 0,.int .u8 0,.int .u8 0,.int .u8 0,.int .u8 0,.int .u8 0]:=by kernel_rfl
def MG:gC cx.P 257=none:=by kernel_rfl
def OJ:cx.P.underlying 258=some (.int .u64):=by kernel_rfl
def MV:mL cx.P 257=some (some 24,1,false):=by kernel_rfl
def OI:cx.P.underlying 257=some (.array 24 5):=by kernel_rfl
def Hn:ff cx.P 240=some ([.str []],[(0,1)]):=by kernel_rfl
def LY:dQ cx.P 129=some [.nils]:=by kernel_rfl
def My:gC cx.P 129=none:=by kernel_rfl
def MW:mL cx.P 275=some (some 20,1,false):=by kernel_rfl
def QR:ty cx.P 258=some (1,false):=by kernel_rfl
def OL:cx.P.underlying 276=some (.int .u32):=by kernel_rfl
def L7:dQ cx.P 277=some [.int .u8 0,.int .u8 0,.int .u8 0,.int .u8 0,.int .u8 0,.int .u8 0,.int .u8 0,.int .u8 0,.int .u8 0,.int .u8 0,.int .u8 0,.int .u8 0,.int .u8 0,.int .u8 0,.int .u8 0,.int .u8 0,.int .u8 0,.int .u8 0,.int .u8 0,.int .u8 0,.int .u8 0,.int .u8 0,.int .u8 0,.int .u8 0,.int .u8 0,.int .u8 0,.int .u8 0,.int .u8 0,.int .u8 0,.int .u8 0,.int .u8 0,.int .u8 0,.int .u8 0,.int .u8 0,.int .u8 0,.int .u8 0,.int .u8 0,.int .u8 0,.int .u8 0,.int .u8 0,.int .u8 0,.int .u8 0,.int .u8 0,.int .u8 0,.int .u8 0,.int .u8 0,.int .u8 0,.int .u8 0,.int .u8 0,.int .u8 0,.int .u8 0,.int .u8 0,.int .u8 0,.int .u8 0,.int .u8 0,.int .u8 0,.int .u8 0,.int .u8 0,.int .u8 0,.int .u8 0,.int .u8 0,.int .u8 0,.int .u8 0,.int .u8 0,.int .u8 0]:=by kernel_rfl
def MH:gC cx.P 277=none:=by kernel_rfl
def OK:cx.P.underlying 273=some (.int .u64):=by kernel_rfl
def MX:mL cx.P 277=some (some 65,1,false):=by kernel_rfl
def OM:cx.P.underlying 277=some (.array 65 5):=by kernel_rfl
def MY:mL cx.P 280=some (some 256,1,false):=by kernel_rfl
def MZ:mL cx.P 283=some (some 16,2,true):=by kernel_rfl
def QS:ty cx.P 282=some (2,true):=by kernel_rfl
def L8:dQ cx.P 282=some [.int .u8 0,.int .u8 0]:=by kernel_rfl
def MI:gC cx.P 282=none:=by kernel_rfl
def Gc:jY cx.P 282 0=some (0,1,false):=by kernel_rfl
def Gd:jY cx.P 282 1=some (1,1,false):=by kernel_rfl
def M3:mL cx.P 292=some (some 32,1,false):=by kernel_rfl
def M4:mL cx.P 293=some (some 64,1,false):=by kernel_rfl
def Hp:ff cx.P 296=some ([.str [],.str [],.val .nilIface],[(0,1),(1,1),(2,1)]):=by kernel_rfl
def Hq:ff cx.P 300=some ([.str []],[(0,1)]):=by kernel_rfl
def Ge:jY cx.P 296 2=some (2,1,false):=by kernel_rfl
set_option linter.defProp false in
def ah:=(Ai R8 (Ai Sm (Ai R6 (Ai K8 (Ai Ri (Ai QW (Ai QY (Ai Rk (Ai RH (Ai Rr (Ai Ph (Ai PI (Ai So (Ai PG (Ai IX (Ai Sq (Ai R7 (Ai IY (Ai Sr (Ai IZ (Ai QV (Ai RF (Ai Rp (Ai Pf (Ai I1 (Ai I0 (Ai RT (Ai QX (Ai Rj (Ai RG (Ai Rq (Ai Pg (Ai PH (Ai RW (Ai OR (Ai Pq (Ai I4 (Ai I3 (Ai I5 (Ai RU (Ai OP (Ai Pn (Ai La (Ai Rm (Ai I7 (Ai I2 (Ai I9 (Ai RR (Ai OT (Ai Pt (Ai RZ (Ai OO (Ai Pm (Ai Q0 (Ai RJ (Ai Rt (Ai Pj (Ai PK (Ai RY (Ai RS (Ai I6 (Ai I8 (Ai RX (Ai QZ (Ai Rl (Ai RI (Ai Rs (Ai Pi (Ai PJ (Ai R3 (Ai Ja (Ai PU (Ai OU (Ai Pu (Ai Jc (Ai R1 (Ai Q1 (Ai Rn (Ai RK (Ai Ru (Ai Pk (Ai OV (Ai Pv (Ai R4 (Ai Je (Ai Jf (Ai RV (Ai LS (Ai Mt (Ai QC (Ai OB (Ai QD (Ai ON (Ai Pl (Ai LU (Ai Mu (Ai QE (Ai OS (Ai Ps (Ai OQ (Ai Po (Ai Q2 (Ai Q9 (Ai Sp (Ai LV (Ai Mv (Ai QF (Ai LZ (Ai Mz (Ai Lb (Ai Jb (Ai Jd (Ai PL (Ai FW (Ai FY (Ai Hi (Ai Hj (Ai F2 (Ai F1 (Ai Hk (Ai F5 (Ai F3 (Ai F4 (Ai L0 (Ai MA (Ai QK (Ai Hl (Ai L2 (Ai MC (Ai QM (Ai OD (Ai PD (Ai Qd (Ai PO (Ai Mo (Ai MR (Ai R0 (Ai LW (Ai Mw (Ai QG (Ai K9 (Ai OE (Ai PE (Ai Qe (Ai PP (Ai Mp (Ai Hh (Ai QH (Ai LX (Ai Mx (Ai F0 (Ai QJ (Ai E5 (Ai PC (Ai Qc (Ai PN (Ai Mn (Ai OG (Ai Px (Ai L1 (Ai MB (Ai QL (Ai F6 (Ai QU (Ai MS (Ai FZ (Ai QI (Ai OC (Ai OA (Ai Hm (Ai F7 (Ai F8 (Ai L3 (Ai MD (Ai QN (Ai MQ (Ai L4 (Ai ME (Ai QO (Ai F9 (Ai Ho (Ai PF (Ai OH (Ai Qf (Ai PQ (Ai Mq (Ai MU (Ai QQ (Ai L5 (Ai MF (Ai Ga (Ai Gb (Ai QP (Ai MT (Ai R5 (Ai L6 (Ai MG (Ai OJ (Ai MV (Ai OI (Ai Hn (Ai LY (Ai My (Ai MW (Ai QR (Ai OL (Ai L7 (Ai MH (Ai OK (Ai MX (Ai OM (Ai MY (Ai MZ (Ai QS (Ai L8 (Ai MI (Ai Gc (Ai Gd (Ai M3 (Ai M4 (Ai Hp (Ai Hq (Ai Ge True.intro)))))))))))))))))))))))))))))))))))))))))))))))))))))))))))))))))))))))))))))))))))))))))))))))))))))))))))))))))))))))))))))))))))))))))))))))))))))))))))))))))))))))))))))))))))))))))))))))))))))))))))))))))))))))))))))))
def PZ:gU cx.P 3=some (.int .i64):=by kernel_rfl
def NA:gU cx.P 51=some (.struct [9,9,9]):=by kernel_rfl
def Ny:gU cx.P 41=some (.slice 51 3 48):=by kernel_rfl
def qZ:gU cx.P 9=some .str:=by kernel_rfl
def P0:gU cx.P 5=some (.int .u8):=by kernel_rfl
def Nz:gU cx.P 43=some (.struct [5,9,9,41,9,3]):=by kernel_rfl
def Ez:gU cx.P 22=some (.slice 43 6 88):=by kernel_rfl
end Go.Proofs.YtlnlopnpcmahgaaGreatDoor
namespace Go.Proofs.YtlnlopnpcmahgaaGreatDoor
set_option maxRecDepth 100000
set_option maxHeartbeats 32000000
open Go Go.RowKit
def gV (n:Int):Bool:=decide (n=9\/n=10\/n=13\/(32<=n/\n<=1114111 /\ ¬(55296<=n/\n<=57343)/\n≠65534/\n≠65535))
def fW (n:Int):gV n=true↔(n=9\/n=10\/n=13\/(32<=n/\n<=1114111 /\ ¬(55296<=n/\n<=57343)/\n≠65534/\n≠65535)):=by
 unfold gV;exact decide_eq_true_iff
def RM {n:Int}(h:n=9\/n=10\/n=13\/(32<=n/\n<=1114111 /\ ¬(55296<=n/\n<=57343)/\n≠65534/\n≠65535)):true=gV n:=((fW n).2 h).symm
def RL {n:Int}(h:¬(n=9\/n=10\/n=13\/(32<=n/\n<=1114111 /\ ¬(55296<=n/\n<=57343)/\n≠65534/\n≠65535))):false=gV n:=by
 unfold gV;symm;exact decide_eq_false_iff_not.2 h
def fF {n:Int}(h:gV n=true):0<=n/\n<=1114111/\(2048<=n->n<=65535->(2048<=n/\n<55296)\/(57343<n/\n<=65535)):=by
 have:=(fW n).1 h
 refine⟨by omega,by omega,fun a b=>by omega⟩
def enc (l:List Int):List UInt8:=l.flatMap Lib.encodeRune
def u8 (b:UInt8):Value:=.int .u8 (b.toNat:Int)
def me (l:List Int):Int:=if l.all gV then (if 16384<(enc l).length then 4 else 0) else 50
def lM (l:List Int):List UInt8:=if me l=0 then enc l else []
def IL (a:List Int)(x:Int):enc (a++[x])=enc a++Lib.encodeRune x:=by simp[enc]
def bj (x:Int):1<=(Lib.encodeRune x).length/\(Lib.encodeRune x).length<=4:=by
 unfold Lib.encodeRune Lib.encodeRuneZ
 repeat' split
 all_goals simp
def B9 (l:List Int):(enc l).length<=4*l.length:=by
 induction l with
 | nil=>simp[enc]
 | cons x l ih =>
  have:=(bj x).2
  simp only[enc,List.flatMap_cons,List.length_append,List.length_cons]at ih ⊢
  omega
def GV {l:List Int}{k:Nat}(hk:k<l.length)(h:gV (l.getD k 0)=false):me l=50:=by
 unfold me
 rw[if_neg]
 intro hall
 have:=List.all_eq_true.1 hall (l[k]) (List.getElem_mem hk)
 simp[List.getD_eq_getElem?_getD,hk]at h
 rw[h]at this;cases this
def yZ {l:List Int}{k:Nat}(hk:k<l.length)(h:(l.take k).all gV=true)(hm:gV (l.getD k 0)=true):(l.take (k+1)).all gV=true:=by
 rw[List.take_succ_eq_append_getElem hk,List.all_append,h]
 simp[List.getD_eq_getElem?_getD,hk]at hm
 simp[hm]
end Go.Proofs.YtlnlopnpcmahgaaGreatDoor
namespace Go.Proofs.YtlnlopnpcmahgaaGreatDoor
set_option maxRecDepth 100000
set_option maxHeartbeats 32000000
open Go Go.RowKit Go.Lib
def one (l:List UInt8):Option (Int×Nat) :=
 if l=[] then none
 else if (decodeL l).1=65533/\(decodeL l).2=1 then none
 else if gV ((decodeL l).1:Int) then some (((decodeL l).1:Int),(decodeL l).2) else none
def zq:Nat->List UInt8->Option (List Int)
 | _,[]=>some []
 | 0,_=>none
 | f+1,l=>match one l with
  | none=>none
  | some (z,k)=>(zq f (l.drop k)).map (z :: ·)
def dW (l:List UInt8):Option (List Int):=zq l.length l
def ng {l:List UInt8}{z:Int}{k:Nat}(h:one l=some (z,k)):l≠[]/\gV z=true/\encodeRune z=l.take k/\1<=k/\k<=l.length:=by
 unfold one at h
 split at h
 ·cases h
 rename_i hne
 split at h
 ·cases h
 rename_i hv
 split at h
 ·rename_i hm
  simp only[Option.some.injEq,Prod.mk.injEq]at h
  obtain⟨rfl,rfl⟩:=h
  have he:=encode_decode l hne hv
  have hle:=decodeL_le l hne
  refine⟨hne,hm,he,?_,hle⟩
  have:=(bj ((decodeL l).1:Int)).1
  rw[he,List.length_take]at this
  omega
 ·cases h
def fx {x:Int}(h0:0<=x)(h1:x<256):(x.toNat.toUInt8).toNat=x.toNat:=by simp;omega
def ym {z:Int}(hm:gV z=true)(rest:List UInt8):one (encodeRune z++rest)=some (z,(encodeRune z).length):=by
 have hmz:=(fW z).1 hm
 have key:decodeL (encodeRune z++rest)=(z.toNat,(encodeRune z).length):=by
  rw[decodeL_N]
  by_cases c1:0<=z/\z<=127
  ·have e:encodeRune z=[z.toNat.toUInt8]:=by simp[encodeRune,encodeRuneZ_one c1.1 c1.2]
   rw[e]
   have a:=fx (x:=z) (by omega) (by omega)
   simp only[List.cons_append,List.nil_append,List.getD_cons_zero,List.length_cons,List.length_nil,a,decodeN]
   rw[if_pos (by omega)]
  ·by_cases c2:128<=z/\z<=2047
   ·have e:encodeRune z=[(192+z / 64).toNat.toUInt8,(128+z % 64).toNat.toUInt8]:=by simp[encodeRune,encodeRuneZ_two c2.1 c2.2]
    rw[e]
    have a:=fx (x:=192+z / 64) (by omega) (by omega)
    have b:=fx (x:=128+z % 64) (by omega) (by omega)
    simp only[List.cons_append,List.nil_append,List.getD_cons_zero,List.getD_cons_succ,List.length_cons,List.length_nil,a,b,decodeN]
    rw[if_neg (by omega),if_pos (by omega),if_pos (by omega)]
    simp only[Prod.mk.injEq,and_true];omega
   ·by_cases c3:z<=65535
    ·have e:encodeRune z=[(224+z / 4096).toNat.toUInt8,(128+z / 64 % 64).toNat.toUInt8,(128+z % 64).toNat.toUInt8]:=by simp[encodeRune,encodeRuneZ_three (r:=z) (by omega)]
     rw[e]
     have a:=fx (x:=224+z / 4096) (by omega) (by omega)
     have b:=fx (x:=128+z / 64 % 64) (by omega) (by omega)
     have c:=fx (x:=128+z % 64) (by omega) (by omega)
     simp only[List.cons_append,List.nil_append,List.getD_cons_zero,List.getD_cons_succ,List.length_cons,List.length_nil,a,b,c,decodeN]
     rw[if_neg (by omega),if_neg (by omega),if_pos (by omega),if_pos (by omega)]
     simp only[Prod.mk.injEq,and_true];omega
    ·have e:encodeRune z=[(240+z / 262144).toNat.toUInt8,(128+z / 4096 % 64).toNat.toUInt8,(128+z / 64 % 64).toNat.toUInt8,(128+z % 64).toNat.toUInt8]:=by simp[encodeRune,encodeRuneZ_four (r:=z) (by omega) (by omega)]
     rw[e]
     have a:=fx (x:=240+z / 262144) (by omega) (by omega)
     have b:=fx (x:=128+z / 4096 % 64) (by omega) (by omega)
     have c:=fx (x:=128+z / 64 % 64) (by omega) (by omega)
     have d:=fx (x:=128+z % 64) (by omega) (by omega)
     simp only[List.cons_append,List.nil_append,List.getD_cons_zero,List.getD_cons_succ,List.length_cons,List.length_nil,a,b,c,d,decodeN]
     rw[if_neg (by omega),if_neg (by omega),if_neg (by omega),if_pos (by omega),if_pos (by omega)]
     simp only[Prod.mk.injEq,and_true];omega
 have hne:encodeRune z++rest≠[]:=by
  intro h
  have:=(bj z).1
  rw[List.append_eq_nil_iff]at h
  rw[h.1]at this;simp at this
 unfold one
 rw[if_neg hne,key]
 have hz:((z.toNat:Nat):Int)=z:=by omega
 simp only[hz,hm,if_true]
 rw[if_neg]
 rintro ⟨h1,h2⟩
 have hz2:z=65533:=by omega
 subst hz2
 revert h2
 decide
def vX:∀(f g:Nat) (l:List UInt8),l.length<=f->l.length<=g->zq f l=zq g l
 | _,_,[],_,_=>by simp[zq]
 | 0,_,x::l,h,_=>by simp at h
 | _,0,x::l,_,h=>by simp at h
 | f+1,g+1,x::l,hf,hg=>by
  simp only[zq]
  cases h1:one (x::l) with
  | none=>rfl
  | some p =>
   obtain⟨z,k⟩:=p
   obtain⟨_,_,_,hk,_⟩:=ng h1
   simp only
   rw[vX f g ((x::l).drop k) (by simp at hf ⊢;omega) (by simp at hg ⊢;omega)]
def sB:dW []=some []:=rfl
def mG {l:List UInt8}{z:Int}{k:Nat}(h:one l=some (z,k)):dW l=(dW (l.drop k)).map (z :: ·):=by
 obtain⟨hne,_,_,hk,hkl⟩:=ng h
 obtain⟨x,l',rfl⟩:=List.exists_cons_of_ne_nil hne
 unfold dW
 rw[show(x::l').length=l'.length+1 from rfl]
 simp only[zq,h]
 rw[vX l'.length ((x::l').drop k).length _ (by simp;omega) (Nat.le_refl _)]
def xC {l:List UInt8}(hne:l≠[])(h:one l=none):dW l=none:=by
 obtain⟨x,l',rfl⟩:=List.exists_cons_of_ne_nil hne
 unfold dW
 rw[show(x::l').length=l'.length+1 from rfl]
 simp only[zq,h]
def fV:∀(zs:List Int),zs.all gV=true->dW (enc zs)=some zs
 | [],_=>rfl
 | z::zs,h=>by
  simp only[List.all_cons,Bool.and_eq_true]at h
  have e:enc (z::zs)=encodeRune z++enc zs:=by simp[enc]
  rw[e,mG (ym h.1 (enc zs)),List.drop_left,fV zs h.2]
  rfl
def zu:∀(n:Nat) (l:List UInt8) (zs:List Int),l.length<=n->dW l=some zs->zs.all gV=true/\enc zs=l
 | 0,l,zs,hn,h=>by
  have:l=[]:=List.eq_nil_of_length_eq_zero (by omega)
  subst this
  rw[sB]at h
  cases h
  exact⟨rfl,rfl⟩
 | n+1,l,zs,hn,h=>by
  by_cases hne:l=[]
  ·subst hne
   rw[sB]at h
   cases h
   exact⟨rfl,rfl⟩
  ·cases h1:one l with
   | none=>rw[xC hne h1]at h;cases h
   | some p =>
    obtain⟨z,k⟩:=p
    obtain⟨_,hm,he,hk,hkl⟩:=ng h1
    rw[mG h1]at h
    obtain⟨zs',h2,rfl⟩:=Option.map_eq_some_iff.1 h
    obtain⟨ha,hb⟩:=zu n (l.drop k) zs' (by simp;omega) h2
    refine⟨by simp[hm,ha],?_⟩
    show encodeRune z++enc zs'=l
    rw[he,hb,List.take_append_drop]
def lu (l:List UInt8)(zs:List Int):dW l=some zs↔zs.all gV=true/\enc zs=l :=
 ⟨fun h=>zu l.length l zs (Nat.le_refl _) h,fun ⟨h1,h2⟩=>by rw[<- h2,fV zs h1]⟩
def C5 {l:List UInt8}(h:hasPrefix l [239,191,189]=true):∃ rest,l=encodeRune 65533++rest:=by
 unfold hasPrefix at h
 obtain⟨rest,hr⟩:=List.isPrefixOf_iff_prefix.1 h
 exact⟨rest,by rw[<- hr];congr 1⟩
def zx {l:List UInt8}(h:hasPrefix l [239,191,189]=true):(decodeL l).2≠1:=by
 obtain⟨rest,rfl⟩:=C5 h
 have h1:=ym (z:=65533) (by decide) rest
 unfold one at h1
 split at h1
 ·cases h1
 split at h1
 ·cases h1
 rename_i hv
 split at h1
 ·simp only[Option.some.injEq,Prod.mk.injEq]at h1
  rw[h1.2]
  decide
 ·cases h1
def vI {l:List UInt8}(hne:l≠[]):one l=if ((decodeL l).1=65533/\hasPrefix l [239,191,189]=false)\/gV ((decodeL l).1:Int)=false then none else some (((decodeL l).1:Int),(decodeL l).2):=by
  unfold one
  rw[if_neg hne]
  by_cases h1:(decodeL l).1=65533/\(decodeL l).2=1
  · rw[if_pos h1,if_pos]
    left
    refine⟨h1.1,?_⟩
    cases hp:hasPrefix l [239,191,189] with
    | false=>rfl
    | true=>exact absurd h1.2 (zx hp)
  · rw [if_neg h1]
    by_cases h2:(decodeL l).1=65533
    · have he:=encode_decode l hne h1
      rw[h2]at he
      have hp:hasPrefix l [239,191,189]=true:=by
        unfold hasPrefix
        rw[List.isPrefixOf_iff_prefix,show([239,191,189]:List UInt8)=encodeRune ((65533:Nat):Int) from by decide,he]
        exact List.take_prefix _ _
      rw[hp]
      by_cases hm:gV ((decodeL l).1:Int)=true
      · simp[hm]
      · simp[hm]
    · by_cases hm:gV ((decodeL l).1:Int)=true
      · simp[hm,h2]
      · simp[hm,h2]
def zz (s:ByteArray)(pos:Nat):Utf8.decode s pos=decodeL (s.data.toList.drop pos):=by
 have h:=tail_decode s pos 0
 rw[Nat.add_zero]at h
 rw[<- h]
 unfold decodeL
 congr 1
 have h2:(s.extract pos s.size).data.toList=s.data.toList.drop pos:=by
  rw[extract_data,List.take_of_length_le]
  simp
 apply ByteArray.ext
 apply Array.ext'
 simpa using h2
def ua (c:Int):Int:=if c<128 then 1 else if 192<=c/\c<224 then 2 else if 224<=c/\c<240 then 3 else if 240<=c/\c<248 then 4 else 0
def Af (c:Int):Int:=if c<128 then c else if 192<=c/\c<224 then c-192 else if 224<=c/\c<240 then c-224 else if 240<=c/\c<248 then c-240 else 0
def zm (n:Int)(l:List UInt8):Int:=l.foldl (fun n b=>64*n+(b.toNat:Int) % 64) n
def Jq {z:Int}(hm:gV z=true):∃ b rest,encodeRune z=b::rest/\ua (b.toNat:Int)=((encodeRune z).length:Nat)/\zm (Af (b.toNat:Int)) rest=z:=by
 have hmz:=(fW z).1 hm
 by_cases c1:0<=z/\z<=127
 ·have e:encodeRune z=[z.toNat.toUInt8]:=by simp[encodeRune,encodeRuneZ_one c1.1 c1.2]
  have a:=fx (x:=z) (by omega) (by omega)
  refine⟨_,_,e,?_,?_⟩
  ·rw[e,a];unfold ua;rw[if_pos (by omega)];rfl
  ·rw[a];unfold Af;rw[if_pos (by omega)];simp[zm];omega
 ·by_cases c2:128<=z/\z<=2047
  ·have e:encodeRune z=[(192+z / 64).toNat.toUInt8,(128+z % 64).toNat.toUInt8]:=by simp[encodeRune,encodeRuneZ_two c2.1 c2.2]
   have a:=fx (x:=192+z / 64) (by omega) (by omega)
   have b:=fx (x:=128+z % 64) (by omega) (by omega)
   refine⟨_,_,e,?_,?_⟩
   ·rw[e,a];unfold ua;rw[if_neg (by omega),if_pos (by omega)];rfl
   ·rw[a];unfold Af;rw[if_neg (by omega),if_pos (by omega)];simp only[zm,List.foldl_cons,List.foldl_nil,b];omega
  ·by_cases c3:z<=65535
   ·have e:encodeRune z=[(224+z / 4096).toNat.toUInt8,(128+z / 64 % 64).toNat.toUInt8,(128+z % 64).toNat.toUInt8]:=by simp[encodeRune,encodeRuneZ_three (r:=z) (by omega)]
    have a:=fx (x:=224+z / 4096) (by omega) (by omega)
    have b:=fx (x:=128+z / 64 % 64) (by omega) (by omega)
    have c:=fx (x:=128+z % 64) (by omega) (by omega)
    refine⟨_,_,e,?_,?_⟩
    ·rw[e,a];unfold ua;rw[if_neg (by omega),if_neg (by omega),if_pos (by omega)];rfl
    ·rw[a];unfold Af;rw[if_neg (by omega),if_neg (by omega),if_pos (by omega)];simp only[zm,List.foldl_cons,List.foldl_nil,b,c];omega
   ·have e:encodeRune z=[(240+z / 262144).toNat.toUInt8,(128+z / 4096 % 64).toNat.toUInt8,(128+z / 64 % 64).toNat.toUInt8,(128+z % 64).toNat.toUInt8]:=by simp[encodeRune,encodeRuneZ_four (r:=z) (by omega) (by omega)]
    have a:=fx (x:=240+z / 262144) (by omega) (by omega)
    have b:=fx (x:=128+z / 4096 % 64) (by omega) (by omega)
    have c:=fx (x:=128+z / 64 % 64) (by omega) (by omega)
    have d:=fx (x:=128+z % 64) (by omega) (by omega)
    refine⟨_,_,e,?_,?_⟩
    ·rw[e,a];unfold ua;rw[if_neg (by omega),if_neg (by omega),if_neg (by omega),if_pos (by omega)];rfl
    ·rw[a];unfold Af;rw[if_neg (by omega),if_neg (by omega),if_neg (by omega),if_pos (by omega)];simp only[zm,List.foldl_cons,List.foldl_nil,b,c,d];omega
def aN (l:List UInt8):Int:=if 16384<l.length then 4 else match dW l with|none=>50|some _=>0
def pd {s:List UInt8}(h:aN s=0):s.length<=16384:=by
 unfold aN at h
 split at h
 ·omega
 ·omega
def qF (q:Bool)(c:UInt8):List UInt8 :=
 if c=38 then [38,97,109,112,59] else if c=60 then [38,108,116,59] else if c=62 then [38,103,116,59] else if c=13 then [38,35,49,51,59]
 else if q=true then (if c=34 then [38,113,117,111,116,59] else if c=9 then [38,35,57,59] else if c=10 then [38,35,49,48,59] else [c]) else [c]
def cE (q:Bool)(s:List UInt8):List UInt8:=s.flatMap (qF q)
def zJ (q:Bool):cE q []=[]:=rfl
def zI (q:Bool)(a b:List UInt8):cE q (a++b)=cE q a++cE q b:=by simp[cE]
def FP (q:Bool)(a:List UInt8)(c:UInt8):cE q (a++[c])=cE q a++qF q c:=by simp[cE]
def mN (q:Bool)(c:UInt8):1<=(qF q c).length/\(qF q c).length<=6:=by
 unfold qF
 repeat' split
 all_goals simp
def Na (q:Bool)(c:UInt8):qF q c≠[]:=by
 intro h
 have:=(mN q c).1
 rw[h]at this;simp at this
def co (q:Bool)(s:List UInt8):s.length<=(cE q s).length/\(cE q s).length<=6*s.length:=by
 induction s with
 | nil=>simp[cE]
 | cons c s ih =>
  have:=mN q c
  simp only[cE,List.flatMap_cons,List.length_append,List.length_cons]at ih ⊢
  omega
def FQ (q:Bool){s:List UInt8}{k:Nat}{c:UInt8}(h:s[k]? = some c):cE q (s.take (k+1))=cE q (s.take k)++qF q c:=by
 obtain⟨hk,rfl⟩:=List.getElem?_eq_some_iff.1 h
 rw[List.take_succ_eq_append_getElem hk,FP]
def D7:∀(p:List Int) (r:List UInt8),p.all gV=true->dW (enc p++r)=(dW r).map (p ++ ·)
 | [],r,_=>by simp[enc]
 | z::p,r,h=>by
  simp only[List.all_cons,Bool.and_eq_true]at h
  have e:enc (z::p)++r=encodeRune z++(enc p++r):=by simp[enc]
  rw[e,mG (ym h.1 _),List.drop_left,D7 p r h.2,Option.map_map]
  congr 1
def tC {a b:List UInt8}{x y:List Int}(ha:dW a=some x)(hb:dW b=some y):dW (a++b)=some (x++y):=by
 obtain⟨h1,rfl⟩:=(lu a x).1 ha
 rw[D7 x b h1,hb];rfl
def HF {z:Int}{k:Nat}(h1:1<=k)(h2:k<(encodeRune z).length):∃ b t,(encodeRune z).drop k=b::t/\128<=b.toNat/\b.toNat<192:=by
 have key:∀ x:Int,0<=x -> ∀ y,(128+x % 64).toNat.toUInt8=y->128<=y.toNat/\y.toNat<192:=by
  intro x _ y hy
  subst hy
  rw[fx (by omega) (by omega)]
  omega
 unfold encodeRune encodeRuneZ at h2 ⊢
 repeat' split
 ·rename_i c;rw[if_pos c]at h2;simp at h2;omega
 ·rename_i c1 c2;rw[if_neg c1,if_pos c2]at h2
  have:k=1:=by simp at h2;omega
  subst this
  exact⟨_,_,rfl,key z (by omega) _ rfl⟩
 ·rename_i c1 c2 c3;rw[if_neg c1,if_neg c2,if_pos c3]at h2
  have:k=1\/k=2:=by simp at h2;omega
  rcases this with rfl|rfl
  ·exact⟨_,_,rfl,key (z / 64) (by omega) _ rfl⟩
  ·exact⟨_,_,rfl,key z (by omega) _ rfl⟩
 ·rename_i c1 c2 c3 c4;rw[if_neg c1,if_neg c2,if_neg c3,if_pos c4]at h2
  have:k=1\/k=2\/k=3:=by simp at h2;omega
  rcases this with rfl|rfl|rfl
  ·exact⟨_,_,rfl,key (z / 4096) (by omega) _ rfl⟩
  ·exact⟨_,_,rfl,key (z / 64) (by omega) _ rfl⟩
  ·exact⟨_,_,rfl,key z (by omega) _ rfl⟩
 ·rename_i c1 c2 c3 c4;rw[if_neg c1,if_neg c2,if_neg c3,if_neg c4]at h2
  have:k=1\/k=2:=by simp at h2;omega
  rcases this with rfl|rfl
  ·exact⟨_,_,rfl,by decide⟩
  ·exact⟨_,_,rfl,by decide⟩
def Iy:∀(zs:List Int) (k:Nat),k<=(enc zs).length->(∃ p q,zs=p++q/\(enc zs).take k=enc p/\(enc zs).drop k=enc q) \/ ∃ b t,(enc zs).drop k=b::t/\128<=b.toNat/\b.toNat<192
 | [],k,h=>by
  have:k=0:=by simpa [enc] using h
  subst this
  exact .inl ⟨[],[],rfl,rfl,rfl⟩
 | z::zs,k,h=>by
  have e:enc (z::zs)=encodeRune z++enc zs:=by simp[enc]
  rw[e]at h ⊢
  by_cases h0:k=0
  ·subst h0
   exact .inl ⟨[],z::zs,rfl,rfl,by rw[e];rfl⟩
  by_cases h1:k<(encodeRune z).length
  ·obtain⟨b,t,ht,hb⟩:=HF (by omega) h1
   exact .inr ⟨b,t++enc zs,by rw[List.drop_append_of_le_length (by omega),ht];rfl,hb⟩
  ·obtain⟨j,rfl⟩:∃ j,k=(encodeRune z).length+j:=⟨k-(encodeRune z).length,by omega⟩
   have hj:j<=(enc zs).length:=by simp at h;omega
   rcases Iy zs j hj with ⟨p,q,rfl,h3,h4⟩|⟨b,t,h3,hb⟩
   ·refine .inl ⟨z::p,q,rfl,?_,?_⟩
    ·rw[List.take_length_add_append,h3];simp[enc]
    ·rw[List.drop_length_add_append,h4]
   ·exact .inr ⟨b,t,by rw[List.drop_length_add_append,h3],hb⟩
def RE (c:UInt8):Bool:=(decide (97<=c.toNat)&&decide (c.toNat<=122))||(decide (65<=c.toNat)&&decide (c.toNat<=90))||decide (c=95)
def jQ (first:Bool)(c:UInt8):Bool:=RE c||(!first&&((decide (48<=c.toNat)&&decide (c.toNat<=57))||decide (c=46)||decide (c=45)))
def eI:List UInt8->Bool
 | []=>false
 | c::r=>jQ true c&&r.all (jQ false)
def ep (d:UInt8):List UInt8->Option (List UInt8×List UInt8)
 | []=>none
 | c::r=>if c=d then some ([],r) else (ep d r).map (fun p=>(c::p.1,p.2))
def cN (s:List UInt8):Bool:=match ep 58 s with
 | none=>eI s
 | some (a,b)=>eI a&&eI b
def gY {d:UInt8} : ∀ {s:List UInt8},ep d s=none↔d ∉ s
 | []=>by simp[ep]
 | c::r=>by
  simp only[ep]
  by_cases h:c=d
  ·simp[h]
  ·rw[if_neg h]
   simp only[Option.map_eq_none_iff,gY (s:=r),List.mem_cons,not_or]
   constructor
   ·intro h2;exact⟨fun e=>h e.symm,h2⟩
   ·intro h2;exact h2.2
def fb {d:UInt8} : ∀ {s a b:List UInt8},ep d s=some (a,b)->s=a++d::b/\d ∉ a
 | [],a,b,h=>by simp[ep]at h
 | c::r,a,b,h=>by
  simp only[ep]at h
  by_cases hc:c=d
  ·rw[if_pos hc]at h;cases h;subst hc;simp
  ·rw[if_neg hc]at h
   obtain⟨⟨a',b'⟩,h1,h2⟩:=Option.map_eq_some_iff.1 h
   cases h2
   obtain⟨e1,e2⟩:=fb h1
   refine⟨by rw[e1];rfl,?_⟩
   simp only[List.mem_cons,not_or]
   exact⟨fun e=>hc e.symm,e2⟩
def nD {d:UInt8} : ∀ {a b:List UInt8},d ∉ a->ep d (a++d::b)=some (a,b)
 | [],b,_=>by simp[ep]
 | c::a,b,h=>by
  simp only[List.mem_cons,not_or]at h
  simp only[List.cons_append,ep]
  rw[if_neg (fun e=>h.1 e.symm),nD h.2];rfl
def MM {d:UInt8}{s:List UInt8}{i:Nat}(h1:d ∉ s.take i)(h2:s[i]? = some d):ep d s=some (s.take i,s.drop (i+1)):=by
 obtain⟨hi,he⟩:=List.getElem?_eq_some_iff.1 h2
 have:s=s.take i++d::s.drop (i+1):=by
  conv=>lhs;rw[<- List.take_append_drop i s]
  rw[List.drop_eq_getElem_cons hi,he]
 have h3:=nD (b:=s.drop (i+1)) h1
 rwa[<- this]at h3
def iG {d:UInt8}{s:List UInt8} : indexByte s d = -1↔ep d s=none:=by
 rw[gY]
 constructor
 ·intro h hm
  obtain⟨k,hk,rfl⟩:=List.getElem_of_mem hm
  exact indexByte_none h k (List.getElem?_eq_getElem hk)
 ·intro h
  have hge:=indexByte_ge s d
  by_cases hneg:indexByte s d = -1
  ·exact hneg
  ·obtain⟨o,ho⟩:∃ o:Nat,indexByte s d=o:=⟨(indexByte s d).toNat,by omega⟩
   exact absurd (List.mem_of_getElem? (indexByte_some ho).1) h
def j8 {d:UInt8}{s a b:List UInt8}(h:ep d s=some (a,b)):indexByte s d=a.length/\s.take a.length=a/\s.drop (a.length+1)=b/\a.length+1+b.length=s.length:=by
 obtain⟨h1,h2⟩:=fb h
 have hne:indexByte s d ≠ -1:=fun e=>by rw[iG.1 e]at h;cases h
 have hge:=indexByte_ge s d
 obtain⟨o,ho⟩:∃ o:Nat,indexByte s d=o:=⟨(indexByte s d).toNat,by omega⟩
 obtain⟨g1,g2⟩:=indexByte_some ho
 have hat:=MM (i:=o) (fun hm=>by
  obtain⟨k,hk,he⟩:=List.getElem_of_mem hm
  rw[List.length_take]at hk
  rw[List.getElem_take]at he
  exact g2 k (by omega) (by rw[List.getElem?_eq_getElem (by omega),he])) g1
 rw[h]at hat
 cases hat
 have hlt:=(List.getElem?_eq_some_iff.1 g1).1
 have hl:(s.take o).length=o:=by rw[List.length_take];omega
 rw[hl]
 refine⟨ho,rfl,rfl,?_⟩
 rw[List.length_drop];omega
def sI (s:List UInt8)(k:Nat):Prop:=∀(i:Nat) (c:UInt8),i<k->s[i]? = some c->jQ (i==0) c=true
def CY {s:List UInt8}(hne:s≠[])(h:sI s s.length):eI s=true:=by
 cases s with
 | nil=>exact absurd rfl hne
 | cons c r =>
  have h0:=h 0 c (by simp) (by simp)
  simp only[beq_self_eq_true]at h0
  simp only[eI,h0,Bool.true_and,List.all_eq_true]
  intro x hx
  obtain⟨k,hk,rfl⟩:=List.getElem_of_mem hx
  have:=h (k+1) r[k] (by simp;omega) (by simp[hk])
  have h3:((k+1)==0)=false:=beq_false_of_ne (by omega)
  rwa[h3]at this
def AF {s:List UInt8}{k:Nat}{c:UInt8}(hc:s[k]? = some c)(h:jQ (k==0) c=false):eI s=false:=by
 cases s with
 | nil=>simp at hc
 | cons x r =>
  cases k with
  | zero =>
   simp at hc;subst hc
   simp only[beq_self_eq_true]at h
   simp[eI,h]
  | succ k =>
   have h3:((k+1)==0)=false:=beq_false_of_ne (by omega)
   rw[h3]at h
   simp only[List.getElem?_cons_succ]at hc
   simp only[eI,Bool.and_eq_false_iff,List.all_eq_false]
   right
   exact⟨c,List.mem_of_getElem? hc,by rw[h];simp⟩
def gE (c d:UInt8):((c.toNat:Int)==(d.toNat:Int))=decide (c=d):=by
 rw[Bool.eq_iff_iff,beq_iff_eq,decide_eq_true_iff]
 constructor
 ·intro h;exact UInt8.toNat_inj.1 (by omega)
 ·rintro rfl;rfl
def pA (b:UInt8):Bool:=decide (128<=b.toNat)&&decide (b.toNat<192)
def zp:∀(zs:List Int) (k:Nat),k<=(enc zs).length -> ∃ j,k<=j/\j<=k+3/\j<=(enc zs).length /\ ∃ p q,zs=p++q/\(enc zs).take j=enc p/\(enc zs).drop j=enc q
 | [],k,h=>by
  have:k=0:=by simpa [enc] using h
  subst this
  exact⟨0,Nat.le_refl _,by omega,by simp,[],[],rfl,rfl,rfl⟩
 | z::zs,k,h=>by
  have e:enc (z::zs)=encodeRune z++enc zs:=by simp[enc]
  have hl:=bj z
  rw[e]at h ⊢
  by_cases h0:k=0
  ·subst h0
   exact⟨0,Nat.le_refl _,by omega,by omega,[],z::zs,rfl,rfl,by rw[e];rfl⟩
  by_cases h1:k<(encodeRune z).length
  ·refine⟨(encodeRune z).length,by omega,by omega,by simp,[z],zs,rfl,?_,?_⟩
   ·rw[List.take_left];simp[enc]
   ·rw[List.drop_left]
  ·obtain⟨j,rfl⟩:∃ j,k=(encodeRune z).length+j:=⟨k-(encodeRune z).length,by omega⟩
   have hj:j<=(enc zs).length:=by simp at h;omega
   obtain⟨i,i1,i2,i3,p,q,rfl,h3,h4⟩:=zp zs j hj
   refine⟨(encodeRune z).length+i,by omega,by omega,by simp at i3 ⊢;omega,z::p,q,rfl,?_,?_⟩
   ·rw[List.take_length_add_append,h3];simp[enc]
   ·rw[List.drop_length_add_append,h4]
def II {zs:List Int}(hm:zs.all gV=true){b:UInt8}(h:(enc zs)[0]? = some b):pA b=false:=by
 cases zs with
 | nil=>simp[enc]at h
 | cons z zs =>
  simp only[List.all_cons,Bool.and_eq_true]at hm
  obtain⟨c,rest,e1,e2,_⟩:=Jq hm.1
  have e:enc (z::zs)=encodeRune z++enc zs:=by simp[enc]
  rw[e,e1]at h
  simp at h;subst h
  have hl:=(bj z).1
  unfold pA
  by_cases hc:128<=c.toNat/\c.toNat<192
  ·exfalso
   have:ua (c.toNat:Int)=0:=by
    unfold ua;rw[if_neg (by omega),if_neg (by omega),if_neg (by omega),if_neg (by omega)]
   omega
  ·simp only[Bool.and_eq_false_iff,decide_eq_false_iff_not];omega
def HH {r:List UInt8}(h:(dW r).isSome=true){k:Nat}(hk:k<=r.length):∃ j,k<=j/\j<=k+3/\j<=r.length /\ ∀ b,r[j]? = some b->pA b=false:=by
 obtain⟨zs,hz⟩:=Option.isSome_iff_exists.1 h
 obtain⟨hm,rfl⟩:=(lu r zs).1 hz
 obtain⟨j,j1,j2,j3,p,q,rfl,h3,h4⟩:=zp zs k hk
 rw[List.all_append,Bool.and_eq_true]at hm
 refine⟨j,j1,j2,j3,fun b hb=>II hm.2 ?_⟩
 rw[<- h4,List.getElem?_drop];simpa using hb
def LB {r:List UInt8}(h:(dW r).isSome=true){k:Nat}(hk:k<=r.length)(hc:∀ b,r[k]? = some b->pA b=false):(dW (r.take k)).isSome=true/\(dW (r.drop k)).isSome=true:=by
 obtain⟨zs,hz⟩:=Option.isSome_iff_exists.1 h
 obtain⟨hm,rfl⟩:=(lu r zs).1 hz
 rcases Iy zs k hk with ⟨p,q,rfl,h3,h4⟩|⟨b,t,h3,hb1,hb2⟩
 ·rw[List.all_append,Bool.and_eq_true]at hm
  rw[h3,h4,fV p hm.1,fV q hm.2]
  exact⟨rfl,rfl⟩
 ·exfalso
  have:(enc zs)[k]? = some b:=by
   have:=congrArg (fun l=>l[0]?) h3
   simpa using this
  have:=hc b this
  simp only[pA,Bool.and_eq_false_iff,decide_eq_false_iff_not]at this
  omega
def c6 {s:List UInt8} : aN s=0↔s.length<=16384/\(dW s).isSome=true:=by
 unfold aN
 split
 ·constructor
  ·intro h;omega
  ·rintro ⟨h,_⟩;omega
 ·rename_i hl
  cases dW s with
  | none=>simp
  | some z=>simp;omega
structure Pr where
 name:List UInt8
 value:List UInt8
deriving DecidableEq
structure Tk where
 kind:Nat
 name:List UInt8
 attrs:List Pr
 text:List UInt8
deriving DecidableEq
def O2 (l:List Pr)(a:Pr):Bool:=!(l.any fun b=>a.name==b.name)&&cN a.name&&decide (aN a.value=0)
def ja (l:List Pr)(k:Nat):Prop:=∀(i:Nat) (a:Pr),i<k->l[i]? = some a->O2 (l.take i) a=true
def iQ (l:List Pr):Bool:=decide (l.length<=16)&&l.zipIdx.all fun p=>O2 (l.take p.2) p.1
def gh {l:List Pr} : iQ l=true↔l.length<=16/\ja l l.length:=by
 unfold iQ ja
 simp only[Bool.and_eq_true,decide_eq_true_eq,List.all_eq_true]
 refine and_congr_right fun _=>⟨fun h i a hi ha=>?_,fun h p hp=>?_⟩
 ·refine h (a,i) ?_
  rw[List.mem_zipIdx_iff_getElem?];exact ha
 ·have:=(List.mem_zipIdx_iff_getElem?).1 hp
  exact h p.2 p.1 (List.getElem?_eq_some_iff.1 this).1 this
def ed (t:Tk):Bool :=
 if t.kind=1\/t.kind=3 then cN t.name&&iQ t.attrs&&t.text.isEmpty
 else if t.kind=2 then cN t.name&&t.attrs.isEmpty&&t.text.isEmpty
 else if t.kind=4 then t.name.isEmpty&&t.attrs.isEmpty && !t.text.isEmpty&&decide (aN t.text=0)
 else false
def Ov (t:Tk):Int:=if ed t=true then 0 else 8
def mr (a:Pr):List UInt8:=[32]++a.name++[61,34]++cE true a.value++[34]
def ef (l:List Pr):List UInt8:=l.flatMap mr
def fJ (t:Tk):List UInt8 :=
 if t.kind=4 then cE false t.text
 else if t.kind=2 then [60,47]++t.name++[62]
 else [60]++t.name++ef t.attrs++(if t.kind=3 then [47,62] else [62])
def bk (l:List Tk):List UInt8:=l.flatMap fJ
def DN {l:List Tk}{k:Nat}{t:Tk}(h:l[k]? = some t):bk (l.take (k+1))=bk (l.take k)++fJ t:=by
 obtain⟨hk,rfl⟩:=List.getElem?_eq_some_iff.1 h
 rw[List.take_succ_eq_append_getElem hk];unfold bk;rw[List.flatMap_append];simp
def zd {l:List Pr}{k:Nat}{t:Pr}(h:l[k]? = some t):ef (l.take (k+1))=ef (l.take k)++mr t:=by
 obtain⟨hk,rfl⟩:=List.getElem?_eq_some_iff.1 h
 rw[List.take_succ_eq_append_getElem hk];unfold ef;rw[List.flatMap_append];simp
def iZ:List Tk->Bool
 | a::b::r=>(a.kind==4&&b.kind==4)||iZ (b::r)
 | _=>false
def pp (l:List Tk)(k:Nat):Prop:=∀(i:Nat) (a b:Tk),i+1<k->l[i]? = some a->l[i+1]? = some b -> ¬(a.kind=4/\b.kind=4)
def jm:∀ {l:List Tk},iZ l=false↔pp l l.length
 | []=>by simp[iZ,pp]
 | [a]=>by simp[iZ,pp]
 | a::b::r=>by
  simp only[iZ,Bool.or_eq_false_iff,jm (l:=b::r)]
  constructor
  ·rintro ⟨h1,h2⟩ i x y hi hx hy
   cases i with
   | zero =>
    simp at hx hy;subst hx;subst hy
    intro⟨e1,e2⟩
    simp[e1,e2]at h1
   | succ i=>exact h2 i x y (by simp at hi ⊢;omega) (by simpa using hx) (by simpa using hy)
  ·intro h
   refine⟨?_,fun i x y hi hx hy=>h (i+1) x y (by simp at hi ⊢;omega) (by simpa using hx) (by simpa using hy)⟩
   have:=h 0 a b (by simp) (by simp) (by simp)
   simp only[Bool.and_eq_false_iff,beq_eq_false_iff_ne]
   by_cases e:a.kind=4
   ·right;exact fun e2=>this ⟨e,e2⟩
   ·left;exact e
def H0 {l:List Tk}{i:Nat}{a b:Tk}(ha:l[i]? = some a)(hb:l[i+1]? = some b)(h1:a.kind=4)(h2:b.kind=4):iZ l=true:=by
 cases h:iZ l with
 | true=>rfl
 | false =>
  have:=jm.1 h
  exact absurd ⟨h1,h2⟩ (this i a b (List.getElem?_eq_some_iff.1 hb).1 ha hb)
def eP (l:List Tk):Int:=if (l.any fun t=>!ed t)=true\/iZ l=true then 8 else if 512<l.length\/16384<(bk l).length then 4 else 0
def kf (l:List Tk):List UInt8:=if eP l=0 then bk l else []
def uO {α:Type}{f:α->Nat}{l:List α}{x:α}(h:x∈l):f x<=(l.map f).sum:=by
 induction l with
 | nil=>simp at h
 | cons y l ih =>
  simp only[List.map_cons,List.sum_cons]
  rcases List.mem_cons.1 h with rfl|h
  ·omega
  ·have:=ih h;omega
def xu (a:Pr):(mr a).length<=4+a.name.length+6*a.value.length:=by
 have:=co true a.value
 simp only[mr,List.length_append,List.length_cons,List.length_nil];omega
def oS {α:Type}{f:α->List UInt8}{n:Nat} : ∀ {l:List α},(∀ x∈l,(f x).length<=n)->(l.flatMap f).length<=l.length*n
 | [],_=>by simp
 | x::l,h=>by
  have h1:=h x (by simp)
  have h2:=oS (l:=l) (fun y hy=>h y (by simp[hy]))
  simp only[List.flatMap_cons,List.length_append,List.length_cons,Nat.succ_mul];omega
def r7 {t:Tk}{n:Nat}(h1:t.attrs.length<=30)(h2:t.name.length<=n)(h3:t.text.length<=n)(h4:∀ a∈t.attrs,a.name.length<=n/\a.value.length<=n):(ef t.attrs).length<=30*(4+7*n)/\(fJ t).length<=124+217*n:=by
 have e:=co false t.text
 have ha:(ef t.attrs).length<=t.attrs.length*(4+7*n):=oS (fun a ha=>by
  have:=xu a
  have:=h4 a ha
  omega)
 have hb:t.attrs.length*(4+7*n)<=30*(4+7*n):=Nat.mul_le_mul_right _ h1
 refine⟨by omega,?_⟩
 unfold fJ
 split
 ·omega
 ·split
  ·simp only[List.length_append,List.length_cons,List.length_nil];omega
  ·simp only[List.length_append,List.length_cons,List.length_nil]
   split<;>simp only[List.length_cons,List.length_nil]<;>omega
structure At where
 space:List UInt8
 name:List UInt8
 value:List UInt8
deriving DecidableEq
structure Nd where
 kind:Nat
 space:List UInt8
 name:List UInt8
 attrs:List At
 text:List UInt8
 many:Int
deriving DecidableEq
structure Gr where
 v:List Nd
 opn:List Nat
def Nd.inc (n:Nd):Nd:={ n with many:=n.many+1 }
def mY (v:List Nd)(opn:List Nat):List Nd:=match opn.getLast? with
 | some k=>v.modify k Nd.inc
 | none=>v
def ll (g:Gr)(n:Nd):List Nd:=mY g.v g.opn++[n]
def iR (c:UInt8):Bool:=c==32||c==9||c==10||c==13
def oH (s:List UInt8):Bool:=s.all iR
def jU (s:List UInt8):Nd:=⟨2,[],[],[],s,0⟩
def dh (l:List Pr):List At:=l.map fun a=>⟨[],a.name,a.value⟩
def gT (t:Tk):Nd:=⟨1,[],t.name,dh t.attrs,[],0⟩
def mZ (g:Gr):Option (List UInt8):=g.opn.getLast?.bind fun k=>(g.v[k]?).map Nd.name
def stepG (g:Gr)(t:Tk)(txt:Bool):Gr×Int :=
 if t.kind=4 then
  if (txt||(g.opn.isEmpty && !oH t.text))=true then (g,80)
  else if g.opn.isEmpty=true then (g,0) else (⟨ll g (jU t.text),g.opn⟩,0)
 else if t.kind=2 then
  if mZ g=some t.name then (⟨g.v,g.opn.dropLast⟩,0) else (g,80)
 else if (g.opn.isEmpty && !g.v.isEmpty)=true then (g,80)
 else if 12<=g.opn.length then (g,100)
 else (⟨ll g (gT t),if t.kind=1 then g.opn++[g.v.length] else g.opn⟩,0)
def vb:Gr->Bool->List Tk->Gr×Int
 | g,_,[]=>(g,0)
 | g,txt,t::r=>if (stepG g t txt).2=0 then vb (stepG g t txt).1 (t.kind==4) r else stepG g t txt
def cR (l:List Tk):Int:=if 512<l.length then 4 else if (l.any fun t=>!ed t)=true then 8 else
 if (vb ⟨[],[]⟩ false l).2≠0 then (vb ⟨[],[]⟩ false l).2 else if (vb ⟨[],[]⟩ false l).1.v.isEmpty=true\/(vb ⟨[],[]⟩ false l).1.opn.isEmpty=false then 80 else 0
def dJ (l:List Tk):List Nd:=if cR l=0 then (vb ⟨[],[]⟩ false l).1.v else []
structure Gr.Ok (g:Gr) (n:Nat):Prop where
 in_:∀ k∈g.opn,k<g.v.length
 deep:g.opn.length<=12
 many:∀ x∈g.v,0<=x.many/\x.many<=n
 len:g.v.length<=n
def Aj (v:List Nd)(o:List Nat):(mY v o).length=v.length:=by
 unfold mY
 split<;>simp
def gg (g:Gr)(n:Nd):(ll g n).length=g.v.length+1:=by simp[ll,Aj]
def Jv {v:List Nd}{o:List Nat}{n:Nat}(h:∀ x∈v,0<=x.many/\x.many<=n):∀ x∈mY v o,0<=x.many/\x.many<=((n+1:Nat):Int):=by
 intro x hx
 unfold mY at hx
 split at hx
 ·rename_i k _
  obtain⟨i,hi⟩:=List.mem_iff_getElem?.1 hx
  rw[List.getElem?_modify]at hi
  cases hv:v[i]? with
  | none=>rw[hv]at hi;simp at hi
  | some y =>
   rw[hv]at hi
   have:=h y (List.mem_of_getElem? hv)
   split at hi
   ·simp at hi;subst hi;simp only[Nd.inc];omega
   ·simp at hi;subst hi;omega
 ·have:=h x hx;omega
def HZ {g:Gr}{n:Nat}(h:g.Ok n){x:Nd}(hx:x.many=0):(∀ k∈g.opn,k<(ll g x).length)/\(∀ y∈ll g x,0<=y.many/\y.many<=((n+1:Nat):Int))/\(ll g x).length<=n+1:=by
 refine⟨fun k hk=>?_,fun y hy=>?_,?_⟩
 ·have:=h.in_ k hk;rw[gg];omega
 ·rcases List.mem_append.1 hy with hy|hy
  ·exact Jv h.many y hy
  ·simp at hy;subst hy;omega
 ·rw[gg];have:=h.len;omega
def EY {g:Gr}{n:Nat}(h:g.Ok n)(t:Tk)(txt:Bool):(stepG g t txt).1.Ok (n+1):=by
 have h0:g.Ok (n+1):=⟨h.in_,h.deep,fun x hx=>by have:=h.many x hx;omega,by have:=h.len;omega⟩
 unfold stepG
 split
 ·split
  ·exact h0
  ·split
   ·exact h0
   ·obtain⟨h1,h2,h3⟩:=HZ h (x:=jU t.text) rfl
    exact⟨h1,h.deep,h2,h3⟩
 ·split
  ·split
   ·exact⟨fun k hk=>h.in_ k (List.dropLast_subset _ hk),by simp;have:=h.deep;omega,h0.many,h0.len⟩
   ·exact h0
  ·split
   ·exact h0
   ·split
    ·exact h0
    ·rename_i h12
     obtain⟨h1,h2,h3⟩:=HZ h (x:=gT t) rfl
     refine⟨fun k hk=>?_,?_,h2,h3⟩
     ·simp only at hk
      split at hk
      ·rcases List.mem_append.1 hk with hk|hk
       ·exact h1 k hk
       ·simp at hk;subst hk;simp only[gg];omega
      ·exact h1 k hk
     ·simp only
      split
      ·simp;omega
      ·exact h.deep
def A1:(Gr.mk [] []).Ok 0:=Gr.Ok.mk (fun k h=>by simp at h) (by simp) (fun x h=>by simp at h) (by simp)
def wn {v:List Nd}{o:List Nat}{k:Nat}(h:o.getLast? = some k):mY v o=v.modify k Nd.inc:=by unfold mY;rw[h]
def DC {v:List Nd}{k:Nat}{x:Nd}(h:v[k]? = some x):v.modify k Nd.inc=v.set k x.inc:=by
 refine List.ext_getElem? fun i=>?_
 rw[List.getElem?_modify,List.getElem?_set]
 have hk:=(List.getElem?_eq_some_iff.1 h).1
 by_cases e:k=i
 ·subst e;have hv:=(List.getElem?_eq_some_iff.1 h).2;simp[hk,hv]
 ·simp[e]
def m7 {o:List Nat}{k:Nat}(h:o.getLast? = some k):o≠[]/\o[o.length-1]? = some k/\0<o.length:=by
 have hne:o≠[]:=by intro e;subst e;simp at h
 rw[List.getLast?_eq_getElem?]at h
 exact⟨hne,h,List.length_pos_iff.2 hne⟩
def ra {o:List Nat}(h:o≠[]):∃ k,o.getLast? = some k:=⟨_,List.getLast?_eq_some_getLast h⟩
def Jk {l:List Tk} : ∀ {g:Gr} {txt:Bool} {t:Tk} {r:List Tk},l=t::r->(stepG g t txt).2=0->vb g txt l=vb (stepG g t txt).1 (t.kind==4) r:=by
 intro g txt t r h h0
 subst h
 rw[vb,if_pos h0]
def Nj {g:Gr}{txt:Bool}{t:Tk}{r:List Tk}(h0:(stepG g t txt).2≠0):vb g txt (t::r)=stepG g t txt:=by rw[vb,if_neg h0]
def Nk (g:Gr)(txt:Bool):vb g txt []=(g,0):=rfl
def oc (c:UInt8):Option Nat:=if 48<=c.toNat/\c.toNat<=57 then some (c.toNat-48) else if 97<=c.toNat/\c.toNat<=102 then some (c.toNat-87) else if 65<=c.toNat/\c.toNat<=70 then some (c.toNat-55) else none
def g9:Nat->List UInt8->Option Nat
 | n,[]=>some n
 | n,c::r=>match oc c with|none=>none|some d=>g9 (16*n+d) r
def pS (s:List UInt8):Option Nat:=if s=[]\/6<s.length\/s.head? = some 48 then none else g9 0 s
def tA (c:UInt8):Option Nat:=if 48<=c.toNat/\c.toNat<=57 then some (c.toNat-48) else none
def ls:Nat->List UInt8->Option Nat
 | n,[]=>some n
 | n,c::r=>match tA c with|none=>none|some d=>ls (10*n+d) r
def oM (s:List UInt8):Option Nat:=if s=[]\/16<s.length\/(s.head? = some 48/\s≠[48]) then none else (ls 0 s).bind fun n=>if n<=9007199254740991 then some n else none
def fe (o:Option Nat):Option (List UInt8):=o.bind fun n=>if gV (n:Int)=true then some (encodeRune n) else none
def cI (s:List UInt8):Option (List UInt8) :=
 if s=[97,109,112] then some [38] else if s=[108,116] then some [60] else if s=[103,116] then some [62] else if s=[113,117,111,116] then some [34] else if s=[97,112,111,115] then some [39]
 else if s.head? = some 35 then (if s.tail.head? = some 120 then fe (pS s.tail.tail) else fe (oM s.tail)) else none
def tz {d:UInt8}{s a b:List UInt8}(h:ep d s=some (a,b)):b.length<s.length:=by
 have:=(fb h).1
 rw[this];simp;omega
def bY:List UInt8->Option (List UInt8)
 | []=>some []
 | c::r=>if c=60 then none else if c=38 then (match h:ep 59 r with|none=>none|some (a,b)=>match cI a with|none=>none|some x=>(bY b).map (x ++ ·)) else (bY r).map (c :: ·)
termination_by s=>s.length
decreasing_by
 ·have:=tz h;simp;omega
 ·simp
def kZ:bY []=some []:=by rw[bY]
def nj (r:List UInt8):bY (60::r)=none:=by rw[bY];rfl
def gA {c:UInt8}(h1:c≠60)(h2:c≠38)(r:List UInt8):bY (c::r)=(bY r).map (c :: ·):=by rw[bY,if_neg h1,if_neg h2]
def jR {r:List UInt8}(h:ep 59 r=none):bY (38::r)=none:=by
 rw[bY,if_neg (by decide),if_pos rfl]
 split
 ·rfl
 ·rename_i e;rw[h]at e;cases e
def kY {r a b:List UInt8}(h:ep 59 r=some (a,b))(hm:cI a=none):bY (38::r)=none:=by
 rw[bY,if_neg (by decide),if_pos rfl]
 split
 ·rfl
 ·rename_i e;rw[h]at e;cases e;rw[hm]
def k7 {r a b x:List UInt8}(h:ep 59 r=some (a,b))(hm:cI a=some x):bY (38::r)=(bY b).map (x ++ ·):=by
 rw[bY,if_neg (by decide),if_pos rfl]
 split
 ·rename_i e;rw[h]at e;cases e
 ·rename_i e;rw[h]at e;cases e;rw[hm]
def GD:cI [97,109,112]=some [38]:=by decide
def JR:cI [108,116]=some [60]:=by decide
def JQ:cI [103,116]=some [62]:=by decide
def CX:cI [113,117,111,116]=some [34]:=by decide
def xG {z:Int}(h0:0<=z)(h:z<128):encodeRune z=[z.toNat.toUInt8]:=by
 unfold encodeRune encodeRuneZ
 rw[if_pos (by omega)]
 rfl
def pG {z:Int}(h:128<=z):∀ c∈encodeRune z,128<=c.toNat:=by
 intro c hc
 unfold encodeRune encodeRuneZ at hc
 rw[if_neg (by omega)]at hc
 repeat' split at hc
 all_goals (
  simp only[List.map_cons,List.map_nil,List.mem_cons,List.not_mem_nil,or_false]at hc
  rcases hc with rfl|rfl|rfl|rfl<;>(rw[fx (by omega) (by omega)];omega))
def tB {c:UInt8}{d:Nat}(h:tA c=some d):d<=9/\c=UInt8.ofNat (48+d)/\c.toNat=48+d:=by
 unfold tA at h
 split at h
 ·cases h
  refine⟨by omega,?_,by omega⟩
  have:48+(c.toNat-48)=c.toNat:=by omega
  rw[this];simp
 ·cases h
def vZ:∀(s:List UInt8) (n:Nat) (c:UInt8),ls n (s++[c])=(ls n s).bind fun m=>(tA c).map fun d=>10*m+d
 | [],n,c=>by
  simp only[List.nil_append,ls,Option.bind_some]
  cases tA c<;>rfl
 | x::s,n,c=>by
  simp only[List.cons_append,ls]
  cases tA x with
  | none=>rfl
  | some d=>exact vZ s _ c
def D6:∀(s:List UInt8) (n m:Nat),ls n s=some m->n<=m/\m<(n+1)*10 ^ s.length
 | [],n,m,h=>by simp only[ls]at h;cases h;simp
 | x::s,n,m,h=>by
  simp only[ls]at h
  cases hx:tA x with
  | none=>rw[hx]at h;cases h
  | some d =>
   rw[hx]at h
   have hd:=(tB hx).1
   obtain⟨h1,h2⟩:=D6 s _ m h
   refine⟨by omega,Nat.lt_of_lt_of_le h2 ?_⟩
   rw[List.length_cons,Nat.pow_succ',<- Nat.mul_assoc]
   exact Nat.mul_le_mul_right _ (by omega)
def be (s:List UInt8):List UInt8:=s.dropWhile iR
def fD (c:UInt8):Bool:=jQ false c||c==58
def jW (s:List UInt8):List UInt8:=s.takeWhile fD
def u4 (s:List UInt8):List UInt8:=s.dropWhile fD
def fy (s:List UInt8):Option (List UInt8×List UInt8):=if cN (jW s)=true then some (jW s,u4 s) else none
def cH (c:UInt8):UInt8:=if iR c=true then 32 else c
def Ba (s:List UInt8):Option (List UInt8):=bY (s.map cH)
def uz:List UInt8->Option (List UInt8×List UInt8)
 | []=>none
 | q::t=>if q=39\/q=34 then ep q t else none
def iU (s:List UInt8):Option (List UInt8×List UInt8):=(uz s).bind fun p=>(Ba p.1).map fun v=>(v,p.2)
def bZ (c:UInt8):List UInt8->Option (List UInt8)
 | []=>none
 | d::t=>if d=c then some t else none
def gS (s:List UInt8):Option (Pr×List UInt8):=(fy s).bind fun p=>(bZ 61 (be p.2)).bind fun t=>(iU (be t)).map fun q=>(⟨p.1,q.1⟩,q.2)
def lv {p:UInt8->Bool} : ∀ s:List UInt8,(s.dropWhile p).length<=s.length
 | []=>Nat.le_refl _
 | c::s=>by
  rw[List.dropWhile_cons]
  split
  ·have:=lv (p:=p) s;simp;omega
  ·exact Nat.le_refl _
def dB (s:List UInt8):(be s).length<=s.length:=lv s
def DS (s:List UInt8):s=jW s++u4 s:=(List.takeWhile_append_dropWhile).symm
def Ng {s:List UInt8}(h:cN s=true):s≠[]:=by
 intro e;subst e;cases h
def fX {s n r:List UInt8}(h:fy s=some (n,r)):s=n++r/\n≠[]/\cN n=true/\r.length<s.length:=by
 unfold fy at h
 split at h
 ·rename_i hf
  cases h
  have h1:=DS s
  have h2:=Ng hf
  refine⟨h1,h2,hf,?_⟩
  have:=congrArg List.length h1
  rw[List.length_append]at this
  have:=List.length_pos_iff.2 h2
  omega
 ·cases h
def jv (c d:UInt8)(t:List UInt8):bZ c (d::t)=if d=c then some t else none:=rfl
def uA (q:UInt8)(t:List UInt8):uz (q::t)=if q=39\/q=34 then ep q t else none:=rfl
def b6 {c:UInt8}{s t:List UInt8}(h:bZ c s=some t):s=c::t:=by
 cases s with
 | nil=>cases h
 | cons d s =>
  rw[jv]at h
  split at h
  ·rename_i e;cases h;rw[e]
  ·cases h
def lP {s a b:List UInt8}(h:uz s=some (a,b)):∃ q,(q=39\/q=34)/\s=q::(a++q::b)/\q ∉ a:=by
 cases s with
 | nil=>cases h
 | cons q t =>
  rw[uA]at h
  split at h
  ·rename_i hq
   obtain⟨h1,h2⟩:=fb h
   exact⟨q,hq,by rw[h1],h2⟩
  ·cases h
def l7 {s v r:List UInt8}(h:iU s=some (v,r)):∃ a,uz s=some (a,r)/\Ba a=some v:=by
 unfold iU at h
 obtain⟨⟨a,b⟩,h1,h2⟩:=Option.bind_eq_some_iff.1 h
 obtain⟨x,h3,h4⟩:=Option.map_eq_some_iff.1 h2
 cases h4
 exact⟨a,h1,h3⟩
def nB {s r:List UInt8}{a:Pr}(h:gS s=some (a,r)):∃ r1 t,fy s=some (a.name,r1)/\be r1=61::t/\iU (be t)=some (a.value,r):=by
 unfold gS at h
 obtain⟨⟨n,r1⟩,h1,h2⟩:=Option.bind_eq_some_iff.1 h
 obtain⟨t,h3,h4⟩:=Option.bind_eq_some_iff.1 h2
 obtain⟨⟨v,r2⟩,h5,h6⟩:=Option.map_eq_some_iff.1 h4
 cases h6
 exact⟨r1,t,h1,b6 h3,h5⟩
def ln {s r:List UInt8}{a:Pr}(h:gS s=some (a,r)):r.length<s.length:=by
 obtain⟨r1,t,h1,h2,h3⟩:=nB h
 have l1:=(fX h1).2.2.2
 have l2:=dB r1
 rw[h2]at l2
 have l3:=dB t
 obtain⟨v,h4,_⟩:=l7 h3
 obtain⟨q,_,h5,_⟩:=lP h4
 rw[h5]at l3
 simp only[List.length_cons,List.length_append]at l2 l3
 omega
def lA:List UInt8->Option (Nat×List UInt8)
 | 62::t=>some (1,t)
 | 47::62::t=>some (3,t)
 | _=>none
def jT (n:List UInt8)(l:List Pr)(s:List UInt8):Option (Tk×List UInt8) :=
 match lA (be s) with
 | some (k,t)=>some (⟨k,n,l,[]⟩,t)
 | none=>if (be s).length<s.length then (match h:gS (be s) with
  | none=>none
  | some (a,r)=>if (l.any fun b=>a.name==b.name)=true then none else jT n (l++[a]) r) else none
termination_by s.length
decreasing_by
 have:=ln h
 have:=dB s
 omega
def lW {n:List UInt8}{l:List Pr}{s t:List UInt8}{k:Nat}(h:lA (be s)=some (k,t)):jT n l s=some (⟨k,n,l,[]⟩,t):=by rw[jT,h]
def lX {n:List UInt8}{l:List Pr}{s:List UInt8}(h:lA (be s)=none)(h2:¬(be s).length<s.length):jT n l s=none:=by rw[jT,h];simp only[if_neg h2]
def sO {n:List UInt8}{l:List Pr}{s:List UInt8}(h:lA (be s)=none)(h2:gS (be s)=none):jT n l s=none:=by
 rw[jT,h];simp only
 split
 ·split
  ·rfl
  ·rename_i e;rw[h2]at e;cases e
 ·rfl
def nV {n:List UInt8}{l:List Pr}{s r:List UInt8}{a:Pr}(h:lA (be s)=none)(h2:gS (be s)=some (a,r))(h3:(l.any fun b=>a.name==b.name)=true):jT n l s=none:=by
 rw[jT,h];simp only
 split
 ·split
  ·rfl
  ·rename_i e;rw[h2]at e;cases e;rw[if_pos h3]
 ·rfl
def nt {n:List UInt8}{l:List Pr}{s r:List UInt8}{a:Pr}(h:lA (be s)=none)(hg:(be s).length<s.length)(h2:gS (be s)=some (a,r))(h3:(l.any fun b=>a.name==b.name)=false):jT n l s=jT n (l++[a]) r:=by
 rw[jT,h];simp only[if_pos hg]
 split
 ·rename_i e;rw[h2]at e;cases e
 ·rename_i e;rw[h2]at e;cases e;rw[if_neg (by simp[h3])]
def uQ (s:List UInt8):Option (Tk×List UInt8) :=
 match bZ 47 s with
 | some t=>(fy t).bind fun p=>(bZ 62 (be p.2)).map fun r=>(⟨2,p.1,[],[]⟩,r)
 | none=>(fy s).bind fun p=>jT p.1 [] p.2
def ku (c:UInt8):Bool:=c != 60
def cP (s:List UInt8):List UInt8:=s.takeWhile ku
def gP (s:List UInt8):List UInt8:=s.dropWhile ku
def jP (s:List UInt8):Option (Tk×List UInt8) :=
 match bZ 60 s with
 | some t=>uQ t
 | none=>(bY (cP s)).map fun x=>(⟨4,[],[],x⟩,gP s)
def Oq:∀(k:Nat) (n:List UInt8) (l:List Pr) (s r:List UInt8) (t:Tk),s.length<=k->jT n l s=some (t,r)->r.length<s.length:=by
 intro k
 induction k with
 | zero =>
  intro n l s r t hk h
  obtain rfl:=List.length_eq_zero_iff.1 (Nat.le_zero.1 hk)
  rw[lX (by rfl) (by simp[be])]at h;cases h
 | succ k ih =>
  intro n l s r t hk h
  have hs:=dB s
  cases he:lA (be s) with
  | some p =>
   obtain⟨m,u⟩:=p
   rw[lW he]at h
   cases h
   unfold lA at he
   split at he
   ·rename_i e;cases he;rw[e]at hs;simp at hs;omega
   ·rename_i e;cases he;rw[e]at hs;simp at hs;omega
   ·cases he
  | none =>
   cases ha:gS (be s) with
   | none=>rw[sO he ha]at h;cases h
   | some p =>
    obtain⟨a,u⟩:=p
    have hl:=ln ha
    cases hd:l.any fun b=>a.name==b.name with
    | true=>rw[nV he ha hd]at h;cases h
    | false =>
     by_cases hg:(be s).length<s.length
     ·rw[nt he hg ha hd]at h
      have:=ih n _ u r t (by omega) h
      omega
     ·rw[lX he hg]at h;cases h
def QA {s r:List UInt8}{t:Tk}(h:uQ s=some (t,r)):r.length<s.length:=by
 unfold uQ at h
 split at h
 ·rename_i u hu
  obtain⟨⟨n,r1⟩,h1,h2⟩:=Option.bind_eq_some_iff.1 h
  obtain⟨r2,h3,h4⟩:=Option.map_eq_some_iff.1 h2
  cases h4
  have l1:=(fX h1).2.2.2
  have l2:=dB r1
  rw[b6 h3]at l2
  rw[b6 hu]
  simp only[List.length_cons]at l2 ⊢
  omega
 ·obtain⟨⟨n,r1⟩,h1,h2⟩:=Option.bind_eq_some_iff.1 h
  have l1:=(fX h1).2.2.2
  have l2:=Oq _ n [] r1 r t (Nat.le_refl _) h2
  omega
def yn {s r:List UInt8}{t:Tk}(hne:s≠[])(h:jP s=some (t,r)):r.length<s.length:=by
 unfold jP at h
 split at h
 ·rename_i u hu
  have:=QA h
  rw[b6 hu];simp;omega
 ·rename_i hu
  obtain⟨x,_,h2⟩:=Option.map_eq_some_iff.1 h
  cases h2
  cases s with
  | nil=>exact absurd rfl hne
  | cons c s =>
   have hc:ku c=true:=by
    rw[jv]at hu
    split at hu
    ·cases hu
    ·rename_i e;simp[ku,e]
   unfold gP
   rw[List.dropWhile_cons,if_pos hc]
   have:=lv (p:=ku) s
   simp;omega
def hU (n:Nat)(l:List Tk)(s:List UInt8):List Tk×Nat×Int :=
 if hn:s=[] then (l,0,0) else if 512<=l.length then ([],n-s.length,4) else match h:jP s with
  | none=>([],n-s.length,80)
  | some (t,r)=>if 16<t.attrs.length then ([],n-s.length,4) else hU n (l++[t]) r
termination_by s.length
decreasing_by exact yn hn h
def nb (n:Nat)(l:List Tk):hU n l []=(l,0,0):=by rw[hU,dif_pos rfl]
def rf {n:Nat}{l:List Tk}{s:List UInt8}(h:s≠[])(h2:512<=l.length):hU n l s=([],n-s.length,4):=by rw[hU,dif_neg h,if_pos h2]
def ui {n:Nat}{l:List Tk}{s:List UInt8}(h:s≠[])(h2:l.length<512)(h3:jP s=none):hU n l s=([],n-s.length,80):=by
 rw[hU,dif_neg h,if_neg (by omega)]
 split
 ·rfl
 ·rename_i e;rw[h3]at e;cases e
def o0 {n:Nat}{l:List Tk}{s r:List UInt8}{t:Tk}(h:s≠[])(h2:l.length<512)(h3:jP s=some (t,r))(h4:16<t.attrs.length):hU n l s=([],n-s.length,4):=by
 rw[hU,dif_neg h,if_neg (by omega)]
 split
 ·rename_i e;rw[h3]at e;cases e
 ·rename_i e;rw[h3]at e;cases e;rw[if_pos h4]
def sH {n:Nat}{l:List Tk}{s r:List UInt8}{t:Tk}(h:s≠[])(h2:l.length<512)(h3:jP s=some (t,r))(h4:t.attrs.length<=16):hU n l s=hU n (l++[t]) r:=by
 rw[hU,dif_neg h,if_neg (by omega)]
 split
 ·rename_i e;rw[h3]at e;cases e
 ·rename_i e;rw[h3]at e;cases e;rw[if_neg (by omega)]
def dS (s:List UInt8):List Tk×Nat×Int:=if aN s≠0 then ([],0,aN s) else hU s.length [] s
end Go.Proofs.YtlnlopnpcmahgaaGreatDoor
namespace Go.Proofs.YtlnlopnpcmahgaaGreatDoor
set_option maxRecDepth 100000
set_option maxHeartbeats 32000000
open Go Go.RowKit Vm Go.Lib Tryz
open Vm renaming aW->Ca,bf->Cb
open And renaming intro->Ai
open List renaming length_map->Lm,not_mem_nil->Ln,map_nil->Lo,map_cons->Lc,mem_cons->Lk
open Bool renaming not_false->Bf,not_true->Bt
def pn (r:Int):Bool:=(decide (0<=r)&&decide (r<55296))||(decide (57343<r)&&decide (r<=1114111))
def u0 (r:Int)(nm:Nat):Ev cx 201 nm [.int .i32 r] am.nil (.bool (pn r)) []:=by
 unfold pn
 refine bh call201 func201 rfl (by kernel_rfl) rfl ?_;intro b0 hb0
 (repeat' first|simp only[ak,ag,results201,ntmps201,al,ai,seval,ah]|exact rfl|refine aa (v:=.any) ?_|((first|apply Ca|apply Cb)<;>intro hb)|refine Ai (by omega) ?_|(apply Ai<;>intro hb)|refine Fin.pure ?_ ?_ ?_|simp only[ap])
 all_goals simp_all
def ks (n:Int)(nm:Nat):Ev cx 170 nm [.int .i64 n] am.nil (.bool (gV n)) []:=by
 refine bh call170 func170 rfl (by kernel_rfl) rfl ?_;intro b0 hb0
 (repeat' first|simp only[ak,ag,results170,ntmps170,al,ai,seval,ah]|exact rfl|refine aa (v:=.any) ?_|((first|apply Ca|apply Cb)<;>intro hb)|refine Ai (by omega) ?_|(apply Ai<;>intro hb)|refine Fin.pure ?_ ?_ ?_|simp only[ap])
 all_goals simp only[decide_eq_true_eq,decide_eq_false_iff_not,beq_iff_eq,beq_eq_false_iff_ne,ne_eq]at *
 all_goals (first|(exfalso;omega)|(exact RM (by omega))|(exact RL (by omega))|skip)
 have hw:IntKind.i32.wrap n=n:=IntWalk.i32_in _ (by omega)
 rw[hw]
 have hv:pn n=gV n:=by
  cases h:gV n with
  | true =>
   have:=(fW n).1 h
   unfold pn
   simp only[Bool.or_eq_true,Bool.and_eq_true,decide_eq_true_eq];omega
  | false =>
   have h':¬ _:=fun q=>by rw[(fW n).2 q]at h;cases h
   unfold pn
   simp only[Bool.or_eq_false_iff,Bool.and_eq_false_iff,decide_eq_false_iff_not];omega
 (repeat' first|simp only[ak,ag,results170,ntmps170,al,hv,ai,seval,ah]|exact rfl|refine aa (v:=.any) ?_|(first|(refine ae ?_ (u0 n _) ?_)|(refine ab ?_ (fun _=>u0 n _) ?_))|((first|apply Ca|apply Cb)<;>intro hb)|refine Ai (by omega) ?_|(apply Ai<;>intro hb)|refine Fin.pure ?_ ?_ ?_|simp only[ap])
def preB (s p:List UInt8):Bool:=decide (p.length<=s.length)&&(s.take p.length==p)
def qV (s p:List UInt8)(hs:s.length<=bc)(hp:p.length<=bc)(nm:Nat):Ev cx 200 nm [.str s,.str p] am.nil (.bool (preB s p)) []:=by
 unfold bc at hs hp
 unfold preB
 refine bh call200 func200 rfl (by kernel_rfl) rfl ?_;intro b0 hb0
 (repeat' first|simp only[ak,ag,results200,ntmps200,al,decide_eq_true_eq,imp_self,ai,seval,ah]|exact rfl|refine aa (v:=.any) ?_|((first|apply Ca|apply Cb)<;>intro hb)|refine Ai (by omega) ?_|(apply Ai<;>intro hb)|refine Fin.pure ?_ ?_ ?_|simp only[ap])
def yu (s p:List UInt8)(hs:s.length<=bc)(hp:p.length<=bc)(nm:Nat):Ev cx 169 nm [.str s,.str p] am.nil (.bool (preB s p)) []:=by
 refine bh call169 func169 rfl (by kernel_rfl) rfl ?_;intro b0 hb0
 (repeat' first|simp only[ak,ag,results169,ntmps169,al,ai,seval,ah]|exact rfl|refine aa (v:=.any) ?_|(first|(refine ae ?_ (qV s p hs hp _) ?_)|(refine ab ?_ (fun _=>qV s p hs hp _) ?_))|((first|apply Ca|apply Cb)<;>intro hb)|refine Ai (by omega) ?_|(apply Ai<;>intro hb)|refine Fin.pure ?_ ?_ ?_|simp only[ap])
end Go.Proofs.YtlnlopnpcmahgaaGreatDoor
