/-
 Texts joined: XTy,XEp,XEq,XEr,XEs,XEx,XEn,XLa,XUa,XGa,XGb,XNa,XEa.
-/
import Derived.Test.YtlnlopnpcmahgaaGreatDoorChecked
import Derived.Lib.LaidU8
import Derived.Lib.ItoaNum
import Derived.Lib.RuneBytes
import Derived.Lib.MapLaws
import Derived.Lib.RuneCountTail
import Derived.Lib.IndexLaws
import Derived.Test.YtlnlopnpcmahgaaGreatDoorQe
set_option linter.all false
namespace Go.Proofs.YtlnlopnpcmahgaaGreatDoor
set_option maxRecDepth 100000
set_option maxHeartbeats 32000000
open Go Go.RowKit Vm Go.Lib Tryz
open Vm renaming ba->Ca,bh->Cb
open And renaming intro->Ai
open List renaming length_map->Lm,not_mem_nil->Ln,map_nil->Lo,map_cons->Lc,mem_cons->Lk
open Bool renaming not_false->Bf,not_true->Bt
def CB:V:=.rp (Lib.firstTab.map fun z=>.int .u8 z)
def Pi:V:=.rp ((List.range 16).flatMap fun i=>[V.int .u8 (Lib.accLo i),.int .u8 (Lib.accHi i)])
def LQ:V:=.rp (Lib.pow10Tab.map fun z=>.int .u64 z)
def zW:V:=.rp [.iface 167 (.agg [.val (.pointer (some ⟨9,73,none⟩))])]
def qm (g:Nat):V:=if g=3 then CB else if g=4 then Pi else if g=2 then LQ else if g=0 then zW else .any
def pd:CB.plain=true/\Pi.plain=true/\LQ.plain=true:=by decide +kernel
noncomputable def cx:Cx:=⟨Tryz.prog,qm,[]⟩
def bR:∀ g,(cx.G g).plain=true:=fun g=>by
 show(qm g).plain=true
 unfold qm
 split
 ·exact pd.1
 ·split
  ·exact pd.2.1
  ·split
   ·exact pd.2.2
   ·split
    ·rfl
    ·rfl
def mixed:cx.P.follows .mixedOrders=true:=by kernel_rfl
def bi {f:FuncId}{nm:Nat}{args:List V}{M:ap}{v:V}{eff:List (Nat×Option Blk)}{fn:Func}{c:Code}(hcall:∀ cargs w,(callFunc f cargs).run cx.P w = .ok (.enter f cargs) w)(hf:cx.P.funcs[f]? = some fn)(hb:fn.body=some c)(hin:dj fn.ntmps c=true)(hargs:decide (args.length<=fn.ntmps)=true)
  (hvc:∀ b0,(∀ x,b0<=x->M x=none)->go cx (vA cx fn nm M v eff b0) [] b0 (eZ args) M c):Ev cx f nm args M v eff:=Rx rfl hcall hf hb mixed hin hargs hvc
def Sb:cx.P.underlying 9=some .string:=by kernel_rfl
def So:cq cx.P 9=true:=by kernel_rfl
def R9:cx.P.underlying 3=some (.int .i64):=by kernel_rfl
def Lt:fp cx.P 43=some ([.int .u8 0,.str [],.str [],.nils,.str [],.int .i64 0],[(0,1),(1,1),(2,1),(3,1),(4,1),(5,1)]):=by kernel_rfl
def Rk:cO cx.P 22=some ([.int .u8 0,.str [],.str [],.nils,.str [],.int .i64 0],88):=by kernel_rfl
def Q0:cx.P.underlying 25=some (.int .i64):=by kernel_rfl
def Q2:cx.P.underlying 46=some (.slice 3):=by kernel_rfl
def Rm:cO cx.P 46=some ([.int .i64 0],8):=by kernel_rfl
def RJ:cq cx.P 46=true:=by kernel_rfl
def Rt:je cx.P 46=some 3:=by kernel_rfl
def Pq:qx cx.P 46=none:=by kernel_rfl
def PQ:mG cx.P 46=some (none,1,false):=by kernel_rfl
def Sr:ty cx.P 3=some (1,false):=by kernel_rfl
def PO:mG cx.P 22=some (none,6,true):=by kernel_rfl
def Je:j8 cx.P 43 0=some (0,1,false):=by kernel_rfl
def Su:ty cx.P 5=some (1,false):=by kernel_rfl
def Sa:cx.P.underlying 5=some (.int .u8):=by kernel_rfl
def Jf:j8 cx.P 43 1=some (1,1,false):=by kernel_rfl
def Sv:ty cx.P 9=some (1,false):=by kernel_rfl
def Jg:j8 cx.P 43 2=some (2,1,false):=by kernel_rfl
def QZ:cx.P.underlying 22=some (.slice 43):=by kernel_rfl
def RH:cq cx.P 22=true:=by kernel_rfl
def Rr:je cx.P 22=some 43:=by kernel_rfl
def Pn:qx cx.P 22=none:=by kernel_rfl
def Ji:j8 cx.P 43 4=some (4,1,false):=by kernel_rfl
def Jh:j8 cx.P 43 3=some (3,1,false):=by kernel_rfl
def RW:ty cx.P 41=some (1,false):=by kernel_rfl
def Q1:cx.P.underlying 41=some (.slice 51):=by kernel_rfl
def Rl:cO cx.P 41=some ([.str [],.str [],.str []],48):=by kernel_rfl
def RI:cq cx.P 41=true:=by kernel_rfl
def Rs:je cx.P 41=some 51:=by kernel_rfl
def Po:qx cx.P 41=none:=by kernel_rfl
def PP:mG cx.P 41=some (none,3,true):=by kernel_rfl
def RZ:ty cx.P 51=some (3,true):=by kernel_rfl
def O2:dT cx.P 51=some [.str [],.str [],.str []]:=by kernel_rfl
def Pz:gI cx.P 51=none:=by kernel_rfl
def Jl:j8 cx.P 51 1=some (1,1,false):=by kernel_rfl
def Jk:j8 cx.P 51 0=some (0,1,false):=by kernel_rfl
def Jm:j8 cx.P 51 2=some (2,1,false):=by kernel_rfl
def RX:ty cx.P 43=some (6,true):=by kernel_rfl
def O0:dT cx.P 43=some [.int .u8 0,.str [],.str [],.nils,.str [],.int .i64 0]:=by kernel_rfl
def Px:gI cx.P 43=none:=by kernel_rfl
def Lv:fp cx.P 55=some ([.str [],.str [],.nils,.nils],[(0,1),(1,1),(2,1),(3,1)]):=by kernel_rfl
def Ro:cO cx.P 71=some ([.val .nilFunc],8):=by kernel_rfl
def Jo:j8 cx.P 55 1=some (1,1,false):=by kernel_rfl
def Jj:j8 cx.P 43 5=some (5,1,false):=by kernel_rfl
def Jq:j8 cx.P 55 3=some (3,1,false):=by kernel_rfl
def RU:ty cx.P 22=some (1,false):=by kernel_rfl
def O4:dT cx.P 67=some [.val .nilFunc]:=by kernel_rfl
def PB:gI cx.P 67=none:=by kernel_rfl
def R3:ty cx.P 67=some (1,false):=by kernel_rfl
def OZ:dT cx.P 25=some [.int .i64 0]:=by kernel_rfl
def Pw:gI cx.P 25=none:=by kernel_rfl
def Q4:cx.P.underlying 71=some (.slice 57):=by kernel_rfl
def RL:cq cx.P 71=true:=by kernel_rfl
def Rv:je cx.P 71=some 57:=by kernel_rfl
def Pt:qx cx.P 71=none:=by kernel_rfl
def PS:mG cx.P 71=some (none,1,false):=by kernel_rfl
def R1:ty cx.P 57=some (1,false):=by kernel_rfl
def RV:ty cx.P 25=some (1,false):=by kernel_rfl
def Jn:j8 cx.P 55 0=some (0,1,false):=by kernel_rfl
def Jp:j8 cx.P 55 2=some (2,1,false):=by kernel_rfl
def R0:ty cx.P 53=some (1,false):=by kernel_rfl
def Q3:cx.P.underlying 53=some (.slice 87):=by kernel_rfl
def Rn:cO cx.P 53=some ([.int .u8 0,.str [],.nils,.str []],64):=by kernel_rfl
def RK:cq cx.P 53=true:=by kernel_rfl
def Ru:je cx.P 53=some 87:=by kernel_rfl
def Ps:qx cx.P 53=none:=by kernel_rfl
def PR:mG cx.P 53=some (none,4,true):=by kernel_rfl
def R6:ty cx.P 87=some (4,true):=by kernel_rfl
def Jr:j8 cx.P 87 0=some (0,1,false):=by kernel_rfl
def P2:tW cx.P 51=some [(0,1),(1,1),(2,1)]:=by kernel_rfl
def O5:dT cx.P 87=some [.int .u8 0,.str [],.nils,.str []]:=by kernel_rfl
def PC:gI cx.P 87=none:=by kernel_rfl
def Jt:j8 cx.P 87 2=some (2,1,false):=by kernel_rfl
def R5:ty cx.P 85=some (1,false):=by kernel_rfl
def Q5:cx.P.underlying 85=some (.slice 125):=by kernel_rfl
def Rp:cO cx.P 85=some ([.str [],.str []],32):=by kernel_rfl
def RM:cq cx.P 85=true:=by kernel_rfl
def Rw:je cx.P 85=some 125:=by kernel_rfl
def Pu:qx cx.P 85=none:=by kernel_rfl
def O6:dT cx.P 96=some [.nils,.nils]:=by kernel_rfl
def PD:gI cx.P 96=none:=by kernel_rfl
def R7:ty cx.P 96=some (2,true):=by kernel_rfl
def Jv:j8 cx.P 96 0=some (0,1,false):=by kernel_rfl
def Jw:j8 cx.P 96 1=some (1,1,false):=by kernel_rfl
def RY:ty cx.P 46=some (1,false):=by kernel_rfl
def L8:dT cx.P 106=some [.nilp,.nilp,.int .u64 0]:=by kernel_rfl
def MH:gI cx.P 106=none:=by kernel_rfl
def QG:ty cx.P 106=some (3,true):=by kernel_rfl
def ON:cx.P.underlying 111=some (.int .u8):=by kernel_rfl
def QH:ty cx.P 109=some (1,false):=by kernel_rfl
def OY:dT cx.P 22=some [.nils]:=by kernel_rfl
def Pv:gI cx.P 22=none:=by kernel_rfl
def L9:dT cx.P 117=some [.val .nilFunc]:=by kernel_rfl
def MI:gI cx.P 117=none:=by kernel_rfl
def QI:ty cx.P 117=some (1,false):=by kernel_rfl
def O3:dT cx.P 53=some [.nils]:=by kernel_rfl
def PA:gI cx.P 53=none:=by kernel_rfl
def O1:dT cx.P 46=some [.nils]:=by kernel_rfl
def Py:gI cx.P 46=none:=by kernel_rfl
def Q6:dT cx.P 4=some [.bool false]:=by kernel_rfl
def Re:gI cx.P 4=none:=by kernel_rfl
def Ss:ty cx.P 4=some (1,false):=by kernel_rfl
def Ma:dT cx.P 121=some [.val .nilFunc]:=by kernel_rfl
def MJ:gI cx.P 121=none:=by kernel_rfl
def QJ:ty cx.P 121=some (1,false):=by kernel_rfl
def Me:dT cx.P 131=some [.nilp,.nils]:=by kernel_rfl
def MN:gI cx.P 131=some 131:=by kernel_rfl
def Lw:fp cx.P 87=some ([.int .u8 0,.str [],.nils,.str []],[(0,1),(1,1),(2,1),(3,1)]):=by kernel_rfl
def Js:j8 cx.P 87 1=some (1,1,false):=by kernel_rfl
def Ju:j8 cx.P 87 3=some (3,1,false):=by kernel_rfl
def PT:mG cx.P 85=some (none,2,true):=by kernel_rfl
def Gh:j8 cx.P 125 0=some (0,1,false):=by kernel_rfl
def Gi:j8 cx.P 125 1=some (1,1,false):=by kernel_rfl
def Hy:fp cx.P 144=some ([.str []],[(0,1)]):=by kernel_rfl
def Hz:fp cx.P 146=some ([.str []],[(0,1)]):=by kernel_rfl
def Gm:j8 cx.P 146 0=some (0,1,true):=by kernel_rfl
def Gl:j8 cx.P 144 0=some (0,1,false):=by kernel_rfl
def HA:fp cx.P 151=some ([.nils,.nils,.int .u8 0],[(0,1),(1,1),(2,1)]):=by kernel_rfl
def Gq:j8 cx.P 151 2=some (2,1,false):=by kernel_rfl
def Gn:j8 cx.P 151 0=some (0,1,false):=by kernel_rfl
def Gp:j8 cx.P 151 1=some (1,1,false):=by kernel_rfl
def Mg:dT cx.P 152=some [.val .nilFunc]:=by kernel_rfl
def MO:gI cx.P 152=none:=by kernel_rfl
def QO:ty cx.P 152=some (1,false):=by kernel_rfl
def HB:fp cx.P 156=some ([.str []],[(0,1)]):=by kernel_rfl
def Mi:dT cx.P 165=some [.val .nilFunc]:=by kernel_rfl
def MQ:gI cx.P 165=none:=by kernel_rfl
def QQ:ty cx.P 165=some (1,false):=by kernel_rfl
def OP:cx.P.underlying 177=some (.slice 73):=by kernel_rfl
def PL:cO cx.P 177=some ([.val .nilIface],16):=by kernel_rfl
def Ql:cq cx.P 177=true:=by kernel_rfl
def PW:je cx.P 177=some 73:=by kernel_rfl
def MD:qx cx.P 177=none:=by kernel_rfl
def M9:mG cx.P 177=some (none,1,false):=by kernel_rfl
def R4:ty cx.P 73=some (1,false):=by kernel_rfl
def Mb:dT cx.P 123=some [.val .nilFunc]:=by kernel_rfl
def MK:gI cx.P 123=none:=by kernel_rfl
def QK:ty cx.P 123=some (1,false):=by kernel_rfl
def Lu:fp cx.P 51=some ([.str [],.str [],.str []],[(0,1),(1,1),(2,1)]):=by kernel_rfl
def OQ:cx.P.underlying 180=some (.slice 9):=by kernel_rfl
def PM:cO cx.P 180=some ([.str []],16):=by kernel_rfl
def Qm:cq cx.P 180=true:=by kernel_rfl
def PX:je cx.P 180=some 9:=by kernel_rfl
def ME:qx cx.P 180=none:=by kernel_rfl
def Hx:fp cx.P 125=some ([.str [],.str []],[(0,1),(1,1)]):=by kernel_rfl
def QL:ty cx.P 125=some (2,true):=by kernel_rfl
def Mc:dT cx.P 125=some [.str [],.str []]:=by kernel_rfl
def ML:gI cx.P 125=none:=by kernel_rfl
def Gk:j8 cx.P 131 1=some (1,1,false):=by kernel_rfl
def QN:ty cx.P 129=some (1,false):=by kernel_rfl
def Fm:cx.P.underlying 129=some (.slice 5):=by kernel_rfl
def PK:cO cx.P 129=some ([.int .u8 0],1):=by kernel_rfl
def Qk:cq cx.P 129=true:=by kernel_rfl
def PV:je cx.P 129=some 5:=by kernel_rfl
def MC:qx cx.P 129=some 5:=by kernel_rfl
def OR:cx.P.underlying 189=some (.pointer 5):=by kernel_rfl
def PF:mr cx.P 129=true:=by kernel_rfl
def Mh:dT cx.P 156=some [.str []]:=by kernel_rfl
def MP:gI cx.P 156=none:=by kernel_rfl
def QP:ty cx.P 156=some (1,true):=by kernel_rfl
def Gs:j8 cx.P 156 0=some (0,1,false):=by kernel_rfl
def QY:cx.P.underlying 21=some (.int .i32):=by kernel_rfl
def Na:mG cx.P 180=some (none,1,false):=by kernel_rfl
def Gj:j8 cx.P 131 0=some (0,1,false):=by kernel_rfl
def QM:ty cx.P 128=some (1,false):=by kernel_rfl
def OO:cx.P.underlying 128=some (.pointer 131):=by kernel_rfl
def OM:cx.P.underlying 103=some .unsafePointer:=by kernel_rfl
def HC:fp cx.P 226=some ([.str [],.nils],[(0,1),(1,1)]):=by kernel_rfl
def Gt:j8 cx.P 226 0=some (0,1,false):=by kernel_rfl
def Gu:j8 cx.P 226 1=some (1,1,false):=by kernel_rfl
def Mj:dT cx.P 229=some [.bool false,.bool false,.bool false,.bool false,.bool false,.bool false,.bool false,.bool false,.bool false,.bool false,.bool false,.bool false,.bool false,.bool false,.bool false,.bool false,.bool false,.bool false,.bool false,.bool false,.bool false,.bool false,.bool false,.bool false,.bool false,.bool false,.bool false,.bool false,.bool false,.bool false,.bool false,.bool false,.bool false,.bool false,.bool false,.bool false,.bool false,.bool false,.bool false,.bool false,.bool false,.bool false,.bool false,.bool false,.bool false,.bool false,.bool false,.bool false,.bool false,.bool false,.bool false,.bool false,.bool false,.bool false,.bool false,.bool false,.bool false,.bool false,.bool false,.bool false,.bool false,.bool false,.bool false,.bool false,.bool false,.bool false,.bool false,.bool false,.bool false,.bool false,.bool false,.bool false,.bool false,.bool false,.bool false,.bool false,.bool false,.bool false,.bool false,.bool false,.bool false,.bool false,.bool false,.bool false,.bool false,.bool false,.bool false,.bool false,.bool false,.bool false,.bool false,.bool false,.bool false,.bool false,.bool false,.bool false,.bool false,.bool false,.bool false,.bool false,.bool false,.bool false,.bool false,.bool false,.bool false,.bool false,.bool false,.bool false,.bool false,.bool false,.bool false,.bool false,.bool false,.bool false,.bool false,.bool false,.bool false,.bool false,.bool false,.bool false,.bool false,.bool false,.bool false,.bool false,.bool false,.bool false,.bool false,.bool false,.bool false,.bool false,.bool false,.bool false,.bool false,.bool false,.bool false,.bool false,.bool false,.bool false,.bool false,.bool false,.bool false,.bool false,.bool false,.bool false,.bool false,.bool false,.bool false,.bool false,.bool false,.bool false,.bool false,.bool false,.bool false,.bool false,.bool false,.bool false,.bool false,.bool false,.bool false,.bool false,.bool false,.bool false,.bool false,.bool false,.bool false,.bool false,.bool false,.bool false,.bool false,.bool false,.bool false,.bool false,.bool false,.bool false,.bool false,.bool false,.bool false,.bool false,.bool false,.bool false,.bool false,.bool false,.bool false,.bool false,.bool false,.bool false,.bool false,.bool false,.bool false,.bool false,.bool false,.bool false,.bool false,.bool false,.bool false,.bool false,.bool false,.bool false,.bool false,.bool false,.bool false,.bool false,.bool false,.bool false,.bool false,.bool false,.bool false,.bool false,.bool false,.bool false,.bool false,.bool false,.bool false,.bool false,.bool false,.bool false,.bool false,.bool false,.bool false,.bool false,.bool false,.bool false,.bool false,.bool false,.bool false,.bool false,.bool false,.bool false,.bool false,.bool false,.bool false,.bool false,.bool false,.bool false,.bool false,.bool false,.bool false,.bool false,.bool false,.bool false,.bool false,.bool false,.bool false,.bool false,.bool false,.bool false,.bool false,.bool false,.bool false,.bool false,.bool false,.bool false,.bool false,.bool false,.bool false,.bool false]:=by kernel_rfl
def MR:gI cx.P 229=none:=by kernel_rfl
def QR:ty cx.P 229=some (256,true):=by kernel_rfl
def M8:mG cx.P 129=some (none,1,false):=by kernel_rfl
def Mk:dT cx.P 240=some [.str []]:=by kernel_rfl
def MS:gI cx.P 240=none:=by kernel_rfl
def QS:ty cx.P 240=some (1,true):=by kernel_rfl
def Gv:j8 cx.P 240 0=some (0,1,false):=by kernel_rfl
def HE:fp cx.P 251=some ([.str [],.val .nilFunc],[(0,1),(1,1)]):=by kernel_rfl
def PN:cO cx.P 252=some ([.str [],.val .nilFunc],24):=by kernel_rfl
def OS:cx.P.underlying 252=some (.slice 251):=by kernel_rfl
def Qn:cq cx.P 252=true:=by kernel_rfl
def PY:je cx.P 252=some 251:=by kernel_rfl
def MF:qx cx.P 252=none:=by kernel_rfl
def Nc:mG cx.P 252=some (none,2,true):=by kernel_rfl
def QU:ty cx.P 251=some (2,true):=by kernel_rfl
def Ml:dT cx.P 251=some [.str [],.val .nilFunc]:=by kernel_rfl
def MT:gI cx.P 251=none:=by kernel_rfl
def Gw:j8 cx.P 251 0=some (0,1,false):=by kernel_rfl
def Gx:j8 cx.P 251 1=some (1,1,false):=by kernel_rfl
def QT:ty cx.P 249=some (1,false):=by kernel_rfl
def Nb:mG cx.P 229=some (some 256,1,false):=by kernel_rfl
def R8:cx.P.underlying 2=some (.int .i64):=by kernel_rfl
def Mm:dT cx.P 257=some [.int .u8 0,.int .u8 0,.int .u8 0,.int .u8 0,.int .u8 0,.int .u8 0,.int .u8 0,.int .u8 0,.int .u8 0,.int .u8 0,.int .u8 0,.int .u8 0,.int .u8 0,.int .u8 0,.int .u8 0,.int .u8 0,.int .u8 0,.int .u8 0,.int .u8 0,.int .u8 0,.int .u8 0,.int .u8 0,.int .u8 0,.int .u8 0]:=by kernel_rfl
def MU:gI cx.P 257=none:=by kernel_rfl
def OU:cx.P.underlying 258=some (.int .u64):=by kernel_rfl
def Nf:mG cx.P 257=some (some 24,1,false):=by kernel_rfl
def OT:cx.P.underlying 257=some (.array 24 5):=by kernel_rfl
def HD:fp cx.P 240=some ([.str []],[(0,1)]):=by kernel_rfl
def Md:dT cx.P 129=some [.nils]:=by kernel_rfl
def MM:gI cx.P 129=none:=by kernel_rfl
def Ng:mG cx.P 275=some (some 20,1,false):=by kernel_rfl
def QV:ty cx.P 258=some (1,false):=by kernel_rfl
def OW:cx.P.underlying 276=some (.int .u32):=by kernel_rfl
def Mn:dT cx.P 277=some [.int .u8 0,.int .u8 0,.int .u8 0,.int .u8 0,.int .u8 0,.int .u8 0,.int .u8 0,.int .u8 0,.int .u8 0,.int .u8 0,.int .u8 0,.int .u8 0,.int .u8 0,.int .u8 0,.int .u8 0,.int .u8 0,.int .u8 0,.int .u8 0,.int .u8 0,.int .u8 0,.int .u8 0,.int .u8 0,.int .u8 0,.int .u8 0,.int .u8 0,.int .u8 0,.int .u8 0,.int .u8 0,.int .u8 0,.int .u8 0,.int .u8 0,.int .u8 0,.int .u8 0,.int .u8 0,.int .u8 0,.int .u8 0,.int .u8 0,.int .u8 0,.int .u8 0,.int .u8 0,.int .u8 0,.int .u8 0,.int .u8 0,.int .u8 0,.int .u8 0,.int .u8 0,.int .u8 0,.int .u8 0,.int .u8 0,.int .u8 0,.int .u8 0,.int .u8 0,.int .u8 0,.int .u8 0,.int .u8 0,.int .u8 0,.int .u8 0,.int .u8 0,.int .u8 0,.int .u8 0,.int .u8 0,.int .u8 0,.int .u8 0,.int .u8 0,.int .u8 0]:=by kernel_rfl
def MV:gI cx.P 277=none:=by kernel_rfl
def OV:cx.P.underlying 273=some (.int .u64):=by kernel_rfl
def Nh:mG cx.P 277=some (some 65,1,false):=by kernel_rfl
def OX:cx.P.underlying 277=some (.array 65 5):=by kernel_rfl
def Ni:mG cx.P 280=some (some 256,1,false):=by kernel_rfl
def Nj:mG cx.P 283=some (some 16,2,true):=by kernel_rfl
def QW:ty cx.P 282=some (2,true):=by kernel_rfl
def Mo:dT cx.P 282=some [.int .u8 0,.int .u8 0]:=by kernel_rfl
def MW:gI cx.P 282=none:=by kernel_rfl
def Gy:j8 cx.P 282 0=some (0,1,false):=by kernel_rfl
def Gz:j8 cx.P 282 1=some (1,1,false):=by kernel_rfl
def Nk:mG cx.P 292=some (some 32,1,false):=by kernel_rfl
def Nl:mG cx.P 293=some (some 64,1,false):=by kernel_rfl
def HF:fp cx.P 296=some ([.str [],.str [],.val .nilIface],[(0,1),(1,1),(2,1)]):=by kernel_rfl
def HG:fp cx.P 300=some ([.str []],[(0,1)]):=by kernel_rfl
def GA:j8 cx.P 296 2=some (2,1,false):=by kernel_rfl
set_option linter.defProp false in
def ah:=(Ai Sb (Ai So (Ai R9 (Ai Lt (Ai Rk (Ai Q0 (Ai Q2 (Ai Rm (Ai RJ (Ai Rt (Ai Pq (Ai PQ (Ai Sr (Ai PO (Ai Je (Ai Su (Ai Sa (Ai Jf (Ai Sv (Ai Jg (Ai QZ (Ai RH (Ai Rr (Ai Pn (Ai Ji (Ai Jh (Ai RW (Ai Q1 (Ai Rl (Ai RI (Ai Rs (Ai Po (Ai PP (Ai RZ (Ai O2 (Ai Pz (Ai Jl (Ai Jk (Ai Jm (Ai RX (Ai O0 (Ai Px (Ai Lv (Ai Ro (Ai Jo (Ai Jj (Ai Jq (Ai RU (Ai O4 (Ai PB (Ai R3 (Ai OZ (Ai Pw (Ai Q4 (Ai RL (Ai Rv (Ai Pt (Ai PS (Ai R1 (Ai RV (Ai Jn (Ai Jp (Ai R0 (Ai Q3 (Ai Rn (Ai RK (Ai Ru (Ai Ps (Ai PR (Ai R6 (Ai Jr (Ai P2 (Ai O5 (Ai PC (Ai Jt (Ai R5 (Ai Q5 (Ai Rp (Ai RM (Ai Rw (Ai Pu (Ai O6 (Ai PD (Ai R7 (Ai Jv (Ai Jw (Ai RY (Ai L8 (Ai MH (Ai QG (Ai ON (Ai QH (Ai OY (Ai Pv (Ai L9 (Ai MI (Ai QI (Ai O3 (Ai PA (Ai O1 (Ai Py (Ai Q6 (Ai Re (Ai Ss (Ai Ma (Ai MJ (Ai QJ (Ai Me (Ai MN (Ai Lw (Ai Js (Ai Ju (Ai PT (Ai Gh (Ai Gi (Ai Hy (Ai Hz (Ai Gm (Ai Gl (Ai HA (Ai Gq (Ai Gn (Ai Gp (Ai Mg (Ai MO (Ai QO (Ai HB (Ai Mi (Ai MQ (Ai QQ (Ai OP (Ai PL (Ai Ql (Ai PW (Ai MD (Ai M9 (Ai R4 (Ai Mb (Ai MK (Ai QK (Ai Lu (Ai OQ (Ai PM (Ai Qm (Ai PX (Ai ME (Ai Hx (Ai QL (Ai Mc (Ai ML (Ai Gk (Ai QN (Ai Fm (Ai PK (Ai Qk (Ai PV (Ai MC (Ai OR (Ai PF (Ai Mh (Ai MP (Ai QP (Ai Gs (Ai QY (Ai Na (Ai Gj (Ai QM (Ai OO (Ai OM (Ai HC (Ai Gt (Ai Gu (Ai Mj (Ai MR (Ai QR (Ai M8 (Ai Mk (Ai MS (Ai QS (Ai Gv (Ai HE (Ai PN (Ai OS (Ai Qn (Ai PY (Ai MF (Ai Nc (Ai QU (Ai Ml (Ai MT (Ai Gw (Ai Gx (Ai QT (Ai Nb (Ai R8 (Ai Mm (Ai MU (Ai OU (Ai Nf (Ai OT (Ai HD (Ai Md (Ai MM (Ai Ng (Ai QV (Ai OW (Ai Mn (Ai MV (Ai OV (Ai Nh (Ai OX (Ai Ni (Ai Nj (Ai QW (Ai Mo (Ai MW (Ai Gy (Ai Gz (Ai Nk (Ai Nl (Ai HF (Ai HG (Ai GA True.intro)))))))))))))))))))))))))))))))))))))))))))))))))))))))))))))))))))))))))))))))))))))))))))))))))))))))))))))))))))))))))))))))))))))))))))))))))))))))))))))))))))))))))))))))))))))))))))))))))))))))))))))))))))))))))))))))
def P7:gW cx.P 3=some (.int .i64):=by kernel_rfl
def NN:gW cx.P 51=some (.struct [9,9,9]):=by kernel_rfl
def NL:gW cx.P 41=some (.slice 51 3 48):=by kernel_rfl
def mW:gW cx.P 9=some .str:=by kernel_rfl
def P8:gW cx.P 5=some (.int .u8):=by kernel_rfl
def NM:gW cx.P 43=some (.struct [5,9,9,41,9,3]):=by kernel_rfl
def EP:gW cx.P 22=some (.slice 43 6 88):=by kernel_rfl
end Go.Proofs.YtlnlopnpcmahgaaGreatDoor
namespace Go.Proofs.YtlnlopnpcmahgaaGreatDoor
set_option maxRecDepth 100000
set_option maxHeartbeats 32000000
open Go Go.RowKit
def gq (n:Int):Bool:=decide (n=9\/n=10\/n=13\/(32<=n/\n<=1114111 /\ ¬(55296<=n/\n<=57343)/\n≠65534/\n≠65535))
def gg (n:Int):gq n=true↔(n=9\/n=10\/n=13\/(32<=n/\n<=1114111 /\ ¬(55296<=n/\n<=57343)/\n≠65534/\n≠65535)):=by
 unfold gq;exact decide_eq_true_iff
def RO {n:Int}(h:n=9\/n=10\/n=13\/(32<=n/\n<=1114111 /\ ¬(55296<=n/\n<=57343)/\n≠65534/\n≠65535)):true=gq n:=((gg n).2 h).symm
def RN {n:Int}(h:¬(n=9\/n=10\/n=13\/(32<=n/\n<=1114111 /\ ¬(55296<=n/\n<=57343)/\n≠65534/\n≠65535))):false=gq n:=by
 unfold gq;symm;exact decide_eq_false_iff_not.2 h
def fj {n:Int}(h:gq n=true):0<=n/\n<=1114111/\(2048<=n->n<=65535->(2048<=n/\n<55296)\/(57343<n/\n<=65535)):=by
 have:=(gg n).1 h
 refine⟨by omega,by omega,fun a b=>by omega⟩
def enc (l:List Int):List UInt8:=l.flatMap Lib.encodeRune
def u8 (b:UInt8):Value:=.int .u8 (b.toNat:Int)
def md (l:List Int):Int:=if l.all gq then (if 16384<(enc l).length then 4 else 0) else 50
def lM (l:List Int):List UInt8:=if md l=0 then enc l else []
def I3 (a:List Int)(x:Int):enc (a++[x])=enc a++Lib.encodeRune x:=by simp[enc]
def bk (x:Int):1<=(Lib.encodeRune x).length/\(Lib.encodeRune x).length<=4:=by
 unfold Lib.encodeRune Lib.encodeRuneZ
 repeat' split
 all_goals simp
def Co (l:List Int):(enc l).length<=4*l.length:=by
 induction l with
 | nil=>simp[enc]
 | cons x l ih =>
  have:=(bk x).2
  simp only[enc,List.flatMap_cons,List.length_append,List.length_cons]at ih ⊢
  omega
def Hc {l:List Int}{k:Nat}(hk:k<l.length)(h:gq (l.getD k 0)=false):md l=50:=by
 unfold md
 rw[if_neg]
 intro hall
 have:=List.all_eq_true.1 hall (l[k]) (List.getElem_mem hk)
 simp[List.getD_eq_getElem?_getD,hk]at h
 rw[h]at this;cases this
def zb {l:List Int}{k:Nat}(hk:k<l.length)(h:(l.take k).all gq=true)(hm:gq (l.getD k 0)=true):(l.take (k+1)).all gq=true:=by
 rw[List.take_succ_eq_append_getElem hk,List.all_append,h]
 simp[List.getD_eq_getElem?_getD,hk]at hm
 simp[hm]
end Go.Proofs.YtlnlopnpcmahgaaGreatDoor
namespace Go.Proofs.YtlnlopnpcmahgaaGreatDoor
set_option maxRecDepth 100000
set_option maxHeartbeats 32000000
open Go Go.RowKit Go.Lib
def one (l:List UInt8):Option (Int×Nat) :=
 if l=[] then none
 else if (decodeL l).1=65533/\(decodeL l).2=1 then none
 else if gq ((decodeL l).1:Int) then some (((decodeL l).1:Int),(decodeL l).2) else none
def zI:Nat->List UInt8->Option (List Int)
 | _,[]=>some []
 | 0,_=>none
 | f+1,l=>match one l with
  | none=>none
  | some (z,k)=>(zI f (l.drop k)).map (z :: ·)
def dB (l:List UInt8):Option (List Int):=zI l.length l
def na {l:List UInt8}{z:Int}{k:Nat}(h:one l=some (z,k)):l≠[]/\gq z=true/\encodeRune z=l.take k/\1<=k/\k<=l.length:=by
 unfold one at h
 split at h
 ·cases h
 rename_i hne
 split at h
 ·cases h
 rename_i hv
 split at h
 ·rename_i hm
  simp only[Option.some.injEq,Prod.mk.injEq]at h
  obtain⟨rfl,rfl⟩:=h
  have he:=encode_decode l hne hv
  have hle:=decodeL_le l hne
  refine⟨hne,hm,he,?_,hle⟩
  have:=(bk ((decodeL l).1:Int)).1
  rw[he,List.length_take]at this
  omega
 ·cases h
def fw {x:Int}(h0:0<=x)(h1:x<256):(x.toNat.toUInt8).toNat=x.toNat:=by simp;omega
def yw {z:Int}(hm:gq z=true)(rest:List UInt8):one (encodeRune z++rest)=some (z,(encodeRune z).length):=by
 have hmz:=(gg z).1 hm
 have key:decodeL (encodeRune z++rest)=(z.toNat,(encodeRune z).length):=by
  rw[decodeL_N]
  by_cases c1:0<=z/\z<=127
  ·have e:encodeRune z=[z.toNat.toUInt8]:=by simp[encodeRune,encodeRuneZ_one c1.1 c1.2]
   rw[e]
   have a:=fw (x:=z) (by omega) (by omega)
   simp only[List.cons_append,List.nil_append,List.getD_cons_zero,List.length_cons,List.length_nil,a,decodeN]
   rw[if_pos (by omega)]
  ·by_cases c2:128<=z/\z<=2047
   ·have e:encodeRune z=[(192+z / 64).toNat.toUInt8,(128+z % 64).toNat.toUInt8]:=by simp[encodeRune,encodeRuneZ_two c2.1 c2.2]
    rw[e]
    have a:=fw (x:=192+z / 64) (by omega) (by omega)
    have b:=fw (x:=128+z % 64) (by omega) (by omega)
    simp only[List.cons_append,List.nil_append,List.getD_cons_zero,List.getD_cons_succ,List.length_cons,List.length_nil,a,b,decodeN]
    rw[if_neg (by omega),if_pos (by omega),if_pos (by omega)]
    simp only[Prod.mk.injEq,and_true];omega
   ·by_cases c3:z<=65535
    ·have e:encodeRune z=[(224+z / 4096).toNat.toUInt8,(128+z / 64 % 64).toNat.toUInt8,(128+z % 64).toNat.toUInt8]:=by simp[encodeRune,encodeRuneZ_three (r:=z) (by omega)]
     rw[e]
     have a:=fw (x:=224+z / 4096) (by omega) (by omega)
     have b:=fw (x:=128+z / 64 % 64) (by omega) (by omega)
     have c:=fw (x:=128+z % 64) (by omega) (by omega)
     simp only[List.cons_append,List.nil_append,List.getD_cons_zero,List.getD_cons_succ,List.length_cons,List.length_nil,a,b,c,decodeN]
     rw[if_neg (by omega),if_neg (by omega),if_pos (by omega),if_pos (by omega)]
     simp only[Prod.mk.injEq,and_true];omega
    ·have e:encodeRune z=[(240+z / 262144).toNat.toUInt8,(128+z / 4096 % 64).toNat.toUInt8,(128+z / 64 % 64).toNat.toUInt8,(128+z % 64).toNat.toUInt8]:=by simp[encodeRune,encodeRuneZ_four (r:=z) (by omega) (by omega)]
     rw[e]
     have a:=fw (x:=240+z / 262144) (by omega) (by omega)
     have b:=fw (x:=128+z / 4096 % 64) (by omega) (by omega)
     have c:=fw (x:=128+z / 64 % 64) (by omega) (by omega)
     have d:=fw (x:=128+z % 64) (by omega) (by omega)
     simp only[List.cons_append,List.nil_append,List.getD_cons_zero,List.getD_cons_succ,List.length_cons,List.length_nil,a,b,c,d,decodeN]
     rw[if_neg (by omega),if_neg (by omega),if_neg (by omega),if_pos (by omega),if_pos (by omega)]
     simp only[Prod.mk.injEq,and_true];omega
 have hne:encodeRune z++rest≠[]:=by
  intro h
  have:=(bk z).1
  rw[List.append_eq_nil_iff]at h
  rw[h.1]at this;simp at this
 unfold one
 rw[if_neg hne,key]
 have hz:((z.toNat:Nat):Int)=z:=by omega
 simp only[hz,hm,if_true]
 rw[if_neg]
 rintro ⟨h1,h2⟩
 have hz2:z=65533:=by omega
 subst hz2
 revert h2
 decide
def we:∀(f g:Nat) (l:List UInt8),l.length<=f->l.length<=g->zI f l=zI g l
 | _,_,[],_,_=>by simp[zI]
 | 0,_,x::l,h,_=>by simp at h
 | _,0,x::l,_,h=>by simp at h
 | f+1,g+1,x::l,hf,hg=>by
  simp only[zI]
  cases h1:one (x::l) with
  | none=>rfl
  | some p =>
   obtain⟨z,k⟩:=p
   obtain⟨_,_,_,hk,_⟩:=na h1
   simp only
   rw[we f g ((x::l).drop k) (by simp at hf ⊢;omega) (by simp at hg ⊢;omega)]
def sF:dB []=some []:=rfl
def mC {l:List UInt8}{z:Int}{k:Nat}(h:one l=some (z,k)):dB l=(dB (l.drop k)).map (z :: ·):=by
 obtain⟨hne,_,_,hk,hkl⟩:=na h
 obtain⟨x,l',rfl⟩:=List.exists_cons_of_ne_nil hne
 unfold dB
 rw[show(x::l').length=l'.length+1 from rfl]
 simp only[zI,h]
 rw[we l'.length ((x::l').drop k).length _ (by simp;omega) (Nat.le_refl _)]
def xN {l:List UInt8}(hne:l≠[])(h:one l=none):dB l=none:=by
 obtain⟨x,l',rfl⟩:=List.exists_cons_of_ne_nil hne
 unfold dB
 rw[show(x::l').length=l'.length+1 from rfl]
 simp only[zI,h]
def eU:∀(zs:List Int),zs.all gq=true->dB (enc zs)=some zs
 | [],_=>rfl
 | z::zs,h=>by
  simp only[List.all_cons,Bool.and_eq_true]at h
  have e:enc (z::zs)=encodeRune z++enc zs:=by simp[enc]
  rw[e,mC (yw h.1 (enc zs)),List.drop_left,eU zs h.2]
  rfl
def zM:∀(n:Nat) (l:List UInt8) (zs:List Int),l.length<=n->dB l=some zs->zs.all gq=true/\enc zs=l
 | 0,l,zs,hn,h=>by
  have:l=[]:=List.eq_nil_of_length_eq_zero (by omega)
  subst this
  rw[sF]at h
  cases h
  exact⟨rfl,rfl⟩
 | n+1,l,zs,hn,h=>by
  by_cases hne:l=[]
  ·subst hne
   rw[sF]at h
   cases h
   exact⟨rfl,rfl⟩
  ·cases h1:one l with
   | none=>rw[xN hne h1]at h;cases h
   | some p =>
    obtain⟨z,k⟩:=p
    obtain⟨_,hm,he,hk,hkl⟩:=na h1
    rw[mC h1]at h
    obtain⟨zs',h2,rfl⟩:=Option.map_eq_some_iff.1 h
    obtain⟨ha,hb⟩:=zM n (l.drop k) zs' (by simp;omega) h2
    refine⟨by simp[hm,ha],?_⟩
    show encodeRune z++enc zs'=l
    rw[he,hb,List.take_append_drop]
def ki (l:List UInt8)(zs:List Int):dB l=some zs↔zs.all gq=true/\enc zs=l :=
 ⟨fun h=>zM l.length l zs (Nat.le_refl _) h,fun ⟨h1,h2⟩=>by rw[<- h2,eU zs h1]⟩
def Di {l:List UInt8}(h:hasPrefix l [239,191,189]=true):∃ rest,l=encodeRune 65533++rest:=by
 unfold hasPrefix at h
 obtain⟨rest,hr⟩:=List.isPrefixOf_iff_prefix.1 h
 exact⟨rest,by rw[<- hr];congr 1⟩
def zP {l:List UInt8}(h:hasPrefix l [239,191,189]=true):(decodeL l).2≠1:=by
 obtain⟨rest,rfl⟩:=Di h
 have h1:=yw (z:=65533) (by decide) rest
 unfold one at h1
 split at h1
 ·cases h1
 split at h1
 ·cases h1
 rename_i hv
 split at h1
 ·simp only[Option.some.injEq,Prod.mk.injEq]at h1
  rw[h1.2]
  decide
 ·cases h1
def vT {l:List UInt8}(hne:l≠[]):one l=if ((decodeL l).1=65533/\hasPrefix l [239,191,189]=false)\/gq ((decodeL l).1:Int)=false then none else some (((decodeL l).1:Int),(decodeL l).2):=by
  unfold one
  rw[if_neg hne]
  by_cases h1:(decodeL l).1=65533/\(decodeL l).2=1
  · rw[if_pos h1,if_pos]
    left
    refine⟨h1.1,?_⟩
    cases hp:hasPrefix l [239,191,189] with
    | false=>rfl
    | true=>exact absurd h1.2 (zP hp)
  · rw [if_neg h1]
    by_cases h2:(decodeL l).1=65533
    · have he:=encode_decode l hne h1
      rw[h2]at he
      have hp:hasPrefix l [239,191,189]=true:=by
        unfold hasPrefix
        rw[List.isPrefixOf_iff_prefix,show([239,191,189]:List UInt8)=encodeRune ((65533:Nat):Int) from by decide,he]
        exact List.take_prefix _ _
      rw[hp]
      by_cases hm:gq ((decodeL l).1:Int)=true
      · simp[hm]
      · simp[hm]
    · by_cases hm:gq ((decodeL l).1:Int)=true
      · simp[hm,h2]
      · simp[hm,h2]
def zQ (s:ByteArray)(pos:Nat):Utf8.decode s pos=decodeL (s.data.toList.drop pos):=by
 have h:=tail_decode s pos 0
 rw[Nat.add_zero]at h
 rw[<- h]
 unfold decodeL
 congr 1
 have h2:(s.extract pos s.size).data.toList=s.data.toList.drop pos:=by
  rw[extract_data,List.take_of_length_le]
  simp
 apply ByteArray.ext
 apply Array.ext'
 simpa using h2
def uh (c:Int):Int:=if c<128 then 1 else if 192<=c/\c<224 then 2 else if 224<=c/\c<240 then 3 else if 240<=c/\c<248 then 4 else 0
def Ay (c:Int):Int:=if c<128 then c else if 192<=c/\c<224 then c-192 else if 224<=c/\c<240 then c-224 else if 240<=c/\c<248 then c-240 else 0
def zD (n:Int)(l:List UInt8):Int:=l.foldl (fun n b=>64*n+(b.toNat:Int) % 64) n
def JG {z:Int}(hm:gq z=true):∃ b rest,encodeRune z=b::rest/\uh (b.toNat:Int)=((encodeRune z).length:Nat)/\zD (Ay (b.toNat:Int)) rest=z:=by
 have hmz:=(gg z).1 hm
 by_cases c1:0<=z/\z<=127
 ·have e:encodeRune z=[z.toNat.toUInt8]:=by simp[encodeRune,encodeRuneZ_one c1.1 c1.2]
  have a:=fw (x:=z) (by omega) (by omega)
  refine⟨_,_,e,?_,?_⟩
  ·rw[e,a];unfold uh;rw[if_pos (by omega)];rfl
  ·rw[a];unfold Ay;rw[if_pos (by omega)];simp[zD];omega
 ·by_cases c2:128<=z/\z<=2047
  ·have e:encodeRune z=[(192+z / 64).toNat.toUInt8,(128+z % 64).toNat.toUInt8]:=by simp[encodeRune,encodeRuneZ_two c2.1 c2.2]
   have a:=fw (x:=192+z / 64) (by omega) (by omega)
   have b:=fw (x:=128+z % 64) (by omega) (by omega)
   refine⟨_,_,e,?_,?_⟩
   ·rw[e,a];unfold uh;rw[if_neg (by omega),if_pos (by omega)];rfl
   ·rw[a];unfold Ay;rw[if_neg (by omega),if_pos (by omega)];simp only[zD,List.foldl_cons,List.foldl_nil,b];omega
  ·by_cases c3:z<=65535
   ·have e:encodeRune z=[(224+z / 4096).toNat.toUInt8,(128+z / 64 % 64).toNat.toUInt8,(128+z % 64).toNat.toUInt8]:=by simp[encodeRune,encodeRuneZ_three (r:=z) (by omega)]
    have a:=fw (x:=224+z / 4096) (by omega) (by omega)
    have b:=fw (x:=128+z / 64 % 64) (by omega) (by omega)
    have c:=fw (x:=128+z % 64) (by omega) (by omega)
    refine⟨_,_,e,?_,?_⟩
    ·rw[e,a];unfold uh;rw[if_neg (by omega),if_neg (by omega),if_pos (by omega)];rfl
    ·rw[a];unfold Ay;rw[if_neg (by omega),if_neg (by omega),if_pos (by omega)];simp only[zD,List.foldl_cons,List.foldl_nil,b,c];omega
   ·have e:encodeRune z=[(240+z / 262144).toNat.toUInt8,(128+z / 4096 % 64).toNat.toUInt8,(128+z / 64 % 64).toNat.toUInt8,(128+z % 64).toNat.toUInt8]:=by simp[encodeRune,encodeRuneZ_four (r:=z) (by omega) (by omega)]
    have a:=fw (x:=240+z / 262144) (by omega) (by omega)
    have b:=fw (x:=128+z / 4096 % 64) (by omega) (by omega)
    have c:=fw (x:=128+z / 64 % 64) (by omega) (by omega)
    have d:=fw (x:=128+z % 64) (by omega) (by omega)
    refine⟨_,_,e,?_,?_⟩
    ·rw[e,a];unfold uh;rw[if_neg (by omega),if_neg (by omega),if_neg (by omega),if_pos (by omega)];rfl
    ·rw[a];unfold Ay;rw[if_neg (by omega),if_neg (by omega),if_neg (by omega),if_pos (by omega)];simp only[zD,List.foldl_cons,List.foldl_nil,b,c,d];omega
def aN (l:List UInt8):Int:=if 16384<l.length then 4 else match dB l with|none=>50|some _=>0
def oZ {s:List UInt8}(h:aN s=0):s.length<=16384:=by
 unfold aN at h
 split at h
 ·omega
 ·omega
def gJ (q:Bool)(c:UInt8):List UInt8 :=
 if c=38 then [38,97,109,112,59] else if c=60 then [38,108,116,59] else if c=62 then [38,103,116,59] else if c=13 then [38,35,49,51,59]
 else if q=true then (if c=34 then [38,113,117,111,116,59] else if c=9 then [38,35,57,59] else if c=10 then [38,35,49,48,59] else [c]) else [c]
def bq (q:Bool)(s:List UInt8):List UInt8:=s.flatMap (gJ q)
def zY (q:Bool):bq q []=[]:=rfl
def rS (q:Bool)(a b:List UInt8):bq q (a++b)=bq q a++bq q b:=by simp[bq]
def F9 (q:Bool)(a:List UInt8)(c:UInt8):bq q (a++[c])=bq q a++gJ q c:=by simp[bq]
def mL (q:Bool)(c:UInt8):1<=(gJ q c).length/\(gJ q c).length<=6:=by
 unfold gJ
 repeat' split
 all_goals simp
def Nv (q:Bool)(c:UInt8):gJ q c≠[]:=by
 intro h
 have:=(mL q c).1
 rw[h]at this;simp at this
def cj (q:Bool)(s:List UInt8):s.length<=(bq q s).length/\(bq q s).length<=6*s.length:=by
 induction s with
 | nil=>simp[bq]
 | cons c s ih =>
  have:=mL q c
  simp only[bq,List.flatMap_cons,List.length_append,List.length_cons]at ih ⊢
  omega
def Ga (q:Bool){s:List UInt8}{k:Nat}{c:UInt8}(h:s[k]? = some c):bq q (s.take (k+1))=bq q (s.take k)++gJ q c:=by
 obtain⟨hk,rfl⟩:=List.getElem?_eq_some_iff.1 h
 rw[List.take_succ_eq_append_getElem hk,F9]
def El:∀(p:List Int) (r:List UInt8),p.all gq=true->dB (enc p++r)=(dB r).map (p ++ ·)
 | [],r,_=>by simp[enc]
 | z::p,r,h=>by
  simp only[List.all_cons,Bool.and_eq_true]at h
  have e:enc (z::p)++r=encodeRune z++(enc p++r):=by simp[enc]
  rw[e,mC (yw h.1 _),List.drop_left,El p r h.2,Option.map_map]
  congr 1
def pA {a b:List UInt8}{x y:List Int}(ha:dB a=some x)(hb:dB b=some y):dB (a++b)=some (x++y):=by
 obtain⟨h1,rfl⟩:=(ki a x).1 ha
 rw[El x b h1,hb];rfl
def HW {z:Int}{k:Nat}(h1:1<=k)(h2:k<(encodeRune z).length):∃ b t,(encodeRune z).drop k=b::t/\128<=b.toNat/\b.toNat<192:=by
 have key:∀ x:Int,0<=x -> ∀ y,(128+x % 64).toNat.toUInt8=y->128<=y.toNat/\y.toNat<192:=by
  intro x _ y hy
  subst hy
  rw[fw (by omega) (by omega)]
  omega
 unfold encodeRune encodeRuneZ at h2 ⊢
 repeat' split
 ·rename_i c;rw[if_pos c]at h2;simp at h2;omega
 ·rename_i c1 c2;rw[if_neg c1,if_pos c2]at h2
  have:k=1:=by simp at h2;omega
  subst this
  exact⟨_,_,rfl,key z (by omega) _ rfl⟩
 ·rename_i c1 c2 c3;rw[if_neg c1,if_neg c2,if_pos c3]at h2
  have:k=1\/k=2:=by simp at h2;omega
  rcases this with rfl|rfl
  ·exact⟨_,_,rfl,key (z / 64) (by omega) _ rfl⟩
  ·exact⟨_,_,rfl,key z (by omega) _ rfl⟩
 ·rename_i c1 c2 c3 c4;rw[if_neg c1,if_neg c2,if_neg c3,if_pos c4]at h2
  have:k=1\/k=2\/k=3:=by simp at h2;omega
  rcases this with rfl|rfl|rfl
  ·exact⟨_,_,rfl,key (z / 4096) (by omega) _ rfl⟩
  ·exact⟨_,_,rfl,key (z / 64) (by omega) _ rfl⟩
  ·exact⟨_,_,rfl,key z (by omega) _ rfl⟩
 ·rename_i c1 c2 c3 c4;rw[if_neg c1,if_neg c2,if_neg c3,if_neg c4]at h2
  have:k=1\/k=2:=by simp at h2;omega
  rcases this with rfl|rfl
  ·exact⟨_,_,rfl,by decide⟩
  ·exact⟨_,_,rfl,by decide⟩
def IQ:∀(zs:List Int) (k:Nat),k<=(enc zs).length->(∃ p q,zs=p++q/\(enc zs).take k=enc p/\(enc zs).drop k=enc q) \/ ∃ b t,(enc zs).drop k=b::t/\128<=b.toNat/\b.toNat<192
 | [],k,h=>by
  have:k=0:=by simpa [enc] using h
  subst this
  exact .inl ⟨[],[],rfl,rfl,rfl⟩
 | z::zs,k,h=>by
  have e:enc (z::zs)=encodeRune z++enc zs:=by simp[enc]
  rw[e]at h ⊢
  by_cases h0:k=0
  ·subst h0
   exact .inl ⟨[],z::zs,rfl,rfl,by rw[e];rfl⟩
  by_cases h1:k<(encodeRune z).length
  ·obtain⟨b,t,ht,hb⟩:=HW (by omega) h1
   exact .inr ⟨b,t++enc zs,by rw[List.drop_append_of_le_length (by omega),ht];rfl,hb⟩
  ·obtain⟨j,rfl⟩:∃ j,k=(encodeRune z).length+j:=⟨k-(encodeRune z).length,by omega⟩
   have hj:j<=(enc zs).length:=by simp at h;omega
   rcases IQ zs j hj with ⟨p,q,rfl,h3,h4⟩|⟨b,t,h3,hb⟩
   ·refine .inl ⟨z::p,q,rfl,?_,?_⟩
    ·rw[List.take_length_add_append,h3];simp[enc]
    ·rw[List.drop_length_add_append,h4]
   ·exact .inr ⟨b,t,by rw[List.drop_length_add_append,h3],hb⟩
def RG (c:UInt8):Bool:=(decide (97<=c.toNat)&&decide (c.toNat<=122))||(decide (65<=c.toNat)&&decide (c.toNat<=90))||decide (c=95)
def gX (first:Bool)(c:UInt8):Bool:=RG c||(!first&&((decide (48<=c.toNat)&&decide (c.toNat<=57))||decide (c=46)||decide (c=45)))
def ec:List UInt8->Bool
 | []=>false
 | c::r=>gX true c&&r.all (gX false)
def eg (d:UInt8):List UInt8->Option (List UInt8×List UInt8)
 | []=>none
 | c::r=>if c=d then some ([],r) else (eg d r).map (fun p=>(c::p.1,p.2))
def bU (s:List UInt8):Bool:=match eg 58 s with
 | none=>ec s
 | some (a,b)=>ec a&&ec b
def hH {d:UInt8} : ∀ {s:List UInt8},eg d s=none↔d ∉ s
 | []=>by simp[eg]
 | c::r=>by
  simp only[eg]
  by_cases h:c=d
  ·simp[h]
  ·rw[if_neg h]
   simp only[Option.map_eq_none_iff,hH (s:=r),List.mem_cons,not_or]
   constructor
   ·intro h2;exact⟨fun e=>h e.symm,h2⟩
   ·intro h2;exact h2.2
def eH {d:UInt8} : ∀ {s a b:List UInt8},eg d s=some (a,b)->s=a++d::b/\d ∉ a
 | [],a,b,h=>by simp[eg]at h
 | c::r,a,b,h=>by
  simp only[eg]at h
  by_cases hc:c=d
  ·rw[if_pos hc]at h;cases h;subst hc;simp
  ·rw[if_neg hc]at h
   obtain⟨⟨a',b'⟩,h1,h2⟩:=Option.map_eq_some_iff.1 h
   cases h2
   obtain⟨e1,e2⟩:=eH h1
   refine⟨by rw[e1];rfl,?_⟩
   simp only[List.mem_cons,not_or]
   exact⟨fun e=>hc e.symm,e2⟩
def kg {d:UInt8} : ∀ {a b:List UInt8},d ∉ a->eg d (a++d::b)=some (a,b)
 | [],b,_=>by simp[eg]
 | c::a,b,h=>by
  simp only[List.mem_cons,not_or]at h
  simp only[List.cons_append,eg]
  rw[if_neg (fun e=>h.1 e.symm),kg h.2];rfl
def M3 {d:UInt8}{s:List UInt8}{i:Nat}(h1:d ∉ s.take i)(h2:s[i]? = some d):eg d s=some (s.take i,s.drop (i+1)):=by
 obtain⟨hi,he⟩:=List.getElem?_eq_some_iff.1 h2
 have:s=s.take i++d::s.drop (i+1):=by
  conv=>lhs;rw[<- List.take_append_drop i s]
  rw[List.drop_eq_getElem_cons hi,he]
 have h3:=kg (b:=s.drop (i+1)) h1
 rwa[<- this]at h3
def iQ {d:UInt8}{s:List UInt8} : indexByte s d = -1↔eg d s=none:=by
 rw[hH]
 constructor
 ·intro h hm
  obtain⟨k,hk,rfl⟩:=List.getElem_of_mem hm
  exact indexByte_none h k (List.getElem?_eq_getElem hk)
 ·intro h
  have hge:=indexByte_ge s d
  by_cases hneg:indexByte s d = -1
  ·exact hneg
  ·obtain⟨o,ho⟩:∃ o:Nat,indexByte s d=o:=⟨(indexByte s d).toNat,by omega⟩
   exact absurd (List.mem_of_getElem? (indexByte_some ho).1) h
def ko {d:UInt8}{s a b:List UInt8}(h:eg d s=some (a,b)):indexByte s d=a.length/\s.take a.length=a/\s.drop (a.length+1)=b/\a.length+1+b.length=s.length:=by
 obtain⟨h1,h2⟩:=eH h
 have hne:indexByte s d ≠ -1:=fun e=>by rw[iQ.1 e]at h;cases h
 have hge:=indexByte_ge s d
 obtain⟨o,ho⟩:∃ o:Nat,indexByte s d=o:=⟨(indexByte s d).toNat,by omega⟩
 obtain⟨g1,g2⟩:=indexByte_some ho
 have hat:=M3 (i:=o) (fun hm=>by
  obtain⟨k,hk,he⟩:=List.getElem_of_mem hm
  rw[List.length_take]at hk
  rw[List.getElem_take]at he
  exact g2 k (by omega) (by rw[List.getElem?_eq_getElem (by omega),he])) g1
 rw[h]at hat
 cases hat
 have hlt:=(List.getElem?_eq_some_iff.1 g1).1
 have hl:(s.take o).length=o:=by rw[List.length_take];omega
 rw[hl]
 refine⟨ho,rfl,rfl,?_⟩
 rw[List.length_drop];omega
def sL (s:List UInt8)(k:Nat):Prop:=∀(i:Nat) (c:UInt8),i<k->s[i]? = some c->gX (i==0) c=true
def Db {s:List UInt8}(hne:s≠[])(h:sL s s.length):ec s=true:=by
 cases s with
 | nil=>exact absurd rfl hne
 | cons c r =>
  have h0:=h 0 c (by simp) (by simp)
  simp only[beq_self_eq_true]at h0
  simp only[ec,h0,Bool.true_and,List.all_eq_true]
  intro x hx
  obtain⟨k,hk,rfl⟩:=List.getElem_of_mem hx
  have:=h (k+1) r[k] (by simp;omega) (by simp[hk])
  have h3:((k+1)==0)=false:=beq_false_of_ne (by omega)
  rwa[h3]at this
def A0 {s:List UInt8}{k:Nat}{c:UInt8}(hc:s[k]? = some c)(h:gX (k==0) c=false):ec s=false:=by
 cases s with
 | nil=>simp at hc
 | cons x r =>
  cases k with
  | zero =>
   simp at hc;subst hc
   simp only[beq_self_eq_true]at h
   simp[ec,h]
  | succ k =>
   have h3:((k+1)==0)=false:=beq_false_of_ne (by omega)
   rw[h3]at h
   simp only[List.getElem?_cons_succ]at hc
   simp only[ec,Bool.and_eq_false_iff,List.all_eq_false]
   right
   exact⟨c,List.mem_of_getElem? hc,by rw[h];simp⟩
def gK (c d:UInt8):((c.toNat:Int)==(d.toNat:Int))=decide (c=d):=by
 rw[Bool.eq_iff_iff,beq_iff_eq,decide_eq_true_iff]
 constructor
 ·intro h;exact UInt8.toNat_inj.1 (by omega)
 ·rintro rfl;rfl
def pw (b:UInt8):Bool:=decide (128<=b.toNat)&&decide (b.toNat<192)
def zH:∀(zs:List Int) (k:Nat),k<=(enc zs).length -> ∃ j,k<=j/\j<=k+3/\j<=(enc zs).length /\ ∃ p q,zs=p++q/\(enc zs).take j=enc p/\(enc zs).drop j=enc q
 | [],k,h=>by
  have:k=0:=by simpa [enc] using h
  subst this
  exact⟨0,Nat.le_refl _,by omega,by simp,[],[],rfl,rfl,rfl⟩
 | z::zs,k,h=>by
  have e:enc (z::zs)=encodeRune z++enc zs:=by simp[enc]
  have hl:=bk z
  rw[e]at h ⊢
  by_cases h0:k=0
  ·subst h0
   exact⟨0,Nat.le_refl _,by omega,by omega,[],z::zs,rfl,rfl,by rw[e];rfl⟩
  by_cases h1:k<(encodeRune z).length
  ·refine⟨(encodeRune z).length,by omega,by omega,by simp,[z],zs,rfl,?_,?_⟩
   ·rw[List.take_left];simp[enc]
   ·rw[List.drop_left]
  ·obtain⟨j,rfl⟩:∃ j,k=(encodeRune z).length+j:=⟨k-(encodeRune z).length,by omega⟩
   have hj:j<=(enc zs).length:=by simp at h;omega
   obtain⟨i,i1,i2,i3,p,q,rfl,h3,h4⟩:=zH zs j hj
   refine⟨(encodeRune z).length+i,by omega,by omega,by simp at i3 ⊢;omega,z::p,q,rfl,?_,?_⟩
   ·rw[List.take_length_add_append,h3];simp[enc]
   ·rw[List.drop_length_add_append,h4]
def I0 {zs:List Int}(hm:zs.all gq=true){b:UInt8}(h:(enc zs)[0]? = some b):pw b=false:=by
 cases zs with
 | nil=>simp[enc]at h
 | cons z zs =>
  simp only[List.all_cons,Bool.and_eq_true]at hm
  obtain⟨c,rest,e1,e2,_⟩:=JG hm.1
  have e:enc (z::zs)=encodeRune z++enc zs:=by simp[enc]
  rw[e,e1]at h
  simp at h;subst h
  have hl:=(bk z).1
  unfold pw
  by_cases hc:128<=c.toNat/\c.toNat<192
  ·exfalso
   have:uh (c.toNat:Int)=0:=by
    unfold uh;rw[if_neg (by omega),if_neg (by omega),if_neg (by omega),if_neg (by omega)]
   omega
  ·simp only[Bool.and_eq_false_iff,decide_eq_false_iff_not];omega
def HX {r:List UInt8}(h:(dB r).isSome=true){k:Nat}(hk:k<=r.length):∃ j,k<=j/\j<=k+3/\j<=r.length /\ ∀ b,r[j]? = some b->pw b=false:=by
 obtain⟨zs,hz⟩:=Option.isSome_iff_exists.1 h
 obtain⟨hm,rfl⟩:=(ki r zs).1 hz
 obtain⟨j,j1,j2,j3,p,q,rfl,h3,h4⟩:=zH zs k hk
 rw[List.all_append,Bool.and_eq_true]at hm
 refine⟨j,j1,j2,j3,fun b hb=>I0 hm.2 ?_⟩
 rw[<- h4,List.getElem?_drop];simpa using hb
def LR {r:List UInt8}(h:(dB r).isSome=true){k:Nat}(hk:k<=r.length)(hc:∀ b,r[k]? = some b->pw b=false):(dB (r.take k)).isSome=true/\(dB (r.drop k)).isSome=true:=by
 obtain⟨zs,hz⟩:=Option.isSome_iff_exists.1 h
 obtain⟨hm,rfl⟩:=(ki r zs).1 hz
 rcases IQ zs k hk with ⟨p,q,rfl,h3,h4⟩|⟨b,t,h3,hb1,hb2⟩
 ·rw[List.all_append,Bool.and_eq_true]at hm
  rw[h3,h4,eU p hm.1,eU q hm.2]
  exact⟨rfl,rfl⟩
 ·exfalso
  have:(enc zs)[k]? = some b:=by
   have:=congrArg (fun l=>l[0]?) h3
   simpa using this
  have:=hc b this
  simp only[pw,Bool.and_eq_false_iff,decide_eq_false_iff_not]at this
  omega
def cC {s:List UInt8} : aN s=0↔s.length<=16384/\(dB s).isSome=true:=by
 unfold aN
 split
 ·constructor
  ·intro h;omega
  ·rintro ⟨h,_⟩;omega
 ·rename_i hl
  cases dB s with
  | none=>simp
  | some z=>simp;omega
structure Pr where
 name:List UInt8
 value:List UInt8
deriving DecidableEq
structure Tk where
 kind:Nat
 name:List UInt8
 attrs:List Pr
 text:List UInt8
deriving DecidableEq
def Ih (l:List Pr)(a:Pr):Bool:=!(l.any fun b=>a.name==b.name)&&bU a.name&&decide (aN a.value=0)
def jk (l:List Pr)(k:Nat):Prop:=∀(i:Nat) (a:Pr),i<k->l[i]? = some a->Ih (l.take i) a=true
def gn (l:List Pr):Bool:=decide (l.length<=16)&&l.zipIdx.all fun p=>Ih (l.take p.2) p.1
def eD {l:List Pr} : gn l=true↔l.length<=16/\jk l l.length:=by
 unfold gn jk
 simp only[Bool.and_eq_true,decide_eq_true_eq,List.all_eq_true]
 refine and_congr_right fun _=>⟨fun h i a hi ha=>?_,fun h p hp=>?_⟩
 ·refine h (a,i) ?_
  rw[List.mem_zipIdx_iff_getElem?];exact ha
 ·have:=(List.mem_zipIdx_iff_getElem?).1 hp
  exact h p.2 p.1 (List.getElem?_eq_some_iff.1 this).1 this
def cR (t:Tk):Bool :=
 if t.kind=1\/t.kind=3 then bU t.name&&gn t.attrs&&t.text.isEmpty
 else if t.kind=2 then bU t.name&&t.attrs.isEmpty&&t.text.isEmpty
 else if t.kind=4 then t.name.isEmpty&&t.attrs.isEmpty && !t.text.isEmpty&&decide (aN t.text=0)
 else false
def OH (t:Tk):Int:=if cR t=true then 0 else 8
def jd (a:Pr):List UInt8:=[32]++a.name++[61,34]++bq true a.value++[34]
def bD (l:List Pr):List UInt8:=l.flatMap jd
def dV (t:Tk):List UInt8 :=
 if t.kind=4 then bq false t.text
 else if t.kind=2 then [60,47]++t.name++[62]
 else [60]++t.name++bD t.attrs++(if t.kind=3 then [47,62] else [62])
def bu (l:List Tk):List UInt8:=l.flatMap dV
def D3 {l:List Tk}{k:Nat}{t:Tk}(h:l[k]? = some t):bu (l.take (k+1))=bu (l.take k)++dV t:=by
 obtain⟨hk,rfl⟩:=List.getElem?_eq_some_iff.1 h
 rw[List.take_succ_eq_append_getElem hk];unfold bu;rw[List.flatMap_append];simp
def zn {l:List Pr}{k:Nat}{t:Pr}(h:l[k]? = some t):bD (l.take (k+1))=bD (l.take k)++jd t:=by
 obtain⟨hk,rfl⟩:=List.getElem?_eq_some_iff.1 h
 rw[List.take_succ_eq_append_getElem hk];unfold bD;rw[List.flatMap_append];simp
def jF:List Tk->Bool
 | a::b::r=>(a.kind==4&&b.kind==4)||jF (b::r)
 | _=>false
def pj (l:List Tk)(k:Nat):Prop:=∀(i:Nat) (a b:Tk),i+1<k->l[i]? = some a->l[i+1]? = some b -> ¬(a.kind=4/\b.kind=4)
def qu:∀ {l:List Tk},jF l=false↔pj l l.length
 | []=>by simp[jF,pj]
 | [a]=>by simp[jF,pj]
 | a::b::r=>by
  simp only[jF,Bool.or_eq_false_iff,qu (l:=b::r)]
  constructor
  ·rintro ⟨h1,h2⟩ i x y hi hx hy
   cases i with
   | zero =>
    simp at hx hy;subst hx;subst hy
    intro⟨e1,e2⟩
    simp[e1,e2]at h1
   | succ i=>exact h2 i x y (by simp at hi ⊢;omega) (by simpa using hx) (by simpa using hy)
  ·intro h
   refine⟨?_,fun i x y hi hx hy=>h (i+1) x y (by simp at hi ⊢;omega) (by simpa using hx) (by simpa using hy)⟩
   have:=h 0 a b (by simp) (by simp) (by simp)
   simp only[Bool.and_eq_false_iff,beq_eq_false_iff_ne]
   by_cases e:a.kind=4
   ·right;exact fun e2=>this ⟨e,e2⟩
   ·left;exact e
def Im {l:List Tk}{i:Nat}{a b:Tk}(ha:l[i]? = some a)(hb:l[i+1]? = some b)(h1:a.kind=4)(h2:b.kind=4):jF l=true:=by
 cases h:jF l with
 | true=>rfl
 | false =>
  have:=qu.1 h
  exact absurd ⟨h1,h2⟩ (this i a b (List.getElem?_eq_some_iff.1 hb).1 ha hb)
def fu (l:List Tk):Int:=if (l.any fun t=>!cR t)=true\/jF l=true then 8 else if 512<l.length\/16384<(bu l).length then 4 else 0
def jf (l:List Tk):List UInt8:=if fu l=0 then bu l else []
def uX {α:Type}{f:α->Nat}{l:List α}{x:α}(h:x∈l):f x<=(l.map f).sum:=by
 induction l with
 | nil=>simp at h
 | cons y l ih =>
  simp only[List.map_cons,List.sum_cons]
  rcases List.mem_cons.1 h with rfl|h
  ·omega
  ·have:=ih h;omega
def xG (a:Pr):(jd a).length<=4+a.name.length+6*a.value.length:=by
 have:=cj true a.value
 simp only[jd,List.length_append,List.length_cons,List.length_nil];omega
def oK {α:Type}{f:α->List UInt8}{n:Nat} : ∀ {l:List α},(∀ x∈l,(f x).length<=n)->(l.flatMap f).length<=l.length*n
 | [],_=>by simp
 | x::l,h=>by
  have h1:=h x (by simp)
  have h2:=oK (l:=l) (fun y hy=>h y (by simp[hy]))
  simp only[List.flatMap_cons,List.length_append,List.length_cons,Nat.succ_mul];omega
def sd {t:Tk}{n:Nat}(h1:t.attrs.length<=30)(h2:t.name.length<=n)(h3:t.text.length<=n)(h4:∀ a∈t.attrs,a.name.length<=n/\a.value.length<=n):(bD t.attrs).length<=30*(4+7*n)/\(dV t).length<=124+217*n:=by
 have e:=cj false t.text
 have ha:(bD t.attrs).length<=t.attrs.length*(4+7*n):=oK (fun a ha=>by
  have:=xG a
  have:=h4 a ha
  omega)
 have hb:t.attrs.length*(4+7*n)<=30*(4+7*n):=Nat.mul_le_mul_right _ h1
 refine⟨by omega,?_⟩
 unfold dV
 split
 ·omega
 ·split
  ·simp only[List.length_append,List.length_cons,List.length_nil];omega
  ·simp only[List.length_append,List.length_cons,List.length_nil]
   split<;>simp only[List.length_cons,List.length_nil]<;>omega
structure At where
 space:List UInt8
 name:List UInt8
 value:List UInt8
deriving DecidableEq
structure Nd where
 kind:Nat
 space:List UInt8
 name:List UInt8
 attrs:List At
 text:List UInt8
 many:Int
deriving DecidableEq
structure Gr where
 v:List Nd
 opn:List Nat
def Nd.inc (n:Nd):Nd:={ n with many:=n.many+1 }
def lF (v:List Nd)(opn:List Nat):List Nd:=match opn.getLast? with
 | some k=>v.modify k Nd.inc
 | none=>v
def jj (g:Gr)(n:Nd):List Nd:=lF g.v g.opn++[n]
def fS (c:UInt8):Bool:=c==32||c==9||c==10||c==13
def oz (s:List UInt8):Bool:=s.all fS
def iY (s:List UInt8):Nd:=⟨2,[],[],[],s,0⟩
def co (l:List Pr):List At:=l.map fun a=>⟨[],a.name,a.value⟩
def fP (t:Tk):Nd:=⟨1,[],t.name,co t.attrs,[],0⟩
def iS (g:Gr):Option (List UInt8):=g.opn.getLast?.bind fun k=>(g.v[k]?).map Nd.name
def stepG (g:Gr)(t:Tk)(txt:Bool):Gr×Int :=
 if t.kind=4 then
  if (txt||(g.opn.isEmpty && !oz t.text))=true then (g,80)
  else if g.opn.isEmpty=true then (g,0) else (⟨jj g (iY t.text),g.opn⟩,0)
 else if t.kind=2 then
  if iS g=some t.name then (⟨g.v,g.opn.dropLast⟩,0) else (g,80)
 else if (g.opn.isEmpty && !g.v.isEmpty)=true then (g,80)
 else if 12<=g.opn.length then (g,100)
 else (⟨jj g (fP t),if t.kind=1 then g.opn++[g.v.length] else g.opn⟩,0)
def qR:Gr->Bool->List Tk->Gr×Int
 | g,_,[]=>(g,0)
 | g,txt,t::r=>if (stepG g t txt).2=0 then qR (stepG g t txt).1 (t.kind==4) r else stepG g t txt
def cB (l:List Tk):Int:=if 512<l.length then 4 else if (l.any fun t=>!cR t)=true then 8 else
 if (qR ⟨[],[]⟩ false l).2≠0 then (qR ⟨[],[]⟩ false l).2 else if (qR ⟨[],[]⟩ false l).1.v.isEmpty=true\/(qR ⟨[],[]⟩ false l).1.opn.isEmpty=false then 80 else 0
def dy (l:List Tk):List Nd:=if cB l=0 then (qR ⟨[],[]⟩ false l).1.v else []
structure Gr.Ok (g:Gr) (n:Nat):Prop where
 in_:∀ k∈g.opn,k<g.v.length
 deep:g.opn.length<=12
 many:∀ x∈g.v,0<=x.many/\x.many<=n
 len:g.v.length<=n
def AA (v:List Nd)(o:List Nat):(lF v o).length=v.length:=by
 unfold lF
 split<;>simp
def gw (g:Gr)(n:Nd):(jj g n).length=g.v.length+1:=by simp[jj,AA]
def JK {v:List Nd}{o:List Nat}{n:Nat}(h:∀ x∈v,0<=x.many/\x.many<=n):∀ x∈lF v o,0<=x.many/\x.many<=((n+1:Nat):Int):=by
 intro x hx
 unfold lF at hx
 split at hx
 ·rename_i k _
  obtain⟨i,hi⟩:=List.mem_iff_getElem?.1 hx
  rw[List.getElem?_modify]at hi
  cases hv:v[i]? with
  | none=>rw[hv]at hi;simp at hi
  | some y =>
   rw[hv]at hi
   have:=h y (List.mem_of_getElem? hv)
   split at hi
   ·simp at hi;subst hi;simp only[Nd.inc];omega
   ·simp at hi;subst hi;omega
 ·have:=h x hx;omega
def Il {g:Gr}{n:Nat}(h:g.Ok n){x:Nd}(hx:x.many=0):(∀ k∈g.opn,k<(jj g x).length)/\(∀ y∈jj g x,0<=y.many/\y.many<=((n+1:Nat):Int))/\(jj g x).length<=n+1:=by
 refine⟨fun k hk=>?_,fun y hy=>?_,?_⟩
 ·have:=h.in_ k hk;rw[gw];omega
 ·rcases List.mem_append.1 hy with hy|hy
  ·exact JK h.many y hy
  ·simp at hy;subst hy;omega
 ·rw[gw];have:=h.len;omega
def Ff {g:Gr}{n:Nat}(h:g.Ok n)(t:Tk)(txt:Bool):(stepG g t txt).1.Ok (n+1):=by
 have h0:g.Ok (n+1):=⟨h.in_,h.deep,fun x hx=>by have:=h.many x hx;omega,by have:=h.len;omega⟩
 unfold stepG
 split
 ·split
  ·exact h0
  ·split
   ·exact h0
   ·obtain⟨h1,h2,h3⟩:=Il h (x:=iY t.text) rfl
    exact⟨h1,h.deep,h2,h3⟩
 ·split
  ·split
   ·exact⟨fun k hk=>h.in_ k (List.dropLast_subset _ hk),by simp;have:=h.deep;omega,h0.many,h0.len⟩
   ·exact h0
  ·split
   ·exact h0
   ·split
    ·exact h0
    ·rename_i h12
     obtain⟨h1,h2,h3⟩:=Il h (x:=fP t) rfl
     refine⟨fun k hk=>?_,?_,h2,h3⟩
     ·simp only at hk
      split at hk
      ·rcases List.mem_append.1 hk with hk|hk
       ·exact h1 k hk
       ·simp at hk;subst hk;simp only[gw];omega
      ·exact h1 k hk
     ·simp only
      split
      ·simp;omega
      ·exact h.deep
def Bn:(Gr.mk [] []).Ok 0:=Gr.Ok.mk (fun k h=>by simp at h) (by simp) (fun x h=>by simp at h) (by simp)
def AB (v:List Nd):lF v []=v:=rfl
def ra {v:List Nd}{o:List Nat}{k:Nat}(h:o.getLast? = some k):lF v o=v.modify k Nd.inc:=by unfold lF;rw[h]
def uQ {v:List Nd}{k:Nat}{x:Nd}(h:v[k]? = some x):v.modify k Nd.inc=v.set k x.inc:=by
 refine List.ext_getElem? fun i=>?_
 rw[List.getElem?_modify,List.getElem?_set]
 have hk:=(List.getElem?_eq_some_iff.1 h).1
 by_cases e:k=i
 ·subst e;have hv:=(List.getElem?_eq_some_iff.1 h).2;simp[hk,hv]
 ·simp[e]
def mX {o:List Nat}{k:Nat}(h:o.getLast? = some k):o≠[]/\o[o.length-1]? = some k/\0<o.length:=by
 have hne:o≠[]:=by intro e;subst e;simp at h
 rw[List.getLast?_eq_getElem?]at h
 exact⟨hne,h,List.length_pos_iff.2 hne⟩
def re {o:List Nat}(h:o≠[]):∃ k,o.getLast? = some k:=⟨_,List.getLast?_eq_some_getLast h⟩
def iO {l:List Tk} : ∀ {g:Gr} {txt:Bool} {t:Tk} {r:List Tk},l=t::r->(stepG g t txt).2=0->qR g txt l=qR (stepG g t txt).1 (t.kind==4) r:=by
 intro g txt t r h h0
 subst h
 rw[qR,if_pos h0]
def NB {g:Gr}{txt:Bool}{t:Tk}{r:List Tk}(h0:(stepG g t txt).2≠0):qR g txt (t::r)=stepG g t txt:=by rw[qR,if_neg h0]
def x8 (g:Gr)(txt:Bool):qR g txt []=(g,0):=rfl
def nV (c:UInt8):Option Nat:=if 48<=c.toNat/\c.toNat<=57 then some (c.toNat-48) else if 97<=c.toNat/\c.toNat<=102 then some (c.toNat-87) else if 65<=c.toNat/\c.toNat<=70 then some (c.toNat-55) else none
def ib:Nat->List UInt8->Option Nat
 | n,[]=>some n
 | n,c::r=>match nV c with|none=>none|some d=>ib (16*n+d) r
def pO (s:List UInt8):Option Nat:=if s=[]\/6<s.length\/s.head? = some 48 then none else ib 0 s
def tE (c:UInt8):Option Nat:=if 48<=c.toNat/\c.toNat<=57 then some (c.toNat-48) else none
def lv:Nat->List UInt8->Option Nat
 | n,[]=>some n
 | n,c::r=>match tE c with|none=>none|some d=>lv (10*n+d) r
def oE (s:List UInt8):Option Nat:=if s=[]\/16<s.length\/(s.head? = some 48/\s≠[48]) then none else (lv 0 s).bind fun n=>if n<=9007199254740991 then some n else none
def fm (o:Option Nat):Option (List UInt8):=o.bind fun n=>if gq (n:Int)=true then some (encodeRune n) else none
def ce (s:List UInt8):Option (List UInt8) :=
 if s=[97,109,112] then some [38] else if s=[108,116] then some [60] else if s=[103,116] then some [62] else if s=[113,117,111,116] then some [34] else if s=[97,112,111,115] then some [39]
 else if s.head? = some 35 then (if s.tail.head? = some 120 then fm (pO s.tail.tail) else fm (oE s.tail)) else none
def tD {d:UInt8}{s a b:List UInt8}(h:eg d s=some (a,b)):b.length<s.length:=by
 have:=(eH h).1
 rw[this];simp;omega
def bJ:List UInt8->Option (List UInt8)
 | []=>some []
 | c::r=>if c=60 then none else if c=38 then (match h:eg 59 r with|none=>none|some (a,b)=>match ce a with|none=>none|some x=>(bJ b).map (x ++ ·)) else (bJ r).map (c :: ·)
termination_by s=>s.length
decreasing_by
 ·have:=tD h;simp;omega
 ·simp
def im:bJ []=some []:=by rw[bJ]
def nd (r:List UInt8):bJ (60::r)=none:=by rw[bJ];rfl
def eR {c:UInt8}(h1:c≠60)(h2:c≠38)(r:List UInt8):bJ (c::r)=(bJ r).map (c :: ·):=by rw[bJ,if_neg h1,if_neg h2]
def jX {r:List UInt8}(h:eg 59 r=none):bJ (38::r)=none:=by
 rw[bJ,if_neg (by decide),if_pos rfl]
 split
 ·rfl
 ·rename_i e;rw[h]at e;cases e
def lc {r a b:List UInt8}(h:eg 59 r=some (a,b))(hm:ce a=none):bJ (38::r)=none:=by
 rw[bJ,if_neg (by decide),if_pos rfl]
 split
 ·rfl
 ·rename_i e;rw[h]at e;cases e;rw[hm]
def jB {r a b x:List UInt8}(h:eg 59 r=some (a,b))(hm:ce a=some x):bJ (38::r)=(bJ b).map (x ++ ·):=by
 rw[bJ,if_neg (by decide),if_pos rfl]
 split
 ·rename_i e;rw[h]at e;cases e
 ·rename_i e;rw[h]at e;cases e;rw[hm]
def wI:ce [97,109,112]=some [38]:=by decide
def AY:ce [108,116]=some [60]:=by decide
def AX:ce [103,116]=some [62]:=by decide
def uB:ce [113,117,111,116]=some [34]:=by decide
def J6:ce [35,49,51]=some [13]:=by decide
def N3:ce [35,57]=some [9]:=by decide
def J5:ce [35,49,48]=some [10]:=by decide
def jY {a x:List UInt8}(ha:(59:UInt8) ∉ a)(hm:ce a=some x)(b:List UInt8):bJ (38::(a++59::b))=(bJ b).map (x ++ ·):=jB (kg ha) hm
def DC (q:Bool)(c:UInt8)(b:List UInt8):bJ (gJ q c++b)=(bJ b).map (c :: ·):=by
 have e:∀ x:UInt8,(fun t:List UInt8=>[x]++t)=(x :: ·):=fun x=>rfl
 by_cases h1:c=38
 ·subst h1;exact jY (a:=[97,109,112]) (by decide) wI b
 by_cases h2:c=60
 ·subst h2;exact jY (a:=[108,116]) (by decide) AY b
 by_cases h3:c=62
 ·subst h3;exact jY (a:=[103,116]) (by decide) AX b
 by_cases h4:c=13
 ·subst h4;exact jY (a:=[35,49,51]) (by decide) J6 b
 cases q with
 | false =>
  have:gJ false c=[c]:=by simp[gJ,h1,h2,h3,h4]
  rw[this];exact eR h2 h1 b
 | true =>
  by_cases h5:c=34
  ·subst h5;exact jY (a:=[113,117,111,116]) (by decide) uB b
  by_cases h6:c=9
  ·subst h6;exact jY (a:=[35,57]) (by decide) N3 b
  by_cases h7:c=10
  ·subst h7;exact jY (a:=[35,49,48]) (by decide) J5 b
  have:gJ true c=[c]:=by simp[gJ,h1,h2,h3,h4,h5,h6,h7]
  rw[this];exact eR h2 h1 b
def o9 (q:Bool):∀ s:List UInt8,bJ (bq q s)=some s
 | []=>im
 | c::s=>by
  have:bq q (c::s)=gJ q c++bq q s:=rfl
  rw[this,DC,o9 q s];rfl
def I8 (q:Bool)(c:UInt8):(gJ q c).all (fun x=>x != 60&&x != 62&&x != 13&&(!q||(x != 34&&x != 9&&x != 10)))=true:=by
 by_cases h1:c=38
 ·subst h1;cases q<;>decide
 by_cases h2:c=60
 ·subst h2;cases q<;>decide
 by_cases h3:c=62
 ·subst h3;cases q<;>decide
 by_cases h4:c=13
 ·subst h4;cases q<;>decide
 cases q with
 | false =>
  have:gJ false c=[c]:=by simp[gJ,h1,h2,h3,h4]
  rw[this];simp[h2,h3,h4]
 | true =>
  by_cases h5:c=34
  ·subst h5;decide
  by_cases h6:c=9
  ·subst h6;decide
  by_cases h7:c=10
  ·subst h7;decide
  have:gJ true c=[c]:=by simp[gJ,h1,h2,h3,h4,h5,h6,h7]
  rw[this];simp[h2,h3,h4,h5,h6,h7]
def tR (q:Bool){s:List UInt8}{x:UInt8}(h:x∈bq q s):(x != 60&&x != 62&&x != 13&&(!q||(x != 34&&x != 9&&x != 10)))=true:=by
 unfold bq at h
 obtain⟨c,_,hc⟩:=List.mem_flatMap.1 h
 exact List.all_eq_true.1 (I8 q c) x hc
def IU (q:Bool){c:UInt8}(h1:c.toNat<128)(h2:gq (c.toNat:Int)=true):(dB (gJ q c)).isSome=true:=by
 unfold gJ
 repeat' split
 all_goals (try decide)
 all_goals (
  have e:encodeRune (c.toNat:Int)=[c]:=by
   unfold encodeRune encodeRuneZ
   rw[if_pos (by omega)]
   simp
  have:=eU [(c.toNat:Int)] (by simp[h2])
  simp only[enc,List.flatMap_cons,List.flatMap_nil,List.append_nil,e]at this
  rw[this];rfl)
def F8 (q:Bool){c:UInt8}(h:128<=c.toNat):gJ q c=[c]:=by
 have hne:∀ d:UInt8,d.toNat<128->c≠d:=fun d hd e=>by subst e;omega
 simp only[gJ,hne 38 (by decide),hne 60 (by decide),hne 62 (by decide),hne 13 (by decide),hne 34 (by decide),hne 9 (by decide),hne 10 (by decide),if_false,ite_self]
def wm (q:Bool):∀ {s:List UInt8},(∀ c∈s,128<=c.toNat)->bq q s=s
 | [],_=>rfl
 | c::s,h=>by
  have:bq q (c::s)=gJ q c++bq q s:=rfl
  rw[this,F8 q (h c (by simp)),wm q (fun x hx=>h x (by simp[hx]))];rfl
def pC {z:Int}(h0:0<=z)(h:z<128):encodeRune z=[z.toNat.toUInt8]:=by
 unfold encodeRune encodeRuneZ
 rw[if_pos (by omega)]
 rfl
def mH {z:Int}(h:128<=z):∀ c∈encodeRune z,128<=c.toNat:=by
 intro c hc
 unfold encodeRune encodeRuneZ at hc
 rw[if_neg (by omega)]at hc
 repeat' split at hc
 all_goals (
  simp only[List.map_cons,List.map_nil,List.mem_cons,List.not_mem_nil,or_false]at hc
  rcases hc with rfl|rfl|rfl|rfl<;>(rw[fw (by omega) (by omega)];omega))
def zJ (q:Bool){z:Int}(hm:gq z=true):(dB (bq q (encodeRune z))).isSome=true:=by
 have hr:=(fj hm).1
 by_cases h:z<128
 ·rw[pC hr h]
  have hz:((z.toNat.toUInt8).toNat:Int)=z:=by rw[fw hr (by omega)];omega
  have:bq q [z.toNat.toUInt8]=gJ q z.toNat.toUInt8:=by simp[bq]
  rw[this]
  exact IU q (by omega) (by rw[hz];exact hm)
 ·rw[wm q (mH (by omega))]
  have:=eU [z] (by simp[hm])
  simp only[enc,List.flatMap_cons,List.flatMap_nil,List.append_nil]at this
  rw[this];rfl
def tG (q:Bool):∀ zs:List Int,zs.all gq=true->(dB (bq q (enc zs))).isSome=true
 | [],_=>rfl
 | z::zs,h=>by
  simp only[List.all_cons,Bool.and_eq_true]at h
  have:enc (z::zs)=encodeRune z++enc zs:=by simp[enc]
  rw[this,rS]
  obtain⟨x,hx⟩:=Option.isSome_iff_exists.1 (zJ q h.1)
  obtain⟨y,hy⟩:=Option.isSome_iff_exists.1 (tG q zs h.2)
  rw[pA hx hy];rfl
def zK (q:Bool){s:List UInt8}(h:(dB s).isSome=true):(dB (bq q s)).isSome=true:=by
 obtain⟨zs,hz⟩:=Option.isSome_iff_exists.1 h
 obtain⟨hm,rfl⟩:=(ki s zs).1 hz
 exact tG q zs hm
def tF {c:UInt8}{d:Nat}(h:tE c=some d):d<=9/\c=UInt8.ofNat (48+d)/\c.toNat=48+d:=by
 unfold tE at h
 split at h
 ·cases h
  refine⟨by omega,?_,by omega⟩
  have:48+(c.toNat-48)=c.toNat:=by omega
  rw[this];simp
 ·cases h
def wh:∀(s:List UInt8) (n:Nat) (c:UInt8),lv n (s++[c])=(lv n s).bind fun m=>(tE c).map fun d=>10*m+d
 | [],n,c=>by
  simp only[List.nil_append,lv,Option.bind_some]
  cases tE c<;>rfl
 | x::s,n,c=>by
  simp only[List.cons_append,lv]
  cases tE x with
  | none=>rfl
  | some d=>exact wh s _ c
def Ek:∀(s:List UInt8) (n m:Nat),lv n s=some m->n<=m/\m<(n+1)*10 ^ s.length
 | [],n,m,h=>by simp only[lv]at h;cases h;simp
 | x::s,n,m,h=>by
  simp only[lv]at h
  cases hx:tE x with
  | none=>rw[hx]at h;cases h
  | some d =>
   rw[hx]at h
   have hd:=(tF hx).1
   obtain⟨h1,h2⟩:=Ek s _ m h
   refine⟨by omega,Nat.lt_of_lt_of_le h2 ?_⟩
   rw[List.length_cons,Nat.pow_succ',<- Nat.mul_assoc]
   exact Nat.mul_le_mul_right _ (by omega)
def aW (s:List UInt8):List UInt8:=s.dropWhile fS
def dp (c:UInt8):Bool:=gX false c||c==58
def g9 (s:List UInt8):List UInt8:=s.takeWhile dp
def ov (s:List UInt8):List UInt8:=s.dropWhile dp
def e9 (s:List UInt8):Option (List UInt8×List UInt8):=if bU (g9 s)=true then some (g9 s,ov s) else none
def cP (c:UInt8):UInt8:=if fS c=true then 32 else c
def u6 (s:List UInt8):Option (List UInt8):=bJ (s.map cP)
def ru:List UInt8->Option (List UInt8×List UInt8)
 | []=>none
 | q::t=>if q=39\/q=34 then eg q t else none
def gU (s:List UInt8):Option (List UInt8×List UInt8):=(ru s).bind fun p=>(u6 p.1).map fun v=>(v,p.2)
def bO (c:UInt8):List UInt8->Option (List UInt8)
 | []=>none
 | d::t=>if d=c then some t else none
def gy (s:List UInt8):Option (Pr×List UInt8):=(e9 s).bind fun p=>(bO 61 (aW p.2)).bind fun t=>(gU (aW t)).map fun q=>(⟨p.1,q.1⟩,q.2)
def lA {p:UInt8->Bool} : ∀ s:List UInt8,(s.dropWhile p).length<=s.length
 | []=>Nat.le_refl _
 | c::s=>by
  rw[List.dropWhile_cons]
  split
  ·have:=lA (p:=p) s;simp;omega
  ·exact Nat.le_refl _
def dD (s:List UInt8):(aW s).length<=s.length:=lA s
def D9 (s:List UInt8):s=g9 s++ov s:=(List.takeWhile_append_dropWhile).symm
def EE {s:List UInt8}(h:bU s=true):s≠[]:=by
 intro e;subst e;cases h
def gh {s n r:List UInt8}(h:e9 s=some (n,r)):s=n++r/\n≠[]/\bU n=true/\r.length<s.length:=by
 unfold e9 at h
 split at h
 ·rename_i hf
  cases h
  have h1:=D9 s
  have h2:=EE hf
  refine⟨h1,h2,hf,?_⟩
  have:=congrArg List.length h1
  rw[List.length_append]at this
  have:=List.length_pos_iff.2 h2
  omega
 ·cases h
def dK (c d:UInt8)(t:List UInt8):bO c (d::t)=if d=c then some t else none:=rfl
def o7 (q:UInt8)(t:List UInt8):ru (q::t)=if q=39\/q=34 then eg q t else none:=rfl
def b8 {c:UInt8}{s t:List UInt8}(h:bO c s=some t):s=c::t:=by
 cases s with
 | nil=>cases h
 | cons d s =>
  rw[dK]at h
  split at h
  ·rename_i e;cases h;rw[e]
  ·cases h
def lO {s a b:List UInt8}(h:ru s=some (a,b)):∃ q,(q=39\/q=34)/\s=q::(a++q::b)/\q ∉ a:=by
 cases s with
 | nil=>cases h
 | cons q t =>
  rw[o7]at h
  split at h
  ·rename_i hq
   obtain⟨h1,h2⟩:=eH h
   exact⟨q,hq,by rw[h1],h2⟩
  ·cases h
def lY {s v r:List UInt8}(h:gU s=some (v,r)):∃ a,ru s=some (a,r)/\u6 a=some v:=by
 unfold gU at h
 obtain⟨⟨a,b⟩,h1,h2⟩:=Option.bind_eq_some_iff.1 h
 obtain⟨x,h3,h4⟩:=Option.map_eq_some_iff.1 h2
 cases h4
 exact⟨a,h1,h3⟩
def nw {s r:List UInt8}{a:Pr}(h:gy s=some (a,r)):∃ r1 t,e9 s=some (a.name,r1)/\aW r1=61::t/\gU (aW t)=some (a.value,r):=by
 unfold gy at h
 obtain⟨⟨n,r1⟩,h1,h2⟩:=Option.bind_eq_some_iff.1 h
 obtain⟨t,h3,h4⟩:=Option.bind_eq_some_iff.1 h2
 obtain⟨⟨v,r2⟩,h5,h6⟩:=Option.map_eq_some_iff.1 h4
 cases h6
 exact⟨r1,t,h1,b8 h3,h5⟩
def lp {s r:List UInt8}{a:Pr}(h:gy s=some (a,r)):r.length<s.length:=by
 obtain⟨r1,t,h1,h2,h3⟩:=nw h
 have l1:=(gh h1).2.2.2
 have l2:=dD r1
 rw[h2]at l2
 have l3:=dD t
 obtain⟨v,h4,_⟩:=lY h3
 obtain⟨q,_,h5,_⟩:=lO h4
 rw[h5]at l3
 simp only[List.length_cons,List.length_append]at l2 l3
 omega
def j7:List UInt8->Option (Nat×List UInt8)
 | 62::t=>some (1,t)
 | 47::62::t=>some (3,t)
 | _=>none
def jt (n:List UInt8)(l:List Pr)(s:List UInt8):Option (Tk×List UInt8) :=
 match j7 (aW s) with
 | some (k,t)=>some (⟨k,n,l,[]⟩,t)
 | none=>if (aW s).length<s.length then (match h:gy (aW s) with
  | none=>none
  | some (a,r)=>if (l.any fun b=>a.name==b.name)=true then none else jt n (l++[a]) r) else none
termination_by s.length
decreasing_by
 have:=lp h
 have:=dD s
 omega
def kE {n:List UInt8}{l:List Pr}{s t:List UInt8}{k:Nat}(h:j7 (aW s)=some (k,t)):jt n l s=some (⟨k,n,l,[]⟩,t):=by rw[jt,h]
def lV {n:List UInt8}{l:List Pr}{s:List UInt8}(h:j7 (aW s)=none)(h2:¬(aW s).length<s.length):jt n l s=none:=by rw[jt,h];simp only[if_neg h2]
def sR {n:List UInt8}{l:List Pr}{s:List UInt8}(h:j7 (aW s)=none)(h2:gy (aW s)=none):jt n l s=none:=by
 rw[jt,h];simp only
 split
 ·split
  ·rfl
  ·rename_i e;rw[h2]at e;cases e
 ·rfl
def nQ {n:List UInt8}{l:List Pr}{s r:List UInt8}{a:Pr}(h:j7 (aW s)=none)(h2:gy (aW s)=some (a,r))(h3:(l.any fun b=>a.name==b.name)=true):jt n l s=none:=by
 rw[jt,h];simp only
 split
 ·split
  ·rfl
  ·rename_i e;rw[h2]at e;cases e;rw[if_pos h3]
 ·rfl
def lj {n:List UInt8}{l:List Pr}{s r:List UInt8}{a:Pr}(h:j7 (aW s)=none)(hg:(aW s).length<s.length)(h2:gy (aW s)=some (a,r))(h3:(l.any fun b=>a.name==b.name)=false):jt n l s=jt n (l++[a]) r:=by
 rw[jt,h];simp only[if_pos hg]
 split
 ·rename_i e;rw[h2]at e;cases e
 ·rename_i e;rw[h2]at e;cases e;rw[if_neg (by simp[h3])]
def rG (s:List UInt8):Option (Tk×List UInt8) :=
 match bO 47 s with
 | some t=>(e9 t).bind fun p=>(bO 62 (aW p.2)).map fun r=>(⟨2,p.1,[],[]⟩,r)
 | none=>(e9 s).bind fun p=>jt p.1 [] p.2
def ji (c:UInt8):Bool:=c != 60
def cK (s:List UInt8):List UInt8:=s.takeWhile ji
def fR (s:List UInt8):List UInt8:=s.dropWhile ji
def gS (s:List UInt8):Option (Tk×List UInt8) :=
 match bO 60 s with
 | some t=>rG t
 | none=>(bJ (cK s)).map fun x=>(⟨4,[],[],x⟩,fR s)
def OD:∀(k:Nat) (n:List UInt8) (l:List Pr) (s r:List UInt8) (t:Tk),s.length<=k->jt n l s=some (t,r)->r.length<s.length:=by
 intro k
 induction k with
 | zero =>
  intro n l s r t hk h
  obtain rfl:=List.length_eq_zero_iff.1 (Nat.le_zero.1 hk)
  rw[lV (by rfl) (by simp[aW])]at h;cases h
 | succ k ih =>
  intro n l s r t hk h
  have hs:=dD s
  cases he:j7 (aW s) with
  | some p =>
   obtain⟨m,u⟩:=p
   rw[kE he]at h
   cases h
   unfold j7 at he
   split at he
   ·rename_i e;cases he;rw[e]at hs;simp at hs;omega
   ·rename_i e;cases he;rw[e]at hs;simp at hs;omega
   ·cases he
  | none =>
   cases ha:gy (aW s) with
   | none=>rw[sR he ha]at h;cases h
   | some p =>
    obtain⟨a,u⟩:=p
    have hl:=lp ha
    cases hd:l.any fun b=>a.name==b.name with
    | true=>rw[nQ he ha hd]at h;cases h
    | false =>
     by_cases hg:(aW s).length<s.length
     ·rw[lj he hg ha hd]at h
      have:=ih n _ u r t (by omega) h
      omega
     ·rw[lV he hg]at h;cases h
def QF {s r:List UInt8}{t:Tk}(h:rG s=some (t,r)):r.length<s.length:=by
 unfold rG at h
 split at h
 ·rename_i u hu
  obtain⟨⟨n,r1⟩,h1,h2⟩:=Option.bind_eq_some_iff.1 h
  obtain⟨r2,h3,h4⟩:=Option.map_eq_some_iff.1 h2
  cases h4
  have l1:=(gh h1).2.2.2
  have l2:=dD r1
  rw[b8 h3]at l2
  rw[b8 hu]
  simp only[List.length_cons]at l2 ⊢
  omega
 ·obtain⟨⟨n,r1⟩,h1,h2⟩:=Option.bind_eq_some_iff.1 h
  have l1:=(gh h1).2.2.2
  have l2:=OD _ n [] r1 r t (Nat.le_refl _) h2
  omega
def yx {s r:List UInt8}{t:Tk}(hne:s≠[])(h:gS s=some (t,r)):r.length<s.length:=by
 unfold gS at h
 split at h
 ·rename_i u hu
  have:=QF h
  rw[b8 hu];simp;omega
 ·rename_i hu
  obtain⟨x,_,h2⟩:=Option.map_eq_some_iff.1 h
  cases h2
  cases s with
  | nil=>exact absurd rfl hne
  | cons c s =>
   have hc:ji c=true:=by
    rw[dK]at hu
    split at hu
    ·cases hu
    ·rename_i e;simp[ji,e]
   unfold fR
   rw[List.dropWhile_cons,if_pos hc]
   have:=lA (p:=ji) s
   simp;omega
def gQ (n:Nat)(l:List Tk)(s:List UInt8):List Tk×Nat×Int :=
 if hn:s=[] then (l,0,0) else if 512<=l.length then ([],n-s.length,4) else match h:gS s with
  | none=>([],n-s.length,80)
  | some (t,r)=>if 16<t.attrs.length then ([],n-s.length,4) else gQ n (l++[t]) r
termination_by s.length
decreasing_by exact yx hn h
def kX (n:Nat)(l:List Tk):gQ n l []=(l,0,0):=by rw[gQ,dif_pos rfl]
def ri {n:Nat}{l:List Tk}{s:List UInt8}(h:s≠[])(h2:512<=l.length):gQ n l s=([],n-s.length,4):=by rw[gQ,dif_neg h,if_pos h2]
def uu {n:Nat}{l:List Tk}{s:List UInt8}(h:s≠[])(h2:l.length<512)(h3:gS s=none):gQ n l s=([],n-s.length,80):=by
 rw[gQ,dif_neg h,if_neg (by omega)]
 split
 ·rfl
 ·rename_i e;rw[h3]at e;cases e
def oT {n:Nat}{l:List Tk}{s r:List UInt8}{t:Tk}(h:s≠[])(h2:l.length<512)(h3:gS s=some (t,r))(h4:16<t.attrs.length):gQ n l s=([],n-s.length,4):=by
 rw[gQ,dif_neg h,if_neg (by omega)]
 split
 ·rename_i e;rw[h3]at e;cases e
 ·rename_i e;rw[h3]at e;cases e;rw[if_pos h4]
def pX {n:Nat}{l:List Tk}{s r:List UInt8}{t:Tk}(h:s≠[])(h2:l.length<512)(h3:gS s=some (t,r))(h4:t.attrs.length<=16):gQ n l s=gQ n (l++[t]) r:=by
 rw[gQ,dif_neg h,if_neg (by omega)]
 split
 ·rename_i e;rw[h3]at e;cases e
 ·rename_i e;rw[h3]at e;cases e;rw[if_neg (by omega)]
def dJ (s:List UInt8):List Tk×Nat×Int:=if aN s≠0 then ([],0,aN s) else gQ s.length [] s
end Go.Proofs.YtlnlopnpcmahgaaGreatDoor
namespace Go.Proofs.YtlnlopnpcmahgaaGreatDoor
set_option maxRecDepth 100000
set_option maxHeartbeats 32000000
open Go Go.RowKit Vm Go.Lib Tryz
open Vm renaming ba->Ca,bh->Cb
open And renaming intro->Ai
open List renaming length_map->Lm,not_mem_nil->Ln,map_nil->Lo,map_cons->Lc,mem_cons->Lk
open Bool renaming not_false->Bf,not_true->Bt
def pg (r:Int):Bool:=(decide (0<=r)&&decide (r<55296))||(decide (57343<r)&&decide (r<=1114111))
def ve (r:Int)(nm:Nat):Ev cx 201 nm [.int .i32 r] ap.nil (.bool (pg r)) []:=by
 unfold pg
 refine bi call201 func201 rfl (by kernel_rfl) rfl ?_;intro b0 hb0
 (repeat' first|simp only[ak,aj,results201,ntmps201,al,ai,seval,ah]|exact rfl|refine aa (v:=.any) ?_|((first|apply Ca|apply Cb)<;>intro hb)|refine Ai (by omega) ?_|(apply Ai<;>intro hb)|refine Fin.pure ?_ ?_ ?_|simp only[ao])
 all_goals simp_all
def kD (n:Int)(nm:Nat):Ev cx 170 nm [.int .i64 n] ap.nil (.bool (gq n)) []:=by
 refine bi call170 func170 rfl (by kernel_rfl) rfl ?_;intro b0 hb0
 (repeat' first|simp only[ak,aj,results170,ntmps170,al,ai,seval,ah]|exact rfl|refine aa (v:=.any) ?_|((first|apply Ca|apply Cb)<;>intro hb)|refine Ai (by omega) ?_|(apply Ai<;>intro hb)|refine Fin.pure ?_ ?_ ?_|simp only[ao])
 all_goals simp only[decide_eq_true_eq,decide_eq_false_iff_not,beq_iff_eq,beq_eq_false_iff_ne,ne_eq]at *
 all_goals (first|(exfalso;omega)|(exact RO (by omega))|(exact RN (by omega))|skip)
 have hw:IntKind.i32.wrap n=n:=IntWalk.i32_in _ (by omega)
 rw[hw]
 have hv:pg n=gq n:=by
  cases h:gq n with
  | true =>
   have:=(gg n).1 h
   unfold pg
   simp only[Bool.or_eq_true,Bool.and_eq_true,decide_eq_true_eq];omega
  | false =>
   have h':¬ _:=fun q=>by rw[(gg n).2 q]at h;cases h
   unfold pg
   simp only[Bool.or_eq_false_iff,Bool.and_eq_false_iff,decide_eq_false_iff_not];omega
 (repeat' first|simp only[ak,aj,results170,ntmps170,al,hv,ai,seval,ah]|exact rfl|refine aa (v:=.any) ?_|(first|(refine ad ?_ (ve n _) ?_)|(refine ab ?_ (fun _=>ve n _) ?_))|((first|apply Ca|apply Cb)<;>intro hb)|refine Ai (by omega) ?_|(apply Ai<;>intro hb)|refine Fin.pure ?_ ?_ ?_|simp only[ao])
def preB (s p:List UInt8):Bool:=decide (p.length<=s.length)&&(s.take p.length==p)
def qX (s p:List UInt8)(hs:s.length<=be)(hp:p.length<=be)(nm:Nat):Ev cx 200 nm [.str s,.str p] ap.nil (.bool (preB s p)) []:=by
 unfold be at hs hp
 unfold preB
 refine bi call200 func200 rfl (by kernel_rfl) rfl ?_;intro b0 hb0
 (repeat' first|simp only[ak,aj,results200,ntmps200,al,decide_eq_true_eq,imp_self,ai,seval,ah]|exact rfl|refine aa (v:=.any) ?_|((first|apply Ca|apply Cb)<;>intro hb)|refine Ai (by omega) ?_|(apply Ai<;>intro hb)|refine Fin.pure ?_ ?_ ?_|simp only[ao])
def yD (s p:List UInt8)(hs:s.length<=be)(hp:p.length<=be)(nm:Nat):Ev cx 169 nm [.str s,.str p] ap.nil (.bool (preB s p)) []:=by
 refine bi call169 func169 rfl (by kernel_rfl) rfl ?_;intro b0 hb0
 (repeat' first|simp only[ak,aj,results169,ntmps169,al,ai,seval,ah]|exact rfl|refine aa (v:=.any) ?_|(first|(refine ad ?_ (qX s p hs hp _) ?_)|(refine ab ?_ (fun _=>qX s p hs hp _) ?_))|((first|apply Ca|apply Cb)<;>intro hb)|refine Ai (by omega) ?_|(apply Ai<;>intro hb)|refine Fin.pure ?_ ?_ ?_|simp only[ao])
end Go.Proofs.YtlnlopnpcmahgaaGreatDoor
