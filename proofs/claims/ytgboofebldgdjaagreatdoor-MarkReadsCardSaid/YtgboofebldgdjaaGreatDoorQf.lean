/-
 Texts joined: XTy,XWK,XWL,XEp,XEq,XEr,XEs,XEx,XEn,XLa,XUa,XGa,XGb,XNa,XEa.
-/
import Derived.Test.YtgboofebldgdjaaGreatDoorChecked
import Derived.Lib.LaidU8
import Derived.Lib.ItoaNum
import Derived.Lib.RuneBytes
import Derived.Lib.MapLaws
import Derived.Lib.RuneCountTail
import Derived.Lib.IndexLaws
import Derived.Test.YtgboofebldgdjaaGreatDoorQe
set_option linter.all false
namespace Go.Proofs.YtgboofebldgdjaaGreatDoor
def Y7 {p:Prop}(h:p:=by kernel_rfl):p:=h
set_option maxRecDepth 100000
set_option maxHeartbeats 32000000
open Go Go.RowKit Vm Go.Lib Tryz
def Fj:V:=.rp (Lib.firstTab.map fun z=>.int .u8 z)
def Sd:V:=.rp ((List.range 16).flatMap fun i=>[V.int .u8 (Lib.accLo i),.int .u8 (Lib.accHi i)])
def OK:V:=.rp (Lib.pow10Tab.map fun z=>.int .u64 z)
def Cu:V:=.rp [.iface 150 (.agg [.val (.pointer (some ⟨9,51,none⟩))])]
def rX (g:Nat):V:=if g=2 then Fj else if g=3 then Sd else if g=4 then OK else if g=0 then Cu else .any
def qF:Fj.plain=true/\Sd.plain=true/\OK.plain=true:=ZJ
noncomputable def cx:Cx:=⟨Tryz.prog,rX,[]⟩
def qc:∀ g,(cx.G g).plain=true:=fun g=>by
 show(rX g).plain=true
 unfold rX
 split
 ·exact qF.1
 ·split
  ·exact qF.2.1
  ·split
   ·exact qF.2.2
   ·split
    ·rfl
    ·rfl
def mixed:cx.P.follows .mixedOrders=true:=Y7
def VS {f:FuncId}{nm:Nat}{args:List V}{M:ah}{v:V}{eff:List (Nat×Option Blk)}{fn:Func}{c:Code}(hcall:∀ cargs w,(callFunc f cargs).run cx.P w = .ok (.enter f cargs) w)(hf:cx.P.funcs[f]? = some fn)
  (hvc:∀ b0,(∀ x,b0<=x->M x=none)->go cx (vv cx fn nm M v eff b0) [] b0 (fp args) M c)(hb:fn.body=some c:=by rfl)(hin:dc fn.ntmps c=true:=by kernel_rfl)(hargs:decide (args.length<=fn.ntmps)=true:=by rfl):Ev cx f nm args M v eff:=UC rfl hcall hf hb mixed hin hargs hvc
def aG {f:FuncId}{nm:Nat}{args:List V}{M:ah}{v:V}{eff:List (Nat×Option Blk)}{fn:Func}{c:Code}{rs:Array ResultVar}{n:Nat}(hcall:∀ cargs w,(callFunc f cargs).run cx.P w = .ok (.enter f cargs) w)(hf:cx.P.funcs[f]? = some fn)(z1:fn.results=rs)(z2:fn.ntmps=n)
  (hvc:∀ b0,(∀ x,b0<=x->M x=none)->fn.results=rs/\fn.ntmps=n->go cx (vv cx fn nm M v eff b0) [] b0 (fp args) M c)(hb:fn.body=some c:=by rfl)(hin:dc fn.ntmps c=true:=by kernel_rfl)(hargs:decide (args.length<=fn.ntmps)=true:=by rfl):Ev cx f nm args M v eff:=VS hcall hf (fun b0 h=>hvc b0 h ⟨z1,z2⟩) hb hin hargs
def v8 {Q:Post}{st:List Frm}{nm:Nat}{e:Env}{M:ah}{c:Code}{α:Type}(μ:α->Nat)(P:α->Prop)(nmS:Nat)(Es:α->List (Nat×V))(Ms:α->List (Nat×Blk))(x0:α)(src:List ZC)(hME:jb (sX (dL (cn (Ms x0) src))) Q.b0 nmS M (cn (Ms x0) src)/\kC M (dL (cn (Ms x0) src)) e (Es x0))(h0:P x0)(hr:∀ x,P x->go cx Q (.again (pD μ P nmS Es Ms) (μ x)::st) nmS (lh (Es x)) (iS (Ms x)) c)(hb:Q.b0<=nmS:=by exact XW _ _):mZ cx Q st nm e M c:=y9 qc μ P nmS Es Ms x0 src h0 hb hME hr
def Vr {Q:Post}{st:List Frm}{nm:Nat}{e:Env}{M:ah}{c:Code}{α:Type}(μ:α->Nat)(P:α->Prop)(nmS:Nat)(Es:α->List (Nat×V))(Ms:α->List (Nat×Blk))(x0:α)(src:List ZC)(hME:jb (xX (dL (cn (Ms x0) src)) M) Q.b0 nmS M (cn (Ms x0) src)/\kC M (dL (cn (Ms x0) src)) e (Es x0))(h0:P x0)(hr:∀ x,P x->go cx Q (.again (pD μ P nmS Es Ms) (μ x)::st) nmS (lh (Es x)) (iS (Ms x)) c)(hb:Q.b0<=nmS:=by exact XW _ _):mZ cx Q st nm e M c:=FP qc μ P nmS Es Ms x0 src h0 hb hME hr
def pX {Q:Post}{st:List Frm}{nm:Nat}{e:Env}{M:ah}{α:Type}{μ:α->Nat}{P:α->Prop}{nmS:Nat}{Es:α->List (Nat×V)}{Ms:α->List (Nat×Blk)}{g:Nat}(x:α)(src:List ZC)(hME:jb (sX (dL (cn (Ms x) src))) Q.b0 nmS M (cn (Ms x) src)/\kC M (dL (cn (Ms x) src)) e (Es x))(hg:μ x<g)(h0:P x)(hb:Q.b0<=nmS:=by exact XW _ _):dP cx Q (.again (pD μ P nmS Es Ms) g::st) nm e M .normal:=uP qc x src hg h0 hb hME
def Ey {Q:Post}{st:List Frm}{nm:Nat}{e:Env}{M:ah}{α:Type}{μ:α->Nat}{P:α->Prop}{nmS:Nat}{Es:α->List (Nat×V)}{Ms:α->List (Nat×Blk)}{g:Nat}(x:α)(src:List ZC)(hME:jb (xX (dL (cn (Ms x) src)) M) Q.b0 nmS M (cn (Ms x) src)/\kC M (dL (cn (Ms x) src)) e (Es x))(hg:μ x<g)(h0:P x)(hb:Q.b0<=nmS:=by exact XW _ _):dP cx Q (.again (pD μ P nmS Es Ms) g::st) nm e M .normal:=BO qc x src hg h0 hb hME
def qf {Q:Post}{st:List Frm}{nm:Nat}{e:Env}{M:ah}{fs:Y9}{ops:ZD}(ps:Y8)(h:dP cx Q st nm e M .normal)(hp:tQ cx.P ops=ps:=by decide +kernel)(hps:∀ p∈ps,∀ x∈fs.getD p.1 [],x∉fs.getD p.2 []:=by simp only [XX,W5,W9]<;>(try simp)<;>(try omega)):yP cx Q st nm e M fs ops:=jd hp hps h
def eX (k:Nat)(h:k<9223372036854775807:=by omega):IntKind.i64.wrap ((k:Int)+1)=((k+1:Nat):Int):=aX
def AW (a b:Nat)(h:a<b:=by omega):decide ((a:Int)<(b:Int))=true:=bz
def pK (a b:Nat)(h:¬a<b:=by omega):decide ((a:Int)<(b:Int))=false:=aL
def lV (a b:Nat)(h:a<b:=by omega):(a:Int)<(b:Int):=Y6
def js {α:Type}{l:List α}{k:Nat}(h:k<l.length):∃ x,l[k]? = some x:=⟨_,AT h⟩
def Vh:cx.P.underlying 9=some .string:=Y7
def Vq:cD cx.P 9=true:=Y7
def Vf:cx.P.underlying 3=some (.int .i64):=Y7
def Of:fQ cx.P 37=some ([.str [],.str [],.nils,.nils],[(0,1),(1,1),(2,1),(3,1)]):=Y7
def Uq:cR cx.P 49=some ([.val .nilFunc],8):=Y7
def T1:cx.P.underlying 23=some (.int .i64):=Y7
def Mg:li cx.P 37 3=some (3,1,false):=Y7
def U0:ty cx.P 22=some (1,false):=Y7
def Md:li cx.P 37 1=some (1,1,false):=Y7
def Vv:ty cx.P 9=some (1,false):=Y7
def T0:cx.P.underlying 22=some (.slice 47):=Y7
def Un:cR cx.P 22=some ([.int .u8 0,.str [],.str [],.nils,.str [],.int .i64 0],88):=Y7
def UN:cD cx.P 22=true:=Y7
def Uw:j5 cx.P 22=some 47:=Y7
def Sj:sg cx.P 22=none:=Y7
def SK:oZ cx.P 22=some (none,6,true):=Y7
def Mh:li cx.P 47 0=some (0,1,false):=Y7
def Vu:ty cx.P 5=some (1,false):=Y7
def Vg:cx.P.underlying 5=some (.int .u8):=Y7
def Mi:li cx.P 47 1=some (1,1,false):=Y7
def Mj:li cx.P 47 2=some (2,1,false):=Y7
def Ml:li cx.P 47 4=some (4,1,false):=Y7
def Mm:li cx.P 47 5=some (5,1,false):=Y7
def Vs:ty cx.P 3=some (1,false):=Y7
def Mk:li cx.P 47 3=some (3,1,false):=Y7
def U4:ty cx.P 45=some (1,false):=Y7
def RR:ez cx.P 23=some [.int .i64 0]:=Y7
def Sq:iI cx.P 23=none:=Y7
def T4:cx.P.underlying 49=some (.slice 39):=Y7
def UQ:cD cx.P 49=true:=Y7
def Uz:j5 cx.P 49=some 39:=Y7
def Sm:sg cx.P 49=none:=Y7
def SN:oZ cx.P 49=some (none,1,false):=Y7
def U3:ty cx.P 39=some (1,false):=Y7
def U1:ty cx.P 23=some (1,false):=Y7
def Me:li cx.P 37 2=some (2,1,false):=Y7
def U2:ty cx.P 35=some (1,false):=Y7
def RU:ez cx.P 62=some [.int .u8 0,.str [],.nils,.str []]:=Y7
def Su:iI cx.P 62=none:=Y7
def U8:ty cx.P 62=some (4,true):=Y7
def T2:cx.P.underlying 35=some (.slice 62):=Y7
def Uo:cR cx.P 35=some ([.int .u8 0,.str [],.nils,.str []],64):=Y7
def UO:cD cx.P 35=true:=Y7
def Ux:j5 cx.P 35=some 62:=Y7
def Sk:sg cx.P 35=none:=Y7
def Mp:li cx.P 62 2=some (2,1,false):=Y7
def U7:ty cx.P 60=some (1,false):=Y7
def T5:cx.P.underlying 60=some (.slice 137):=Y7
def Ur:cR cx.P 60=some ([.str [],.str []],32):=Y7
def UR:cD cx.P 60=true:=Y7
def UA:j5 cx.P 60=some 137:=Y7
def Sn:sg cx.P 60=none:=Y7
def SL:oZ cx.P 35=some (none,4,true):=Y7
def RW:ez cx.P 68=some [.nils,.nils]:=Y7
def Sw:iI cx.P 68=none:=Y7
def Va:ty cx.P 68=some (2,true):=Y7
def Mn:li cx.P 62 0=some (0,1,false):=Y7
def Mr:li cx.P 68 0=some (0,1,false):=Y7
def Mt:li cx.P 68 1=some (1,1,false):=Y7
def U9:ty cx.P 66=some (1,false):=Y7
def T6:cx.P.underlying 66=some (.slice 3):=Y7
def Us:cR cx.P 66=some ([.int .i64 0],8):=Y7
def US:cD cx.P 66=true:=Y7
def UB:j5 cx.P 66=some 3:=Y7
def So:sg cx.P 66=none:=Y7
def Mc:li cx.P 37 0=some (0,1,false):=Y7
def T3:cx.P.underlying 45=some (.slice 83):=Y7
def Up:cR cx.P 45=some ([.str [],.str [],.str []],48):=Y7
def UP:cD cx.P 45=true:=Y7
def Uy:j5 cx.P 45=some 83:=Y7
def Sl:sg cx.P 45=none:=Y7
def SM:oZ cx.P 45=some (none,3,true):=Y7
def Vb:ty cx.P 83=some (3,true):=Y7
def SZ:vD cx.P 83=some [(0,1),(1,1),(2,1)]:=Y7
def RY:ez cx.P 87=some [.nilp,.nilp,.int .u64 0]:=Y7
def Sy:iI cx.P 87=none:=Y7
def Vc:ty cx.P 87=some (3,true):=Y7
def T8:cx.P.underlying 92=some (.int .u8):=Y7
def Vd:ty cx.P 90=some (1,false):=Y7
def J6:fQ cx.P 100=some ([.str []],[(0,1)]):=Y7
def J7:fQ cx.P 102=some ([.str []],[(0,1)]):=Y7
def IF:li cx.P 102 0=some (0,1,true):=Y7
def IE:li cx.P 100 0=some (0,1,false):=Y7
def J8:fQ cx.P 109=some ([.nils,.nils,.int .u8 0],[(0,1),(1,1),(2,1)]):=Y7
def II:li cx.P 109 2=some (2,1,false):=Y7
def IG:li cx.P 109 0=some (0,1,false):=Y7
def IH:li cx.P 109 1=some (1,1,false):=Y7
def RQ:ez cx.P 22=some [.nils]:=Y7
def Sp:iI cx.P 22=none:=Y7
def T9:ez cx.P 4=some [.bool false]:=Y7
def Ug:iI cx.P 4=none:=Y7
def Vt:ty cx.P 4=some (1,false):=Y7
def O3:ez cx.P 113=some [.val .nilFunc]:=Y7
def PC:iI cx.P 113=none:=Y7
def TI:ty cx.P 113=some (1,false):=Y7
def J9:fQ cx.P 117=some ([.str []],[(0,1)]):=Y7
def Oh:fQ cx.P 62=some ([.int .u8 0,.str [],.nils,.str []],[(0,1),(1,1),(2,1),(3,1)]):=Y7
def Mo:li cx.P 62 1=some (1,1,false):=Y7
def Mq:li cx.P 62 3=some (3,1,false):=Y7
def Og:fQ cx.P 47=some ([.int .u8 0,.str [],.str [],.nils,.str [],.int .i64 0],[(0,1),(1,1),(2,1),(3,1),(4,1),(5,1)]):=Y7
def SP:oZ cx.P 66=some (none,1,false):=Y7
def Mu:li cx.P 83 0=some (0,1,false):=Y7
def U5:ty cx.P 47=some (6,true):=Y7
def RT:ez cx.P 47=some [.int .u8 0,.str [],.str [],.nils,.str [],.int .i64 0]:=Y7
def Ss:iI cx.P 47=none:=Y7
def O5:ez cx.P 130=some [.val .nilFunc]:=Y7
def PF:iI cx.P 130=none:=Y7
def TK:ty cx.P 130=some (1,false):=Y7
def RS:ez cx.P 35=some [.nils]:=Y7
def Sr:iI cx.P 35=none:=Y7
def RV:ez cx.P 66=some [.nils]:=Y7
def Sv:iI cx.P 66=none:=Y7
def O6:ez cx.P 133=some [.val .nilFunc]:=Y7
def PG:iI cx.P 133=none:=Y7
def TL:ty cx.P 133=some (1,false):=Y7
def Pa:ez cx.P 141=some [.nilp,.nils]:=Y7
def PK:iI cx.P 141=some 141:=Y7
def RH:cx.P.underlying 160=some (.slice 51):=Y7
def SH:cR cx.P 160=some ([.val .nilIface],16):=Y7
def Tj:cD cx.P 160=true:=Y7
def SU:j5 cx.P 160=some 51:=Y7
def Py:sg cx.P 160=none:=Y7
def P3:oZ cx.P 160=some (none,1,false):=Y7
def U6:ty cx.P 51=some (1,false):=Y7
def SO:oZ cx.P 60=some (none,2,true):=Y7
def TN:ty cx.P 137=some (2,true):=Y7
def O8:ez cx.P 137=some [.str [],.str []]:=Y7
def PI:iI cx.P 137=none:=Y7
def IK:li cx.P 137 0=some (0,1,false):=Y7
def IL:li cx.P 137 1=some (1,1,false):=Y7
def Oi:fQ cx.P 83=some ([.str [],.str [],.str []],[(0,1),(1,1),(2,1)]):=Y7
def RX:ez cx.P 83=some [.str [],.str [],.str []]:=Y7
def Sx:iI cx.P 83=none:=Y7
def Mw:li cx.P 83 2=some (2,1,false):=Y7
def Mv:li cx.P 83 1=some (1,1,false):=Y7
def O4:ez cx.P 117=some [.str []]:=Y7
def PD:iI cx.P 117=none:=Y7
def TJ:ty cx.P 117=some (1,true):=Y7
def IJ:li cx.P 117 0=some (0,1,false):=Y7
def SG:cR cx.P 139=some ([.int .u8 0],1):=Y7
def HQ:cx.P.underlying 139=some (.slice 5):=Y7
def Ti:cD cx.P 139=true:=Y7
def SS:j5 cx.P 139=some 5:=Y7
def Px:sg cx.P 139=some 5:=Y7
def SA:nQ cx.P 139=true:=Y7
def O7:ez cx.P 135=some [.val .nilFunc]:=Y7
def PH:iI cx.P 135=none:=Y7
def TM:ty cx.P 135=some (1,false):=Y7
def RI:cx.P.underlying 189=some (.slice 9):=Y7
def SI:cR cx.P 189=some ([.str []],16):=Y7
def Tl:cD cx.P 189=true:=Y7
def SV:j5 cx.P 189=some 9:=Y7
def Pz:sg cx.P 189=none:=Y7
def Pb:ez cx.P 192=some [.val .nilFunc]:=Y7
def PL:iI cx.P 192=none:=Y7
def TQ:ty cx.P 192=some (1,false):=Y7
def Ku:fQ cx.P 137=some ([.str [],.str []],[(0,1),(1,1)]):=Y7
def IP:li cx.P 141 1=some (1,1,false):=Y7
def TP:ty cx.P 139=some (1,false):=Y7
def RJ:cx.P.underlying 196=some (.pointer 5):=Y7
def TZ:cx.P.underlying 21=some (.int .i32):=Y7
def Kv:fQ cx.P 203=some ([.str [],.nils],[(0,1),(1,1)]):=Y7
def IQ:li cx.P 203 0=some (0,1,false):=Y7
def IR:li cx.P 203 1=some (1,1,false):=Y7
def Pc:ez cx.P 208=some [.bool false,.bool false,.bool false,.bool false,.bool false,.bool false,.bool false,.bool false,.bool false,.bool false,.bool false,.bool false,.bool false,.bool false,.bool false,.bool false,.bool false,.bool false,.bool false,.bool false,.bool false,.bool false,.bool false,.bool false,.bool false,.bool false,.bool false,.bool false,.bool false,.bool false,.bool false,.bool false,.bool false,.bool false,.bool false,.bool false,.bool false,.bool false,.bool false,.bool false,.bool false,.bool false,.bool false,.bool false,.bool false,.bool false,.bool false,.bool false,.bool false,.bool false,.bool false,.bool false,.bool false,.bool false,.bool false,.bool false,.bool false,.bool false,.bool false,.bool false,.bool false,.bool false,.bool false,.bool false,.bool false,.bool false,.bool false,.bool false,.bool false,.bool false,.bool false,.bool false,.bool false,.bool false,.bool false,.bool false,.bool false,.bool false,.bool false,.bool false,.bool false,.bool false,.bool false,.bool false,.bool false,.bool false,.bool false,.bool false,.bool false,.bool false,.bool false,.bool false,.bool false,.bool false,.bool false,.bool false,.bool false,.bool false,.bool false,.bool false,.bool false,.bool false,.bool false,.bool false,.bool false,.bool false,.bool false,.bool false,.bool false,.bool false,.bool false,.bool false,.bool false,.bool false,.bool false,.bool false,.bool false,.bool false,.bool false,.bool false,.bool false,.bool false,.bool false,.bool false,.bool false,.bool false,.bool false,.bool false,.bool false,.bool false,.bool false,.bool false,.bool false,.bool false,.bool false,.bool false,.bool false,.bool false,.bool false,.bool false,.bool false,.bool false,.bool false,.bool false,.bool false,.bool false,.bool false,.bool false,.bool false,.bool false,.bool false,.bool false,.bool false,.bool false,.bool false,.bool false,.bool false,.bool false,.bool false,.bool false,.bool false,.bool false,.bool false,.bool false,.bool false,.bool false,.bool false,.bool false,.bool false,.bool false,.bool false,.bool false,.bool false,.bool false,.bool false,.bool false,.bool false,.bool false,.bool false,.bool false,.bool false,.bool false,.bool false,.bool false,.bool false,.bool false,.bool false,.bool false,.bool false,.bool false,.bool false,.bool false,.bool false,.bool false,.bool false,.bool false,.bool false,.bool false,.bool false,.bool false,.bool false,.bool false,.bool false,.bool false,.bool false,.bool false,.bool false,.bool false,.bool false,.bool false,.bool false,.bool false,.bool false,.bool false,.bool false,.bool false,.bool false,.bool false,.bool false,.bool false,.bool false,.bool false,.bool false,.bool false,.bool false,.bool false,.bool false,.bool false,.bool false,.bool false,.bool false,.bool false,.bool false,.bool false,.bool false,.bool false,.bool false,.bool false,.bool false,.bool false,.bool false,.bool false,.bool false,.bool false,.bool false,.bool false,.bool false,.bool false,.bool false,.bool false,.bool false,.bool false,.bool false,.bool false,.bool false,.bool false]:=Y7
def PM:iI cx.P 208=none:=Y7
def TR:ty cx.P 208=some (256,true):=Y7
def P4:oZ cx.P 189=some (none,1,false):=Y7
def IM:li cx.P 141 0=some (0,1,false):=Y7
def TO:ty cx.P 138=some (1,false):=Y7
def RG:cx.P.underlying 138=some (.pointer 141):=Y7
def T7:cx.P.underlying 84=some .unsafePointer:=Y7
def Pd:ez cx.P 227=some [.str []]:=Y7
def PN:iI cx.P 227=none:=Y7
def TS:ty cx.P 227=some (1,true):=Y7
def IU:li cx.P 227 0=some (0,1,false):=Y7
def Kx:fQ cx.P 233=some ([.str [],.val .nilFunc],[(0,1),(1,1)]):=Y7
def SJ:cR cx.P 234=some ([.str [],.val .nilFunc],24):=Y7
def RK:cx.P.underlying 234=some (.slice 233):=Y7
def Tm:cD cx.P 234=true:=Y7
def SW:j5 cx.P 234=some 233:=Y7
def PA:sg cx.P 234=none:=Y7
def P6:oZ cx.P 234=some (none,2,true):=Y7
def TU:ty cx.P 233=some (2,true):=Y7
def Pe:ez cx.P 233=some [.str [],.val .nilFunc]:=Y7
def PO:iI cx.P 233=none:=Y7
def IV:li cx.P 233 0=some (0,1,false):=Y7
def IW:li cx.P 233 1=some (1,1,false):=Y7
def TT:ty cx.P 231=some (1,false):=Y7
def P5:oZ cx.P 208=some (some 256,1,false):=Y7
def P0:oZ cx.P 139=some (none,1,false):=Y7
def Kw:fQ cx.P 227=some ([.str []],[(0,1)]):=Y7
def RL:cx.P.underlying 248=some (.int .u64):=Y7
def O9:ez cx.P 139=some [.nils]:=Y7
def PJ:iI cx.P 139=none:=Y7
def Ve:cx.P.underlying 2=some (.int .i64):=Y7
def Pf:ez cx.P 257=some [.int .u8 0,.int .u8 0,.int .u8 0,.int .u8 0,.int .u8 0,.int .u8 0,.int .u8 0,.int .u8 0,.int .u8 0,.int .u8 0,.int .u8 0,.int .u8 0,.int .u8 0,.int .u8 0,.int .u8 0,.int .u8 0,.int .u8 0,.int .u8 0,.int .u8 0,.int .u8 0,.int .u8 0,.int .u8 0,.int .u8 0,.int .u8 0]:=Y7
def PP:iI cx.P 257=none:=Y7
def P7:oZ cx.P 257=some (some 24,1,false):=Y7
def RN:cx.P.underlying 257=some (.array 24 5):=Y7
def RO:cx.P.underlying 263=some (.int .u32):=Y7
def P8:oZ cx.P 264=some (some 256,1,false):=Y7
def Qa:oZ cx.P 267=some (some 16,2,true):=Y7
def TX:ty cx.P 266=some (2,true):=Y7
def Pg:ez cx.P 266=some [.int .u8 0,.int .u8 0]:=Y7
def PQ:iI cx.P 266=none:=Y7
def IX:li cx.P 266 0=some (0,1,false):=Y7
def IY:li cx.P 266 1=some (1,1,false):=Y7
def Qb:oZ cx.P 271=some (some 20,1,false):=Y7
def TV:ty cx.P 248=some (1,false):=Y7
def Ph:ez cx.P 272=some [.int .u8 0,.int .u8 0,.int .u8 0,.int .u8 0,.int .u8 0,.int .u8 0,.int .u8 0,.int .u8 0,.int .u8 0,.int .u8 0,.int .u8 0,.int .u8 0,.int .u8 0,.int .u8 0,.int .u8 0,.int .u8 0,.int .u8 0,.int .u8 0,.int .u8 0,.int .u8 0,.int .u8 0,.int .u8 0,.int .u8 0,.int .u8 0,.int .u8 0,.int .u8 0,.int .u8 0,.int .u8 0,.int .u8 0,.int .u8 0,.int .u8 0,.int .u8 0,.int .u8 0,.int .u8 0,.int .u8 0,.int .u8 0,.int .u8 0,.int .u8 0,.int .u8 0,.int .u8 0,.int .u8 0,.int .u8 0,.int .u8 0,.int .u8 0,.int .u8 0,.int .u8 0,.int .u8 0,.int .u8 0,.int .u8 0,.int .u8 0,.int .u8 0,.int .u8 0,.int .u8 0,.int .u8 0,.int .u8 0,.int .u8 0,.int .u8 0,.int .u8 0,.int .u8 0,.int .u8 0,.int .u8 0,.int .u8 0,.int .u8 0,.int .u8 0,.int .u8 0]:=Y7
def PR:iI cx.P 272=none:=Y7
def RM:cx.P.underlying 255=some (.int .u64):=Y7
def Qc:oZ cx.P 272=some (some 65,1,false):=Y7
def RP:cx.P.underlying 272=some (.array 65 5):=Y7
def Ky:fQ cx.P 282=some ([.str [],.str [],.val .nilIface],[(0,1),(1,1),(2,1)]):=Y7
def Qd:oZ cx.P 284=some (some 32,1,false):=Y7
def Qe:oZ cx.P 285=some (some 64,1,false):=Y7
def Kz:fQ cx.P 288=some ([.str []],[(0,1)]):=Y7
def IZ:li cx.P 282 2=some (2,1,false):=Y7
set_option linter.defProp false in
def aH:=(Ai Vh (Ai Vq (Ai Vf (Ai Of (Ai Uq (Ai T1 (Ai Mg (Ai U0 (Ai Md (Ai Vv (Ai T0 (Ai Un (Ai UN (Ai Uw (Ai Sj (Ai SK (Ai Mh (Ai Vu (Ai Vg (Ai Mi (Ai Mj (Ai Ml (Ai Mm (Ai Vs (Ai Mk (Ai U4 (Ai RR (Ai Sq (Ai T4 (Ai UQ (Ai Uz (Ai Sm (Ai SN (Ai U3 (Ai U1 (Ai Me (Ai U2 (Ai RU (Ai Su (Ai U8 (Ai T2 (Ai Uo (Ai UO (Ai Ux (Ai Sk (Ai Mp (Ai U7 (Ai T5 (Ai Ur (Ai UR (Ai UA (Ai Sn (Ai SL (Ai RW (Ai Sw (Ai Va (Ai Mn (Ai Mr (Ai Mt (Ai U9 (Ai T6 (Ai Us (Ai US (Ai UB (Ai So (Ai Mc (Ai T3 (Ai Up (Ai UP (Ai Uy (Ai Sl (Ai SM (Ai Vb (Ai SZ (Ai RY (Ai Sy (Ai Vc (Ai T8 (Ai Vd (Ai J6 (Ai J7 (Ai IF (Ai IE (Ai J8 (Ai II (Ai IG (Ai IH (Ai RQ (Ai Sp (Ai T9 (Ai Ug (Ai Vt (Ai O3 (Ai PC (Ai TI (Ai J9 (Ai Oh (Ai Mo (Ai Mq (Ai Og (Ai SP (Ai Mu (Ai U5 (Ai RT (Ai Ss (Ai O5 (Ai PF (Ai TK (Ai RS (Ai Sr (Ai RV (Ai Sv (Ai O6 (Ai PG (Ai TL (Ai Pa (Ai PK (Ai RH (Ai SH (Ai Tj (Ai SU (Ai Py (Ai P3 (Ai U6 (Ai SO (Ai TN (Ai O8 (Ai PI (Ai IK (Ai IL (Ai Oi (Ai RX (Ai Sx (Ai Mw (Ai Mv (Ai O4 (Ai PD (Ai TJ (Ai IJ (Ai SG (Ai HQ (Ai Ti (Ai SS (Ai Px (Ai SA (Ai O7 (Ai PH (Ai TM (Ai RI (Ai SI (Ai Tl (Ai SV (Ai Pz (Ai Pb (Ai PL (Ai TQ (Ai Ku (Ai IP (Ai TP (Ai RJ (Ai TZ (Ai Kv (Ai IQ (Ai IR (Ai Pc (Ai PM (Ai TR (Ai P4 (Ai IM (Ai TO (Ai RG (Ai T7 (Ai Pd (Ai PN (Ai TS (Ai IU (Ai Kx (Ai SJ (Ai RK (Ai Tm (Ai SW (Ai PA (Ai P6 (Ai TU (Ai Pe (Ai PO (Ai IV (Ai IW (Ai TT (Ai P5 (Ai P0 (Ai Kw (Ai RL (Ai O9 (Ai PJ (Ai Ve (Ai Pf (Ai PP (Ai P7 (Ai RN (Ai RO (Ai P8 (Ai Qa (Ai TX (Ai Pg (Ai PQ (Ai IX (Ai IY (Ai Qb (Ai TV (Ai Ph (Ai PR (Ai RM (Ai Qc (Ai RP (Ai Ky (Ai Qd (Ai Qe (Ai Kz (Ai IZ True.intro))))))))))))))))))))))))))))))))))))))))))))))))))))))))))))))))))))))))))))))))))))))))))))))))))))))))))))))))))))))))))))))))))))))))))))))))))))))))))))))))))))))))))))))))))))))))))))))))))))))))))))))))))))))))))))
def MQ:y4 cx.P 9=some .str:=Y7
def a2 {A B:Prop}(a:A)(b:B):A/\B:=⟨a,b⟩
def a3 {A B C:Prop}(a:A)(b:B)(c:C):A/\B/\C:=⟨a,b,c⟩
def a4 {A B C D:Prop}(a:A)(b:B)(c:C)(d:D):A/\B/\C/\D:=⟨a,b,c,d⟩
def a5 {A B C D E:Prop}(a:A)(b:B)(c:C)(d:D)(e:E):A/\B/\C/\D/\E:=⟨a,b,c,d,e⟩
def a6 {A B C D E F:Prop}(a:A)(b:B)(c:C)(d:D)(e:E)(f:F):A/\B/\C/\D/\E/\F:=⟨a,b,c,d,e,f⟩
def a7 {A B C D E F G:Prop}(a:A)(b:B)(c:C)(d:D)(e:E)(f:F)(g:G):A/\B/\C/\D/\E/\F/\G:=⟨a,b,c,d,e,f,g⟩
def a8 {A B C D E F G H:Prop}(a:A)(b:B)(c:C)(d:D)(e:E)(f:F)(g:G)(h:H):A/\B/\C/\D/\E/\F/\G/\H:=⟨a,b,c,d,e,f,g,h⟩
def a9 {A B C D E F G H I:Prop}(a:A)(b:B)(c:C)(d:D)(e:E)(f:F)(g:G)(h:H)(i:I):A/\B/\C/\D/\E/\F/\G/\H/\I:=⟨a,b,c,d,e,f,g,h,i⟩
def wH {G:Prop}(h:G:=by simp only[zF,zN,aF,stds0,WS,WQ,XL,Wj,ne_eq,WY,WT,au,aH,seval]<;>exact rfl):G:=h
def cX {G:Prop}(h:G:=by(try clear kF);simp only[aK,zF,zN,aF,stds0,WS,WQ,XL,Wj,ne_eq,WY,WT,au,aH,seval]<;>omega):G:=h
def stds0:=(Ai (Ai (Ai (Ai (Ai @List.length_map.{0,0} (Ai @List.map_nil.{0,0} @List.length_nil.{0})) (Ai (Ai @List.length_cons.{0} @List.map_cons.{0,0}) (Ai @Int.toNat_natCast @Yj))) (Ai (Ai (Ai @Yb @Wy) (Ai @Wq @Wm)) (Ai (Ai @Wz @No) (Ai @XN @W8)))) (Ai (Ai (Ai @XD (Ai @XG @IS)) (Ai (Ai @List.take_length.{0} @List.append_nil.{0}) (Ai @List.take_zero.{0} @List.cons_append.{0}))) (Ai (Ai (Ai @List.nil_append.{0} @List.append_eq.{0}) (Ai @List.length_set.{0} @Option.isSome_some.{0})) (Ai (Ai @Option.isSome_none.{0} @List.drop_zero.{0}) (Ai @List.length_replicate.{0} @Nat.min_self))))) (Ai (Ai (Ai (Ai @List.any_nil.{0} (Ai @WH @Yk)) (Ai (Ai @Option.bind_some.{0,0} @Option.bind_none.{0,0}) (Ai @Option.getD_some.{0} @Option.getD_none.{0}))) (Ai (Ai (Ai @Nat.lt_irrefl @Int.lt_irrefl) (Ai @We @Int.toNat_zero)) (Ai (Ai @YR @Nat.add_zero) (Ai @Bool.or_self @Option.isNone_none.{0})))) (Ai (Ai (Ai @Option.isNone_some.{0} (Ai @List.drop_nil.{0} @List.all_nil.{0})) (Ai (Ai @Y0 @YZ) (Ai @List.isEmpty_nil.{0} @List.drop_succ_cons.{0}))) (Ai (Ai (Ai @List.take_nil.{0} @Int.le_refl) (Ai @Int.natCast_zero @Xw)) (Ai (Ai @imp_self @List.foldl_nil.{0,0}) (Ai @Int.ofNat_zero @Int.ofNat_one))))))
def wM {G:Prop}(h:G:=by simp only[aK,zF,zN,aF,stds0,WS,WQ,XL,Wj,ne_eq,WY,WT,au,aH,seval]<;>exact rfl):G:=h
def wF {G:Prop}(h:G:=by(try clear kF);simp only[cC,aK,zF,zN,aF,stds0,WS,WQ,XL,Wj,ne_eq,WY,WT,au,aH,seval]<;>(first|exact rfl|omega)):G:=h
def wD {G:Prop}(h:G:=by simp only[zF,zN,aF,stds0,WS,WQ,XL,Wj,ne_eq,WY,WT,au,aH,seval];(first|done|fail)):G:=h
def wo {G:Prop}(h:G:=by(try clear kF);simp only[zF,zN,aF,stds0,WS,WQ,XL,Wj,ne_eq,WY,WT,au,aH,seval]<;>omega):G:=h
def wS {G R:Prop}(k:R)(h:R->G:=by intro kF;(repeat1' first|simp only[cC,aK,zF,zN,aF,stds0,WS,WQ,XL,Wj,ne_eq,WY,WT,au,aH,seval]|exact rfl|refine ao (v:=.any) ?_|refine ad wH (cF.1 _) ?_|refine ai wH (fun _=>cF.1 _) ?_|refine ad wH (cF _) ?_|refine ai wH (fun _=>cF _) ?_|refine ad wH (cF.2.1 _) ?_|refine ai wH (fun _=>cF.2.1 _) ?_|refine ad wH (cF.2 _) ?_|refine ai wH (fun _=>cF.2 _) ?_|refine ad wH (cF.2.2.1 _) ?_|refine ai wH (fun _=>cF.2.2.1 _) ?_|refine ad wH (cF.2.2 _) ?_|refine ai wH (fun _=>cF.2.2 _) ?_|refine ad wH (cF.2.2.2.1 _) ?_|refine ai wH (fun _=>cF.2.2.2.1 _) ?_|refine ad wH (cF.2.2.2 _) ?_|refine ai wH (fun _=>cF.2.2.2 _) ?_|refine ad wH (cF.2.2.2.2.1 _) ?_|refine ai wH (fun _=>cF.2.2.2.2.1 _) ?_|refine ad wH (cF.2.2.2.2 _) ?_|refine ai wH (fun _=>cF.2.2.2.2 _) ?_|refine ad wH (cF.2.2.2.2.2.1 _) ?_|refine ai wH (fun _=>cF.2.2.2.2.2.1 _) ?_|refine ad wH (cF.2.2.2.2.2 _) ?_|refine ai wH (fun _=>cF.2.2.2.2.2 _) ?_|refine ad wH (cF.2.2.2.2.2.2.1 _) ?_|refine ai wH (fun _=>cF.2.2.2.2.2.2.1 _) ?_|refine ad wH (cF.2.2.2.2.2.2 _) ?_|refine ai wH (fun _=>cF.2.2.2.2.2.2 _) ?_|refine ag wH (cF.1 _) cX ?_|refine ag wH (cF _) cX ?_|refine ag wH (cF.2.1 _) cX ?_|refine ag wH (cF.2 _) cX ?_|refine ag wH (cF.2.2.1 _) cX ?_|refine ag wH (cF.2.2 _) cX ?_|refine ag wH (cF.2.2.2.1 _) cX ?_|refine ag wH (cF.2.2.2 _) cX ?_|refine ag wH (cF.2.2.2.2.1 _) cX ?_|refine ag wH (cF.2.2.2.2 _) cX ?_|refine ag wH (cF.2.2.2.2.2.1 _) cX ?_|refine ag wH (cF.2.2.2.2.2 _) cX ?_|refine ag wH (cF.2.2.2.2.2.2.1 _) cX ?_|refine ag wH (cF.2.2.2.2.2.2 _) cX ?_|refine bm  ZJ  ?_|((try clear kF);omega));exact kF;(first|done|fail)):G:=h k
def wE {G:Prop}(h:G:=by(repeat1' first|simp only[cC,aK,zF,zN,aF,stds0,WS,WQ,XL,Wj,ne_eq,WY,WT,au,aH,seval]|exact rfl|refine ao (v:=.any) ?_|refine ad wH (cF.1 _) ?_|refine ai wH (fun _=>cF.1 _) ?_|refine ad wH (cF _) ?_|refine ai wH (fun _=>cF _) ?_|refine ad wH (cF.2.1 _) ?_|refine ai wH (fun _=>cF.2.1 _) ?_|refine ad wH (cF.2 _) ?_|refine ai wH (fun _=>cF.2 _) ?_|refine ad wH (cF.2.2.1 _) ?_|refine ai wH (fun _=>cF.2.2.1 _) ?_|refine ad wH (cF.2.2 _) ?_|refine ai wH (fun _=>cF.2.2 _) ?_|refine ad wH (cF.2.2.2.1 _) ?_|refine ai wH (fun _=>cF.2.2.2.1 _) ?_|refine ad wH (cF.2.2.2 _) ?_|refine ai wH (fun _=>cF.2.2.2 _) ?_|refine ad wH (cF.2.2.2.2.1 _) ?_|refine ai wH (fun _=>cF.2.2.2.2.1 _) ?_|refine ad wH (cF.2.2.2.2 _) ?_|refine ai wH (fun _=>cF.2.2.2.2 _) ?_|refine ad wH (cF.2.2.2.2.2.1 _) ?_|refine ai wH (fun _=>cF.2.2.2.2.2.1 _) ?_|refine ad wH (cF.2.2.2.2.2 _) ?_|refine ai wH (fun _=>cF.2.2.2.2.2 _) ?_|refine ad wH (cF.2.2.2.2.2.2.1 _) ?_|refine ai wH (fun _=>cF.2.2.2.2.2.2.1 _) ?_|refine ad wH (cF.2.2.2.2.2.2 _) ?_|refine ai wH (fun _=>cF.2.2.2.2.2.2 _) ?_|refine ag wH (cF.1 _) cX ?_|refine ag wH (cF _) cX ?_|refine ag wH (cF.2.1 _) cX ?_|refine ag wH (cF.2 _) cX ?_|refine ag wH (cF.2.2.1 _) cX ?_|refine ag wH (cF.2.2 _) cX ?_|refine ag wH (cF.2.2.2.1 _) cX ?_|refine ag wH (cF.2.2.2 _) cX ?_|refine ag wH (cF.2.2.2.2.1 _) cX ?_|refine ag wH (cF.2.2.2.2 _) cX ?_|refine ag wH (cF.2.2.2.2.2.1 _) cX ?_|refine ag wH (cF.2.2.2.2.2 _) cX ?_|refine ag wH (cF.2.2.2.2.2.2.1 _) cX ?_|refine ag wH (cF.2.2.2.2.2.2 _) cX ?_|refine bm  ZJ  ?_|((try clear kF);omega));(first|done|fail)):G:=h
def wT {G R:Prop}(k:R)(h:R->G:=by intro kF;(repeat1' first|simp only[cC,aK,zF,zN,aF,stds0,WS,WQ,XL,Wj,ne_eq,WY,WT,au,aH,seval]|exact rfl|refine ad wH (cF.1 _) ?_|refine ai wH (fun _=>cF.1 _) ?_|refine ad wH (cF _) ?_|refine ai wH (fun _=>cF _) ?_|refine ad wH (cF.2.1 _) ?_|refine ai wH (fun _=>cF.2.1 _) ?_|refine ad wH (cF.2 _) ?_|refine ai wH (fun _=>cF.2 _) ?_|refine ad wH (cF.2.2.1 _) ?_|refine ai wH (fun _=>cF.2.2.1 _) ?_|refine ad wH (cF.2.2 _) ?_|refine ai wH (fun _=>cF.2.2 _) ?_|refine ad wH (cF.2.2.2.1 _) ?_|refine ai wH (fun _=>cF.2.2.2.1 _) ?_|refine ad wH (cF.2.2.2 _) ?_|refine ai wH (fun _=>cF.2.2.2 _) ?_|refine ad wH (cF.2.2.2.2.1 _) ?_|refine ai wH (fun _=>cF.2.2.2.2.1 _) ?_|refine ad wH (cF.2.2.2.2 _) ?_|refine ai wH (fun _=>cF.2.2.2.2 _) ?_|refine ad wH (cF.2.2.2.2.2.1 _) ?_|refine ai wH (fun _=>cF.2.2.2.2.2.1 _) ?_|refine ad wH (cF.2.2.2.2.2 _) ?_|refine ai wH (fun _=>cF.2.2.2.2.2 _) ?_|refine ad wH (cF.2.2.2.2.2.2.1 _) ?_|refine ai wH (fun _=>cF.2.2.2.2.2.2.1 _) ?_|refine ad wH (cF.2.2.2.2.2.2 _) ?_|refine ai wH (fun _=>cF.2.2.2.2.2.2 _) ?_|refine ag wH (cF.1 _) cX ?_|refine ag wH (cF _) cX ?_|refine ag wH (cF.2.1 _) cX ?_|refine ag wH (cF.2 _) cX ?_|refine ag wH (cF.2.2.1 _) cX ?_|refine ag wH (cF.2.2 _) cX ?_|refine ag wH (cF.2.2.2.1 _) cX ?_|refine ag wH (cF.2.2.2 _) cX ?_|refine ag wH (cF.2.2.2.2.1 _) cX ?_|refine ag wH (cF.2.2.2.2 _) cX ?_|refine ag wH (cF.2.2.2.2.2.1 _) cX ?_|refine ag wH (cF.2.2.2.2.2 _) cX ?_|refine ag wH (cF.2.2.2.2.2.2.1 _) cX ?_|refine ag wH (cF.2.2.2.2.2.2 _) cX ?_|refine bm  ZJ  ?_|((try clear kF);omega));exact kF;(first|done|fail)):G:=h k
def wU {G:Prop}(h:G:=by(repeat1' first|simp only[cC,aK,zF,zN,aF,stds0,WS,WQ,XL,Wj,ne_eq,WY,WT,au,aH,seval]|exact rfl|refine ad wH (cF.1 _) ?_|refine ai wH (fun _=>cF.1 _) ?_|refine ad wH (cF _) ?_|refine ai wH (fun _=>cF _) ?_|refine ad wH (cF.2.1 _) ?_|refine ai wH (fun _=>cF.2.1 _) ?_|refine ad wH (cF.2 _) ?_|refine ai wH (fun _=>cF.2 _) ?_|refine ad wH (cF.2.2.1 _) ?_|refine ai wH (fun _=>cF.2.2.1 _) ?_|refine ad wH (cF.2.2 _) ?_|refine ai wH (fun _=>cF.2.2 _) ?_|refine ad wH (cF.2.2.2.1 _) ?_|refine ai wH (fun _=>cF.2.2.2.1 _) ?_|refine ad wH (cF.2.2.2 _) ?_|refine ai wH (fun _=>cF.2.2.2 _) ?_|refine ad wH (cF.2.2.2.2.1 _) ?_|refine ai wH (fun _=>cF.2.2.2.2.1 _) ?_|refine ad wH (cF.2.2.2.2 _) ?_|refine ai wH (fun _=>cF.2.2.2.2 _) ?_|refine ad wH (cF.2.2.2.2.2.1 _) ?_|refine ai wH (fun _=>cF.2.2.2.2.2.1 _) ?_|refine ad wH (cF.2.2.2.2.2 _) ?_|refine ai wH (fun _=>cF.2.2.2.2.2 _) ?_|refine ad wH (cF.2.2.2.2.2.2.1 _) ?_|refine ai wH (fun _=>cF.2.2.2.2.2.2.1 _) ?_|refine ad wH (cF.2.2.2.2.2.2 _) ?_|refine ai wH (fun _=>cF.2.2.2.2.2.2 _) ?_|refine ag wH (cF.1 _) cX ?_|refine ag wH (cF _) cX ?_|refine ag wH (cF.2.1 _) cX ?_|refine ag wH (cF.2 _) cX ?_|refine ag wH (cF.2.2.1 _) cX ?_|refine ag wH (cF.2.2 _) cX ?_|refine ag wH (cF.2.2.2.1 _) cX ?_|refine ag wH (cF.2.2.2 _) cX ?_|refine ag wH (cF.2.2.2.2.1 _) cX ?_|refine ag wH (cF.2.2.2.2 _) cX ?_|refine ag wH (cF.2.2.2.2.2.1 _) cX ?_|refine ag wH (cF.2.2.2.2.2 _) cX ?_|refine ag wH (cF.2.2.2.2.2.2.1 _) cX ?_|refine ag wH (cF.2.2.2.2.2.2 _) cX ?_|refine bm  ZJ  ?_|((try clear kF);omega));(first|done|fail)):G:=h
def xP {G F C:Prop}(z:F)(c:C)(h:F->C->G:=by intro zF cF;(repeat' first|simp only[cC,aK,zF,zN,aF,stds0,WS,WQ,XL,Wj,ne_eq,WY,WT,au,aH,seval]|exact rfl|refine ao (v:=.any) ?_|refine ad wH (cF.1 _) ?_|refine ai wH (fun _=>cF.1 _) ?_|refine ad wH (cF _) ?_|refine ai wH (fun _=>cF _) ?_|refine ad wH (cF.2.1 _) ?_|refine ai wH (fun _=>cF.2.1 _) ?_|refine ad wH (cF.2 _) ?_|refine ai wH (fun _=>cF.2 _) ?_|refine ad wH (cF.2.2.1 _) ?_|refine ai wH (fun _=>cF.2.2.1 _) ?_|refine ad wH (cF.2.2 _) ?_|refine ai wH (fun _=>cF.2.2 _) ?_|refine ad wH (cF.2.2.2.1 _) ?_|refine ai wH (fun _=>cF.2.2.2.1 _) ?_|refine ad wH (cF.2.2.2 _) ?_|refine ai wH (fun _=>cF.2.2.2 _) ?_|refine ad wH (cF.2.2.2.2.1 _) ?_|refine ai wH (fun _=>cF.2.2.2.2.1 _) ?_|refine ad wH (cF.2.2.2.2 _) ?_|refine ai wH (fun _=>cF.2.2.2.2 _) ?_|refine ad wH (cF.2.2.2.2.2.1 _) ?_|refine ai wH (fun _=>cF.2.2.2.2.2.1 _) ?_|refine ad wH (cF.2.2.2.2.2 _) ?_|refine ai wH (fun _=>cF.2.2.2.2.2 _) ?_|refine ad wH (cF.2.2.2.2.2.2.1 _) ?_|refine ai wH (fun _=>cF.2.2.2.2.2.2.1 _) ?_|refine ad wH (cF.2.2.2.2.2.2 _) ?_|refine ai wH (fun _=>cF.2.2.2.2.2.2 _) ?_|refine ag wH (cF.1 _) cX ?_|refine ag wH (cF _) cX ?_|refine ag wH (cF.2.1 _) cX ?_|refine ag wH (cF.2 _) cX ?_|refine ag wH (cF.2.2.1 _) cX ?_|refine ag wH (cF.2.2 _) cX ?_|refine ag wH (cF.2.2.2.1 _) cX ?_|refine ag wH (cF.2.2.2 _) cX ?_|refine ag wH (cF.2.2.2.2.1 _) cX ?_|refine ag wH (cF.2.2.2.2 _) cX ?_|refine ag wH (cF.2.2.2.2.2.1 _) cX ?_|refine ag wH (cF.2.2.2.2.2 _) cX ?_|refine ag wH (cF.2.2.2.2.2.2.1 _) cX ?_|refine ag wH (cF.2.2.2.2.2.2 _) cX ?_|refine bm  ZJ  ?_|((first|apply b7|apply cM)<;>intro hb)|refine Ai (by(try clear kF);omega) ?_|(apply Ai<;>intro hb)|apply Fin.pure|simp only[aB]);(first|done|fail)):G:=h z c
def xO {G F C:Prop}(z:F)(c:C)(h:F->C->G:=by intro zF cF;(repeat' first|simp only[cC,aK,zF,zN,aF,stds0,WS,WQ,XL,Wj,ne_eq,WY,WT,au,aH,seval]|exact rfl|refine ao (v:=.any) ?_|refine ad wH (cF.1 _) ?_|refine ai wH (fun _=>cF.1 _) ?_|refine ad wH (cF _) ?_|refine ai wH (fun _=>cF _) ?_|refine ad wH (cF.2.1 _) ?_|refine ai wH (fun _=>cF.2.1 _) ?_|refine ad wH (cF.2 _) ?_|refine ai wH (fun _=>cF.2 _) ?_|refine ad wH (cF.2.2.1 _) ?_|refine ai wH (fun _=>cF.2.2.1 _) ?_|refine ad wH (cF.2.2 _) ?_|refine ai wH (fun _=>cF.2.2 _) ?_|refine ad wH (cF.2.2.2.1 _) ?_|refine ai wH (fun _=>cF.2.2.2.1 _) ?_|refine ad wH (cF.2.2.2 _) ?_|refine ai wH (fun _=>cF.2.2.2 _) ?_|refine ad wH (cF.2.2.2.2.1 _) ?_|refine ai wH (fun _=>cF.2.2.2.2.1 _) ?_|refine ad wH (cF.2.2.2.2 _) ?_|refine ai wH (fun _=>cF.2.2.2.2 _) ?_|refine ad wH (cF.2.2.2.2.2.1 _) ?_|refine ai wH (fun _=>cF.2.2.2.2.2.1 _) ?_|refine ad wH (cF.2.2.2.2.2 _) ?_|refine ai wH (fun _=>cF.2.2.2.2.2 _) ?_|refine ad wH (cF.2.2.2.2.2.2.1 _) ?_|refine ai wH (fun _=>cF.2.2.2.2.2.2.1 _) ?_|refine ad wH (cF.2.2.2.2.2.2 _) ?_|refine ai wH (fun _=>cF.2.2.2.2.2.2 _) ?_|refine ag wH (cF.1 _) cX ?_|refine ag wH (cF _) cX ?_|refine ag wH (cF.2.1 _) cX ?_|refine ag wH (cF.2 _) cX ?_|refine ag wH (cF.2.2.1 _) cX ?_|refine ag wH (cF.2.2 _) cX ?_|refine ag wH (cF.2.2.2.1 _) cX ?_|refine ag wH (cF.2.2.2 _) cX ?_|refine ag wH (cF.2.2.2.2.1 _) cX ?_|refine ag wH (cF.2.2.2.2 _) cX ?_|refine ag wH (cF.2.2.2.2.2.1 _) cX ?_|refine ag wH (cF.2.2.2.2.2 _) cX ?_|refine ag wH (cF.2.2.2.2.2.2.1 _) cX ?_|refine ag wH (cF.2.2.2.2.2.2 _) cX ?_|refine bm  ZJ  ?_|((first|apply b7|apply cM)<;>intro hb)|refine Ai (by(try clear kF);omega) ?_|(apply Ai<;>intro hb));(all_goals (refine Fin.auto (r:=?_) (l:=?_) ?_ ?_ ?_ ?_ ?_ ?_ ?_;rotate_left 1;(simp only[dB,eG,cN,dq,zF,zN,stds0,WS,WQ,XL,Wj,ne_eq,WY,WT,au,aH,seval]);(exact rfl);rotate_left 1;(simp only[V.owns,ownsL,List.cons_append,List.nil_append]);(exact rfl);all_goals (try simp only[dB,eG,cN,dq,zF,zN,stds0,WS,WQ,XL,Wj,ne_eq,WY,WT,Bd,au,aH,seval]);all_goals (try simp only[aB])));(first|done|fail)):G:=h z c
def xR {G F C R:Prop}(z:F)(c:C)(k:R)(h:F->C->R->G:=by intro zF cF kF;(repeat' first|simp only[cC,aK,zF,zN,aF,stds0,WS,WQ,XL,Wj,ne_eq,WY,WT,au,aH,seval]|exact rfl|refine ao (v:=.any) ?_|refine ad wH (cF.1 _) ?_|refine ai wH (fun _=>cF.1 _) ?_|refine ad wH (cF _) ?_|refine ai wH (fun _=>cF _) ?_|refine ad wH (cF.2.1 _) ?_|refine ai wH (fun _=>cF.2.1 _) ?_|refine ad wH (cF.2 _) ?_|refine ai wH (fun _=>cF.2 _) ?_|refine ad wH (cF.2.2.1 _) ?_|refine ai wH (fun _=>cF.2.2.1 _) ?_|refine ad wH (cF.2.2 _) ?_|refine ai wH (fun _=>cF.2.2 _) ?_|refine ad wH (cF.2.2.2.1 _) ?_|refine ai wH (fun _=>cF.2.2.2.1 _) ?_|refine ad wH (cF.2.2.2 _) ?_|refine ai wH (fun _=>cF.2.2.2 _) ?_|refine ad wH (cF.2.2.2.2.1 _) ?_|refine ai wH (fun _=>cF.2.2.2.2.1 _) ?_|refine ad wH (cF.2.2.2.2 _) ?_|refine ai wH (fun _=>cF.2.2.2.2 _) ?_|refine ad wH (cF.2.2.2.2.2.1 _) ?_|refine ai wH (fun _=>cF.2.2.2.2.2.1 _) ?_|refine ad wH (cF.2.2.2.2.2 _) ?_|refine ai wH (fun _=>cF.2.2.2.2.2 _) ?_|refine ad wH (cF.2.2.2.2.2.2.1 _) ?_|refine ai wH (fun _=>cF.2.2.2.2.2.2.1 _) ?_|refine ad wH (cF.2.2.2.2.2.2 _) ?_|refine ai wH (fun _=>cF.2.2.2.2.2.2 _) ?_|refine ag wH (cF.1 _) cX ?_|refine ag wH (cF _) cX ?_|refine ag wH (cF.2.1 _) cX ?_|refine ag wH (cF.2 _) cX ?_|refine ag wH (cF.2.2.1 _) cX ?_|refine ag wH (cF.2.2 _) cX ?_|refine ag wH (cF.2.2.2.1 _) cX ?_|refine ag wH (cF.2.2.2 _) cX ?_|refine ag wH (cF.2.2.2.2.1 _) cX ?_|refine ag wH (cF.2.2.2.2 _) cX ?_|refine ag wH (cF.2.2.2.2.2.1 _) cX ?_|refine ag wH (cF.2.2.2.2.2 _) cX ?_|refine ag wH (cF.2.2.2.2.2.2.1 _) cX ?_|refine ag wH (cF.2.2.2.2.2.2 _) cX ?_|refine bm  ZJ  ?_|((first|apply b7|apply cM)<;>intro hb)|refine Ai (by(try clear kF);omega) ?_|(apply Ai<;>intro hb));exact kF;(first|done|fail)):G:=h z c k
def xN {G F C R:Prop}(z:F)(c:C)(k:R)(h:F->C->R->G:=by intro zF cF kF;(repeat' first|simp only[cC,aK,zF,zN,aF,stds0,WS,WQ,XL,Wj,ne_eq,WY,WT,au,aH,seval]|exact rfl|refine ao (v:=.any) ?_|refine ad wH (cF.1 _) ?_|refine ai wH (fun _=>cF.1 _) ?_|refine ad wH (cF _) ?_|refine ai wH (fun _=>cF _) ?_|refine ad wH (cF.2.1 _) ?_|refine ai wH (fun _=>cF.2.1 _) ?_|refine ad wH (cF.2 _) ?_|refine ai wH (fun _=>cF.2 _) ?_|refine ad wH (cF.2.2.1 _) ?_|refine ai wH (fun _=>cF.2.2.1 _) ?_|refine ad wH (cF.2.2 _) ?_|refine ai wH (fun _=>cF.2.2 _) ?_|refine ad wH (cF.2.2.2.1 _) ?_|refine ai wH (fun _=>cF.2.2.2.1 _) ?_|refine ad wH (cF.2.2.2 _) ?_|refine ai wH (fun _=>cF.2.2.2 _) ?_|refine ad wH (cF.2.2.2.2.1 _) ?_|refine ai wH (fun _=>cF.2.2.2.2.1 _) ?_|refine ad wH (cF.2.2.2.2 _) ?_|refine ai wH (fun _=>cF.2.2.2.2 _) ?_|refine ad wH (cF.2.2.2.2.2.1 _) ?_|refine ai wH (fun _=>cF.2.2.2.2.2.1 _) ?_|refine ad wH (cF.2.2.2.2.2 _) ?_|refine ai wH (fun _=>cF.2.2.2.2.2 _) ?_|refine ad wH (cF.2.2.2.2.2.2.1 _) ?_|refine ai wH (fun _=>cF.2.2.2.2.2.2.1 _) ?_|refine ad wH (cF.2.2.2.2.2.2 _) ?_|refine ai wH (fun _=>cF.2.2.2.2.2.2 _) ?_|refine ag wH (cF.1 _) cX ?_|refine ag wH (cF _) cX ?_|refine ag wH (cF.2.1 _) cX ?_|refine ag wH (cF.2 _) cX ?_|refine ag wH (cF.2.2.1 _) cX ?_|refine ag wH (cF.2.2 _) cX ?_|refine ag wH (cF.2.2.2.1 _) cX ?_|refine ag wH (cF.2.2.2 _) cX ?_|refine ag wH (cF.2.2.2.2.1 _) cX ?_|refine ag wH (cF.2.2.2.2 _) cX ?_|refine ag wH (cF.2.2.2.2.2.1 _) cX ?_|refine ag wH (cF.2.2.2.2.2 _) cX ?_|refine ag wH (cF.2.2.2.2.2.2.1 _) cX ?_|refine ag wH (cF.2.2.2.2.2.2 _) cX ?_|refine bm  ZJ  ?_|refine Ai (by(try clear kF);omega) ?_);exact kF;(first|done|fail)):G:=h z c k
def wB {a b:Nat}(h:a<=b:=by first|exact XW _ _|exact IS _|omega):a<=b:=h
def c7 {Q:Post}{st:List Frm}{nm:Nat}{e:Env}{M:ah}{α:Type}{μ:α->Nat}{P:α->Prop}{nmS:Nat}{Es:α->List (Nat×V)}{Ms:α->List (Nat×Blk)}{g:Nat}(x:α)(src:List ZC)(hg:μ x<g)(h0:P x)(hME:jb (sX (dL (cn (Ms x) src))) Q.b0 nmS M (cn (Ms x) src)/\kC M (dL (cn (Ms x) src)) e (Es x):=by refine⟨?_,?_⟩<;>(try simp only[bL,zF,stds0,WS,WQ,XL,Wj,ne_eq,WY,WT,au,aH,seval,aB])<;>(try omega))(hb:Q.b0<=nmS:=by exact wB):dP cx Q (.again (pD μ P nmS Es Ms) g::st) nm e M .normal:=uP qc x src hg h0 hb hME
def fu {Q:Post}{st:List Frm}{nm:Nat}{e:Env}{M:ah}{c:Code}{α:Type}(μ:α->Nat)(P:α->Prop)(nmS:Nat)(Es:α->List (Nat×V))(Ms:α->List (Nat×Blk))(x0:α)(src:List ZC)(h0:P x0)(hr:∀ x,P x->go cx Q (.again (pD μ P nmS Es Ms) (μ x)::st) nmS (lh (Es x)) (iS (Ms x)) c)(hME:jb (sX (dL (cn (Ms x0) src))) Q.b0 nmS M (cn (Ms x0) src)/\kC M (dL (cn (Ms x0) src)) e (Es x0):=by refine⟨?_,?_⟩<;>(try simp only[bL,zF,stds0,WS,WQ,XL,Wj,ne_eq,WY,WT,au,aH,seval,aB])<;>(try omega))(hb:Q.b0<=nmS:=by exact wB):mZ cx Q st nm e M c:=y9 qc μ P nmS Es Ms x0 src h0 hb hME hr
def gR {Q:Post}{st:List Frm}{nm:Nat}{e:Env}{M:ah}{fs:Y9}{ops:ZD}(ps:Y8)(h:dP cx Q st nm e M .normal)(hp:tQ cx.P ops=ps:=by decide +kernel)(hps:∀ p∈ps,∀ x∈fs.getD p.1 [],x ∉ fs.getD p.2 []:=by(try clear kF);simp only[XX,W5,W9,zF,zN,aF,stds0,WS,WQ,XL,Wj,ne_eq,WY,WT,au,aH,seval]<;>(try simp)<;>(try omega)):yP cx Q st nm e M fs ops:=jd hp hps h
def jW {N:Nat}{rs:List ResultVar}{nm:Nat}{M0:ah}{v:V}{eff:List (Nat×Option Blk)}{b0 n:Nat}{e:Env}{M:ah}{L:ZB}(g:List (Nat×ZC))(δ:ZB)(ho:∀ z,(M0 z).isSome=true->z∈L)
  (h1:mC cx.P N rs e M:=by(try simp only[zF,zN,aF,stds0,WS,WQ,XL,Wj,ne_eq,WY,WT,hH,au,aH,seval])<;>(try simp only[aB])<;>(try omega)) (h2:(mD cx.P rs e M).finOk (ba nm g) M:=by(try simp only[zF,zN,aF,stds0,WS,WQ,XL,Wj,ne_eq,WY,WT,hH,au,aH,seval])<;>(try simp only[aB])<;>(try omega)) (h3:((mD cx.P rs e M).fin (ba nm g) M).le v:=by(try simp only[zF,zN,aF,stds0,WS,WQ,XL,Wj,ne_eq,WY,WT,hH,au,aH,seval])<;>(try simp only[aB])<;>(try omega)) (h4:G5 δ++He nm M (ba nm g) g=eff:=by(try simp only[zF,zN,aF,stds0,WS,WQ,XL,Wj,ne_eq,WY,WT,hH,au,aH,seval])<;>(try simp only[aB])<;>(try omega)) (h5:qn nm b0 M0 M (ba nm g) g:=by(try simp only[zF,zN,aF,stds0,WS,WQ,XL,Wj,ne_eq,WY,WT,hH,au,aH,seval])<;>(try simp only[aB])<;>(try omega))
  (h6:∀ z∈L,z∈(ba nm g).map (fun x=>x.2)\/z∈δ:=by simp[ba,tgt]):pV cx N rs nm M0 v eff b0 n e M:=Fin.give g δ h1 h2 h3 h4 h5 (fun z hz=>h6 z (ho z hz))
set_option maxRecDepth 100000
set_option maxHeartbeats 32000000
open Go Go.RowKit
def hY (n:Int):Bool:=decide (n=9\/n=10\/n=13\/(32<=n/\n<=1114111 /\ ¬(55296<=n/\n<=57343)/\n≠65534/\n≠65535))
def fU (n:Int):hY n=true↔(n=9\/n=10\/n=13\/(32<=n/\n<=1114111 /\ ¬(55296<=n/\n<=57343)/\n≠65534/\n≠65535)):=by
 unfold hY;exact Yd
def UU {n:Int}(h:n=9\/n=10\/n=13\/(32<=n/\n<=1114111 /\ ¬(55296<=n/\n<=57343)/\n≠65534/\n≠65535)):true=hY n:=((fU n).2 h).symm
def UT {n:Int}(h:¬(n=9\/n=10\/n=13\/(32<=n/\n<=1114111 /\ ¬(55296<=n/\n<=57343)/\n≠65534/\n≠65535))):false=hY n:=by
 unfold hY;symm;exact XA.2 h
def gw {n:Int}(h:hY n=true):0<=n/\n<=1114111/\(2048<=n->n<=65535->(2048<=n/\n<55296)\/(57343<n/\n<=65535)):=by
 have:=(fU n).1 h
 refine⟨by omega,by omega,fun a b=>by omega⟩
def enc (l:List Int):ZA:=l.flatMap Lib.encodeRune
def u8 (b:UInt8):Value:=.int .u8 (b.toNat:Int)
def nD (l:List Int):Int:=if l.all hY then (if 16384<(enc l).length then 4 else 0) else 50
def nc (l:List Int):ZA:=if nD l=0 then enc l else []
def L3 (a:List Int)(x:Int):enc (a++[x])=enc a++Lib.encodeRune x:=by simp[enc]
def be (x:Int):1<=(Lib.encodeRune x).length/\(Lib.encodeRune x).length<=4:=by
 unfold Lib.encodeRune Lib.encodeRuneZ
 repeat' split
 all_goals simp
def E3 (l:List Int):(enc l).length<=4*l.length:=by
 induction l with
 | nil=>simp[enc]
 | cons x l ih =>
  have:=(be x).2
  simp only[enc,Xk,List.length_append,List.length_cons]at ih ⊢
  omega
def Jy {l:List Int}{k:Nat}(hk:k<l.length)(h:hY (l.getD k 0)=false):nD l=50:=by
 unfold nD
 rw[if_neg]
 intro hall
 have:=WI.1 hall (l[k]) (Xi hk)
 simp[XB,hk]at h
 rw[h]at this;cases this
def BQ {l:List Int}{k:Nat}(hk:k<l.length)(h:(l.take k).all hY=true)(hm:hY (l.getD k 0)=true):(l.take (k+1)).all hY=true:=by
 rw[WF hk,Xv,h]
 simp[XB,hk]at hm
 simp[hm]
set_option maxRecDepth 100000
set_option maxHeartbeats 32000000
open Go Go.RowKit Go.Lib
def one (l:ZA):Option (Int×Nat) :=
 if l=[] then none
 else if (decodeL l).1=65533/\(decodeL l).2=1 then none
 else if hY ((decodeL l).1:Int) then some (((decodeL l).1:Int),(decodeL l).2) else none
def Ci:Nat->ZA->Option (List Int)
 | _,[]=>some []
 | 0,_=>none
 | f+1,l=>match one l with
  | none=>none
  | some (z,k)=>(Ci f (l.drop k)).map (z :: ·)
def dn (l:ZA):Option (List Int):=Ci l.length l
def kT {l:ZA}{z:Int}{k:Nat}(h:one l=some (z,k)):l≠[]/\hY z=true/\encodeRune z=l.take k/\1<=k/\k<=l.length:=by
 unfold one at h
 split at h
 ·cases h
 rename_i hne
 split at h
 ·cases h
 rename_i hv
 split at h
 ·rename_i hm
  simp only[WO,W6]at h
  obtain⟨rfl,rfl⟩:=h
  have he:=encode_decode l hne hv
  have hle:=decodeL_le l hne
  refine⟨hne,hm,he,?_,hle⟩
  have:=(be ((decodeL l).1:Int)).1
  simp_all
 ·cases h
def gg {x:Int}(h0:0<=x)(h1:x<256):(x.toNat.toUInt8).toNat=x.toNat:=by simp;omega
def uE {z:Int}(hm:hY z=true)(rest:ZA):one (encodeRune z++rest)=some (z,(encodeRune z).length):=by
 have hmz:=(fU z).1 hm
 have key:decodeL (encodeRune z++rest)=(z.toNat,(encodeRune z).length):=by
  rw[decodeL_N]
  by_cases c1:0<=z/\z<=127
  ·have e:encodeRune z=[z.toNat.toUInt8]:=by simp_all[encodeRune,encodeRuneZ_one]
   rw[e]
   have a:=gg (x:=z) Y6 Y6
   simp only[List.cons_append,List.nil_append,W5,List.length_cons,List.length_nil,a,decodeN]
   grind
  ·by_cases c2:128<=z/\z<=2047
   ·have e:encodeRune z=[(192+z / 64).toNat.toUInt8,(128+z % 64).toNat.toUInt8]:=by simp_all[encodeRune,encodeRuneZ_two]
    rw[e]
    have a:=gg (x:=192+z / 64) Y6 Y6
    have b:=gg (x:=128+z % 64) Y6 Y6
    simp only[List.cons_append,List.nil_append,W5,W9,List.length_cons,List.length_nil,a,b,decodeN]
    grind
   ·by_cases c3:z<=65535
    ·have e:encodeRune z=[(224+z / 4096).toNat.toUInt8,(128+z / 64 % 64).toNat.toUInt8,(128+z % 64).toNat.toUInt8]:=by simp[encodeRune,encodeRuneZ_three (r:=z) Y6]
     rw[e]
     have a:=gg (x:=224+z / 4096) Y6 Y6
     have b:=gg (x:=128+z / 64 % 64) Y6 Y6
     have c:=gg (x:=128+z % 64) Y6 Y6
     simp only[List.cons_append,List.nil_append,W5,W9,List.length_cons,List.length_nil,a,b,c,decodeN]
     rw[if_neg Y6,if_neg Y6,if_pos Y6,if_pos Y6]
     grind
    ·have e:encodeRune z=[(240+z / 262144).toNat.toUInt8,(128+z / 4096 % 64).toNat.toUInt8,(128+z / 64 % 64).toNat.toUInt8,(128+z % 64).toNat.toUInt8]:=by simp[encodeRune,encodeRuneZ_four (r:=z) Y6 Y6]
     rw[e]
     have a:=gg (x:=240+z / 262144) Y6 Y6
     have b:=gg (x:=128+z / 4096 % 64) Y6 Y6
     have c:=gg (x:=128+z / 64 % 64) Y6 Y6
     have d:=gg (x:=128+z % 64) Y6 Y6
     simp only[List.cons_append,List.nil_append,W5,W9,List.length_cons,List.length_nil,a,b,c,d,decodeN]
     rw[if_neg Y6,if_neg Y6,if_neg Y6,if_pos Y6,if_pos Y6]
     simp only[W6,Yx];omega
 have hne:encodeRune z++rest≠[]:=by
  intro h
  have:=(be z).1
  simp_all
 unfold one
 rw[if_neg hne,key]
 have hz:((z.toNat:Nat):Int)=z:=Y6
 simp only[hz,hm,WQ]
 rw[if_neg]
 rintro ⟨h1,h2⟩
 have hz2:z=65533:=Y6
 subst hz2
 revert h2
 decide
def yD:∀(f g:Nat) (l:ZA),l.length<=f->l.length<=g->Ci f l=Ci g l
 | _,_,[],_,_=>by simp[Ci]
 | 0,_,x::l,h,_=>by simp at h
 | _,0,x::l,_,h=>by simp at h
 | f+1,g+1,x::l,hf,hg=>by
  simp only[Ci]
  cases h1:one (x::l) with
  | none=>rfl
  | some p =>
   obtain⟨z,k⟩:=p
   obtain⟨_,_,_,hk,_⟩:=kT h1
   simp only
   rw[yD f g ((x::l).drop k) (by grind) (by grind)]
def qZ:dn []=some []:=rfl
def lX {l:ZA}{z:Int}{k:Nat}(h:one l=some (z,k)):dn l=(dn (l.drop k)).map (z :: ·):=by
 obtain⟨hne,_,_,hk,hkl⟩:=kT h
 obtain⟨x,l',rfl⟩:=Xr hne
 unfold dn
 rw[show(x::l').length=l'.length+1 from rfl]
 simp only[Ci,h]
 rw[yD l'.length ((x::l').drop k).length _ ZK (IS _)]
def uv {l:ZA}(hne:l≠[])(h:one l=none):dn l=none:=by
 obtain⟨x,l',rfl⟩:=Xr hne
 unfold dn
 rw[show(x::l').length=l'.length+1 from rfl]
 simp only[Ci,h]
def gQ:∀(zs:List Int),zs.all hY=true->dn (enc zs)=some zs
 | [],_=>rfl
 | z::zs,h=>by
  simp only[List.all_cons,In]at h
  have e:enc (z::zs)=encodeRune z++enc zs:=by simp[enc]
  rw[e,lX (uE h.1 (enc zs)),XT,gQ zs h.2]
  rfl
def Ck:∀(n:Nat) (l:ZA) (zs:List Int),l.length<=n->dn l=some zs->zs.all hY=true/\enc zs=l
 | 0,l,zs,hn,h=>by
  have:l=[]:=Wp Y6
  subst this
  rw[qZ]at h
  cases h
  exact⟨rfl,rfl⟩
 | n+1,l,zs,hn,h=>by
  by_cases hne:l=[]
  ·subst hne
   rw[qZ]at h
   cases h
   exact⟨rfl,rfl⟩
  ·cases h1:one l with
   | none=>simp_all[uv]
   | some p =>
    obtain⟨z,k⟩:=p
    obtain⟨_,hm,he,hk,hkl⟩:=kT h1
    rw[lX h1]at h
    obtain⟨zs',h2,rfl⟩:=BY.1 h
    obtain⟨ha,hb⟩:=Ck n (l.drop k) zs' ZK h2
    refine⟨by simp[hm,ha],?_⟩
    show encodeRune z++enc zs'=l
    simp_all
def mU (l:ZA)(zs:List Int):dn l=some zs↔zs.all hY=true/\enc zs=l :=
 ⟨fun h=>Ck l.length l zs (IS _) h,fun ⟨h1,h2⟩=>by rw[<- h2,gQ zs h1]⟩
def F1 {l:ZA}(h:hasPrefix l [239,191,189]=true):∃ rest,l=encodeRune 65533++rest:=by
 unfold hasPrefix at h
 obtain⟨rest,hr⟩:=X8.1 h
 exact⟨rest,by rw[<- hr];congr 1⟩
def Cm {l:ZA}(h:hasPrefix l [239,191,189]=true):(decodeL l).2≠1:=by
 obtain⟨rest,rfl⟩:=F1 h
 have h1:=uE (z:=65533) ZI rest
 unfold one at h1
 grind
def yf {l:ZA}(hne:l≠[]):one l=if ((decodeL l).1=65533/\hasPrefix l [239,191,189]=false)\/hY ((decodeL l).1:Int)=false then none else some (((decodeL l).1:Int),(decodeL l).2):=by
  unfold one
  rw[if_neg hne]
  by_cases h1:(decodeL l).1=65533/\(decodeL l).2=1
  · rw[if_pos h1,if_pos]
    left
    refine⟨h1.1,?_⟩
    cases hp:hasPrefix l [239,191,189] with
    | false=>rfl
    | true=>exact absurd h1.2 (Cm hp)
  · rw [if_neg h1]
    by_cases h2:(decodeL l).1=65533
    · have he:=encode_decode l hne h1
      rw[h2]at he
      have hp:hasPrefix l [239,191,189]=true:=by
        unfold hasPrefix
        rw[X8,show([239,191,189]:ZA)=encodeRune ((65533:Nat):Int) from by decide,he]
        grind
      grind
    grind
def Cn (s:ByteArray)(pos:Nat):Utf8.decode s pos=decodeL (s.data.toList.drop pos):=by
 have h:=tail_decode s pos 0
 rw[Nat.add_zero]at h
 rw[<- h]
 unfold decodeL
 congr 1
 have h2:(s.extract pos s.size).data.toList=s.data.toList.drop pos:=by
  simp_all[IN]
 apply ByteArray.ext
 grind
def jI (c:Int):Int:=if c<128 then 1 else if 192<=c/\c<224 then 2 else if 224<=c/\c<240 then 3 else if 240<=c/\c<248 then 4 else 0
def l8 (c:Int):Int:=if c<128 then c else if 192<=c/\c<224 then c-192 else if 224<=c/\c<240 then c-224 else if 240<=c/\c<248 then c-240 else 0
def dA (n:Int)(l:ZA):Int:=l.foldl (fun n b=>64*n+(b.toNat:Int) % 64) n
def Nr (l:ZA):Int:=match one l with|some (z,_)=>z|none=>0
def Nq (l:ZA):Int:=match one l with|some (_,k)=>(k:Int)|none=>0
def C0 (c:Int):0<=jI c/\jI c<=4:=by
 unfold jI;repeat' split
 all_goals omega
def CZ {c:Int}(h:0<=c/\c<256):0<=l8 c/\l8 c<=127/\(jI c≠1->l8 c<=31):=by
 unfold l8 jI;repeat' split
 all_goals omega
def EQ (n:Int)(l:ZA)(b:UInt8):dA n (l++[b])=64*dA n l+(b.toNat:Int) % 64:=by simp[dA]
def C1 {z:Int}(hm:hY z=true):∃ b rest,encodeRune z=b::rest/\jI (b.toNat:Int)=((encodeRune z).length:Nat)/\dA (l8 (b.toNat:Int)) rest=z:=by
 have hmz:=(fU z).1 hm
 by_cases c1:0<=z/\z<=127
 ·have e:encodeRune z=[z.toNat.toUInt8]:=by simp[encodeRune,encodeRuneZ_one c1.1 c1.2]
  have a:=gg (x:=z) Y6 Y6
  refine⟨_,_,e,?_,?_⟩
  ·rw[e,a];unfold jI;rw[if_pos Y6];rfl
  ·rw[a];unfold l8;rw[if_pos Y6];simp[dA];omega
 ·by_cases c2:128<=z/\z<=2047
  ·have e:encodeRune z=[(192+z / 64).toNat.toUInt8,(128+z % 64).toNat.toUInt8]:=by simp[encodeRune,encodeRuneZ_two c2.1 c2.2]
   have a:=gg (x:=192+z / 64) Y6 Y6
   have b:=gg (x:=128+z % 64) Y6 Y6
   refine⟨_,_,e,?_,?_⟩
   ·rw[e,a];unfold jI;rw[if_neg Y6,if_pos Y6];rfl
   ·rw[a];unfold l8;rw[if_neg Y6,if_pos Y6];simp only[dA,List.foldl_cons,List.foldl_nil,b];omega
  ·by_cases c3:z<=65535
   ·have e:encodeRune z=[(224+z / 4096).toNat.toUInt8,(128+z / 64 % 64).toNat.toUInt8,(128+z % 64).toNat.toUInt8]:=by simp[encodeRune,encodeRuneZ_three (r:=z) Y6]
    have a:=gg (x:=224+z / 4096) Y6 Y6
    have b:=gg (x:=128+z / 64 % 64) Y6 Y6
    have c:=gg (x:=128+z % 64) Y6 Y6
    refine⟨_,_,e,?_,?_⟩
    ·rw[e,a];unfold jI;rw[if_neg Y6,if_neg Y6,if_pos Y6];rfl
    ·rw[a];unfold l8;rw[if_neg Y6,if_neg Y6,if_pos Y6];simp only[dA,List.foldl_cons,List.foldl_nil,b,c];omega
   ·have e:encodeRune z=[(240+z / 262144).toNat.toUInt8,(128+z / 4096 % 64).toNat.toUInt8,(128+z / 64 % 64).toNat.toUInt8,(128+z % 64).toNat.toUInt8]:=by simp[encodeRune,encodeRuneZ_four (r:=z) Y6 Y6]
    have a:=gg (x:=240+z / 262144) Y6 Y6
    have b:=gg (x:=128+z / 4096 % 64) Y6 Y6
    have c:=gg (x:=128+z / 64 % 64) Y6 Y6
    have d:=gg (x:=128+z % 64) Y6 Y6
    refine⟨_,_,e,?_,?_⟩
    ·rw[e,a];unfold jI;rw[if_neg Y6,if_neg Y6,if_neg Y6,if_pos Y6];rfl
    ·rw[a];unfold l8;rw[if_neg Y6,if_neg Y6,if_neg Y6,if_pos Y6];simp only[dA,List.foldl_cons,List.foldl_nil,b,c,d];omega
def Q8 {l:ZA}{n:Int}{k:Nat}(hm:hY n=true)(he:encodeRune n=l.take k)(hk:k<=l.length):one l=some (n,k):=by
 have h:=uE hm (l.drop k)
 have hlen:(encodeRune n).length=k:=by rw[he,WK];omega
 rw[hlen,he,List.take_append_drop]at h
 exact h
def F3 {b:UInt8}{l:ZA}{k:Nat}(hs:jI (b.toNat:Int)=k)(hno:k=0\/(b::l).length<k\/(k<=(b::l).length /\ ∀ n,n=dA (l8 (b.toNat:Int)) (l.take (k-1))->hY n=true->encodeRune n≠(b::l).take k)):one (b::l)=none:=by
 cases h:one (b::l) with
 | none=>rfl
 | some p =>
  obtain⟨z,j⟩:=p
  obtain⟨_,hm,he,hj1,hj2⟩:=kT h
  obtain⟨b',rest,e1,e2,e3⟩:=C1 hm
  have hlen:(encodeRune z).length=j:=by rw[he,WK];omega
  obtain⟨j',rfl⟩:∃ j',j=j'+1:=⟨j-1,by omega⟩
  rw[he,List.take_succ_cons]at e1
  obtain⟨e4,e5⟩:=List.cons.inj e1
  subst e4
  rw[hlen]at e2
  have hkj:k=j'+1:=by rw[hs]at e2;exact Int.ofNat.inj e2
  subst hkj
  rcases hno with h0|h0|⟨_,h0⟩
  ·omega
  ·omega
  ·refine absurd he (h0 z ?_ hm)
   rw[<- e3,<- e5];rfl
def az (l:ZA):Int:=if 16384<l.length then 4 else match dn l with|none=>50|some _=>0
def qB {s:ZA}(h:az s=0):s.length<=16384:=by
 unfold az at h
 split at h
 ·omega
 ·omega
def nW (q:Bool)(c:UInt8):ZA :=
 if c=38 then [38,97,109,112,59] else if c=60 then [38,108,116,59] else if c=62 then [38,103,116,59] else if c=13 then [38,35,49,51,59]
 else if q=true then (if c=34 then [38,113,117,111,116,59] else if c=9 then [38,35,57,59] else if c=10 then [38,35,49,48,59] else [c]) else [c]
def bZ (q:Bool)(s:ZA):ZA:=s.flatMap (nW q)
def vx (q:Bool):bZ q []=[]:=rfl
def Cw (q:Bool)(a b:ZA):bZ q (a++b)=bZ q a++bZ q b:=by simp[bZ]
def Ix (q:Bool)(a:ZA)(c:UInt8):bZ q (a++[c])=bZ q a++nW q c:=by simp[bZ]
def ln (q:Bool)(c:UInt8):1<=(nW q c).length/\(nW q c).length<=6:=by
 unfold nW
 repeat' split
 all_goals simp
def Qm (q:Bool)(c:UInt8):nW q c≠[]:=by
 intro h
 have:=(ln q c).1
 rw[h]at this;simp at this
def bP (q:Bool)(s:ZA):s.length<=(bZ q s).length/\(bZ q s).length<=6*s.length:=by
 induction s with
 | nil=>simp[bZ]
 | cons c s ih =>
  have:=ln q c
  simp only[bZ,Xk,List.length_append,List.length_cons]at ih ⊢
  omega
def yM (q:Bool){s:ZA}{k:Nat}{c:UInt8}(h:s[k]? = some c):bZ q (s.take (k+1))=bZ q (s.take k)++nW q c:=by
 obtain⟨hk,rfl⟩:=AS.1 h
 rw[WF hk,Ix]
def G2:∀(p:List Int) (r:ZA),p.all hY=true->dn (enc p++r)=(dn r).map (p ++ ·)
 | [],r,_=>by simp[enc]
 | z::p,r,h=>by
  simp only[List.all_cons,In]at h
  have e:enc (z::p)++r=encodeRune z++(enc p++r):=by simp[enc]
  rw[e,lX (uE h.1 _),XT,G2 p r h.2,Option.map_map]
  congr 1
def vj {a b:ZA}{x y:List Int}(ha:dn a=some x)(hb:dn b=some y):dn (a++b)=some (x++y):=by
 obtain⟨h1,rfl⟩:=(mU a x).1 ha
 rw[G2 x b h1,hb];rfl
def KQ {z:Int}{k:Nat}(h1:1<=k)(h2:k<(encodeRune z).length):∃ b t,(encodeRune z).drop k=b::t/\128<=b.toNat/\b.toNat<192:=by
 have key:∀ x:Int,0<=x -> ∀ y,(128+x % 64).toNat.toUInt8=y->128<=y.toNat/\y.toNat<192:=by
  intro x _ y hy
  subst hy
  rw[gg Y6 Y6]
  omega
 unfold encodeRune encodeRuneZ at h2 ⊢
 repeat' split
 ·rename_i c;rw[if_pos c]at h2;simp at h2;omega
 ·rename_i c1 c2;rw[if_neg c1,if_pos c2]at h2
  have:k=1:=by simp at h2;omega
  subst this
  exact⟨_,_,rfl,key z Y6 _ rfl⟩
 ·rename_i c1 c2 c3;rw[if_neg c1,if_neg c2,if_pos c3]at h2
  have:k=1\/k=2:=by simp at h2;omega
  rcases this with rfl|rfl
  ·exact⟨_,_,rfl,key (z / 64) Y6 _ rfl⟩
  ·exact⟨_,_,rfl,key z Y6 _ rfl⟩
 ·rename_i c1 c2 c3 c4;rw[if_neg c1,if_neg c2,if_neg c3,if_pos c4]at h2
  have:k=1\/k=2\/k=3:=by simp at h2;omega
  rcases this with rfl|rfl|rfl
  ·exact⟨_,_,rfl,key (z / 4096) Y6 _ rfl⟩
  ·exact⟨_,_,rfl,key (z / 64) Y6 _ rfl⟩
  ·exact⟨_,_,rfl,key z Y6 _ rfl⟩
 ·rename_i c1 c2 c3 c4;rw[if_neg c1,if_neg c2,if_neg c3,if_neg c4]at h2
  have:k=1\/k=2:=by simp at h2;omega
  rcases this with rfl|rfl
  ·exact⟨_,_,rfl,by decide⟩
  ·exact⟨_,_,rfl,by decide⟩
def LV:∀(zs:List Int) (k:Nat),k<=(enc zs).length->(∃ p q,zs=p++q/\(enc zs).take k=enc p/\(enc zs).drop k=enc q) \/ ∃ b t,(enc zs).drop k=b::t/\128<=b.toNat/\b.toNat<192
 | [],k,h=>by
  have:k=0:=by simpa [enc] using h
  subst this
  exact .inl ⟨[],[],rfl,rfl,rfl⟩
 | z::zs,k,h=>by
  have e:enc (z::zs)=encodeRune z++enc zs:=by simp[enc]
  rw[e]at h ⊢
  by_cases h0:k=0
  ·subst h0
   exact .inl ⟨[],z::zs,rfl,rfl,by rw[e];rfl⟩
  by_cases h1:k<(encodeRune z).length
  ·obtain⟨b,t,ht,hb⟩:=KQ Y6 h1
   exact .inr ⟨b,t++enc zs,by rw[List.drop_append_of_le_length Y6,ht];rfl,hb⟩
  ·obtain⟨j,rfl⟩:∃ j,k=(encodeRune z).length+j:=⟨k-(encodeRune z).length,by omega⟩
   have hj:j<=(enc zs).length:=by simp at h;omega
   rcases LV zs j hj with ⟨p,q,rfl,h3,h4⟩|⟨b,t,h3,hb⟩
   ·refine .inl ⟨z::p,q,rfl,?_,?_⟩
    ·rw[List.take_length_add_append,h3];simp[enc]
    ·rw[X5,h4]
   ·exact .inr ⟨b,t,by rw[X5,h3],hb⟩
def A2 (c:UInt8):Bool:=(decide (97<=c.toNat)&&decide (c.toNat<=122))||(decide (65<=c.toNat)&&decide (c.toNat<=90))||decide (c=95)
def ja (first:Bool)(c:UInt8):Bool:=A2 c||(!first&&((decide (48<=c.toNat)&&decide (c.toNat<=57))||decide (c=46)||decide (c=45)))
def eV:ZA->Bool
 | []=>false
 | c::r=>ja true c&&r.all (ja false)
def df (d:UInt8):ZA->Option (ZA×ZA)
 | []=>none
 | c::r=>if c=d then some ([],r) else (df d r).map (fun p=>(c::p.1,p.2))
def bI (s:ZA):Bool:=match df 58 s with
 | none=>eV s
 | some (a,b)=>eV a&&eV b
def eA {d:UInt8} : ∀ {s:ZA},df d s=none↔d ∉ s
 | []=>by simp[df]
 | c::r=>by
  simp only[df]
  by_cases h:c=d
  ·simp[h]
  ·rw[if_neg h]
   simp only[Option.map_eq_none_iff,eA (s:=r),WZ,not_or]
   constructor
   ·intro h2;exact⟨fun e=>h e.symm,h2⟩
   ·intro h2;exact h2.2
def eB {d:UInt8} : ∀ {s a b:ZA},df d s=some (a,b)->s=a++d::b/\d ∉ a
 | [],a,b,h=>by simp[df]at h
 | c::r,a,b,h=>by
  simp only[df]at h
  by_cases hc:c=d
  ·rw[if_pos hc]at h;cases h;subst hc;simp
  ·rw[if_neg hc]at h
   obtain⟨⟨a',b'⟩,h1,h2⟩:=BY.1 h
   cases h2
   obtain⟨e1,e2⟩:=eB h1
   refine⟨by rw[e1];rfl,?_⟩
   simp only[WZ,not_or]
   exact⟨fun e=>hc e.symm,e2⟩
def oW {d:UInt8} : ∀ {a b:ZA},d ∉ a->df d (a++d::b)=some (a,b)
 | [],b,_=>by simp[df]
 | c::a,b,h=>by
  simp only[WZ,not_or]at h
  simp only[List.cons_append,df]
  rw[if_neg (fun e=>h.1 e.symm),oW h.2];rfl
def ut {d:UInt8}{s:ZA}{i:Nat}(h1:d ∉ s.take i)(h2:s[i]? = some d):df d s=some (s.take i,s.drop (i+1)):=by
 obtain⟨hi,he⟩:=AS.1 h2
 have:s=s.take i++d::s.drop (i+1):=by
  conv=>lhs;rw[<- List.take_append_drop i s]
  rw[W1 hi,he]
 have h3:=oW (b:=s.drop (i+1)) h1
 rwa[<- this]at h3
def jK {d:UInt8}{s:ZA} : indexByte s d = -1↔df d s=none:=by
 rw[eA]
 constructor
 ·intro h hm
  obtain⟨k,hk,rfl⟩:=Xd hm
  exact indexByte_none h k (AT hk)
 ·intro h
  have hge:=indexByte_ge s d
  by_cases hneg:indexByte s d = -1
  ·exact hneg
  ·obtain⟨o,ho⟩:∃ o:Nat,indexByte s d=o:=⟨(indexByte s d).toNat,by omega⟩
   exact absurd (By (indexByte_some ho).1) h
def jL {d:UInt8}{s a b:ZA}(h:df d s=some (a,b)):indexByte s d=a.length/\s.take a.length=a/\s.drop (a.length+1)=b/\a.length+1+b.length=s.length:=by
 obtain⟨h1,h2⟩:=eB h
 have hne:indexByte s d ≠ -1:=fun e=>by rw[jK.1 e]at h;cases h
 have hge:=indexByte_ge s d
 obtain⟨o,ho⟩:∃ o:Nat,indexByte s d=o:=⟨(indexByte s d).toNat,by omega⟩
 obtain⟨g1,g2⟩:=indexByte_some ho
 have hat:=ut (i:=o) (fun hm=>by
  obtain⟨k,hk,he⟩:=Xd hm
  rw[WK]at hk
  rw[List.getElem_take]at he
  exact g2 k Y6 (by rw[AT Y6,he])) g1
 rw[h]at hat
 cases hat
 have hlt:=(AS.1 g1).1
 have hl:(s.take o).length=o:=by rw[WK];omega
 rw[hl]
 refine⟨ho,rfl,rfl,?_⟩
 rw[Wd];omega
def rH (s:ZA)(k:Nat):Prop:=∀(i:Nat) (c:UInt8),i<k->s[i]? = some c->ja (i==0) c=true
def wg {s:ZA}(hne:s≠[])(h:rH s s.length):eV s=true:=by
 cases s with
 | nil=>exact absurd rfl hne
 | cons c r =>
  have h0:=h 0 c ZH ZH
  simp only[WT]at h0
  simp only[eV,h0,Wq,WI]
  intro x hx
  obtain⟨k,hk,rfl⟩:=Xd hx
  have:=h (k+1) r[k] ZK (by simp[hk])
  have h3:((k+1)==0)=false:=If Y6
  rwa[h3]at this
def tK {s:ZA}{k:Nat}{c:UInt8}(hc:s[k]? = some c)(h:ja (k==0) c=false):eV s=false:=by
 cases s with
 | nil=>simp at hc
 | cons x r =>
  cases k with
  | zero =>
   simp at hc;subst hc
   simp only[WT]at h
   simp[eV,h]
  | succ k =>
   have h3:((k+1)==0)=false:=If Y6
   rw[h3]at h
   simp only[List.getElem?_cons_succ]at hc
   simp only[eV,Wo,List.all_eq_false]
   right
   exact⟨c,By hc,by rw[h];simp⟩
def aW (c d:UInt8):((c.toNat:Int)==(d.toNat:Int))=decide (c=d):=by
 rw[WL,W3,Yd]
 constructor
 ·intro h;exact YX.1 Y6
 ·rintro rfl;rfl
def qU (b:UInt8):Bool:=decide (128<=b.toNat)&&decide (b.toNat<192)
def Cg:∀(zs:List Int) (k:Nat),k<=(enc zs).length -> ∃ j,k<=j/\j<=k+3/\j<=(enc zs).length /\ ∃ p q,zs=p++q/\(enc zs).take j=enc p/\(enc zs).drop j=enc q
 | [],k,h=>by
  have:k=0:=by simpa [enc] using h
  subst this
  exact⟨0,IS _,by omega,by simp,[],[],rfl,rfl,rfl⟩
 | z::zs,k,h=>by
  have e:enc (z::zs)=encodeRune z++enc zs:=by simp[enc]
  have hl:=be z
  rw[e]at h ⊢
  by_cases h0:k=0
  ·subst h0
   exact⟨0,IS _,by omega,by omega,[],z::zs,rfl,rfl,by rw[e];rfl⟩
  by_cases h1:k<(encodeRune z).length
  ·refine⟨(encodeRune z).length,by omega,by omega,by simp,[z],zs,rfl,?_,?_⟩
   ·rw[Yc];simp[enc]
   ·rw[XT]
  ·obtain⟨j,rfl⟩:∃ j,k=(encodeRune z).length+j:=⟨k-(encodeRune z).length,by omega⟩
   have hj:j<=(enc zs).length:=by simp at h;omega
   obtain⟨i,i1,i2,i3,p,q,rfl,h3,h4⟩:=Cg zs j hj
   refine⟨(encodeRune z).length+i,by omega,by omega,by simp at i3 ⊢;omega,z::p,q,rfl,?_,?_⟩
   ·rw[List.take_length_add_append,h3];simp[enc]
   ·rw[X5,h4]
def L0 {zs:List Int}(hm:zs.all hY=true){b:UInt8}(h:(enc zs)[0]? = some b):qU b=false:=by
 cases zs with
 | nil=>grind[enc]
 | cons z zs =>
  simp only[List.all_cons,In]at hm
  obtain⟨c,rest,e1,e2,_⟩:=C1 hm.1
  have e:enc (z::zs)=encodeRune z++enc zs:=by simp[enc]
  rw[e,e1]at h
  simp at h;subst h
  have hl:=(be z).1
  unfold qU
  by_cases hc:128<=c.toNat/\c.toNat<192
  ·exfalso
   have:jI (c.toNat:Int)=0:=by
    unfold jI;omega
   omega
  simp_all
def KR {r:ZA}(h:(dn r).isSome=true){k:Nat}(hk:k<=r.length):∃ j,k<=j/\j<=k+3/\j<=r.length /\ ∀ b,r[j]? = some b->qU b=false:=by
 obtain⟨zs,hz⟩:=OF.1 h
 obtain⟨hm,rfl⟩:=(mU r zs).1 hz
 obtain⟨j,j1,j2,j3,p,q,rfl,h3,h4⟩:=Cg zs k hk
 rw[Xv,In]at hm
 refine⟨j,j1,j2,j3,fun b hb=>L0 hm.2 ?_⟩
 grind
def OL {r:ZA}(h:(dn r).isSome=true){k:Nat}(hk:k<=r.length)(hc:∀ b,r[k]? = some b->qU b=false):(dn (r.take k)).isSome=true/\(dn (r.drop k)).isSome=true:=by
 obtain⟨zs,hz⟩:=OF.1 h
 obtain⟨hm,rfl⟩:=(mU r zs).1 hz
 rcases LV zs k hk with ⟨p,q,rfl,h3,h4⟩|⟨b,t,h3,hb1,hb2⟩
 ·rw[Xv,In]at hm
  rw[h3,h4,gQ p hm.1,gQ q hm.2]
  simp_all
 ·exfalso
  have:(enc zs)[k]? = some b:=by
   have:=congrArg (fun l=>l[0]?) h3
   grind
  grind[qU]
def dJ {s:ZA} : az s=0↔s.length<=16384/\(dn s).isSome=true:=by
 grind[az]
structure Pr where
 name:ZA
 value:ZA
deriving DecidableEq
structure Tk where
 kind:Nat
 name:ZA
 attrs:List Pr
 text:ZA
deriving DecidableEq
def Pl (l:List Pr)(a:Pr):Bool:=!(l.any fun b=>a.name==b.name)&&bI a.name&&decide (az a.value=0)
def jp (l:List Pr)(k:Nat):Prop:=∀(i:Nat) (a:Pr),i<k->l[i]? = some a->Pl (l.take i) a=true
def gC (l:List Pr):Bool:=decide (l.length<=16)&&l.zipIdx.all fun p=>Pl (l.take p.2) p.1
def gq {l:List Pr} : gC l=true↔l.length<=16/\jp l l.length:=by
 unfold gC jp
 simp only[In,WD,WI]
 refine Yv fun _=>⟨fun h i a hi ha=>?_,fun h p hp=>?_⟩
 ·simp_all[Xn]
 grind
def dy (t:Tk):Bool :=
 if t.kind=1\/t.kind=3 then bI t.name&&gC t.attrs&&t.text.isEmpty
 else if t.kind=2 then bI t.name&&t.attrs.isEmpty&&t.text.isEmpty
 else if t.kind=4 then t.name.isEmpty&&t.attrs.isEmpty && !t.text.isEmpty&&decide (az t.text=0)
 else false
def Rz (t:Tk):Int:=if dy t=true then 0 else 8
def nL (a:Pr):ZA:=[32]++a.name++[61,34]++bZ true a.value++[34]
def fc (l:List Pr):ZA:=l.flatMap nL
def fk (t:Tk):ZA :=
 if t.kind=4 then bZ false t.text
 else if t.kind=2 then [60,47]++t.name++[62]
 else [60]++t.name++fc t.attrs++(if t.kind=3 then [47,62] else [62])
def cP (l:List Tk):ZA:=l.flatMap fk
def xe {l:List Tk}{k:Nat}{t:Tk}(h:l[k]? = some t):cP (l.take (k+1))=cP (l.take k)++fk t:=by
 obtain⟨hk,rfl⟩:=AS.1 h
 rw[WF hk];grind[cP]
def B5 {l:List Pr}{k:Nat}{t:Pr}(h:l[k]? = some t):fc (l.take (k+1))=fc (l.take k)++nL t:=by
 obtain⟨hk,rfl⟩:=AS.1 h
 rw[WF hk];grind[fc]
def lS:List Tk->Bool
 | a::b::r=>(a.kind==4&&b.kind==4)||lS (b::r)
 | _=>false
def nw (l:List Tk)(k:Nat):Prop:=∀(i:Nat) (a b:Tk),i+1<k->l[i]? = some a->l[i+1]? = some b -> ¬(a.kind=4/\b.kind=4)
def oT:∀ {l:List Tk},lS l=false↔nw l l.length
 | []=>by simp[lS,nw]
 | [a]=>by simp[lS,nw]
 | a::b::r=>by
  simp only[lS,XK,oT (l:=b::r)]
  constructor
  ·rintro ⟨h1,h2⟩ i x y hi hx hy
   cases i with
   | zero =>
    simp_all
   | succ i=>exact h2 i x y (by simp_all) (by simpa using hx) (by simpa using hy)
  ·intro h
   refine⟨?_,fun i x y hi hx hy=>h (i+1) x y (by simp_all) (by simpa using hx) (by simpa using hy)⟩
   have:=h 0 a b ZH ZH ZH
   simp_all
def BN {l:List Tk}{i:Nat}{a b:Tk}(ha:l[i]? = some a)(hb:l[i+1]? = some b)(h1:a.kind=4)(h2:b.kind=4):lS l=true:=by
 cases h:lS l with
 | true=>rfl
 | false =>
  have:=oT.1 h
  exact absurd ⟨h1,h2⟩ (this i a b (AS.1 hb).1 ha hb)
def gJ (l:List Tk):Int:=if (l.any fun t=>!dy t)=true\/lS l=true then 8 else if 512<l.length\/16384<(cP l).length then 4 else 0
def ov (l:List Tk):ZA:=if gJ l=0 then cP l else []
def w9 {α:Type}{f:α->Nat}{l:List α}{x:α}(h:x∈l):f x<=(l.map f).sum:=by
 induction l with
 | nil=>simp at h
 | cons y l ih =>
  grind
def Ak (a:Pr):(nL a).length<=4+a.name.length+6*a.value.length:=by
 have:=bP true a.value
 grind[nL]
def ql {α:Type}{f:α->ZA}{n:Nat} : ∀ {l:List α},(∀ x∈l,(f x).length<=n)->(l.flatMap f).length<=l.length*n
 | [],_=>by simp
 | x::l,h=>by
  have h1:=h x ZH
  have h2:=ql (l:=l) (fun y hy=>h y (by simp[hy]))
  grind[Nat.succ_mul]
def tV {t:Tk}{n:Nat}(h1:t.attrs.length<=30)(h2:t.name.length<=n)(h3:t.text.length<=n)(h4:∀ a∈t.attrs,a.name.length<=n/\a.value.length<=n):(fc t.attrs).length<=30*(4+7*n)/\(fk t).length<=124+217*n:=by
 have e:=bP false t.text
 have ha:(fc t.attrs).length<=t.attrs.length*(4+7*n):=ql (fun a ha=>by
  have:=Ak a
  grind)
 have hb:t.attrs.length*(4+7*n)<=30*(4+7*n):=WX _ h1
 grind[fk]
structure At where
 space:ZA
 name:ZA
 value:ZA
deriving DecidableEq
structure Nd where
 kind:Nat
 space:ZA
 name:ZA
 attrs:List At
 text:ZA
 many:Int
deriving DecidableEq
structure Gr where
 v:List Nd
 opn:ZB
def Nd.inc (n:Nd):Nd:={ n with many:=n.many+1 }
def kO (v:List Nd)(opn:ZB):List Nd:=match opn.getLast? with
 | some k=>v.modify k Nd.inc
 | none=>v
def gX (g:Gr)(n:Nd):List Nd:=kO g.v g.opn++[n]
def cG (c:UInt8):Bool:=c==32||c==9||c==10||c==13
def gb (s:ZA):Bool:=s.all cG
def gN (s:ZA):Nd:=⟨2,[],[],[],s,0⟩
def bq (l:List Pr):List At:=l.map fun a=>⟨[],a.name,a.value⟩
def eo (t:Tk):Nd:=⟨1,[],t.name,bq t.attrs,[],0⟩
def iO (g:Gr):Option ZA:=g.opn.getLast?.bind fun k=>(g.v[k]?).map Nd.name
def stepG (g:Gr)(t:Tk)(txt:Bool):Gr×Int :=
 if t.kind=4 then
  if (txt||(g.opn.isEmpty && !gb t.text))=true then (g,80)
  else if g.opn.isEmpty=true then (g,0) else (⟨gX g (gN t.text),g.opn⟩,0)
 else if t.kind=2 then
  if iO g=some t.name then (⟨g.v,g.opn.dropLast⟩,0) else (g,80)
 else if (g.opn.isEmpty && !g.v.isEmpty)=true then (g,80)
 else if 12<=g.opn.length then (g,100)
 else (⟨gX g (eo t),if t.kind=1 then g.opn++[g.v.length] else g.opn⟩,0)
def xE:Gr->Bool->List Tk->Gr×Int
 | g,_,[]=>(g,0)
 | g,txt,t::r=>if (stepG g t txt).2=0 then xE (stepG g t txt).1 (t.kind==4) r else stepG g t txt
def bU (l:List Tk):Int:=if 512<l.length then 4 else if (l.any fun t=>!dy t)=true then 8 else
 if (xE ⟨[],[]⟩ false l).2≠0 then (xE ⟨[],[]⟩ false l).2 else if (xE ⟨[],[]⟩ false l).1.v.isEmpty=true\/(xE ⟨[],[]⟩ false l).1.opn.isEmpty=false then 80 else 0
def bJ (l:List Tk):List Nd:=if bU l=0 then (xE ⟨[],[]⟩ false l).1.v else []
structure Gr.Ok (g:Gr) (n:Nat):Prop where
 in_:∀ k∈g.opn,k<g.v.length
 deep:g.opn.length<=12
 many:∀ x∈g.v,0<=x.many/\x.many<=n
 len:g.v.length<=n
def C3 (v:List Nd)(o:ZB):(kO v o).length=v.length:=by
 unfold kO
 split<;>simp
def eF (g:Gr)(n:Nd):(gX g n).length=g.v.length+1:=by simp[gX,C3]
def MK {v:List Nd}{o:ZB}{n:Nat}(h:∀ x∈v,0<=x.many/\x.many<=n):∀ x∈kO v o,0<=x.many/\x.many<=((n+1:Nat):Int):=by
 intro x hx
 unfold kO at hx
 split at hx
 ·rename_i k _
  obtain⟨i,hi⟩:=XR.1 hx
  rw[Xy]at hi
  cases hv:v[i]? with
  | none=>rw[hv]at hi;simp at hi
  | some y =>
   rw[hv]at hi
   have:=h y (By hv)
   split at hi
   ·simp at hi;subst hi;simp only[Nd.inc];omega
   ·simp at hi;subst hi;omega
 ·have:=h x hx;omega
def Lp {g:Gr}{n:Nat}(h:g.Ok n){x:Nd}(hx:x.many=0):(∀ k∈g.opn,k<(gX g x).length)/\(∀ y∈gX g x,0<=y.many/\y.many<=((n+1:Nat):Int))/\(gX g x).length<=n+1:=by
 refine⟨fun k hk=>?_,fun y hy=>?_,?_⟩
 ·have:=h.in_ k hk;rw[eF];omega
 ·rcases Wf.1 hy with hy|hy
  ·exact MK h.many y hy
  ·simp at hy;subst hy;omega
 ·rw[eF];have:=h.len;omega
def HK {g:Gr}{n:Nat}(h:g.Ok n)(t:Tk)(txt:Bool):(stepG g t txt).1.Ok (n+1):=by
 have h0:g.Ok (n+1):=⟨h.in_,h.deep,fun x hx=>by have:=h.many x hx;omega,by have:=h.len;omega⟩
 unfold stepG
 split
 ·split
  ·exact h0
  ·split
   ·exact h0
   ·obtain⟨h1,h2,h3⟩:=Lp h (x:=gN t.text) rfl
    exact⟨h1,h.deep,h2,h3⟩
 ·split
  ·split
   ·exact⟨fun k hk=>h.in_ k (List.dropLast_subset _ hk),by simp;have:=h.deep;omega,h0.many,h0.len⟩
   ·exact h0
  ·split
   ·exact h0
   ·split
    ·exact h0
    ·rename_i h12
     obtain⟨h1,h2,h3⟩:=Lp h (x:=eo t) rfl
     refine⟨fun k hk=>?_,?_,h2,h3⟩
     ·simp only at hk
      split at hk
      ·rcases Wf.1 hk with hk|hk
       ·exact h1 k hk
       ·simp at hk;subst hk;simp only[eF];omega
      ·exact h1 k hk
     ·simp only
      split
      ·simp;omega
      ·exact h.deep
def w7:(Gr.mk [] []).Ok 0:=Gr.Ok.mk (fun k h=>by simp at h) ZH (fun x h=>by simp at h) ZH
def pg {v:List Nd}{o:ZB}{k:Nat}(h:o.getLast? = some k):kO v o=v.modify k Nd.inc:=by unfold kO;rw[h]
def GB {v:List Nd}{k:Nat}{x:Nd}(h:v[k]? = some x):v.modify k Nd.inc=v.set k x.inc:=by
 refine Xx fun i=>?_
 rw[Xy,Xb]
 have hk:=(AS.1 h).1
 by_cases e:k=i
 ·subst e;have hv:=(AS.1 h).2;simp[hk,hv]
 ·simp[e]
def gK {o:ZB}{k:Nat}(h:o.getLast? = some k):o≠[]/\o[o.length-1]? = some k/\0<o.length:=by
 have hne:o≠[]:=by intro e;subst e;simp at h
 rw[List.getLast?_eq_getElem?]at h
 exact⟨hne,h,Wl.2 hne⟩
def kr {o:ZB}(h:o≠[]):∃ k,o.getLast? = some k:=⟨_,X3 h⟩
def MA {l:List Tk} : ∀ {g:Gr} {txt:Bool} {t:Tk} {r:List Tk},l=t::r->(stepG g t txt).2=0->xE g txt l=xE (stepG g t txt).1 (t.kind==4) r:=by
 intro g txt t r h h0
 subst h
 rw[xE,if_pos h0]
def Qs {g:Gr}{txt:Bool}{t:Tk}{r:List Tk}(h0:(stepG g t txt).2≠0):xE g txt (t::r)=stepG g t txt:=by rw[xE,if_neg h0]
def Hf (g:Gr)(txt:Bool):xE g txt []=(g,0):=rfl
def lH (c:UInt8):ZC:=if 48<=c.toNat/\c.toNat<=57 then some (c.toNat-48) else if 97<=c.toNat/\c.toNat<=102 then some (c.toNat-87) else if 65<=c.toNat/\c.toNat<=70 then some (c.toNat-55) else none
def hU:Nat->ZA->ZC
 | n,[]=>some n
 | n,c::r=>match lH c with|none=>none|some d=>hU (16*n+d) r
def je (s:ZA):ZC:=if s=[]\/6<s.length\/s.head? = some 48 then none else hU 0 s
def qX (c:UInt8):ZC:=if 48<=c.toNat/\c.toNat<=57 then some (c.toNat-48) else none
def iJ:Nat->ZA->ZC
 | n,[]=>some n
 | n,c::r=>match qX c with|none=>none|some d=>iJ (10*n+d) r
def jA (s:ZA):ZC:=if s=[]\/16<s.length\/(s.head? = some 48/\s≠[48]) then none else (iJ 0 s).bind fun n=>if n<=9007199254740991 then some n else none
def eR (o:ZC):Option ZA:=o.bind fun n=>if hY (n:Int)=true then some (encodeRune n) else none
def cA (s:ZA):Option ZA :=
 if s=[97,109,112] then some [38] else if s=[108,116] then some [60] else if s=[103,116] then some [62] else if s=[113,117,111,116] then some [34] else if s=[97,112,111,115] then some [39]
 else if s.head? = some 35 then (if s.tail.head? = some 120 then eR (je s.tail.tail) else eR (jA s.tail)) else none
def Cf {d:UInt8}{s a b:ZA}(h:df d s=some (a,b)):b.length<s.length:=by
 have:=(eB h).1
 grind
def bp:ZA->Option ZA
 | []=>some []
 | c::r=>if c=60 then none else if c=38 then (match h:df 59 r with|none=>none|some (a,b)=>match cA a with|none=>none|some x=>(bp b).map (x ++ ·)) else (bp r).map (c :: ·)
termination_by s=>s.length
decreasing_by
 ·have:=Cf h;simp;omega
 ·simp
def mw:bp []=some []:=by rw[bp]
def oH (r:ZA):bp (60::r)=none:=by rw[bp];rfl
def iC {c:UInt8}(h1:c≠60)(h2:c≠38)(r:ZA):bp (c::r)=(bp r).map (c :: ·):=by simp_all[bp]
def k7 {r:ZA}(h:df 59 r=none):bp (38::r)=none:=by
 rw[bp,if_neg ZI,if_pos rfl]
 grind
def mu {r a b:ZA}(h:df 59 r=some (a,b))(hm:cA a=none):bp (38::r)=none:=by
 rw[bp,if_neg ZI,if_pos rfl]
 grind
def mz {r a b x:ZA}(h:df 59 r=some (a,b))(hm:cA a=some x):bp (38::r)=(bp b).map (x ++ ·):=by
 rw[bp,if_neg ZI,if_pos rfl]
 grind
def ze:cA [97,109,112]=some [38]:=by decide
def Dm:cA [108,116]=some [60]:=by decide
def Dl:cA [103,116]=some [62]:=by decide
def we:cA [113,117,111,116]=some [34]:=by decide
def Au {z:Int}(h0:0<=z)(h:z<128):encodeRune z=[z.toNat.toUInt8]:=by
 unfold encodeRune encodeRuneZ
 grind
def rc {z:Int}(h:128<=z):∀ c∈encodeRune z,128<=c.toNat:=by
 intro c hc
 unfold encodeRune encodeRuneZ at hc
 rw[if_neg Y6]at hc
 repeat' split at hc
 all_goals (
  simp only[Wc,Wx,WZ,Wv,XU]at hc
  rcases hc with rfl|rfl|rfl|rfl<;>(rw[gg Y6 Y6];omega))
def eh (n:Nat):ZA:=if n<=9 then [UInt8.ofNat (48+n)] else eh (n / 10)++[UInt8.ofNat (48+n % 10)]
termination_by n
decreasing_by omega
def fB {n:Nat}(h:n<=9):eh n=[UInt8.ofNat (48+n)]:=by rw[eh,if_pos h]
def ig {n:Nat}(h:9<n):eh n=eh (n / 10)++[UInt8.ofNat (48+n % 10)]:=by rw[eh,if_neg Y6]
def Im (n:Nat):eh n≠[]:=by
 by_cases h:n<=9
 ·rw[fB h];simp
 ·rw[ig Y6];simp
def tE:∀(k n:Nat),n<=k->n≠0->(eh n).head? ≠ some 48
 | 0,n,h,h0=>absurd (YQ.1 h) h0
 | k+1,n,h,h0=>by
  by_cases h9:n<=9
  ·rw[fB h9]
   simp only[List.head?_cons,ne_eq,WO]
   intro e
   have:=congrArg UInt8.toNat e
   simp at this
   omega
  ·rw[ig Y6]
   have ih:=tE k (n / 10) Y6 Y6
   have hne:=Im (n / 10)
   cases hd:eh (n / 10) with
   | nil=>exact absurd hd hne
   | cons a b=>rw[hd]at ih;simpa using ih
def kE {c:UInt8}{d:Nat}(h:qX c=some d):d<=9/\c=UInt8.ofNat (48+d)/\c.toNat=48+d:=by
 unfold qX at h
 split at h
 ·cases h
  refine⟨by omega,?_,by omega⟩
  have:48+(c.toNat-48)=c.toNat:=Y6
  rw[this];simp
 ·cases h
def so:∀(s:ZA) (n:Nat) (c:UInt8),iJ n (s++[c])=(iJ n s).bind fun m=>(qX c).map fun d=>10*m+d
 | [],n,c=>by
  simp only[List.nil_append,iJ,Option.bind_some]
  cases qX c<;>rfl
 | x::s,n,c=>by
  simp only[List.cons_append,iJ]
  cases qX x with
  | none=>rfl
  | some d=>exact so s _ c
def qY:∀(s:ZA) (n m:Nat),iJ n s=some m->n<=m/\m<(n+1)*10 ^ s.length
 | [],n,m,h=>by simp only[iJ]at h;cases h;simp
 | x::s,n,m,h=>by
  simp only[iJ]at h
  cases hx:qX x with
  | none=>rw[hx]at h;cases h
  | some d =>
   rw[hx]at h
   have hd:=(kE hx).1
   obtain⟨h1,h2⟩:=qY s _ m h
   refine⟨by omega,Wi h2 ?_⟩
   rw[List.length_cons,Nat.pow_succ',<- Nat.mul_assoc]
   exact WX _ Y6
def LW {s:ZA}{m:Nat}(h:iJ 0 s=some m)(hne:s≠[])(h0:s.head? ≠ some 48):m≠0:=by
 cases s with
 | nil=>exact absurd rfl hne
 | cons c s =>
  simp only[iJ]at h
  cases hx:qX c with
  | none=>rw[hx]at h;cases h
  | some d =>
   rw[hx]at h
   have h1:=(qY s _ m h).1
   have hd:=(kE hx).2.2
   have:d≠0:=by
    intro e;subst e
    refine h0 ?_
    simp only[List.head?_cons,WO]
    exact YX.1 (by simpa using hd)
   omega
def qe:∀(k:Nat) (s:ZA) (n:Nat),s.length<=k->s≠[]->iJ 0 s=some n->(eh n=s↔(s.head? ≠ some 48\/s=[48]))
 | 0,s,n,h,hne,_=>absurd (XY.1 (YQ.1 h)) hne
 | k+1,s,n,hk,hne,h=>by
  obtain⟨t,c,rfl⟩:∃ t c,s=t++[c]:=⟨s.dropLast,s.getLast hne,(Xo hne).symm⟩
  rw[so]at h
  obtain⟨m,hm,h2⟩:=WC.1 h
  obtain⟨d,hd,rfl⟩:=BY.1 h2
  obtain⟨d9,hc,hcn⟩:=kE hd
  by_cases ht:t=[]
  ·subst ht
   simp only[iJ]at hm;cases hm
   simp only[Nat.mul_zero,We,List.nil_append,List.head?_cons]
   rw[fB d9,<- hc]
   refine⟨fun _=>?_,fun _=>rfl⟩
   by_cases e:c=48
   ·subst e;right;rfl
   ·left;simp[e]
  ·by_cases h0:t.head? = some 48
   ·have hh:(t++[c]).head? = some 48:=by cases t with|nil=>exact absurd rfl ht|cons a b=>simpa using h0
    constructor
    ·intro e
     exfalso
     rw[<- e]at hh
     by_cases hz:10*m+d=0
     ·rw[hz,fB Y6]at e
      have:=congrArg List.length e
      simp at this
      exact ht this
     ·exact tE _ _ (IS _) hz hh
    ·rintro (e|e)
     ·exact absurd hh e
     ·exfalso
      have:=congrArg List.length e
      simp at this
      exact ht this
   ·have hm0:=LW hm ht h0
    have ih:=(qe k t m (by simp at hk;omega) ht hm).2 (.inl h0)
    have hh:(t++[c]).head? ≠ some 48:=by cases t with|nil=>exact absurd rfl ht|cons a b=>simpa using h0
    refine⟨fun _=>.inl hh,fun _=>?_⟩
    rw[ig Y6,show(10*m+d) / 10=m by omega,show(10*m+d) % 10=d by omega,ih,hc]
def aT (s:ZA):ZA:=s.dropWhile cG
def fm (c:UInt8):Bool:=ja false c||c==58
def gp (s:ZA):ZA:=s.takeWhile fm
def xw (s:ZA):ZA:=s.dropWhile fm
def ep (s:ZA):Option (ZA×ZA):=if bI (gp s)=true then some (gp s,xw s) else none
def bO (c:UInt8):UInt8:=if cG c=true then 32 else c
def r5 (s:ZA):Option ZA:=bp (s.map bO)
def Bk:ZA->Option (ZA×ZA)
 | []=>none
 | q::t=>if q=39\/q=34 then df q t else none
def gn (s:ZA):Option (ZA×ZA):=(Bk s).bind fun p=>(r5 p.1).map fun v=>(v,p.2)
def bY (c:UInt8):ZA->Option ZA
 | []=>none
 | d::t=>if d=c then some t else none
def fY (s:ZA):Option (Pr×ZA):=(ep s).bind fun p=>(bY 61 (aT p.2)).bind fun t=>(gn (aT t)).map fun q=>(⟨p.1,q.1⟩,q.2)
def mV {p:UInt8->Bool} : ∀ s:ZA,(s.dropWhile p).length<=s.length
 | []=>IS _
 | c::s=>by
  rw[Xe]
  split
  ·have:=mV (p:=p) s;simp;omega
  omega
def dm (s:ZA):(aT s).length<=s.length:=mV s
def xy (s:ZA):s=gp s++xw s:=(Wk).symm
def Qp {s:ZA}(h:bI s=true):s≠[]:=by
 intro e;subst e;cases h
def e9 {s n r:ZA}(h:ep s=some (n,r)):s=n++r/\n≠[]/\bI n=true/\r.length<s.length:=by
 unfold ep at h
 split at h
 ·rename_i hf
  cases h
  have h1:=xy s
  have h2:=Qp hf
  refine⟨h1,h2,hf,?_⟩
  have:=congrArg List.length h1
  rw[List.length_append]at this
  have:=Wl.2 h2
  omega
 ·cases h
def dF (c d:UInt8)(t:ZA):bY c (d::t)=if d=c then some t else none:=rfl
def ng (q:UInt8)(t:ZA):Bk (q::t)=if q=39\/q=34 then df q t else none:=rfl
def bG {c:UInt8}{s t:ZA}(h:bY c s=some t):s=c::t:=by
 cases s with
 | nil=>cases h
 | cons d s =>
  rw[dF]at h
  simp_all
def kW {s a b:ZA}(h:Bk s=some (a,b)):∃ q,(q=39\/q=34)/\s=q::(a++q::b)/\q ∉ a:=by
 cases s with
 | nil=>cases h
 | cons q t =>
  rw[ng]at h
  split at h
  ·rename_i hq
   obtain⟨h1,h2⟩:=eB h
   grind
  ·cases h
def lf {s v r:ZA}(h:gn s=some (v,r)):∃ a,Bk s=some (a,r)/\r5 a=some v:=by
 unfold gn at h
 obtain⟨⟨a,b⟩,h1,h2⟩:=WC.1 h
 obtain⟨x,h3,h4⟩:=BY.1 h2
 simp_all
def ko {s r:ZA}{a:Pr}(h:fY s=some (a,r)):∃ r1 t,ep s=some (a.name,r1)/\aT r1=61::t/\gn (aT t)=some (a.value,r):=by
 unfold fY at h
 obtain⟨⟨n,r1⟩,h1,h2⟩:=WC.1 h
 obtain⟨t,h3,h4⟩:=WC.1 h2
 obtain⟨⟨v,r2⟩,h5,h6⟩:=BY.1 h4
 cases h6
 exact⟨r1,t,h1,bG h3,h5⟩
def mQ {s r:ZA}{a:Pr}(h:fY s=some (a,r)):r.length<s.length:=by
 obtain⟨r1,t,h1,h2,h3⟩:=ko h
 have l1:=(e9 h1).2.2.2
 have l2:=dm r1
 rw[h2]at l2
 have l3:=dm t
 obtain⟨v,h4,_⟩:=lf h3
 obtain⟨q,_,h5,_⟩:=kW h4
 grind
def jB:ZA->Option (Nat×ZA)
 | 62::t=>some (1,t)
 | 47::62::t=>some (3,t)
 | _=>none
def jV (n:ZA)(l:List Pr)(s:ZA):Option (Tk×ZA) :=
 match jB (aT s) with
 | some (k,t)=>some (⟨k,n,l,[]⟩,t)
 | none=>if (aT s).length<s.length then (match h:fY (aT s) with
  | none=>none
  | some (a,r)=>if (l.any fun b=>a.name==b.name)=true then none else jV n (l++[a]) r) else none
termination_by s.length
decreasing_by
 have:=mQ h
 omega
def lG {n:ZA}{l:List Pr}{s t:ZA}{k:Nat}(h:jB (aT s)=some (k,t)):jV n l s=some (⟨k,n,l,[]⟩,t):=by rw[jV,h]
def px {n:ZA}{l:List Pr}{s:ZA}(h:jB (aT s)=none)(h2:¬(aT s).length<s.length):jV n l s=none:=by rw[jV,h];grind
def pw {n:ZA}{l:List Pr}{s:ZA}(h:jB (aT s)=none)(h2:fY (aT s)=none):jV n l s=none:=by
 rw[jV,h];grind
def py {n:ZA}{l:List Pr}{s r:ZA}{a:Pr}(h:jB (aT s)=none)(h2:fY (aT s)=some (a,r))(h3:(l.any fun b=>a.name==b.name)=true):jV n l s=none:=by
 rw[jV,h];grind
def oM {n:ZA}{l:List Pr}{s r:ZA}{a:Pr}(h:jB (aT s)=none)(hg:(aT s).length<s.length)(h2:fY (aT s)=some (a,r))(h3:(l.any fun b=>a.name==b.name)=false):jV n l s=jV n (l++[a]) r:=by
 rw[jV,h];grind
def j0 (s:ZA):Option (Tk×ZA) :=
 match bY 47 s with
 | some t=>(ep t).bind fun p=>(bY 62 (aT p.2)).map fun r=>(⟨2,p.1,[],[]⟩,r)
 | none=>(ep s).bind fun p=>jV p.1 [] p.2
def iE (c:UInt8):Bool:=c != 60
def ct (s:ZA):ZA:=s.takeWhile iE
def iF (s:ZA):ZA:=s.dropWhile iE
def iT (s:ZA):Option (Tk×ZA) :=
 match bY 60 s with
 | some t=>j0 t
 | none=>(bp (ct s)).map fun x=>(⟨4,[],[],x⟩,iF s)
def Rw:∀(k:Nat) (n:ZA) (l:List Pr) (s r:ZA) (t:Tk),s.length<=k->jV n l s=some (t,r)->r.length<s.length:=by
 intro k
 induction k with
 | zero =>
  intro n l s r t hk h
  obtain rfl:=XY.1 (YQ.1 hk)
  rw[px (by rfl) (by simp[aT])]at h;cases h
 | succ k ih =>
  intro n l s r t hk h
  have hs:=dm s
  cases he:jB (aT s) with
  | some p =>
   obtain⟨m,u⟩:=p
   rw[lG he]at h
   cases h
   unfold jB at he
   grind
  | none =>
   cases ha:fY (aT s) with
   | none=>simp_all[pw]
   | some p =>
    obtain⟨a,u⟩:=p
    have hl:=mQ ha
    cases hd:l.any fun b=>a.name==b.name with
    | true=>rw[py he ha hd]at h;cases h
    | false =>
     by_cases hg:(aT s).length<s.length
     ·rw[oM he hg ha hd]at h
      grind
     simp_all[px]
def TD {s r:ZA}{t:Tk}(h:j0 s=some (t,r)):r.length<s.length:=by
 unfold j0 at h
 split at h
 ·rename_i u hu
  obtain⟨⟨n,r1⟩,h1,h2⟩:=WC.1 h
  obtain⟨r2,h3,h4⟩:=BY.1 h2
  cases h4
  have l1:=(e9 h1).2.2.2
  have l2:=dm r1
  rw[bG h3]at l2
  rw[bG hu]
  grind
 ·obtain⟨⟨n,r1⟩,h1,h2⟩:=WC.1 h
  have l1:=(e9 h1).2.2.2
  have l2:=Rw _ n [] r1 r t (IS _) h2
  omega
def A9 {s r:ZA}{t:Tk}(hne:s≠[])(h:iT s=some (t,r)):r.length<s.length:=by
 unfold iT at h
 split at h
 ·rename_i u hu
  have:=TD h
  rw[bG hu];simp;omega
 ·rename_i hu
  obtain⟨x,_,h2⟩:=BY.1 h
  cases h2
  cases s with
  | nil=>simp_all
  | cons c s =>
   have hc:iE c=true:=by
    rw[dF]at hu
    split at hu
    ·cases hu
    ·rename_i e;simp[iE,e]
   unfold iF
   rw[Xe,if_pos hc]
   have:=mV (p:=iE) s
   simp;omega
def iQ (n:Nat)(l:List Tk)(s:ZA):List Tk×Nat×Int :=
 if hn:s=[] then (l,0,0) else if 512<=l.length then ([],n-s.length,4) else match h:iT s with
  | none=>([],n-s.length,80)
  | some (t,r)=>if 16<t.attrs.length then ([],n-s.length,4) else iQ n (l++[t]) r
termination_by s.length
decreasing_by exact A9 hn h
def rB (n:Nat)(l:List Tk):iQ n l []=(l,0,0):=by rw[iQ,dif_pos rfl]
def sL {n:Nat}{l:List Tk}{s:ZA}(h:s≠[])(h2:512<=l.length):iQ n l s=([],n-s.length,4):=by simp_all[iQ]
def v3 {n:Nat}{l:List Tk}{s:ZA}(h:s≠[])(h2:l.length<512)(h3:iT s=none):iQ n l s=([],n-s.length,80):=by
 rw[iQ,dif_neg h,if_neg Y6]
 grind
def qv {n:Nat}{l:List Tk}{s r:ZA}{t:Tk}(h:s≠[])(h2:l.length<512)(h3:iT s=some (t,r))(h4:16<t.attrs.length):iQ n l s=([],n-s.length,4):=by
 rw[iQ,dif_neg h,if_neg Y6]
 grind
def uB {n:Nat}{l:List Tk}{s r:ZA}{t:Tk}(h:s≠[])(h2:l.length<512)(h3:iT s=some (t,r))(h4:t.attrs.length<=16):iQ n l s=iQ n (l++[t]) r:=by
 rw[iQ,dif_neg h,if_neg Y6]
 grind
def bW (s:ZA):List Tk×Nat×Int:=if az s≠0 then ([],0,az s) else iQ s.length [] s
set_option maxRecDepth 100000
set_option maxHeartbeats 32000000
open Go Go.RowKit Vm Go.Lib Tryz
def qI (r:Int):Bool:=(decide (0<=r)&&decide (r<55296))||(decide (57343<r)&&decide (r<=1114111))
def Ea (r:Int)(nm:Nat):Ev cx 173 nm [.int .i32 r] ah.nil (.bool (qI r)) []:=by
 unfold qI
 refine aG call173 func173 results173 ntmps173 ?_;intro b0 hb0 zN
 (have zF:=trivial;repeat' first|refine wS ?_|exact wE|((first|apply b7)<;>intro hb) | apply Fin.pure|simp only[aB])
 all_goals simp_all
def pv (n:Int)(nm:Nat):Ev cx 141 nm [.int .i64 n] ah.nil (.bool (hY n)) []:=by
 refine aG call141 func141 results141 ntmps141 ?_;intro b0 hb0 zN
 (repeat' first|simp only[results141,ntmps141,aF,au,aH,seval]|((first|apply b7)<;>intro hb) | apply Fin.pure|simp only[aB])
 all_goals simp only[WD,XA,W3,Wb,ne_eq]at *
 all_goals (first|(exfalso;omega)|exact UU Y6|exact UT Y6|skip)
 have hw:IntKind.i32.wrap n=n:=IntWalk.i32_in _ Y6
 rw[hw]
 have hv:qI n=hY n:=by
  cases h:hY n with
  | true =>
   have:=(fU n).1 h
   unfold qI
   simp only[Xf,In,WD];omega
  | false =>
   have h':¬ _:=fun q=>by rw[(fU n).2 q]at h;cases h
   unfold qI
   simp only[XK,Wo,XA];omega
 (repeat' first|simp only[results141,ntmps141,hv,au,seval]|(refine ad ?_ (Ea n _) ?_) | apply Fin.pure)
def preB (s p:ZA):Bool:=decide (p.length<=s.length)&&(s.take p.length==p)
def yQ (s p:ZA)(hs:s.length<=aN)(hp:p.length<=aN)(nm:Nat):Ev cx 172 nm [.str s,.str p] ah.nil (.bool (preB s p)) []:=by
 unfold aN at hs hp
 unfold preB
 refine aG call172 func172 results172 ntmps172 ?_;intro b0 hb0 zN
 exact xP @WD trivial
def NI (s p:ZA)(hs:s.length<=aN)(hp:p.length<=aN)(nm:Nat):Ev cx 140 nm [.str s,.str p] ah.nil (.bool (preB s p)) []:=by
 refine aG call140 func140 results140 ntmps140 ?_;intro b0 hb0 zN
 exact xP trivial (yQ s p hs hp)
end Go.Proofs.YtgboofebldgdjaaGreatDoor
