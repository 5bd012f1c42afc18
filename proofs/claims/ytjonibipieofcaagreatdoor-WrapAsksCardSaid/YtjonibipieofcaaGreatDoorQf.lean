/-
 Texts joined: XTy,XWK,XEp,XEq,XEr,XEs,XEx,XEn,XLa,XUa,XGa,XGb,XNa,XEa.
-/
import Derived.Test.YtjonibipieofcaaGreatDoorChecked
import Derived.Lib.LaidU8
import Derived.Lib.ItoaNum
import Derived.Lib.RuneBytes
import Derived.Lib.MapLaws
import Derived.Lib.RuneCountTail
import Derived.Lib.IndexLaws
import Derived.Test.YtjonibipieofcaaGreatDoorQe
set_option linter.all false
namespace Go.Proofs.YtjonibipieofcaaGreatDoor
set_option maxRecDepth 100000
set_option maxHeartbeats 32000000
open Go Go.RowKit Vm Go.Lib Tryz
open Vm renaming aI->Ca,aP->Cb
open And renaming intro->Ai
open List renaming length_map->Lm,not_mem_nil->Ln,map_nil->Lo,map_cons->Lc,mem_cons->Lk
open Bool renaming not_false->Bf,not_true->Bt
def zg:V:=.rp (Lib.pow10Tab.map fun z=>.int .u64 z)
def xQ:V:=.rp [.iface 181 (.agg [.val (.pointer (some ⟨5,108,none⟩))])]
def zd (g:Nat):V:=if g=2 then zg else if g=0 then xQ else .any
def Bw:zg.plain=true:=by decide +kernel
noncomputable def cx:Cx:=⟨Tryz.prog,zd,[]⟩
def jI:∀ g,(cx.G g).plain=true:=fun g=>by
 show(zd g).plain=true
 unfold zd
 split
 ·exact Bw
 ·split
  ·rfl
  ·rfl
def mixed:cx.P.follows .mixedOrders=true:=by kernel_rfl
def aX {f:FuncId}{nm:Nat}{args:List V}{M:ao}{v:V}{eff:List (Nat×Option Blk)}{fn:Func}{c:Code}(hcall:∀ cargs w,(callFunc f cargs).run cx.P w = .ok (.enter f cargs) w)(hf:cx.P.funcs[f]? = some fn)
  (hvc:∀ b0,(∀ x,b0<=x->M x=none)->go cx (sc cx fn nm M v eff b0) [] b0 (kQ args) M c)(hb:fn.body=some c:=by rfl)(hin:dL fn.ntmps c=true:=by kernel_rfl)(hargs:decide (args.length<=fn.ntmps)=true:=by rfl):Ev cx f nm args M v eff:=N1 rfl hcall hf hb mixed hin hargs hvc
def ew {Q:Post}{st:List Frm}{nm:Nat}{e:Env}{M:ao}{c:Code}{α:Type}(μ:α->Nat)(P:α->Prop)(nmS:Nat)(Es:α->List (Nat×V))(Ms:α->List (Nat×Blk))(x0:α)(src:List (Option Nat))(hME:ib (sZ (dj (b8 (Ms x0) src))) Q.b0 nmS M (b8 (Ms x0) src)/\ju M (dj (b8 (Ms x0) src)) e (Es x0))(h0:P x0)(hr:∀ x,P x->go cx Q (.again (nU μ P nmS Es Ms) (μ x)::st) nmS (jv (Es x)) (gl (Ms x)) c)(hb:Q.b0<=nmS:=by exact Nat.le_add_right _ _):lJ cx Q st nm e M c:=DL jI μ P nmS Es Ms x0 src h0 hb hME hr
def Oj {Q:Post}{st:List Frm}{nm:Nat}{e:Env}{M:ao}{c:Code}{α:Type}(μ:α->Nat)(P:α->Prop)(nmS:Nat)(Es:α->List (Nat×V))(Ms:α->List (Nat×Blk))(x0:α)(src:List (Option Nat))(hME:ib (tX (dj (b8 (Ms x0) src)) M) Q.b0 nmS M (b8 (Ms x0) src)/\ju M (dj (b8 (Ms x0) src)) e (Es x0))(h0:P x0)(hr:∀ x,P x->go cx Q (.again (nU μ P nmS Es Ms) (μ x)::st) nmS (jv (Es x)) (gl (Ms x)) c)(hb:Q.b0<=nmS:=by exact Nat.le_add_right _ _):lJ cx Q st nm e M c:=AJ jI μ P nmS Es Ms x0 src h0 hb hME hr
def de {Q:Post}{st:List Frm}{nm:Nat}{e:Env}{M:ao}{α:Type}{μ:α->Nat}{P:α->Prop}{nmS:Nat}{Es:α->List (Nat×V)}{Ms:α->List (Nat×Blk)}{g:Nat}(x:α)(src:List (Option Nat))(hME:ib (sZ (dj (b8 (Ms x) src))) Q.b0 nmS M (b8 (Ms x) src)/\ju M (dj (b8 (Ms x) src)) e (Es x))(hg:μ x<g)(h0:P x)(hb:Q.b0<=nmS:=by exact Nat.le_add_right _ _):eu cx Q (.again (nU μ P nmS Es Ms) g::st) nm e M .normal:=zA jI x src hg h0 hb hME
def ND {Q:Post}{st:List Frm}{nm:Nat}{e:Env}{M:ao}{α:Type}{μ:α->Nat}{P:α->Prop}{nmS:Nat}{Es:α->List (Nat×V)}{Ms:α->List (Nat×Blk)}{g:Nat}(x:α)(src:List (Option Nat))(hME:ib (tX (dj (b8 (Ms x) src)) M) Q.b0 nmS M (b8 (Ms x) src)/\ju M (dj (b8 (Ms x) src)) e (Es x))(hg:μ x<g)(h0:P x)(hb:Q.b0<=nmS:=by exact Nat.le_add_right _ _):eu cx Q (.again (nU μ P nmS Es Ms) g::st) nm e M .normal:=xh jI x src hg h0 hb hME
def PZ {Q:Post}{st:List Frm}{nm:Nat}{e:Env}{M:ao}{fs:List (List Nat)}{ops:List Oper}(ps:List (Nat×Nat))(h:eu cx Q st nm e M .normal)(hp:sP cx.P ops=ps:=by decide +kernel)(hps:∀ p∈ps,∀ x∈fs.getD p.1 [],x∉fs.getD p.2 []:=by simp only [List.forall_mem_cons,List.getD_cons_zero,List.getD_cons_succ]<;>(try simp)<;>(try omega)):x9 cx Q st nm e M fs ops:=ag hp hps h
def eD (k:Nat)(h:k<9223372036854775807:=by omega):IntKind.i64.wrap ((k:Int)+1)=((k+1:Nat):Int):=bH
def sC (a b:Nat)(h:a<b:=by omega):decide ((a:Int)<(b:Int))=true:=dh
def nu (a b:Nat)(h:¬a<b:=by omega):decide ((a:Int)<(b:Int))=false:=bi
def jB (a b:Nat)(h:a<b:=by omega):(a:Int)<(b:Int):=by omega
def ic {α:Type}{l:List α}{k:Nat}(h:k<l.length):∃ x,l[k]? = some x:=⟨_,List.getElem?_eq_getElem h⟩
def Oz:ty cx.P 24=some (16,true):=by kernel_rfl
def K7:dH cx.P 24=some [.int .i64 0,.str [],.str [],.str [],.str [],.int .i64 0,.int .i64 0,.int .i64 0,.int .i64 0,.int .i64 0,.int .i64 0,.str [],.str [],.bool false,.bool false,.nils]:=by kernel_rfl
def LJ:gu cx.P 24=none:=by kernel_rfl
def Dp:iz cx.P 24 15=some (15,1,false):=by kernel_rfl
def Oy:ty cx.P 22=some (1,false):=by kernel_rfl
def Nq:cx.P.underlying 22=some (.slice 26):=by kernel_rfl
def NO:cp cx.P 22=some ([.nils],24):=by kernel_rfl
def Od:bY cx.P 22=true:=by kernel_rfl
def NV:iv cx.P 22=some 26:=by kernel_rfl
def LB:pg cx.P 22=none:=by kernel_rfl
def OW:cx.P.underlying 3=some (.int .i64):=by kernel_rfl
def Me:mL cx.P 22=some (none,1,false):=by kernel_rfl
def OA:ty cx.P 26=some (1,false):=by kernel_rfl
def OZ:cx.P.underlying 9=some .string:=by kernel_rfl
def Pg:bY cx.P 9=true:=by kernel_rfl
def OX:cx.P.underlying 4=some .bool:=by kernel_rfl
def FQ:iz cx.P 24 1=some (1,1,false):=by kernel_rfl
def Pl:ty cx.P 9=some (1,false):=by kernel_rfl
def FR:iz cx.P 24 2=some (2,1,false):=by kernel_rfl
def FS:iz cx.P 24 3=some (3,1,false):=by kernel_rfl
def FT:iz cx.P 24 4=some (4,1,false):=by kernel_rfl
def Dl:iz cx.P 24 11=some (11,1,false):=by kernel_rfl
def Dm:iz cx.P 24 12=some (12,1,false):=by kernel_rfl
def Nr:cx.P.underlying 26=some (.slice 37):=by kernel_rfl
def NP:cp cx.P 26=some ([.int .u8 0,.str [],.str [],.nils,.str [],.int .i64 0],88):=by kernel_rfl
def Oe:bY cx.P 26=true:=by kernel_rfl
def NW:iv cx.P 26=some 37:=by kernel_rfl
def LC:pg cx.P 26=none:=by kernel_rfl
def Mg:mL cx.P 26=some (none,6,true):=by kernel_rfl
def OD:ty cx.P 37=some (6,true):=by kernel_rfl
def La:dH cx.P 37=some [.int .u8 0,.str [],.str [],.nils,.str [],.int .i64 0]:=by kernel_rfl
def LM:gu cx.P 37=none:=by kernel_rfl
def NQ:cp cx.P 35=some ([.str [],.str [],.str []],48):=by kernel_rfl
def F3:iz cx.P 37 3=some (3,1,false):=by kernel_rfl
def OC:ty cx.P 35=some (1,false):=by kernel_rfl
def Nt:cx.P.underlying 35=some (.slice 46):=by kernel_rfl
def Of:bY cx.P 35=true:=by kernel_rfl
def NX:iv cx.P 35=some 46:=by kernel_rfl
def LD:pg cx.P 35=none:=by kernel_rfl
def HC:io cx.P 37=some ([.int .u8 0,.str [],.str [],.nils,.str [],.int .i64 0],[(0,1),(1,1),(2,1),(3,1),(4,1),(5,1)]):=by kernel_rfl
def Mi:mL cx.P 42=some (some 14,4,true):=by kernel_rfl
def Nu:cx.P.underlying 42=some (.array 14 41):=by kernel_rfl
def Lb:dH cx.P 41=some [.str [],.str [],.val .nilFunc,.val .nilFunc]:=by kernel_rfl
def LN:gu cx.P 41=none:=by kernel_rfl
def OH:ty cx.P 41=some (4,true):=by kernel_rfl
def F8:iz cx.P 41 3=some (3,1,false):=by kernel_rfl
def OG:ty cx.P 39=some (1,false):=by kernel_rfl
def F6:iz cx.P 41 0=some (0,1,false):=by kernel_rfl
def F7:iz cx.P 41 1=some (1,1,false):=by kernel_rfl
def HF:io cx.P 46=some ([.str [],.str [],.str []],[(0,1),(1,1),(2,1)]):=by kernel_rfl
def Ns:cx.P.underlying 28=some (.int .i64):=by kernel_rfl
def FP:iz cx.P 24 0=some (0,1,false):=by kernel_rfl
def Pi:ty cx.P 3=some (1,false):=by kernel_rfl
def FU:iz cx.P 24 5=some (5,1,false):=by kernel_rfl
def FV:iz cx.P 24 6=some (6,1,false):=by kernel_rfl
def FW:iz cx.P 24 7=some (7,1,false):=by kernel_rfl
def FY:iz cx.P 24 8=some (8,1,false):=by kernel_rfl
def FZ:iz cx.P 24 9=some (9,1,false):=by kernel_rfl
def Dk:iz cx.P 24 10=some (10,1,false):=by kernel_rfl
def Dn:iz cx.P 24 13=some (13,1,false):=by kernel_rfl
def Pj:ty cx.P 4=some (1,false):=by kernel_rfl
def Do:iz cx.P 24 14=some (14,1,false):=by kernel_rfl
def F2:iz cx.P 37 2=some (2,1,false):=by kernel_rfl
def F1:iz cx.P 37 1=some (1,1,false):=by kernel_rfl
def F4:iz cx.P 37 4=some (4,1,false):=by kernel_rfl
def Mh:mL cx.P 35=some (none,3,true):=by kernel_rfl
def OK:ty cx.P 46=some (3,true):=by kernel_rfl
def Le:dH cx.P 46=some [.str [],.str [],.str []]:=by kernel_rfl
def LP:gu cx.P 46=none:=by kernel_rfl
def Ga:iz cx.P 46 1=some (1,1,false):=by kernel_rfl
def F9:iz cx.P 46 0=some (0,1,false):=by kernel_rfl
def Gb:iz cx.P 46 2=some (2,1,false):=by kernel_rfl
def NS:cp cx.P 70=some ([.int .i64 0],8):=by kernel_rfl
def NR:cp cx.P 69=some ([.str []],16):=by kernel_rfl
def Ld:dH cx.P 42=some [.str [],.str [],.val .nilFunc,.val .nilFunc,.str [],.str [],.val .nilFunc,.val .nilFunc,.str [],.str [],.val .nilFunc,.val .nilFunc,.str [],.str [],.val .nilFunc,.val .nilFunc,.str [],.str [],.val .nilFunc,.val .nilFunc,.str [],.str [],.val .nilFunc,.val .nilFunc,.str [],.str [],.val .nilFunc,.val .nilFunc,.str [],.str [],.val .nilFunc,.val .nilFunc,.str [],.str [],.val .nilFunc,.val .nilFunc,.str [],.str [],.val .nilFunc,.val .nilFunc,.str [],.str [],.val .nilFunc,.val .nilFunc,.str [],.str [],.val .nilFunc,.val .nilFunc,.str [],.str [],.val .nilFunc,.val .nilFunc,.str [],.str [],.val .nilFunc,.val .nilFunc]:=by kernel_rfl
def LO:gu cx.P 42=none:=by kernel_rfl
def HE:io cx.P 42=some ([.str [],.str [],.val .nilFunc,.val .nilFunc,.str [],.str [],.val .nilFunc,.val .nilFunc,.str [],.str [],.val .nilFunc,.val .nilFunc,.str [],.str [],.val .nilFunc,.val .nilFunc,.str [],.str [],.val .nilFunc,.val .nilFunc,.str [],.str [],.val .nilFunc,.val .nilFunc,.str [],.str [],.val .nilFunc,.val .nilFunc,.str [],.str [],.val .nilFunc,.val .nilFunc,.str [],.str [],.val .nilFunc,.val .nilFunc,.str [],.str [],.val .nilFunc,.val .nilFunc,.str [],.str [],.val .nilFunc,.val .nilFunc,.str [],.str [],.val .nilFunc,.val .nilFunc,.str [],.str [],.val .nilFunc,.val .nilFunc,.str [],.str [],.val .nilFunc,.val .nilFunc],[(0,4),(4,4),(8,4),(12,4),(16,4),(20,4),(24,4),(28,4),(32,4),(36,4),(40,4),(44,4),(48,4),(52,4)]):=by kernel_rfl
def OI:ty cx.P 42=some (56,true):=by kernel_rfl
def F5:iz cx.P 37 5=some (5,1,false):=by kernel_rfl
def Nw:cx.P.underlying 70=some (.slice 3):=by kernel_rfl
def Oh:bY cx.P 70=true:=by kernel_rfl
def Lf:dH cx.P 58=some [.val .nilFunc]:=by kernel_rfl
def LQ:gu cx.P 58=none:=by kernel_rfl
def OL:ty cx.P 58=some (1,false):=by kernel_rfl
def HG:io cx.P 76=some ([.str [],.str [],.nils,.nils],[(0,1),(1,1),(2,1),(3,1)]):=by kernel_rfl
def Ma:cp cx.P 106=some ([.val .nilFunc],8):=by kernel_rfl
def Gd:iz cx.P 76 1=some (1,1,false):=by kernel_rfl
def F0:iz cx.P 37 0=some (0,1,false):=by kernel_rfl
def Pk:ty cx.P 5=some (1,false):=by kernel_rfl
def OY:cx.P.underlying 5=some (.int .u8):=by kernel_rfl
def Li:dH cx.P 87=some [.val .nilFunc]:=by kernel_rfl
def LU:gu cx.P 87=none:=by kernel_rfl
def OT:ty cx.P 87=some (1,false):=by kernel_rfl
def Lj:dH cx.P 91=some [.val .nilFunc]:=by kernel_rfl
def LV:gu cx.P 91=none:=by kernel_rfl
def OU:ty cx.P 91=some (1,false):=by kernel_rfl
def HD:io cx.P 41=some ([.str [],.str [],.val .nilFunc,.val .nilFunc],[(0,1),(1,1),(2,1),(3,1)]):=by kernel_rfl
def Mk:mL cx.P 70=some (none,1,false):=by kernel_rfl
def Lg:dH cx.P 70=some [.nils]:=by kernel_rfl
def LR:gu cx.P 70=none:=by kernel_rfl
def OQ:ty cx.P 70=some (1,false):=by kernel_rfl
def Ik:dH cx.P 103=some [.val .nilFunc]:=by kernel_rfl
def IR:gu cx.P 103=none:=by kernel_rfl
def M8:ty cx.P 103=some (1,false):=by kernel_rfl
def K9:dH cx.P 28=some [.int .i64 0]:=by kernel_rfl
def LL:gu cx.P 28=none:=by kernel_rfl
def KQ:cx.P.underlying 106=some (.slice 78):=by kernel_rfl
def MM:bY cx.P 106=true:=by kernel_rfl
def Mn:iv cx.P 106=some 78:=by kernel_rfl
def IK:pg cx.P 106=none:=by kernel_rfl
def I8:mL cx.P 106=some (none,1,false):=by kernel_rfl
def OS:ty cx.P 78=some (1,false):=by kernel_rfl
def OB:ty cx.P 28=some (1,false):=by kernel_rfl
def Gf:iz cx.P 76 3=some (3,1,false):=by kernel_rfl
def Gc:iz cx.P 76 0=some (0,1,false):=by kernel_rfl
def Ge:iz cx.P 76 2=some (2,1,false):=by kernel_rfl
def OR:ty cx.P 74=some (1,false):=by kernel_rfl
def Nx:cx.P.underlying 74=some (.slice 125):=by kernel_rfl
def NT:cp cx.P 74=some ([.int .u8 0,.str [],.nils,.str []],64):=by kernel_rfl
def Oi:bY cx.P 74=true:=by kernel_rfl
def N0:iv cx.P 74=some 125:=by kernel_rfl
def LH:pg cx.P 74=none:=by kernel_rfl
def Ml:mL cx.P 74=some (none,4,true):=by kernel_rfl
def Nb:ty cx.P 125=some (4,true):=by kernel_rfl
def Db:iz cx.P 125 0=some (0,1,false):=by kernel_rfl
def Mr:sk cx.P 46=some [(0,1),(1,1),(2,1)]:=by kernel_rfl
def Np:cx.P.underlying 21=some (.int .i32):=by kernel_rfl
def OM:ty cx.P 63=some (1,false):=by kernel_rfl
def KS:cx.P.underlying 135=some (.slice 5):=by kernel_rfl
def LY:lu cx.P 135=true:=by kernel_rfl
def Mc:cp cx.P 135=some ([.int .u8 0],1):=by kernel_rfl
def MO:bY cx.P 135=true:=by kernel_rfl
def Mp:iv cx.P 135=some 5:=by kernel_rfl
def IM:pg cx.P 135=some 5:=by kernel_rfl
def Ja:mL cx.P 135=some (none,1,false):=by kernel_rfl
def ON:ty cx.P 65=some (1,false):=by kernel_rfl
def OE:ty cx.P 38=some (1,false):=by kernel_rfl
def OJ:ty cx.P 44=some (1,false):=by kernel_rfl
def OO:ty cx.P 68=some (1,false):=by kernel_rfl
def OP:ty cx.P 69=some (1,false):=by kernel_rfl
def Mj:mL cx.P 69=some (none,1,false):=by kernel_rfl
def Im:dH cx.P 146=some [.nilp,.nilp,.int .u64 0]:=by kernel_rfl
def IV:gu cx.P 146=none:=by kernel_rfl
def Nf:ty cx.P 146=some (3,true):=by kernel_rfl
def KU:cx.P.underlying 151=some (.int .u8):=by kernel_rfl
def Ng:ty cx.P 149=some (1,false):=by kernel_rfl
def K8:dH cx.P 26=some [.nils]:=by kernel_rfl
def LK:gu cx.P 26=none:=by kernel_rfl
def Io:dH cx.P 156=some [.val .nilFunc]:=by kernel_rfl
def IW:gu cx.P 156=none:=by kernel_rfl
def Nh:ty cx.P 156=some (1,false):=by kernel_rfl
def Lh:dH cx.P 74=some [.nils]:=by kernel_rfl
def LS:gu cx.P 74=none:=by kernel_rfl
def Nz:dH cx.P 4=some [.bool false]:=by kernel_rfl
def NF:gu cx.P 4=none:=by kernel_rfl
def Ip:dH cx.P 158=some [.val .nilFunc]:=by kernel_rfl
def IX:gu cx.P 158=none:=by kernel_rfl
def Ni:ty cx.P 158=some (1,false):=by kernel_rfl
def Il:dH cx.P 125=some [.int .u8 0,.str [],.nils,.str []]:=by kernel_rfl
def IU:gu cx.P 125=none:=by kernel_rfl
def Ir:dH cx.P 165=some [.nilp,.nils]:=by kernel_rfl
def IZ:gu cx.P 165=some 165:=by kernel_rfl
def Ez:io cx.P 125=some ([.int .u8 0,.str [],.nils,.str []],[(0,1),(1,1),(2,1),(3,1)]):=by kernel_rfl
def NZ:iv cx.P 70=some 3:=by kernel_rfl
def LG:pg cx.P 70=none:=by kernel_rfl
def Dc:iz cx.P 125 1=some (1,1,false):=by kernel_rfl
def Dd:iz cx.P 125 2=some (2,1,false):=by kernel_rfl
def Na:ty cx.P 123=some (1,false):=by kernel_rfl
def De:iz cx.P 125 3=some (3,1,false):=by kernel_rfl
def KR:cx.P.underlying 123=some (.slice 160):=by kernel_rfl
def Mb:cp cx.P 123=some ([.str [],.str []],32):=by kernel_rfl
def MN:bY cx.P 123=true:=by kernel_rfl
def Mo:iv cx.P 123=some 160:=by kernel_rfl
def IL:pg cx.P 123=none:=by kernel_rfl
def I9:mL cx.P 123=some (none,2,true):=by kernel_rfl
def Df:iz cx.P 160 0=some (0,1,false):=by kernel_rfl
def Dg:iz cx.P 160 1=some (1,1,false):=by kernel_rfl
def Nv:cx.P.underlying 69=some (.slice 9):=by kernel_rfl
def Og:bY cx.P 69=true:=by kernel_rfl
def NY:iv cx.P 69=some 9:=by kernel_rfl
def LF:pg cx.P 69=none:=by kernel_rfl
def KW:cx.P.underlying 191=some (.slice 108):=by kernel_rfl
def Md:cp cx.P 191=some ([.val .nilIface],16):=by kernel_rfl
def MP:bY cx.P 191=true:=by kernel_rfl
def Mq:iv cx.P 191=some 108:=by kernel_rfl
def IP:pg cx.P 191=none:=by kernel_rfl
def Jb:mL cx.P 191=some (none,1,false):=by kernel_rfl
def M9:ty cx.P 108=some (1,false):=by kernel_rfl
def EA:io cx.P 160=some ([.str [],.str []],[(0,1),(1,1)]):=by kernel_rfl
def Nj:ty cx.P 160=some (2,true):=by kernel_rfl
def Iq:dH cx.P 160=some [.str [],.str []]:=by kernel_rfl
def IY:gu cx.P 160=none:=by kernel_rfl
def Di:iz cx.P 165 1=some (1,1,false):=by kernel_rfl
def Nc:ty cx.P 135=some (1,false):=by kernel_rfl
def KX:cx.P.underlying 197=some (.pointer 5):=by kernel_rfl
def Dh:iz cx.P 165 0=some (0,1,false):=by kernel_rfl
def Nk:ty cx.P 163=some (1,false):=by kernel_rfl
def KV:cx.P.underlying 163=some (.pointer 165):=by kernel_rfl
def KT:cx.P.underlying 143=some .unsafePointer:=by kernel_rfl
def It:dH cx.P 216=some [.str []]:=by kernel_rfl
def I0:gu cx.P 216=none:=by kernel_rfl
def Nl:ty cx.P 216=some (1,true):=by kernel_rfl
def Dj:iz cx.P 216 0=some (0,1,false):=by kernel_rfl
def OV:cx.P.underlying 2=some (.int .i64):=by kernel_rfl
def Iu:dH cx.P 220=some [.int .u8 0,.int .u8 0,.int .u8 0,.int .u8 0,.int .u8 0,.int .u8 0,.int .u8 0,.int .u8 0,.int .u8 0,.int .u8 0,.int .u8 0,.int .u8 0,.int .u8 0,.int .u8 0,.int .u8 0,.int .u8 0,.int .u8 0,.int .u8 0,.int .u8 0,.int .u8 0,.int .u8 0,.int .u8 0,.int .u8 0,.int .u8 0]:=by kernel_rfl
def I1:gu cx.P 220=none:=by kernel_rfl
def K0:cx.P.underlying 221=some (.int .u64):=by kernel_rfl
def Jc:mL cx.P 220=some (some 24,1,false):=by kernel_rfl
def KZ:cx.P.underlying 220=some (.array 24 5):=by kernel_rfl
def K1:cx.P.underlying 226=some (.int .u32):=by kernel_rfl
def EB:io cx.P 216=some ([.str []],[(0,1)]):=by kernel_rfl
def Jd:mL cx.P 231=some (some 20,1,false):=by kernel_rfl
def Nm:ty cx.P 221=some (1,false):=by kernel_rfl
def Iv:dH cx.P 232=some [.int .u8 0,.int .u8 0,.int .u8 0,.int .u8 0,.int .u8 0,.int .u8 0,.int .u8 0,.int .u8 0,.int .u8 0,.int .u8 0,.int .u8 0,.int .u8 0,.int .u8 0,.int .u8 0,.int .u8 0,.int .u8 0,.int .u8 0,.int .u8 0,.int .u8 0,.int .u8 0,.int .u8 0,.int .u8 0,.int .u8 0,.int .u8 0,.int .u8 0,.int .u8 0,.int .u8 0,.int .u8 0,.int .u8 0,.int .u8 0,.int .u8 0,.int .u8 0,.int .u8 0,.int .u8 0,.int .u8 0,.int .u8 0,.int .u8 0,.int .u8 0,.int .u8 0,.int .u8 0,.int .u8 0,.int .u8 0,.int .u8 0,.int .u8 0,.int .u8 0,.int .u8 0,.int .u8 0,.int .u8 0,.int .u8 0,.int .u8 0,.int .u8 0,.int .u8 0,.int .u8 0,.int .u8 0,.int .u8 0,.int .u8 0,.int .u8 0,.int .u8 0,.int .u8 0,.int .u8 0,.int .u8 0,.int .u8 0,.int .u8 0,.int .u8 0,.int .u8 0]:=by kernel_rfl
def I2:gu cx.P 232=none:=by kernel_rfl
def KY:cx.P.underlying 212=some (.int .u64):=by kernel_rfl
def Je:mL cx.P 232=some (some 65,1,false):=by kernel_rfl
def K2:cx.P.underlying 232=some (.array 65 5):=by kernel_rfl
def Jf:mL cx.P 235=some (some 32,1,false):=by kernel_rfl
def Jg:mL cx.P 236=some (some 64,1,false):=by kernel_rfl
set_option linter.defProp false in
def ai:=(Ai Oz (Ai K7 (Ai LJ (Ai Dp (Ai Oy (Ai Nq (Ai NO (Ai Od (Ai NV (Ai LB (Ai OW (Ai Me (Ai OA (Ai OZ (Ai Pg (Ai OX (Ai FQ (Ai Pl (Ai FR (Ai FS (Ai FT (Ai Dl (Ai Dm (Ai Nr (Ai NP (Ai Oe (Ai NW (Ai LC (Ai Mg (Ai OD (Ai La (Ai LM (Ai NQ (Ai F3 (Ai OC (Ai Nt (Ai Of (Ai NX (Ai LD (Ai HC (Ai Mi (Ai Nu (Ai Lb (Ai LN (Ai OH (Ai F8 (Ai OG (Ai F6 (Ai F7 (Ai HF (Ai Ns (Ai FP (Ai Pi (Ai FU (Ai FV (Ai FW (Ai FY (Ai FZ (Ai Dk (Ai Dn (Ai Pj (Ai Do (Ai F2 (Ai F1 (Ai F4 (Ai Mh (Ai OK (Ai Le (Ai LP (Ai Ga (Ai F9 (Ai Gb (Ai NS (Ai NR (Ai Ld (Ai LO (Ai HE (Ai OI (Ai F5 (Ai Nw (Ai Oh (Ai Lf (Ai LQ (Ai OL (Ai HG (Ai Ma (Ai Gd (Ai F0 (Ai Pk (Ai OY (Ai Li (Ai LU (Ai OT (Ai Lj (Ai LV (Ai OU (Ai HD (Ai Mk (Ai Lg (Ai LR (Ai OQ (Ai Ik (Ai IR (Ai M8 (Ai K9 (Ai LL (Ai KQ (Ai MM (Ai Mn (Ai IK (Ai I8 (Ai OS (Ai OB (Ai Gf (Ai Gc (Ai Ge (Ai OR (Ai Nx (Ai NT (Ai Oi (Ai N0 (Ai LH (Ai Ml (Ai Nb (Ai Db (Ai Mr (Ai Np (Ai OM (Ai KS (Ai LY (Ai Mc (Ai MO (Ai Mp (Ai IM (Ai Ja (Ai ON (Ai OE (Ai OJ (Ai OO (Ai OP (Ai Mj (Ai Im (Ai IV (Ai Nf (Ai KU (Ai Ng (Ai K8 (Ai LK (Ai Io (Ai IW (Ai Nh (Ai Lh (Ai LS (Ai Nz (Ai NF (Ai Ip (Ai IX (Ai Ni (Ai Il (Ai IU (Ai Ir (Ai IZ (Ai Ez (Ai NZ (Ai LG (Ai Dc (Ai Dd (Ai Na (Ai De (Ai KR (Ai Mb (Ai MN (Ai Mo (Ai IL (Ai I9 (Ai Df (Ai Dg (Ai Nv (Ai Og (Ai NY (Ai LF (Ai KW (Ai Md (Ai MP (Ai Mq (Ai IP (Ai Jb (Ai M9 (Ai EA (Ai Nj (Ai Iq (Ai IY (Ai Di (Ai Nc (Ai KX (Ai Dh (Ai Nk (Ai KV (Ai KT (Ai It (Ai I0 (Ai Nl (Ai Dj (Ai OV (Ai Iu (Ai I1 (Ai K0 (Ai Jc (Ai KZ (Ai K1 (Ai EB (Ai Jd (Ai Nm (Ai Iv (Ai I2 (Ai KY (Ai Je (Ai K2 (Ai Jf (Ai Jg True.intro))))))))))))))))))))))))))))))))))))))))))))))))))))))))))))))))))))))))))))))))))))))))))))))))))))))))))))))))))))))))))))))))))))))))))))))))))))))))))))))))))))))))))))))))))))))))))))))))))))))))))))))))))))))))))))
def JF:eI cx.P 46=some (.struct [9,9,9]):=by kernel_rfl
def JC:eI cx.P 35=some (.slice 46 3 48):=by kernel_rfl
def MC:eI cx.P 5=some (.int .u8):=by kernel_rfl
def JD:eI cx.P 37=some (.struct [5,9,9,35,9,3]):=by kernel_rfl
def JB:eI cx.P 26=some (.slice 37 6 88):=by kernel_rfl
def JA:eI cx.P 22=some (.slice 26 1 24):=by kernel_rfl
def Gy:eI cx.P 4=some .bool:=by kernel_rfl
def ij:eI cx.P 9=some .str:=by kernel_rfl
def lO:eI cx.P 3=some (.int .i64):=by kernel_rfl
def wA:eI cx.P 24=some (.struct [3,9,9,9,9,3,3,3,3,3,3,9,9,4,4,22]):=by kernel_rfl
def a2 {A B:Prop}(a:A)(b:B):A/\B:=⟨a,b⟩
def a3 {A B C:Prop}(a:A)(b:B)(c:C):A/\B/\C:=⟨a,b,c⟩
def a4 {A B C D:Prop}(a:A)(b:B)(c:C)(d:D):A/\B/\C/\D:=⟨a,b,c,d⟩
def a5 {A B C D E:Prop}(a:A)(b:B)(c:C)(d:D)(e:E):A/\B/\C/\D/\E:=⟨a,b,c,d,e⟩
def a6 {A B C D E F:Prop}(a:A)(b:B)(c:C)(d:D)(e:E)(f:F):A/\B/\C/\D/\E/\F:=⟨a,b,c,d,e,f⟩
def a7 {A B C D E F G:Prop}(a:A)(b:B)(c:C)(d:D)(e:E)(f:F)(g:G):A/\B/\C/\D/\E/\F/\G:=⟨a,b,c,d,e,f,g⟩
def a8 {A B C D E F G H:Prop}(a:A)(b:B)(c:C)(d:D)(e:E)(f:F)(g:G)(h:H):A/\B/\C/\D/\E/\F/\G/\H:=⟨a,b,c,d,e,f,g,h⟩
def a9 {A B C D E F G H I:Prop}(a:A)(b:B)(c:C)(d:D)(e:E)(f:F)(g:G)(h:H)(i:I):A/\B/\C/\D/\E/\F/\G/\H/\I:=⟨a,b,c,d,e,f,g,h,i⟩
def wH {G:Prop}(h:G:=by simp only[zF,am,Lm,Lo,List.length_nil,List.length_cons,Lc,Int.toNat_natCast,Bt,Bf,Bool.false_and,Bool.true_and,Bool.and_false,Bool.and_true,Bool.and_self,Bool.false_or,Bool.true_or,Bool.or_false,Bool.or_true,Nat.le_refl,List.take_length,bne_self_eq_false,beq_self_eq_true,aj,ai,seval]<;>exact rfl):G:=h
def gp {G:Prop}(h:G:=by simp only[ap,zF,am,Lm,Lo,List.length_nil,List.length_cons,Lc,Int.toNat_natCast,Bt,Bf,Bool.false_and,Bool.true_and,Bool.and_false,Bool.and_true,Bool.and_self,Bool.false_or,Bool.true_or,Bool.or_false,Bool.or_true,Nat.le_refl,List.take_length,bne_self_eq_false,beq_self_eq_true,aj,ai,seval]<;>omega):G:=h
def wP {G F C:Prop}(z:F)(c:C)(h:F->C->G:=by intro zF cF;(repeat' first|simp only[au,ap,zF,am,Lm,Lo,List.length_nil,List.length_cons,Lc,Int.toNat_natCast,Bt,Bf,Bool.false_and,Bool.true_and,Bool.and_false,Bool.and_true,Bool.and_self,Bool.false_or,Bool.true_or,Bool.or_false,Bool.or_true,Nat.le_refl,List.take_length,bne_self_eq_false,beq_self_eq_true,aj,ai,seval]|exact rfl|refine aa (v:=.any) ?_|refine ah wH (cF.1 _) ?_|refine ac wH (fun _=>cF.1 _) ?_|refine ah wH (cF _) ?_|refine ac wH (fun _=>cF _) ?_|refine ah wH (cF.2.1 _) ?_|refine ac wH (fun _=>cF.2.1 _) ?_|refine ah wH (cF.2 _) ?_|refine ac wH (fun _=>cF.2 _) ?_|refine ah wH (cF.2.2.1 _) ?_|refine ac wH (fun _=>cF.2.2.1 _) ?_|refine ah wH (cF.2.2 _) ?_|refine ac wH (fun _=>cF.2.2 _) ?_|refine ah wH (cF.2.2.2.1 _) ?_|refine ac wH (fun _=>cF.2.2.2.1 _) ?_|refine ah wH (cF.2.2.2 _) ?_|refine ac wH (fun _=>cF.2.2.2 _) ?_|refine ah wH (cF.2.2.2.2.1 _) ?_|refine ac wH (fun _=>cF.2.2.2.2.1 _) ?_|refine ah wH (cF.2.2.2.2 _) ?_|refine ac wH (fun _=>cF.2.2.2.2 _) ?_|refine ah wH (cF.2.2.2.2.2.1 _) ?_|refine ac wH (fun _=>cF.2.2.2.2.2.1 _) ?_|refine ah wH (cF.2.2.2.2.2 _) ?_|refine ac wH (fun _=>cF.2.2.2.2.2 _) ?_|refine ah wH (cF.2.2.2.2.2.2.1 _) ?_|refine ac wH (fun _=>cF.2.2.2.2.2.2.1 _) ?_|refine ah wH (cF.2.2.2.2.2.2 _) ?_|refine ac wH (fun _=>cF.2.2.2.2.2.2 _) ?_|refine ay wH (cF.1 _) gp ?_|refine ay wH (cF _) gp ?_|refine ay wH (cF.2.1 _) gp ?_|refine ay wH (cF.2 _) gp ?_|refine ay wH (cF.2.2.1 _) gp ?_|refine ay wH (cF.2.2 _) gp ?_|refine ay wH (cF.2.2.2.1 _) gp ?_|refine ay wH (cF.2.2.2 _) gp ?_|refine ay wH (cF.2.2.2.2.1 _) gp ?_|refine ay wH (cF.2.2.2.2 _) gp ?_|refine ay wH (cF.2.2.2.2.2.1 _) gp ?_|refine ay wH (cF.2.2.2.2.2 _) gp ?_|refine ay wH (cF.2.2.2.2.2.2.1 _) gp ?_|refine ay wH (cF.2.2.2.2.2.2 _) gp ?_|refine av (by decide +kernel) ?_|((first|apply Ca|apply Cb)<;>intro hb)|refine Ai (by omega) ?_|(apply Ai<;>intro hb)|apply Fin.pure|simp only[aq])):G:=h z c
def wO {G F C:Prop}(z:F)(c:C)(h:F->C->G:=by intro zF cF;(repeat' first|simp only[au,ap,zF,am,Lm,Lo,List.length_nil,List.length_cons,Lc,Int.toNat_natCast,Bt,Bf,Bool.false_and,Bool.true_and,Bool.and_false,Bool.and_true,Bool.and_self,Bool.false_or,Bool.true_or,Bool.or_false,Bool.or_true,Nat.le_refl,List.take_length,bne_self_eq_false,beq_self_eq_true,aj,ai,seval]|exact rfl|refine aa (v:=.any) ?_|refine ah wH (cF.1 _) ?_|refine ac wH (fun _=>cF.1 _) ?_|refine ah wH (cF _) ?_|refine ac wH (fun _=>cF _) ?_|refine ah wH (cF.2.1 _) ?_|refine ac wH (fun _=>cF.2.1 _) ?_|refine ah wH (cF.2 _) ?_|refine ac wH (fun _=>cF.2 _) ?_|refine ah wH (cF.2.2.1 _) ?_|refine ac wH (fun _=>cF.2.2.1 _) ?_|refine ah wH (cF.2.2 _) ?_|refine ac wH (fun _=>cF.2.2 _) ?_|refine ah wH (cF.2.2.2.1 _) ?_|refine ac wH (fun _=>cF.2.2.2.1 _) ?_|refine ah wH (cF.2.2.2 _) ?_|refine ac wH (fun _=>cF.2.2.2 _) ?_|refine ah wH (cF.2.2.2.2.1 _) ?_|refine ac wH (fun _=>cF.2.2.2.2.1 _) ?_|refine ah wH (cF.2.2.2.2 _) ?_|refine ac wH (fun _=>cF.2.2.2.2 _) ?_|refine ah wH (cF.2.2.2.2.2.1 _) ?_|refine ac wH (fun _=>cF.2.2.2.2.2.1 _) ?_|refine ah wH (cF.2.2.2.2.2 _) ?_|refine ac wH (fun _=>cF.2.2.2.2.2 _) ?_|refine ah wH (cF.2.2.2.2.2.2.1 _) ?_|refine ac wH (fun _=>cF.2.2.2.2.2.2.1 _) ?_|refine ah wH (cF.2.2.2.2.2.2 _) ?_|refine ac wH (fun _=>cF.2.2.2.2.2.2 _) ?_|refine ay wH (cF.1 _) gp ?_|refine ay wH (cF _) gp ?_|refine ay wH (cF.2.1 _) gp ?_|refine ay wH (cF.2 _) gp ?_|refine ay wH (cF.2.2.1 _) gp ?_|refine ay wH (cF.2.2 _) gp ?_|refine ay wH (cF.2.2.2.1 _) gp ?_|refine ay wH (cF.2.2.2 _) gp ?_|refine ay wH (cF.2.2.2.2.1 _) gp ?_|refine ay wH (cF.2.2.2.2 _) gp ?_|refine ay wH (cF.2.2.2.2.2.1 _) gp ?_|refine ay wH (cF.2.2.2.2.2 _) gp ?_|refine ay wH (cF.2.2.2.2.2.2.1 _) gp ?_|refine ay wH (cF.2.2.2.2.2.2 _) gp ?_|refine av (by decide +kernel) ?_|((first|apply Ca|apply Cb)<;>intro hb)|refine Ai (by omega) ?_|(apply Ai<;>intro hb));(all_goals (refine Fin.auto (r:=?_) (l:=?_) ?_ ?_ ?_ ?_ ?_ ?_ ?_;rotate_left 1;(simp only[bz,bT,aH,aO,zF,Lm,Lo,List.length_nil,List.length_cons,Lc,Int.toNat_natCast,Bt,Bf,Bool.false_and,Bool.true_and,Bool.and_false,Bool.and_true,Bool.and_self,Bool.false_or,Bool.true_or,Bool.or_false,Bool.or_true,Nat.le_refl,List.take_length,bne_self_eq_false,beq_self_eq_true,aj,ai,seval]);(exact rfl);rotate_left 1;(simp only[V.owns,ownsL,List.cons_append,List.nil_append]);(exact rfl);all_goals (try simp only[bz,bT,aH,aO,zF,Lm,Lo,List.length_nil,List.length_cons,Lc,Int.toNat_natCast,Bt,Bf,Bool.false_and,Bool.true_and,Bool.and_false,Bool.and_true,Bool.and_self,Bool.false_or,Bool.true_or,Bool.or_false,Bool.or_true,Nat.le_refl,List.take_length,bne_self_eq_false,beq_self_eq_true,qR,aj,ai,seval]);all_goals (try simp only[aq])))):G:=h z c
def wR {G F C R:Prop}(z:F)(c:C)(k:R)(h:F->C->R->G:=by intro zF cF kF;(repeat' first|simp only[au,ap,zF,am,Lm,Lo,List.length_nil,List.length_cons,Lc,Int.toNat_natCast,Bt,Bf,Bool.false_and,Bool.true_and,Bool.and_false,Bool.and_true,Bool.and_self,Bool.false_or,Bool.true_or,Bool.or_false,Bool.or_true,Nat.le_refl,List.take_length,bne_self_eq_false,beq_self_eq_true,aj,ai,seval]|exact rfl|refine aa (v:=.any) ?_|refine ah wH (cF.1 _) ?_|refine ac wH (fun _=>cF.1 _) ?_|refine ah wH (cF _) ?_|refine ac wH (fun _=>cF _) ?_|refine ah wH (cF.2.1 _) ?_|refine ac wH (fun _=>cF.2.1 _) ?_|refine ah wH (cF.2 _) ?_|refine ac wH (fun _=>cF.2 _) ?_|refine ah wH (cF.2.2.1 _) ?_|refine ac wH (fun _=>cF.2.2.1 _) ?_|refine ah wH (cF.2.2 _) ?_|refine ac wH (fun _=>cF.2.2 _) ?_|refine ah wH (cF.2.2.2.1 _) ?_|refine ac wH (fun _=>cF.2.2.2.1 _) ?_|refine ah wH (cF.2.2.2 _) ?_|refine ac wH (fun _=>cF.2.2.2 _) ?_|refine ah wH (cF.2.2.2.2.1 _) ?_|refine ac wH (fun _=>cF.2.2.2.2.1 _) ?_|refine ah wH (cF.2.2.2.2 _) ?_|refine ac wH (fun _=>cF.2.2.2.2 _) ?_|refine ah wH (cF.2.2.2.2.2.1 _) ?_|refine ac wH (fun _=>cF.2.2.2.2.2.1 _) ?_|refine ah wH (cF.2.2.2.2.2 _) ?_|refine ac wH (fun _=>cF.2.2.2.2.2 _) ?_|refine ah wH (cF.2.2.2.2.2.2.1 _) ?_|refine ac wH (fun _=>cF.2.2.2.2.2.2.1 _) ?_|refine ah wH (cF.2.2.2.2.2.2 _) ?_|refine ac wH (fun _=>cF.2.2.2.2.2.2 _) ?_|refine ay wH (cF.1 _) gp ?_|refine ay wH (cF _) gp ?_|refine ay wH (cF.2.1 _) gp ?_|refine ay wH (cF.2 _) gp ?_|refine ay wH (cF.2.2.1 _) gp ?_|refine ay wH (cF.2.2 _) gp ?_|refine ay wH (cF.2.2.2.1 _) gp ?_|refine ay wH (cF.2.2.2 _) gp ?_|refine ay wH (cF.2.2.2.2.1 _) gp ?_|refine ay wH (cF.2.2.2.2 _) gp ?_|refine ay wH (cF.2.2.2.2.2.1 _) gp ?_|refine ay wH (cF.2.2.2.2.2 _) gp ?_|refine ay wH (cF.2.2.2.2.2.2.1 _) gp ?_|refine ay wH (cF.2.2.2.2.2.2 _) gp ?_|refine av (by decide +kernel) ?_|((first|apply Ca|apply Cb)<;>intro hb)|refine Ai (by omega) ?_|(apply Ai<;>intro hb));exact kF):G:=h z c k
def wN {G F C R:Prop}(z:F)(c:C)(k:R)(h:F->C->R->G:=by intro zF cF kF;(repeat' first|simp only[au,ap,zF,am,Lm,Lo,List.length_nil,List.length_cons,Lc,Int.toNat_natCast,Bt,Bf,Bool.false_and,Bool.true_and,Bool.and_false,Bool.and_true,Bool.and_self,Bool.false_or,Bool.true_or,Bool.or_false,Bool.or_true,Nat.le_refl,List.take_length,bne_self_eq_false,beq_self_eq_true,aj,ai,seval]|exact rfl|refine aa (v:=.any) ?_|refine ah wH (cF.1 _) ?_|refine ac wH (fun _=>cF.1 _) ?_|refine ah wH (cF _) ?_|refine ac wH (fun _=>cF _) ?_|refine ah wH (cF.2.1 _) ?_|refine ac wH (fun _=>cF.2.1 _) ?_|refine ah wH (cF.2 _) ?_|refine ac wH (fun _=>cF.2 _) ?_|refine ah wH (cF.2.2.1 _) ?_|refine ac wH (fun _=>cF.2.2.1 _) ?_|refine ah wH (cF.2.2 _) ?_|refine ac wH (fun _=>cF.2.2 _) ?_|refine ah wH (cF.2.2.2.1 _) ?_|refine ac wH (fun _=>cF.2.2.2.1 _) ?_|refine ah wH (cF.2.2.2 _) ?_|refine ac wH (fun _=>cF.2.2.2 _) ?_|refine ah wH (cF.2.2.2.2.1 _) ?_|refine ac wH (fun _=>cF.2.2.2.2.1 _) ?_|refine ah wH (cF.2.2.2.2 _) ?_|refine ac wH (fun _=>cF.2.2.2.2 _) ?_|refine ah wH (cF.2.2.2.2.2.1 _) ?_|refine ac wH (fun _=>cF.2.2.2.2.2.1 _) ?_|refine ah wH (cF.2.2.2.2.2 _) ?_|refine ac wH (fun _=>cF.2.2.2.2.2 _) ?_|refine ah wH (cF.2.2.2.2.2.2.1 _) ?_|refine ac wH (fun _=>cF.2.2.2.2.2.2.1 _) ?_|refine ah wH (cF.2.2.2.2.2.2 _) ?_|refine ac wH (fun _=>cF.2.2.2.2.2.2 _) ?_|refine ay wH (cF.1 _) gp ?_|refine ay wH (cF _) gp ?_|refine ay wH (cF.2.1 _) gp ?_|refine ay wH (cF.2 _) gp ?_|refine ay wH (cF.2.2.1 _) gp ?_|refine ay wH (cF.2.2 _) gp ?_|refine ay wH (cF.2.2.2.1 _) gp ?_|refine ay wH (cF.2.2.2 _) gp ?_|refine ay wH (cF.2.2.2.2.1 _) gp ?_|refine ay wH (cF.2.2.2.2 _) gp ?_|refine ay wH (cF.2.2.2.2.2.1 _) gp ?_|refine ay wH (cF.2.2.2.2.2 _) gp ?_|refine ay wH (cF.2.2.2.2.2.2.1 _) gp ?_|refine ay wH (cF.2.2.2.2.2.2 _) gp ?_|refine av (by decide +kernel) ?_|refine Ai (by omega) ?_);exact kF):G:=h z c k
set_option maxRecDepth 100000
set_option maxHeartbeats 32000000
open Go Go.RowKit
def mW (n:Int):Bool:=decide (n=9\/n=10\/n=13\/(32<=n/\n<=1114111 /\ ¬(55296<=n/\n<=57343)/\n≠65534/\n≠65535))
def jn (n:Int):mW n=true↔(n=9\/n=10\/n=13\/(32<=n/\n<=1114111 /\ ¬(55296<=n/\n<=57343)/\n≠65534/\n≠65535)):=by
 unfold mW;exact decide_eq_true_iff
def On {n:Int}(h:n=9\/n=10\/n=13\/(32<=n/\n<=1114111 /\ ¬(55296<=n/\n<=57343)/\n≠65534/\n≠65535)):true=mW n:=((jn n).2 h).symm
def Om {n:Int}(h:¬(n=9\/n=10\/n=13\/(32<=n/\n<=1114111 /\ ¬(55296<=n/\n<=57343)/\n≠65534/\n≠65535))):false=mW n:=by
 unfold mW;symm;exact decide_eq_false_iff_not.2 h
def pK {n:Int}(h:mW n=true):0<=n/\n<=1114111/\(2048<=n->n<=65535->(2048<=n/\n<55296)\/(57343<n/\n<=65535)):=by
 have:=(jn n).1 h
 refine⟨by omega,by omega,fun a b=>by omega⟩
def enc (l:List Int):List UInt8:=l.flatMap Lib.encodeRune
def u8 (b:UInt8):Value:=.int .u8 (b.toNat:Int)
def cq (x:Int):1<=(Lib.encodeRune x).length/\(Lib.encodeRune x).length<=4:=by
 unfold Lib.encodeRune Lib.encodeRuneZ
 repeat' split
 all_goals simp
set_option maxRecDepth 100000
set_option maxHeartbeats 32000000
open Go Go.RowKit Go.Lib
def one (l:List UInt8):Option (Int×Nat) :=
 if l=[] then none
 else if (decodeL l).1=65533/\(decodeL l).2=1 then none
 else if mW ((decodeL l).1:Int) then some (((decodeL l).1:Int),(decodeL l).2) else none
def xF:Nat->List UInt8->Option (List Int)
 | _,[]=>some []
 | 0,_=>none
 | f+1,l=>match one l with
  | none=>none
  | some (z,k)=>(xF f (l.drop k)).map (z :: ·)
def dp (l:List UInt8):Option (List Int):=xF l.length l
def jT {l:List UInt8}{z:Int}{k:Nat}(h:one l=some (z,k)):l≠[]/\mW z=true/\encodeRune z=l.take k/\1<=k/\k<=l.length:=by
 unfold one at h
 split at h
 ·cases h
 rename_i hne
 split at h
 ·cases h
 rename_i hv
 split at h
 ·rename_i hm
  simp only[Option.some.injEq,Prod.mk.injEq]at h
  obtain⟨rfl,rfl⟩:=h
  have he:=encode_decode l hne hv
  have hle:=decodeL_le l hne
  refine⟨hne,hm,he,?_,hle⟩
  have:=(cq ((decodeL l).1:Int)).1
  rw[he,List.length_take]at this
  omega
 ·cases h
def eL {x:Int}(h0:0<=x)(h1:x<256):(x.toNat.toUInt8).toNat=x.toNat:=by simp;omega
def ri {z:Int}(hm:mW z=true)(rest:List UInt8):one (encodeRune z++rest)=some (z,(encodeRune z).length):=by
 have hmz:=(jn z).1 hm
 have key:decodeL (encodeRune z++rest)=(z.toNat,(encodeRune z).length):=by
  rw[decodeL_N]
  by_cases c1:0<=z/\z<=127
  ·have e:encodeRune z=[z.toNat.toUInt8]:=by simp[encodeRune,encodeRuneZ_one c1.1 c1.2]
   rw[e]
   have a:=eL (x:=z) (by omega) (by omega)
   simp only[List.cons_append,List.nil_append,List.getD_cons_zero,List.length_cons,List.length_nil,a,decodeN]
   rw[if_pos (by omega)]
  ·by_cases c2:128<=z/\z<=2047
   ·have e:encodeRune z=[(192+z / 64).toNat.toUInt8,(128+z % 64).toNat.toUInt8]:=by simp[encodeRune,encodeRuneZ_two c2.1 c2.2]
    rw[e]
    have a:=eL (x:=192+z / 64) (by omega) (by omega)
    have b:=eL (x:=128+z % 64) (by omega) (by omega)
    simp only[List.cons_append,List.nil_append,List.getD_cons_zero,List.getD_cons_succ,List.length_cons,List.length_nil,a,b,decodeN]
    rw[if_neg (by omega),if_pos (by omega),if_pos (by omega)]
    simp only[Prod.mk.injEq,and_true];omega
   ·by_cases c3:z<=65535
    ·have e:encodeRune z=[(224+z / 4096).toNat.toUInt8,(128+z / 64 % 64).toNat.toUInt8,(128+z % 64).toNat.toUInt8]:=by simp[encodeRune,encodeRuneZ_three (r:=z) (by omega)]
     rw[e]
     have a:=eL (x:=224+z / 4096) (by omega) (by omega)
     have b:=eL (x:=128+z / 64 % 64) (by omega) (by omega)
     have c:=eL (x:=128+z % 64) (by omega) (by omega)
     simp only[List.cons_append,List.nil_append,List.getD_cons_zero,List.getD_cons_succ,List.length_cons,List.length_nil,a,b,c,decodeN]
     rw[if_neg (by omega),if_neg (by omega),if_pos (by omega),if_pos (by omega)]
     simp only[Prod.mk.injEq,and_true];omega
    ·have e:encodeRune z=[(240+z / 262144).toNat.toUInt8,(128+z / 4096 % 64).toNat.toUInt8,(128+z / 64 % 64).toNat.toUInt8,(128+z % 64).toNat.toUInt8]:=by simp[encodeRune,encodeRuneZ_four (r:=z) (by omega) (by omega)]
     rw[e]
     have a:=eL (x:=240+z / 262144) (by omega) (by omega)
     have b:=eL (x:=128+z / 4096 % 64) (by omega) (by omega)
     have c:=eL (x:=128+z / 64 % 64) (by omega) (by omega)
     have d:=eL (x:=128+z % 64) (by omega) (by omega)
     simp only[List.cons_append,List.nil_append,List.getD_cons_zero,List.getD_cons_succ,List.length_cons,List.length_nil,a,b,c,d,decodeN]
     rw[if_neg (by omega),if_neg (by omega),if_neg (by omega),if_pos (by omega),if_pos (by omega)]
     simp only[Prod.mk.injEq,and_true];omega
 have hne:encodeRune z++rest≠[]:=by
  intro h
  have:=(cq z).1
  rw[List.append_eq_nil_iff]at h
  rw[h.1]at this;simp at this
 unfold one
 rw[if_neg hne,key]
 have hz:((z.toNat:Nat):Int)=z:=by omega
 simp only[hz,hm,if_true]
 rw[if_neg]
 rintro ⟨h1,h2⟩
 have hz2:z=65533:=by omega
 subst hz2
 revert h2
 decide
def uE:∀(f g:Nat) (l:List UInt8),l.length<=f->l.length<=g->xF f l=xF g l
 | _,_,[],_,_=>by simp[xF]
 | 0,_,x::l,h,_=>by simp at h
 | _,0,x::l,_,h=>by simp at h
 | f+1,g+1,x::l,hf,hg=>by
  simp only[xF]
  cases h1:one (x::l) with
  | none=>rfl
  | some p =>
   obtain⟨z,k⟩:=p
   obtain⟨_,_,_,hk,_⟩:=jT h1
   simp only
   rw[uE f g ((x::l).drop k) (by simp at hf ⊢;omega) (by simp at hg ⊢;omega)]
def oc:dp []=some []:=rfl
def lA {l:List UInt8}{z:Int}{k:Nat}(h:one l=some (z,k)):dp l=(dp (l.drop k)).map (z :: ·):=by
 obtain⟨hne,_,_,hk,hkl⟩:=jT h
 obtain⟨x,l',rfl⟩:=List.exists_cons_of_ne_nil hne
 unfold dp
 rw[show(x::l').length=l'.length+1 from rfl]
 simp only[xF,h]
 rw[uE l'.length ((x::l').drop k).length _ (by simp;omega) (Nat.le_refl _)]
def vP {l:List UInt8}(hne:l≠[])(h:one l=none):dp l=none:=by
 obtain⟨x,l',rfl⟩:=List.exists_cons_of_ne_nil hne
 unfold dp
 rw[show(x::l').length=l'.length+1 from rfl]
 simp only[xF,h]
def fW:∀(zs:List Int),zs.all mW=true->dp (enc zs)=some zs
 | [],_=>rfl
 | z::zs,h=>by
  simp only[List.all_cons,Bool.and_eq_true]at h
  have e:enc (z::zs)=encodeRune z++enc zs:=by simp[enc]
  rw[e,lA (ri h.1 (enc zs)),List.drop_left,fW zs h.2]
  rfl
def xG:∀(n:Nat) (l:List UInt8) (zs:List Int),l.length<=n->dp l=some zs->zs.all mW=true/\enc zs=l
 | 0,l,zs,hn,h=>by
  have:l=[]:=List.eq_nil_of_length_eq_zero (by omega)
  subst this
  rw[oc]at h
  cases h
  exact⟨rfl,rfl⟩
 | n+1,l,zs,hn,h=>by
  by_cases hne:l=[]
  ·subst hne
   rw[oc]at h
   cases h
   exact⟨rfl,rfl⟩
  ·cases h1:one l with
   | none=>rw[vP hne h1]at h;cases h
   | some p =>
    obtain⟨z,k⟩:=p
    obtain⟨_,hm,he,hk,hkl⟩:=jT h1
    rw[lA h1]at h
    obtain⟨zs',h2,rfl⟩:=Option.map_eq_some_iff.1 h
    obtain⟨ha,hb⟩:=xG n (l.drop k) zs' (by simp;omega) h2
    refine⟨by simp[hm,ha],?_⟩
    show encodeRune z++enc zs'=l
    rw[he,hb,List.take_append_drop]
def mj (l:List UInt8)(zs:List Int):dp l=some zs↔zs.all mW=true/\enc zs=l :=
 ⟨fun h=>xG l.length l zs (Nat.le_refl _) h,fun ⟨h1,h2⟩=>by rw[<- h2,fW zs h1]⟩
def AP {l:List UInt8}(h:hasPrefix l [239,191,189]=true):∃ rest,l=encodeRune 65533++rest:=by
 unfold hasPrefix at h
 obtain⟨rest,hr⟩:=List.isPrefixOf_iff_prefix.1 h
 exact⟨rest,by rw[<- hr];congr 1⟩
def xH {l:List UInt8}(h:hasPrefix l [239,191,189]=true):(decodeL l).2≠1:=by
 obtain⟨rest,rfl⟩:=AP h
 have h1:=ri (z:=65533) (by decide) rest
 unfold one at h1
 split at h1
 ·cases h1
 split at h1
 ·cases h1
 rename_i hv
 split at h1
 ·simp only[Option.some.injEq,Prod.mk.injEq]at h1
  rw[h1.2]
  decide
 ·cases h1
def ul {l:List UInt8}(hne:l≠[]):one l=if ((decodeL l).1=65533/\hasPrefix l [239,191,189]=false)\/mW ((decodeL l).1:Int)=false then none else some (((decodeL l).1:Int),(decodeL l).2):=by
  unfold one
  rw[if_neg hne]
  by_cases h1:(decodeL l).1=65533/\(decodeL l).2=1
  · rw[if_pos h1,if_pos]
    left
    refine⟨h1.1,?_⟩
    cases hp:hasPrefix l [239,191,189] with
    | false=>rfl
    | true=>exact absurd h1.2 (xH hp)
  · rw [if_neg h1]
    by_cases h2:(decodeL l).1=65533
    · have he:=encode_decode l hne h1
      rw[h2]at he
      have hp:hasPrefix l [239,191,189]=true:=by
        unfold hasPrefix
        rw[List.isPrefixOf_iff_prefix,show([239,191,189]:List UInt8)=encodeRune ((65533:Nat):Int) from by decide,he]
        exact List.take_prefix _ _
      rw[hp]
      by_cases hm:mW ((decodeL l).1:Int)=true
      · simp[hm]
      · simp[hm]
    · by_cases hm:mW ((decodeL l).1:Int)=true
      · simp[hm,h2]
      · simp[hm,h2]
def xI (s:ByteArray)(pos:Nat):Utf8.decode s pos=decodeL (s.data.toList.drop pos):=by
 have h:=tail_decode s pos 0
 rw[Nat.add_zero]at h
 rw[<- h]
 unfold decodeL
 congr 1
 have h2:(s.extract pos s.size).data.toList=s.data.toList.drop pos:=by
  rw[extract_data,List.take_of_length_le]
  simp
 apply ByteArray.ext
 apply Array.ext'
 simpa using h2
def gX (c:Int):Int:=if c<128 then 1 else if 192<=c/\c<224 then 2 else if 224<=c/\c<240 then 3 else if 240<=c/\c<248 then 4 else 0
def jL (c:Int):Int:=if c<128 then c else if 192<=c/\c<224 then c-192 else if 224<=c/\c<240 then c-224 else if 240<=c/\c<248 then c-240 else 0
def co (n:Int)(l:List UInt8):Int:=l.foldl (fun n b=>64*n+(b.toNat:Int) % 64) n
def G4 (l:List UInt8):Int:=match one l with|some (z,_)=>z|none=>0
def G2 (l:List UInt8):Int:=match one l with|some (_,k)=>(k:Int)|none=>0
def yr (c:Int):0<=gX c/\gX c<=4:=by
 unfold gX;repeat' split
 all_goals omega
def yq {c:Int}(h:0<=c/\c<256):0<=jL c/\jL c<=127/\(gX c≠1->jL c<=31):=by
 unfold jL gX;repeat' split
 all_goals omega
def zV (n:Int)(l:List UInt8)(b:UInt8):co n (l++[b])=64*co n l+(b.toNat:Int) % 64:=by simp[co]
def yu {z:Int}(hm:mW z=true):∃ b rest,encodeRune z=b::rest/\gX (b.toNat:Int)=((encodeRune z).length:Nat)/\co (jL (b.toNat:Int)) rest=z:=by
 have hmz:=(jn z).1 hm
 by_cases c1:0<=z/\z<=127
 ·have e:encodeRune z=[z.toNat.toUInt8]:=by simp[encodeRune,encodeRuneZ_one c1.1 c1.2]
  have a:=eL (x:=z) (by omega) (by omega)
  refine⟨_,_,e,?_,?_⟩
  ·rw[e,a];unfold gX;rw[if_pos (by omega)];rfl
  ·rw[a];unfold jL;rw[if_pos (by omega)];simp[co];omega
 ·by_cases c2:128<=z/\z<=2047
  ·have e:encodeRune z=[(192+z / 64).toNat.toUInt8,(128+z % 64).toNat.toUInt8]:=by simp[encodeRune,encodeRuneZ_two c2.1 c2.2]
   have a:=eL (x:=192+z / 64) (by omega) (by omega)
   have b:=eL (x:=128+z % 64) (by omega) (by omega)
   refine⟨_,_,e,?_,?_⟩
   ·rw[e,a];unfold gX;rw[if_neg (by omega),if_pos (by omega)];rfl
   ·rw[a];unfold jL;rw[if_neg (by omega),if_pos (by omega)];simp only[co,List.foldl_cons,List.foldl_nil,b];omega
  ·by_cases c3:z<=65535
   ·have e:encodeRune z=[(224+z / 4096).toNat.toUInt8,(128+z / 64 % 64).toNat.toUInt8,(128+z % 64).toNat.toUInt8]:=by simp[encodeRune,encodeRuneZ_three (r:=z) (by omega)]
    have a:=eL (x:=224+z / 4096) (by omega) (by omega)
    have b:=eL (x:=128+z / 64 % 64) (by omega) (by omega)
    have c:=eL (x:=128+z % 64) (by omega) (by omega)
    refine⟨_,_,e,?_,?_⟩
    ·rw[e,a];unfold gX;rw[if_neg (by omega),if_neg (by omega),if_pos (by omega)];rfl
    ·rw[a];unfold jL;rw[if_neg (by omega),if_neg (by omega),if_pos (by omega)];simp only[co,List.foldl_cons,List.foldl_nil,b,c];omega
   ·have e:encodeRune z=[(240+z / 262144).toNat.toUInt8,(128+z / 4096 % 64).toNat.toUInt8,(128+z / 64 % 64).toNat.toUInt8,(128+z % 64).toNat.toUInt8]:=by simp[encodeRune,encodeRuneZ_four (r:=z) (by omega) (by omega)]
    have a:=eL (x:=240+z / 262144) (by omega) (by omega)
    have b:=eL (x:=128+z / 4096 % 64) (by omega) (by omega)
    have c:=eL (x:=128+z / 64 % 64) (by omega) (by omega)
    have d:=eL (x:=128+z % 64) (by omega) (by omega)
    refine⟨_,_,e,?_,?_⟩
    ·rw[e,a];unfold gX;rw[if_neg (by omega),if_neg (by omega),if_neg (by omega),if_pos (by omega)];rfl
    ·rw[a];unfold jL;rw[if_neg (by omega),if_neg (by omega),if_neg (by omega),if_pos (by omega)];simp only[co,List.foldl_cons,List.foldl_nil,b,c,d];omega
def Ku {l:List UInt8}{n:Int}{k:Nat}(hm:mW n=true)(he:encodeRune n=l.take k)(hk:k<=l.length):one l=some (n,k):=by
 have h:=ri hm (l.drop k)
 have hlen:(encodeRune n).length=k:=by rw[he,List.length_take];omega
 rw[hlen,he,List.take_append_drop]at h
 exact h
def AR {b:UInt8}{l:List UInt8}{k:Nat}(hs:gX (b.toNat:Int)=k)(hno:k=0\/(b::l).length<k\/(k<=(b::l).length /\ ∀ n,n=co (jL (b.toNat:Int)) (l.take (k-1))->mW n=true->encodeRune n≠(b::l).take k)):one (b::l)=none:=by
 cases h:one (b::l) with
 | none=>rfl
 | some p =>
  obtain⟨z,j⟩:=p
  obtain⟨_,hm,he,hj1,hj2⟩:=jT h
  obtain⟨b',rest,e1,e2,e3⟩:=yu hm
  have hlen:(encodeRune z).length=j:=by rw[he,List.length_take];omega
  obtain⟨j',rfl⟩:∃ j',j=j'+1:=⟨j-1,by omega⟩
  rw[he,List.take_succ_cons]at e1
  obtain⟨e4,e5⟩:=List.cons.inj e1
  subst e4
  rw[hlen]at e2
  have hkj:k=j'+1:=by rw[hs]at e2;exact Int.ofNat.inj e2
  subst hkj
  rcases hno with h0|h0|⟨_,h0⟩
  ·omega
  ·omega
  ·refine absurd he (h0 z ?_ hm)
   rw[<- e3,<- e5];rfl
def aF (l:List UInt8):Int:=if 16384<l.length then 4 else match dp l with|none=>50|some _=>0
def sT {s:List UInt8}(h:aF s=0):s.length<=16384:=by
 unfold aF at h
 split at h
 ·omega
 ·omega
def lC (q:Bool)(c:UInt8):List UInt8 :=
 if c=38 then [38,97,109,112,59] else if c=60 then [38,108,116,59] else if c=62 then [38,103,116,59] else if c=13 then [38,35,49,51,59]
 else if q=true then (if c=34 then [38,113,117,111,116,59] else if c=9 then [38,35,57,59] else if c=10 then [38,35,49,48,59] else [c]) else [c]
def bI (q:Bool)(s:List UInt8):List UInt8:=s.flatMap (lC q)
def sd (q:Bool):bI q []=[]:=rfl
def xS (q:Bool)(a b:List UInt8):bI q (a++b)=bI q a++bI q b:=by simp[bI]
def C4 (q:Bool)(a:List UInt8)(c:UInt8):bI q (a++[c])=bI q a++lC q c:=by simp[bI]
def ji (q:Bool)(c:UInt8):1<=(lC q c).length/\(lC q c).length<=6:=by
 unfold lC
 repeat' split
 all_goals simp
def Jp (q:Bool)(c:UInt8):lC q c≠[]:=by
 intro h
 have:=(ji q c).1
 rw[h]at this;simp at this
def bG (q:Bool)(s:List UInt8):s.length<=(bI q s).length/\(bI q s).length<=6*s.length:=by
 induction s with
 | nil=>simp[bI]
 | cons c s ih =>
  have:=ji q c
  simp only[bI,List.flatMap_cons,List.length_append,List.length_cons]at ih ⊢
  omega
def uI (q:Bool){s:List UInt8}{k:Nat}{c:UInt8}(h:s[k]? = some c):bI q (s.take (k+1))=bI q (s.take k)++lC q c:=by
 obtain⟨hk,rfl⟩:=List.getElem?_eq_some_iff.1 h
 rw[List.take_succ_eq_append_getElem hk,C4]
def BQ:∀(p:List Int) (r:List UInt8),p.all mW=true->dp (enc p++r)=(dp r).map (p ++ ·)
 | [],r,_=>by simp[enc]
 | z::p,r,h=>by
  simp only[List.all_cons,Bool.and_eq_true]at h
  have e:enc (z::p)++r=encodeRune z++(enc p++r):=by simp[enc]
  rw[e,lA (ri h.1 _),List.drop_left,BQ p r h.2,Option.map_map]
  congr 1
def rR {a b:List UInt8}{x y:List Int}(ha:dp a=some x)(hb:dp b=some y):dp (a++b)=some (x++y):=by
 obtain⟨h1,rfl⟩:=(mj a x).1 ha
 rw[BQ x b h1,hb];rfl
def EQ {z:Int}{k:Nat}(h1:1<=k)(h2:k<(encodeRune z).length):∃ b t,(encodeRune z).drop k=b::t/\128<=b.toNat/\b.toNat<192:=by
 have key:∀ x:Int,0<=x -> ∀ y,(128+x % 64).toNat.toUInt8=y->128<=y.toNat/\y.toNat<192:=by
  intro x _ y hy
  subst hy
  rw[eL (by omega) (by omega)]
  omega
 unfold encodeRune encodeRuneZ at h2 ⊢
 repeat' split
 ·rename_i c;rw[if_pos c]at h2;simp at h2;omega
 ·rename_i c1 c2;rw[if_neg c1,if_pos c2]at h2
  have:k=1:=by simp at h2;omega
  subst this
  exact⟨_,_,rfl,key z (by omega) _ rfl⟩
 ·rename_i c1 c2 c3;rw[if_neg c1,if_neg c2,if_pos c3]at h2
  have:k=1\/k=2:=by simp at h2;omega
  rcases this with rfl|rfl
  ·exact⟨_,_,rfl,key (z / 64) (by omega) _ rfl⟩
  ·exact⟨_,_,rfl,key z (by omega) _ rfl⟩
 ·rename_i c1 c2 c3 c4;rw[if_neg c1,if_neg c2,if_neg c3,if_pos c4]at h2
  have:k=1\/k=2\/k=3:=by simp at h2;omega
  rcases this with rfl|rfl|rfl
  ·exact⟨_,_,rfl,key (z / 4096) (by omega) _ rfl⟩
  ·exact⟨_,_,rfl,key (z / 64) (by omega) _ rfl⟩
  ·exact⟨_,_,rfl,key z (by omega) _ rfl⟩
 ·rename_i c1 c2 c3 c4;rw[if_neg c1,if_neg c2,if_neg c3,if_neg c4]at h2
  have:k=1\/k=2:=by simp at h2;omega
  rcases this with rfl|rfl
  ·exact⟨_,_,rfl,by decide⟩
  ·exact⟨_,_,rfl,by decide⟩
def FF:∀(zs:List Int) (k:Nat),k<=(enc zs).length->(∃ p q,zs=p++q/\(enc zs).take k=enc p/\(enc zs).drop k=enc q) \/ ∃ b t,(enc zs).drop k=b::t/\128<=b.toNat/\b.toNat<192
 | [],k,h=>by
  have:k=0:=by simpa [enc] using h
  subst this
  exact .inl ⟨[],[],rfl,rfl,rfl⟩
 | z::zs,k,h=>by
  have e:enc (z::zs)=encodeRune z++enc zs:=by simp[enc]
  rw[e]at h ⊢
  by_cases h0:k=0
  ·subst h0
   exact .inl ⟨[],z::zs,rfl,rfl,by rw[e];rfl⟩
  by_cases h1:k<(encodeRune z).length
  ·obtain⟨b,t,ht,hb⟩:=EQ (by omega) h1
   exact .inr ⟨b,t++enc zs,by rw[List.drop_append_of_le_length (by omega),ht];rfl,hb⟩
  ·obtain⟨j,rfl⟩:∃ j,k=(encodeRune z).length+j:=⟨k-(encodeRune z).length,by omega⟩
   have hj:j<=(enc zs).length:=by simp at h;omega
   rcases FF zs j hj with ⟨p,q,rfl,h3,h4⟩|⟨b,t,h3,hb⟩
   ·refine .inl ⟨z::p,q,rfl,?_,?_⟩
    ·rw[List.take_length_add_append,h3];simp[enc]
    ·rw[List.drop_length_add_append,h4]
   ·exact .inr ⟨b,t,by rw[List.drop_length_add_append,h3],hb⟩
def AG (c:UInt8):Bool:=(decide (97<=c.toNat)&&decide (c.toNat<=122))||(decide (65<=c.toNat)&&decide (c.toNat<=90))||decide (c=95)
def jX (first:Bool)(c:UInt8):Bool:=AG c||(!first&&((decide (48<=c.toNat)&&decide (c.toNat<=57))||decide (c=46)||decide (c=45)))
def dG:List UInt8->Bool
 | []=>false
 | c::r=>jX true c&&r.all (jX false)
def fA (d:UInt8):List UInt8->Option (List UInt8×List UInt8)
 | []=>none
 | c::r=>if c=d then some ([],r) else (fA d r).map (fun p=>(c::p.1,p.2))
def bU (s:List UInt8):Bool:=match fA 58 s with
 | none=>dG s
 | some (a,b)=>dG a&&dG b
def po {d:UInt8} : ∀ {s:List UInt8},fA d s=none↔d ∉ s
 | []=>by simp[fA]
 | c::r=>by
  simp only[fA]
  by_cases h:c=d
  ·simp[h]
  ·rw[if_neg h]
   simp only[Option.map_eq_none_iff,po (s:=r),List.mem_cons,not_or]
   constructor
   ·intro h2;exact⟨fun e=>h e.symm,h2⟩
   ·intro h2;exact h2.2
def iF {d:UInt8} : ∀ {s a b:List UInt8},fA d s=some (a,b)->s=a++d::b/\d ∉ a
 | [],a,b,h=>by simp[fA]at h
 | c::r,a,b,h=>by
  simp only[fA]at h
  by_cases hc:c=d
  ·rw[if_pos hc]at h;cases h;subst hc;simp
  ·rw[if_neg hc]at h
   obtain⟨⟨a',b'⟩,h1,h2⟩:=Option.map_eq_some_iff.1 h
   cases h2
   obtain⟨e1,e2⟩:=iF h1
   refine⟨by rw[e1];rfl,?_⟩
   simp only[List.mem_cons,not_or]
   exact⟨fun e=>hc e.symm,e2⟩
def BP {d:UInt8} : ∀ {a b:List UInt8},d ∉ a->fA d (a++d::b)=some (a,b)
 | [],b,_=>by simp[fA]
 | c::a,b,h=>by
  simp only[List.mem_cons,not_or]at h
  simp only[List.cons_append,fA]
  rw[if_neg (fun e=>h.1 e.symm),BP h.2];rfl
def BO {d:UInt8}{s:List UInt8}{i:Nat}(h1:d ∉ s.take i)(h2:s[i]? = some d):fA d s=some (s.take i,s.drop (i+1)):=by
 obtain⟨hi,he⟩:=List.getElem?_eq_some_iff.1 h2
 have:s=s.take i++d::s.drop (i+1):=by
  conv=>lhs;rw[<- List.take_append_drop i s]
  rw[List.drop_eq_getElem_cons hi,he]
 have h3:=BP (b:=s.drop (i+1)) h1
 rwa[<- this]at h3
def qq {d:UInt8}{s:List UInt8} : indexByte s d = -1↔fA d s=none:=by
 rw[po]
 constructor
 ·intro h hm
  obtain⟨k,hk,rfl⟩:=List.getElem_of_mem hm
  exact indexByte_none h k (List.getElem?_eq_getElem hk)
 ·intro h
  have hge:=indexByte_ge s d
  by_cases hneg:indexByte s d = -1
  ·exact hneg
  ·obtain⟨o,ho⟩:∃ o:Nat,indexByte s d=o:=⟨(indexByte s d).toNat,by omega⟩
   exact absurd (List.mem_of_getElem? (indexByte_some ho).1) h
def lL {d:UInt8}{s a b:List UInt8}(h:fA d s=some (a,b)):indexByte s d=a.length/\s.take a.length=a/\s.drop (a.length+1)=b/\a.length+1+b.length=s.length:=by
 obtain⟨h1,h2⟩:=iF h
 have hne:indexByte s d ≠ -1:=fun e=>by rw[qq.1 e]at h;cases h
 have hge:=indexByte_ge s d
 obtain⟨o,ho⟩:∃ o:Nat,indexByte s d=o:=⟨(indexByte s d).toNat,by omega⟩
 obtain⟨g1,g2⟩:=indexByte_some ho
 have hat:=BO (i:=o) (fun hm=>by
  obtain⟨k,hk,he⟩:=List.getElem_of_mem hm
  rw[List.length_take]at hk
  rw[List.getElem_take]at he
  exact g2 k (by omega) (by rw[List.getElem?_eq_getElem (by omega),he])) g1
 rw[h]at hat
 cases hat
 have hlt:=(List.getElem?_eq_some_iff.1 g1).1
 have hl:(s.take o).length=o:=by rw[List.length_take];omega
 rw[hl]
 refine⟨ho,rfl,rfl,?_⟩
 rw[List.length_drop];omega
def oK (s:List UInt8)(k:Nat):Prop:=∀(i:Nat) (c:UInt8),i<k->s[i]? = some c->jX (i==0) c=true
def sN {s:List UInt8}(hne:s≠[])(h:oK s s.length):dG s=true:=by
 cases s with
 | nil=>exact absurd rfl hne
 | cons c r =>
  have h0:=h 0 c (by simp) (by simp)
  simp only[beq_self_eq_true]at h0
  simp only[dG,h0,Bool.true_and,List.all_eq_true]
  intro x hx
  obtain⟨k,hk,rfl⟩:=List.getElem_of_mem hx
  have:=h (k+1) r[k] (by simp;omega) (by simp[hk])
  have h3:((k+1)==0)=false:=beq_false_of_ne (by omega)
  rwa[h3]at this
def qv {s:List UInt8}{k:Nat}{c:UInt8}(hc:s[k]? = some c)(h:jX (k==0) c=false):dG s=false:=by
 cases s with
 | nil=>simp at hc
 | cons x r =>
  cases k with
  | zero =>
   simp at hc;subst hc
   simp only[beq_self_eq_true]at h
   simp[dG,h]
  | succ k =>
   have h3:((k+1)==0)=false:=beq_false_of_ne (by omega)
   rw[h3]at h
   simp only[List.getElem?_cons_succ]at hc
   simp only[dG,Bool.and_eq_false_iff,List.all_eq_false]
   right
   exact⟨c,List.mem_of_getElem? hc,by rw[h];simp⟩
def dy (c d:UInt8):((c.toNat:Int)==(d.toNat:Int))=decide (c=d):=by
 rw[Bool.eq_iff_iff,beq_iff_eq,decide_eq_true_iff]
 constructor
 ·intro h;exact UInt8.toNat_inj.1 (by omega)
 ·rintro rfl;rfl
def nX (b:UInt8):Bool:=decide (128<=b.toNat)&&decide (b.toNat<192)
def xE:∀(zs:List Int) (k:Nat),k<=(enc zs).length -> ∃ j,k<=j/\j<=k+3/\j<=(enc zs).length /\ ∃ p q,zs=p++q/\(enc zs).take j=enc p/\(enc zs).drop j=enc q
 | [],k,h=>by
  have:k=0:=by simpa [enc] using h
  subst this
  exact⟨0,Nat.le_refl _,by omega,by simp,[],[],rfl,rfl,rfl⟩
 | z::zs,k,h=>by
  have e:enc (z::zs)=encodeRune z++enc zs:=by simp[enc]
  have hl:=cq z
  rw[e]at h ⊢
  by_cases h0:k=0
  ·subst h0
   exact⟨0,Nat.le_refl _,by omega,by omega,[],z::zs,rfl,rfl,by rw[e];rfl⟩
  by_cases h1:k<(encodeRune z).length
  ·refine⟨(encodeRune z).length,by omega,by omega,by simp,[z],zs,rfl,?_,?_⟩
   ·rw[List.take_left];simp[enc]
   ·rw[List.drop_left]
  ·obtain⟨j,rfl⟩:∃ j,k=(encodeRune z).length+j:=⟨k-(encodeRune z).length,by omega⟩
   have hj:j<=(enc zs).length:=by simp at h;omega
   obtain⟨i,i1,i2,i3,p,q,rfl,h3,h4⟩:=xE zs j hj
   refine⟨(encodeRune z).length+i,by omega,by omega,by simp at i3 ⊢;omega,z::p,q,rfl,?_,?_⟩
   ·rw[List.take_length_add_append,h3];simp[enc]
   ·rw[List.drop_length_add_append,h4]
def FI {zs:List Int}(hm:zs.all mW=true){b:UInt8}(h:(enc zs)[0]? = some b):nX b=false:=by
 cases zs with
 | nil=>simp[enc]at h
 | cons z zs =>
  simp only[List.all_cons,Bool.and_eq_true]at hm
  obtain⟨c,rest,e1,e2,_⟩:=yu hm.1
  have e:enc (z::zs)=encodeRune z++enc zs:=by simp[enc]
  rw[e,e1]at h
  simp at h;subst h
  have hl:=(cq z).1
  unfold nX
  by_cases hc:128<=c.toNat/\c.toNat<192
  ·exfalso
   have:gX (c.toNat:Int)=0:=by
    unfold gX;rw[if_neg (by omega),if_neg (by omega),if_neg (by omega),if_neg (by omega)]
   omega
  ·simp only[Bool.and_eq_false_iff,decide_eq_false_iff_not];omega
def ER {r:List UInt8}(h:(dp r).isSome=true){k:Nat}(hk:k<=r.length):∃ j,k<=j/\j<=k+3/\j<=r.length /\ ∀ b,r[j]? = some b->nX b=false:=by
 obtain⟨zs,hz⟩:=Option.isSome_iff_exists.1 h
 obtain⟨hm,rfl⟩:=(mj r zs).1 hz
 obtain⟨j,j1,j2,j3,p,q,rfl,h3,h4⟩:=xE zs k hk
 rw[List.all_append,Bool.and_eq_true]at hm
 refine⟨j,j1,j2,j3,fun b hb=>FI hm.2 ?_⟩
 rw[<- h4,List.getElem?_drop];simpa using hb
def HX {r:List UInt8}(h:(dp r).isSome=true){k:Nat}(hk:k<=r.length)(hc:∀ b,r[k]? = some b->nX b=false):(dp (r.take k)).isSome=true/\(dp (r.drop k)).isSome=true:=by
 obtain⟨zs,hz⟩:=Option.isSome_iff_exists.1 h
 obtain⟨hm,rfl⟩:=(mj r zs).1 hz
 rcases FF zs k hk with ⟨p,q,rfl,h3,h4⟩|⟨b,t,h3,hb1,hb2⟩
 ·rw[List.all_append,Bool.and_eq_true]at hm
  rw[h3,h4,fW p hm.1,fW q hm.2]
  exact⟨rfl,rfl⟩
 ·exfalso
  have:(enc zs)[k]? = some b:=by
   have:=congrArg (fun l=>l[0]?) h3
   simpa using this
  have:=hc b this
  simp only[nX,Bool.and_eq_false_iff,decide_eq_false_iff_not]at this
  omega
def fE {s:List UInt8} : aF s=0↔s.length<=16384/\(dp s).isSome=true:=by
 unfold aF
 split
 ·constructor
  ·intro h;omega
  ·rintro ⟨h,_⟩;omega
 ·rename_i hl
  cases dp s with
  | none=>simp
  | some z=>simp;omega
structure Pr where
 name:List UInt8
 value:List UInt8
deriving DecidableEq
structure Tk where
 kind:Nat
 name:List UInt8
 attrs:List Pr
 text:List UInt8
deriving DecidableEq
def Iz (l:List Pr)(a:Pr):Bool:=!(l.any fun b=>a.name==b.name)&&bU a.name&&decide (aF a.value=0)
def gK (l:List Pr)(k:Nat):Prop:=∀(i:Nat) (a:Pr),i<k->l[i]? = some a->Iz (l.take i) a=true
def e8 (l:List Pr):Bool:=decide (l.length<=16)&&l.zipIdx.all fun p=>Iz (l.take p.2) p.1
def eS {l:List Pr} : e8 l=true↔l.length<=16/\gK l l.length:=by
 unfold e8 gK
 simp only[Bool.and_eq_true,decide_eq_true_eq,List.all_eq_true]
 refine and_congr_right fun _=>⟨fun h i a hi ha=>?_,fun h p hp=>?_⟩
 ·refine h (a,i) ?_
  rw[List.mem_zipIdx_iff_getElem?];exact ha
 ·have:=(List.mem_zipIdx_iff_getElem?).1 hp
  exact h p.2 p.1 (List.getElem?_eq_some_iff.1 this).1 this
def eQ (t:Tk):Bool :=
 if t.kind=1\/t.kind=3 then bU t.name&&e8 t.attrs&&t.text.isEmpty
 else if t.kind=2 then bU t.name&&t.attrs.isEmpty&&t.text.isEmpty
 else if t.kind=4 then t.name.isEmpty&&t.attrs.isEmpty && !t.text.isEmpty&&decide (aF t.text=0)
 else false
def M7 (t:Tk):Int:=if eQ t=true then 0 else 8
def ls (a:Pr):List UInt8:=[32]++a.name++[61,34]++bI true a.value++[34]
def dK (l:List Pr):List UInt8:=l.flatMap ls
def dR (t:Tk):List UInt8 :=
 if t.kind=4 then bI false t.text
 else if t.kind=2 then [60,47]++t.name++[62]
 else [60]++t.name++dK t.attrs++(if t.kind=3 then [47,62] else [62])
def cj (l:List Tk):List UInt8:=l.flatMap dR
def tw {l:List Tk}{k:Nat}{t:Tk}(h:l[k]? = some t):cj (l.take (k+1))=cj (l.take k)++dR t:=by
 obtain⟨hk,rfl⟩:=List.getElem?_eq_some_iff.1 h
 rw[List.take_succ_eq_append_getElem hk];unfold cj;rw[List.flatMap_append];simp
def xw {l:List Pr}{k:Nat}{t:Pr}(h:l[k]? = some t):dK (l.take (k+1))=dK (l.take k)++ls t:=by
 obtain⟨hk,rfl⟩:=List.getElem?_eq_some_iff.1 h
 rw[List.take_succ_eq_append_getElem hk];unfold dK;rw[List.flatMap_append];simp
def jE:List Tk->Bool
 | a::b::r=>(a.kind==4&&b.kind==4)||jE (b::r)
 | _=>false
def kP (l:List Tk)(k:Nat):Prop:=∀(i:Nat) (a b:Tk),i+1<k->l[i]? = some a->l[i+1]? = some b -> ¬(a.kind=4/\b.kind=4)
def mg:∀ {l:List Tk},jE l=false↔kP l l.length
 | []=>by simp[jE,kP]
 | [a]=>by simp[jE,kP]
 | a::b::r=>by
  simp only[jE,Bool.or_eq_false_iff,mg (l:=b::r)]
  constructor
  ·rintro ⟨h1,h2⟩ i x y hi hx hy
   cases i with
   | zero =>
    simp at hx hy;subst hx;subst hy
    intro⟨e1,e2⟩
    simp[e1,e2]at h1
   | succ i=>exact h2 i x y (by simp at hi ⊢;omega) (by simpa using hx) (by simpa using hy)
  ·intro h
   refine⟨?_,fun i x y hi hx hy=>h (i+1) x y (by simp at hi ⊢;omega) (by simpa using hx) (by simpa using hy)⟩
   have:=h 0 a b (by simp) (by simp) (by simp)
   simp only[Bool.and_eq_false_iff,beq_eq_false_iff_ne]
   by_cases e:a.kind=4
   ·right;exact fun e2=>this ⟨e,e2⟩
   ·left;exact e
def xg {l:List Tk}{i:Nat}{a b:Tk}(ha:l[i]? = some a)(hb:l[i+1]? = some b)(h1:a.kind=4)(h2:b.kind=4):jE l=true:=by
 cases h:jE l with
 | true=>rfl
 | false =>
  have:=mg.1 h
  exact absurd ⟨h1,h2⟩ (this i a b (List.getElem?_eq_some_iff.1 hb).1 ha hb)
def fh (l:List Tk):Int:=if (l.any fun t=>!eQ t)=true\/jE l=true then 8 else if 512<l.length\/16384<(cj l).length then 4 else 0
def lN (l:List Tk):List UInt8:=if fh l=0 then cj l else []
def tm {α:Type}{f:α->Nat}{l:List α}{x:α}(h:x∈l):f x<=(l.map f).sum:=by
 induction l with
 | nil=>simp at h
 | cons y l ih =>
  simp only[List.map_cons,List.sum_cons]
  rcases List.mem_cons.1 h with rfl|h
  ·omega
  ·have:=ih h;omega
def vK (a:Pr):(ls a).length<=4+a.name.length+6*a.value.length:=by
 have:=bG true a.value
 simp only[ls,List.length_append,List.length_cons,List.length_nil];omega
def nk {α:Type}{f:α->List UInt8}{n:Nat} : ∀ {l:List α},(∀ x∈l,(f x).length<=n)->(l.flatMap f).length<=l.length*n
 | [],_=>by simp
 | x::l,h=>by
  have h1:=h x (by simp)
  have h2:=nk (l:=l) (fun y hy=>h y (by simp[hy]))
  simp only[List.flatMap_cons,List.length_append,List.length_cons,Nat.succ_mul];omega
def qC {t:Tk}{n:Nat}(h1:t.attrs.length<=30)(h2:t.name.length<=n)(h3:t.text.length<=n)(h4:∀ a∈t.attrs,a.name.length<=n/\a.value.length<=n):(dK t.attrs).length<=30*(4+7*n)/\(dR t).length<=124+217*n:=by
 have e:=bG false t.text
 have ha:(dK t.attrs).length<=t.attrs.length*(4+7*n):=nk (fun a ha=>by
  have:=vK a
  have:=h4 a ha
  omega)
 have hb:t.attrs.length*(4+7*n)<=30*(4+7*n):=Nat.mul_le_mul_right _ h1
 refine⟨by omega,?_⟩
 unfold dR
 split
 ·omega
 ·split
  ·simp only[List.length_append,List.length_cons,List.length_nil];omega
  ·simp only[List.length_append,List.length_cons,List.length_nil]
   split<;>simp only[List.length_cons,List.length_nil]<;>omega
structure At where
 space:List UInt8
 name:List UInt8
 value:List UInt8
deriving DecidableEq
structure Nd where
 kind:Nat
 space:List UInt8
 name:List UInt8
 attrs:List At
 text:List UInt8
 many:Int
deriving DecidableEq
structure Gr where
 v:List Nd
 opn:List Nat
def Nd.inc (n:Nd):Nd:={ n with many:=n.many+1 }
def Pf (v:List Nd)(opn:List Nat):List Nd:=match opn.getLast? with
 | some k=>v.modify k Nd.inc
 | none=>v
def NC (g:Gr)(n:Nd):List Nd:=Pf g.v g.opn++[n]
def ph (c:UInt8):Bool:=c==32||c==9||c==10||c==13
def LI (s:List UInt8):Bool:=s.all ph
def Ox (s:List UInt8):Nd:=⟨2,[],[],[],s,0⟩
def Mv (l:List Pr):List At:=l.map fun a=>⟨[],a.name,a.value⟩
def NU (t:Tk):Nd:=⟨1,[],t.name,Mv t.attrs,[],0⟩
def GA (g:Gr):Option (List UInt8):=g.opn.getLast?.bind fun k=>(g.v[k]?).map Nd.name
def stepG (g:Gr)(t:Tk)(txt:Bool):Gr×Int :=
 if t.kind=4 then
  if (txt||(g.opn.isEmpty && !LI t.text))=true then (g,80)
  else if g.opn.isEmpty=true then (g,0) else (⟨NC g (Ox t.text),g.opn⟩,0)
 else if t.kind=2 then
  if GA g=some t.name then (⟨g.v,g.opn.dropLast⟩,0) else (g,80)
 else if (g.opn.isEmpty && !g.v.isEmpty)=true then (g,80)
 else if 12<=g.opn.length then (g,100)
 else (⟨NC g (NU t),if t.kind=1 then g.opn++[g.v.length] else g.opn⟩,0)
def Pc:Gr->Bool->List Tk->Gr×Int
 | g,_,[]=>(g,0)
 | g,txt,t::r=>if (stepG g t txt).2=0 then Pc (stepG g t txt).1 (t.kind==4) r else stepG g t txt
structure Gr.Ok (g:Gr) (n:Nat):Prop where
 in_:∀ k∈g.opn,k<g.v.length
 deep:g.opn.length<=12
 many:∀ x∈g.v,0<=x.many/\x.many<=n
 len:g.v.length<=n
def Pd (c:UInt8):Option Nat:=if 48<=c.toNat/\c.toNat<=57 then some (c.toNat-48) else if 97<=c.toNat/\c.toNat<=102 then some (c.toNat-87) else if 65<=c.toNat/\c.toNat<=70 then some (c.toNat-55) else none
def N4:Nat->List UInt8->Option Nat
 | n,[]=>some n
 | n,c::r=>match Pd c with|none=>none|some d=>N4 (16*n+d) r
def Pe (s:List UInt8):Option Nat:=if s=[]\/6<s.length\/s.head? = some 48 then none else N4 0 s
def O2 (c:UInt8):Option Nat:=if 48<=c.toNat/\c.toNat<=57 then some (c.toNat-48) else none
def NM:Nat->List UInt8->Option Nat
 | n,[]=>some n
 | n,c::r=>match O2 c with|none=>none|some d=>NM (10*n+d) r
def NL (s:List UInt8):Option Nat:=if s=[]\/16<s.length\/(s.head? = some 48/\s≠[48]) then none else (NM 0 s).bind fun n=>if n<=9007199254740991 then some n else none
def pM (o:Option Nat):Option (List UInt8):=o.bind fun n=>if mW (n:Int)=true then some (encodeRune n) else none
def kw (s:List UInt8):Option (List UInt8) :=
 if s=[97,109,112] then some [38] else if s=[108,116] then some [60] else if s=[103,116] then some [62] else if s=[113,117,111,116] then some [34] else if s=[97,112,111,115] then some [39]
 else if s.head? = some 35 then (if s.tail.head? = some 120 then pM (Pe s.tail.tail) else pM (NL s.tail)) else none
def FE {d:UInt8}{s a b:List UInt8}(h:fA d s=some (a,b)):b.length<s.length:=by
 have:=(iF h).1
 rw[this];simp;omega
def dD:List UInt8->Option (List UInt8)
 | []=>some []
 | c::r=>if c=60 then none else if c=38 then (match h:fA 59 r with|none=>none|some (a,b)=>match kw a with|none=>none|some x=>(dD b).map (x ++ ·)) else (dD r).map (c :: ·)
termination_by s=>s.length
decreasing_by
 ·have:=FE h;simp;omega
 ·simp
def pQ:dD []=some []:=by rw[dD]
def sY (r:List UInt8):dD (60::r)=none:=by rw[dD];rfl
def jq {c:UInt8}(h1:c≠60)(h2:c≠38)(r:List UInt8):dD (c::r)=(dD r).map (c :: ·):=by rw[dD,if_neg h1,if_neg h2]
def nJ {r:List UInt8}(h:fA 59 r=none):dD (38::r)=none:=by
 rw[dD,if_neg (by decide),if_pos rfl]
 split
 ·rfl
 ·rename_i e;rw[h]at e;cases e
def pP {r a b:List UInt8}(h:fA 59 r=some (a,b))(hm:kw a=none):dD (38::r)=none:=by
 rw[dD,if_neg (by decide),if_pos rfl]
 split
 ·rfl
 ·rename_i e;rw[h]at e;cases e;rw[hm]
def pR {r a b x:List UInt8}(h:fA 59 r=some (a,b))(hm:kw a=some x):dD (38::r)=(dD b).map (x ++ ·):=by
 rw[dD,if_neg (by decide),if_pos rfl]
 split
 ·rename_i e;rw[h]at e;cases e
 ·rename_i e;rw[h]at e;cases e;rw[hm]
def vT {z:Int}(h0:0<=z)(h:z<128):encodeRune z=[z.toNat.toUInt8]:=by
 unfold encodeRune encodeRuneZ
 rw[if_pos (by omega)]
 rfl
def sb {z:Int}(h:128<=z):∀ c∈encodeRune z,128<=c.toNat:=by
 intro c hc
 unfold encodeRune encodeRuneZ at hc
 rw[if_neg (by omega)]at hc
 repeat' split at hc
 all_goals (
  simp only[List.map_cons,List.map_nil,List.mem_cons,List.not_mem_nil,or_false]at hc
  rcases hc with rfl|rfl|rfl|rfl<;>(rw[eL (by omega) (by omega)];omega))
def dC (n:Nat):List UInt8:=if n<=9 then [UInt8.ofNat (48+n)] else dC (n / 10)++[UInt8.ofNat (48+n % 10)]
termination_by n
decreasing_by omega
def dY {n:Nat}(h:n<=9):dC n=[UInt8.ofNat (48+n)]:=by rw[dC,if_pos h]
def fG {n:Nat}(h:9<n):dC n=dC (n / 10)++[UInt8.ofNat (48+n % 10)]:=by rw[dC,if_neg (by omega)]
def CW (n:Nat):dC n≠[]:=by
 by_cases h:n<=9
 ·rw[dY h];simp
 ·rw[fG (by omega)];simp
def da (s:List UInt8):List UInt8:=s.dropWhile ph
def Cy (c:UInt8):Bool:=jX false c||c==58
def Cz (s:List UInt8):List UInt8:=s.takeWhile Cy
def Ie (s:List UInt8):List UInt8:=s.dropWhile Cy
def oH (s:List UInt8):Option (List UInt8×List UInt8):=if bU (Cz s)=true then some (Cz s,Ie s) else none
def uM (c:UInt8):UInt8:=if ph c=true then 32 else c
def H4 (s:List UInt8):Option (List UInt8):=dD (s.map uM)
def wM:List UInt8->Option (List UInt8×List UInt8)
 | []=>none
 | q::t=>if q=39\/q=34 then fA q t else none
def p0 (s:List UInt8):Option (List UInt8×List UInt8):=(wM s).bind fun p=>(H4 p.1).map fun v=>(v,p.2)
def jt (c:UInt8):List UInt8->Option (List UInt8)
 | []=>none
 | d::t=>if d=c then some t else none
def kS (s:List UInt8):Option (Pr×List UInt8):=(oH s).bind fun p=>(jt 61 (da p.2)).bind fun t=>(p0 (da t)).map fun q=>(⟨p.1,q.1⟩,q.2)
def ki {p:UInt8->Bool} : ∀ s:List UInt8,(s.dropWhile p).length<=s.length
 | []=>Nat.le_refl _
 | c::s=>by
  rw[List.dropWhile_cons]
  split
  ·have:=ki (p:=p) s;simp;omega
  ·exact Nat.le_refl _
def gR (s:List UInt8):(da s).length<=s.length:=ki s
def BD (s:List UInt8):s=Cz s++Ie s:=(List.takeWhile_append_dropWhile).symm
def Js {s:List UInt8}(h:bU s=true):s≠[]:=by
 intro e;subst e;cases h
def mu {s n r:List UInt8}(h:oH s=some (n,r)):s=n++r/\n≠[]/\bU n=true/\r.length<s.length:=by
 unfold oH at h
 split at h
 ·rename_i hf
  cases h
  have h1:=BD s
  have h2:=Js hf
  refine⟨h1,h2,hf,?_⟩
  have:=congrArg List.length h1
  rw[List.length_append]at this
  have:=List.length_pos_iff.2 h2
  omega
 ·cases h
def kc (c d:UInt8)(t:List UInt8):jt c (d::t)=if d=c then some t else none:=rfl
def A1 (q:UInt8)(t:List UInt8):wM (q::t)=if q=39\/q=34 then fA q t else none:=rfl
def fw {c:UInt8}{s t:List UInt8}(h:jt c s=some t):s=c::t:=by
 cases s with
 | nil=>cases h
 | cons d s =>
  rw[kc]at h
  split at h
  ·rename_i e;cases h;rw[e]
  ·cases h
def nH {s a b:List UInt8}(h:wM s=some (a,b)):∃ q,(q=39\/q=34)/\s=q::(a++q::b)/\q ∉ a:=by
 cases s with
 | nil=>cases h
 | cons q t =>
  rw[A1]at h
  split at h
  ·rename_i hq
   obtain⟨h1,h2⟩:=iF h
   exact⟨q,hq,by rw[h1],h2⟩
  ·cases h
def nM {s v r:List UInt8}(h:p0 s=some (v,r)):∃ a,wM s=some (a,r)/\H4 a=some v:=by
 unfold p0 at h
 obtain⟨⟨a,b⟩,h1,h2⟩:=Option.bind_eq_some_iff.1 h
 obtain⟨x,h3,h4⟩:=Option.map_eq_some_iff.1 h2
 cases h4
 exact⟨a,h1,h3⟩
def pe {s r:List UInt8}{a:Pr}(h:kS s=some (a,r)):∃ r1 t,oH s=some (a.name,r1)/\da r1=61::t/\p0 (da t)=some (a.value,r):=by
 unfold kS at h
 obtain⟨⟨n,r1⟩,h1,h2⟩:=Option.bind_eq_some_iff.1 h
 obtain⟨t,h3,h4⟩:=Option.bind_eq_some_iff.1 h2
 obtain⟨⟨v,r2⟩,h5,h6⟩:=Option.map_eq_some_iff.1 h4
 cases h6
 exact⟨r1,t,h1,fw h3,h5⟩
def qY {s r:List UInt8}{a:Pr}(h:kS s=some (a,r)):r.length<s.length:=by
 obtain⟨r1,t,h1,h2,h3⟩:=pe h
 have l1:=(mu h1).2.2.2
 have l2:=gR r1
 rw[h2]at l2
 have l3:=gR t
 obtain⟨v,h4,_⟩:=nM h3
 obtain⟨q,_,h5,_⟩:=nH h4
 rw[h5]at l3
 simp only[List.length_cons,List.length_append]at l2 l3
 omega
def pv:List UInt8->Option (Nat×List UInt8)
 | 62::t=>some (1,t)
 | 47::62::t=>some (3,t)
 | _=>none
def l8 (n:List UInt8)(l:List Pr)(s:List UInt8):Option (Tk×List UInt8) :=
 match pv (da s) with
 | some (k,t)=>some (⟨k,n,l,[]⟩,t)
 | none=>if (da s).length<s.length then (match h:kS (da s) with
  | none=>none
  | some (a,r)=>if (l.any fun b=>a.name==b.name)=true then none else l8 n (l++[a]) r) else none
termination_by s.length
decreasing_by
 have:=qY h
 have:=gR s
 omega
def Cq {n:List UInt8}{l:List Pr}{s t:List UInt8}{k:Nat}(h:pv (da s)=some (k,t)):l8 n l s=some (⟨k,n,l,[]⟩,t):=by rw[l8,h]
def rn {n:List UInt8}{l:List Pr}{s:List UInt8}(h:pv (da s)=none)(h2:¬(da s).length<s.length):l8 n l s=none:=by rw[l8,h];simp only[if_neg h2]
def Cp {n:List UInt8}{l:List Pr}{s:List UInt8}(h:pv (da s)=none)(h2:kS (da s)=none):l8 n l s=none:=by
 rw[l8,h];simp only
 split
 ·split
  ·rfl
  ·rename_i e;rw[h2]at e;cases e
 ·rfl
def vr {n:List UInt8}{l:List Pr}{s r:List UInt8}{a:Pr}(h:pv (da s)=none)(h2:kS (da s)=some (a,r))(h3:(l.any fun b=>a.name==b.name)=true):l8 n l s=none:=by
 rw[l8,h];simp only
 split
 ·split
  ·rfl
  ·rename_i e;rw[h2]at e;cases e;rw[if_pos h3]
 ·rfl
def zf {n:List UInt8}{l:List Pr}{s r:List UInt8}{a:Pr}(h:pv (da s)=none)(hg:(da s).length<s.length)(h2:kS (da s)=some (a,r))(h3:(l.any fun b=>a.name==b.name)=false):l8 n l s=l8 n (l++[a]) r:=by
 rw[l8,h];simp only[if_pos hg]
 split
 ·rename_i e;rw[h2]at e;cases e
 ·rename_i e;rw[h2]at e;cases e;rw[if_neg (by simp[h3])]
def HV (s:List UInt8):Option (Tk×List UInt8) :=
 match jt 47 s with
 | some t=>(oH t).bind fun p=>(jt 62 (da p.2)).map fun r=>(⟨2,p.1,[],[]⟩,r)
 | none=>(oH s).bind fun p=>l8 p.1 [] p.2
def kY (c:UInt8):Bool:=c != 60
def qB (s:List UInt8):List UInt8:=s.takeWhile kY
def mZ (s:List UInt8):List UInt8:=s.dropWhile kY
def qQ (s:List UInt8):Option (Tk×List UInt8) :=
 match jt 60 s with
 | some t=>HV t
 | none=>(dD (qB s)).map fun x=>(⟨4,[],[],x⟩,mZ s)
def KJ:∀(k:Nat) (n:List UInt8) (l:List Pr) (s r:List UInt8) (t:Tk),s.length<=k->l8 n l s=some (t,r)->r.length<s.length:=by
 intro k
 induction k with
 | zero =>
  intro n l s r t hk h
  obtain rfl:=List.length_eq_zero_iff.1 (Nat.le_zero.1 hk)
  rw[rn (by rfl) (by simp[da])]at h;cases h
 | succ k ih =>
  intro n l s r t hk h
  have hs:=gR s
  cases he:pv (da s) with
  | some p =>
   obtain⟨m,u⟩:=p
   rw[Cq he]at h
   cases h
   unfold pv at he
   split at he
   ·rename_i e;cases he;rw[e]at hs;simp at hs;omega
   ·rename_i e;cases he;rw[e]at hs;simp at hs;omega
   ·cases he
  | none =>
   cases ha:kS (da s) with
   | none=>rw[Cp he ha]at h;cases h
   | some p =>
    obtain⟨a,u⟩:=p
    have hl:=qY ha
    cases hd:l.any fun b=>a.name==b.name with
    | true=>rw[vr he ha hd]at h;cases h
    | false =>
     by_cases hg:(da s).length<s.length
     ·rw[zf he hg ha hd]at h
      have:=ih n _ u r t (by omega) h
      omega
     ·rw[rn he hg]at h;cases h
def M6 {s r:List UInt8}{t:Tk}(h:HV s=some (t,r)):r.length<s.length:=by
 unfold HV at h
 split at h
 ·rename_i u hu
  obtain⟨⟨n,r1⟩,h1,h2⟩:=Option.bind_eq_some_iff.1 h
  obtain⟨r2,h3,h4⟩:=Option.map_eq_some_iff.1 h2
  cases h4
  have l1:=(mu h1).2.2.2
  have l2:=gR r1
  rw[fw h3]at l2
  rw[fw hu]
  simp only[List.length_cons]at l2 ⊢
  omega
 ·obtain⟨⟨n,r1⟩,h1,h2⟩:=Option.bind_eq_some_iff.1 h
  have l1:=(mu h1).2.2.2
  have l2:=KJ _ n [] r1 r t (Nat.le_refl _) h2
  omega
def G7 {s r:List UInt8}{t:Tk}(hne:s≠[])(h:qQ s=some (t,r)):r.length<s.length:=by
 unfold qQ at h
 split at h
 ·rename_i u hu
  have:=M6 h
  rw[fw hu];simp;omega
 ·rename_i hu
  obtain⟨x,_,h2⟩:=Option.map_eq_some_iff.1 h
  cases h2
  cases s with
  | nil=>exact absurd rfl hne
  | cons c s =>
   have hc:kY c=true:=by
    rw[kc]at hu
    split at hu
    ·cases hu
    ·rename_i e;simp[kY,e]
   unfold mZ
   rw[List.dropWhile_cons,if_pos hc]
   have:=ki (p:=kY) s
   simp;omega
def iU (n:Nat)(l:List Tk)(s:List UInt8):List Tk×Nat×Int :=
 if hn:s=[] then (l,0,0) else if 512<=l.length then ([],n-s.length,4) else match h:qQ s with
  | none=>([],n-s.length,80)
  | some (t,r)=>if 16<t.attrs.length then ([],n-s.length,4) else iU n (l++[t]) r
termination_by s.length
decreasing_by exact G7 hn h
def yI (n:Nat)(l:List Tk):iU n l []=(l,0,0):=by rw[iU,dif_pos rfl]
def DK {n:Nat}{l:List Tk}{s:List UInt8}(h:s≠[])(h2:512<=l.length):iU n l s=([],n-s.length,4):=by rw[iU,dif_neg h,if_pos h2]
def GE {n:Nat}{l:List Tk}{s:List UInt8}(h:s≠[])(h2:l.length<512)(h3:qQ s=none):iU n l s=([],n-s.length,80):=by
 rw[iU,dif_neg h,if_neg (by omega)]
 split
 ·rfl
 ·rename_i e;rw[h3]at e;cases e
def AH {n:Nat}{l:List Tk}{s r:List UInt8}{t:Tk}(h:s≠[])(h2:l.length<512)(h3:qQ s=some (t,r))(h4:16<t.attrs.length):iU n l s=([],n-s.length,4):=by
 rw[iU,dif_neg h,if_neg (by omega)]
 split
 ·rename_i e;rw[h3]at e;cases e
 ·rename_i e;rw[h3]at e;cases e;rw[if_pos h4]
def JO {n:Nat}{l:List Tk}{s r:List UInt8}{t:Tk}(h:s≠[])(h2:l.length<512)(h3:qQ s=some (t,r))(h4:t.attrs.length<=16):iU n l s=iU n (l++[t]) r:=by
 rw[iU,dif_neg h,if_neg (by omega)]
 split
 ·rename_i e;rw[h3]at e;cases e
 ·rename_i e;rw[h3]at e;cases e;rw[if_neg (by omega)]
def lg (s:List UInt8):List Tk×Nat×Int:=if aF s≠0 then ([],0,aF s) else iU s.length [] s
set_option maxRecDepth 100000
set_option maxHeartbeats 32000000
open Go Go.RowKit Vm Go.Lib Tryz
open Vm renaming aI->Ca,aP->Cb
open And renaming intro->Ai
open List renaming length_map->Lm,not_mem_nil->Ln,map_nil->Lo,map_cons->Lc,mem_cons->Lk
open Bool renaming not_false->Bf,not_true->Bt
def tC (r:Int):Bool:=(decide (0<=r)&&decide (r<55296))||(decide (57343<r)&&decide (r<=1114111))
def zn (r:Int)(nm:Nat):Ev cx 168 nm [.int .i32 r] ao.nil (.bool (tC r)) []:=by
 unfold tC
 refine aX call168 func168 ?_;intro b0 hb0
 (repeat' first|simp only[au,ap,results168,ntmps168,am,aj,ai,seval]|exact rfl|refine aa (v:=.any) ?_|((first|apply Ca|apply Cb)<;>intro hb)|refine Ai (by omega) ?_|(apply Ai<;>intro hb)|apply Fin.pure|simp only[aq])
 all_goals simp_all
def rm (n:Int)(nm:Nat):Ev cx 148 nm [.int .i64 n] ao.nil (.bool (mW n)) []:=by
 refine aX call148 func148 ?_;intro b0 hb0
 (repeat' first|simp only[au,ap,results148,ntmps148,am,aj,ai,seval]|exact rfl|refine aa (v:=.any) ?_|((first|apply Ca|apply Cb)<;>intro hb)|refine Ai (by omega) ?_|(apply Ai<;>intro hb)|apply Fin.pure|simp only[aq])
 all_goals simp only[decide_eq_true_eq,decide_eq_false_iff_not,beq_iff_eq,beq_eq_false_iff_ne,ne_eq]at *
 all_goals (first|(exfalso;omega)|(exact On (by omega))|(exact Om (by omega))|skip)
 have hw:IntKind.i32.wrap n=n:=IntWalk.i32_in _ (by omega)
 rw[hw]
 have hv:tC n=mW n:=by
  cases h:mW n with
  | true =>
   have:=(jn n).1 h
   unfold tC
   simp only[Bool.or_eq_true,Bool.and_eq_true,decide_eq_true_eq];omega
  | false =>
   have h':¬ _:=fun q=>by rw[(jn n).2 q]at h;cases h
   unfold tC
   simp only[Bool.or_eq_false_iff,Bool.and_eq_false_iff,decide_eq_false_iff_not];omega
 (repeat' first|simp only[au,ap,results148,ntmps148,am,hv,aj,ai,seval]|exact rfl|refine aa (v:=.any) ?_|(first|(refine ah ?_ (zn n _) ?_)|(refine ac ?_ (fun _=>zn n _) ?_))|((first|apply Ca|apply Cb)<;>intro hb)|refine Ai (by omega) ?_|(apply Ai<;>intro hb)|apply Fin.pure|simp only[aq])
def preB (s p:List UInt8):Bool:=decide (p.length<=s.length)&&(s.take p.length==p)
def DC (s p:List UInt8)(hs:s.length<=aT)(hp:p.length<=aT)(nm:Nat):Ev cx 167 nm [.str s,.str p] ao.nil (.bool (preB s p)) []:=by
 unfold aT at hs hp
 unfold preB
 refine aX call167 func167 ?_;intro b0 hb0
 (repeat' first|simp only[au,ap,results167,ntmps167,am,decide_eq_true_eq,imp_self,aj,ai,seval]|exact rfl|refine aa (v:=.any) ?_|((first|apply Ca|apply Cb)<;>intro hb)|refine Ai (by omega) ?_|(apply Ai<;>intro hb)|apply Fin.pure|simp only[aq])
def wI (s p:List UInt8)(hs:s.length<=aT)(hp:p.length<=aT)(nm:Nat):Ev cx 147 nm [.str s,.str p] ao.nil (.bool (preB s p)) []:=by
 refine aX call147 func147 ?_;intro b0 hb0
 exact wP (a2 results147 ntmps147) (DC s p hs hp)
end Go.Proofs.YtjonibipieofcaaGreatDoor
