/-
 Texts joined: XTy,XEp,XEq,XEr,XEs,XEx,XEn,XEa,XEc,XEd,XEh,XEt,XLa,XGa,XGb,XGc,XGd.
-/
import Derived.Test.YtnnbggkpgacdiaaDoorChecked
import Derived.Lib.LaidU8
import Derived.Lib.ItoaNum
import Derived.Lib.RuneBytes
import Derived.Lib.MapLaws
import Derived.Lib.RuneCountTail
import Derived.Lib.IndexLaws
import Derived.Test.YtnnbggkpgacdiaaDoorQe
namespace Go.Proofs.YtnnbggkpgacdiaaDoor
set_option maxRecDepth 100000
set_option maxHeartbeats 32000000
set_option linter.unusedSimpArgs false
set_option linter.unusedVariables false
open Go Go.RowKit Vm Go.Lib Tryd
open Vm renaming cond_bool→Ca,cond_bit→Cb
open And renaming intro→Ai
open List renaming length_map→Lm,not_mem_nil→Ln,map_nil→Lo,map_cons→Lc,mem_cons→Lk
open Bool renaming not_false→Bf,not_true→Bt
def firstV:V:=.rp (Lib.firstTab.map fun z=>.int .u8 z)
def accV:V:=.rp ((List.range 16).flatMap fun i=>[V.int .u8 (Lib.accLo i),.int .u8 (Lib.accHi i)])
def tensV:V:=.rp (Lib.pow10Tab.map fun z=>.int .u64 z)
def tabsG (g:Nat):V:=if g=6 then firstV else if g=7 then accV else if g=0 then tensV else .any
theorem tabs_plain:firstV.plain=true∧accV.plain=true∧tensV.plain=true:=by decide +kernel
noncomputable def cx:Cx:=⟨Tryd.prog,tabsG,[]⟩
theorem cxG:∀ g,(cx.G g).plain=true:=fun g=>by
 show(tabsG g).plain=true
 unfold tabsG
 split
 ·exact tabs_plain.1
 ·split
  ·exact tabs_plain.2.1
  ·split
   ·exact tabs_plain.2.2
   ·rfl
theorem mixed:cx.P.follows .mixedOrders=true:=by kernel_rfl
theorem und_23:cx.P.underlying 23=some (.int .i64):=by kernel_rfl
theorem und_3:cx.P.underlying 3=some (.int .i64):=by kernel_rfl
theorem und_5:cx.P.underlying 5=some (.int .u8):=by kernel_rfl
theorem el_28:elInfo cx.P 28=some ([.int .u8 0],1):=by kernel_rfl
theorem und_9:cx.P.underlying 9=some .string:=by kernel_rfl
theorem lk_9:lenKind cx.P 9=true:=by kernel_rfl
theorem und_28:cx.P.underlying 28=some (.slice 5):=by kernel_rfl
theorem bt_28:bytesT cx.P 28=true:=by kernel_rfl
theorem lk_28:lenKind cx.P 28=true:=by kernel_rfl
theorem et_28:elemT cx.P 28=some 5:=by kernel_rfl
theorem bet_28:betT cx.P 28=some 5:=by kernel_rfl
theorem elm_28:elm cx.P 28=some (none,1,false):=by kernel_rfl
theorem ty_5:ty cx.P 5=some (1,false):=by kernel_rfl
theorem el_30:elInfo cx.P 30=some ([.int .i64 0],8):=by kernel_rfl
theorem zero_40:zeroL cx.P 40=some [.nilp,.nils]:=by kernel_rfl
theorem bld_40:bldT cx.P 40=some 40:=by kernel_rfl
theorem zero_41:zeroL cx.P 41=some [.int .u8 0,.int .u8 0]:=by kernel_rfl
theorem bld_41:bldT cx.P 41=none:=by kernel_rfl
theorem ty_41:ty cx.P 41=some (2,true):=by kernel_rfl
theorem elm_41:elm cx.P 41=some (some 2,1,false):=by kernel_rfl
theorem und_41:cx.P.underlying 41=some (.array 2 5):=by kernel_rfl
theorem zero_28:zeroL cx.P 28=some [.nils]:=by kernel_rfl
theorem bld_28:bldT cx.P 28=none:=by kernel_rfl
theorem und_30:cx.P.underlying 30=some (.slice 3):=by kernel_rfl
theorem lk_30:lenKind cx.P 30=true:=by kernel_rfl
theorem et_30:elemT cx.P 30=some 3:=by kernel_rfl
theorem bet_30:betT cx.P 30=none:=by kernel_rfl
theorem elm_30:elm cx.P 30=some (none,1,false):=by kernel_rfl
theorem ty_3:ty cx.P 3=some (1,false):=by kernel_rfl
theorem ty_28:ty cx.P 28=some (1,false):=by kernel_rfl
theorem und_21:cx.P.underlying 21=some (.int .i32):=by kernel_rfl
theorem shape_41:shapeT cx.P 41=some ([.int .u8 0,.int .u8 0],[(0,1),(1,1)]):=by kernel_rfl
theorem fld_40_1:fld cx.P 40 1=some (1,1,false):=by kernel_rfl
theorem und_52:cx.P.underlying 52=some (.pointer 5):=by kernel_rfl
theorem und_53:cx.P.underlying 53=some (.int .u32):=by kernel_rfl
theorem shape_57:shapeT cx.P 57=some ([.str [],.nils],[(0,1),(1,1)]):=by kernel_rfl
theorem fld_57_0:fld cx.P 57 0=some (0,1,false):=by kernel_rfl
theorem ty_9:ty cx.P 9=some (1,false):=by kernel_rfl
theorem fld_57_1:fld cx.P 57 1=some (1,1,false):=by kernel_rfl
theorem zero_61:zeroL cx.P 61=some [.str []]:=by kernel_rfl
theorem bld_61:bldT cx.P 61=none:=by kernel_rfl
theorem ty_61:ty cx.P 61=some (1,true):=by kernel_rfl
theorem fld_61_0:fld cx.P 61 0=some (0,1,false):=by kernel_rfl
theorem fld_40_0:fld cx.P 40 0=some (0,1,false):=by kernel_rfl
theorem ty_38:ty cx.P 38=some (1,false):=by kernel_rfl
theorem und_38:cx.P.underlying 38=some (.pointer 40):=by kernel_rfl
theorem und_67:cx.P.underlying 67=some .unsafePointer:=by kernel_rfl
theorem shape_77:shapeT cx.P 77=some ([.str [],.val .nilFunc],[(0,1),(1,1)]):=by kernel_rfl
theorem el_78:elInfo cx.P 78=some ([.str [],.val .nilFunc],24):=by kernel_rfl
theorem und_78:cx.P.underlying 78=some (.slice 77):=by kernel_rfl
theorem lk_78:lenKind cx.P 78=true:=by kernel_rfl
theorem et_78:elemT cx.P 78=some 77:=by kernel_rfl
theorem bet_78:betT cx.P 78=none:=by kernel_rfl
theorem elm_78:elm cx.P 78=some (none,2,true):=by kernel_rfl
theorem ty_77:ty cx.P 77=some (2,true):=by kernel_rfl
theorem zero_77:zeroL cx.P 77=some [.str [],.val .nilFunc]:=by kernel_rfl
theorem bld_77:bldT cx.P 77=none:=by kernel_rfl
theorem fld_77_0:fld cx.P 77 0=some (0,1,false):=by kernel_rfl
theorem fld_77_1:fld cx.P 77 1=some (1,1,false):=by kernel_rfl
theorem ty_75:ty cx.P 75=some (1,false):=by kernel_rfl
theorem shape_61:shapeT cx.P 61=some ([.str []],[(0,1)]):=by kernel_rfl
theorem und_2:cx.P.underlying 2=some (.int .i64):=by kernel_rfl
theorem zero_82:zeroL cx.P 82=some [.int .u8 0,.int .u8 0,.int .u8 0,.int .u8 0,.int .u8 0,.int .u8 0,.int .u8 0,.int .u8 0,.int .u8 0,.int .u8 0,.int .u8 0,.int .u8 0,.int .u8 0,.int .u8 0,.int .u8 0,.int .u8 0,.int .u8 0,.int .u8 0,.int .u8 0,.int .u8 0,.int .u8 0,.int .u8 0,.int .u8 0,.int .u8 0]:=by kernel_rfl
theorem bld_82:bldT cx.P 82=none:=by kernel_rfl
theorem und_83:cx.P.underlying 83=some (.int .u64):=by kernel_rfl
theorem elm_82:elm cx.P 82=some (some 24,1,false):=by kernel_rfl
theorem und_82:cx.P.underlying 82=some (.array 24 5):=by kernel_rfl
theorem elm_95:elm cx.P 95=some (some 20,1,false):=by kernel_rfl
theorem ty_83:ty cx.P 83=some (1,false):=by kernel_rfl
theorem zero_96:zeroL cx.P 96=some [.int .u8 0,.int .u8 0,.int .u8 0,.int .u8 0,.int .u8 0,.int .u8 0,.int .u8 0,.int .u8 0,.int .u8 0,.int .u8 0,.int .u8 0,.int .u8 0,.int .u8 0,.int .u8 0,.int .u8 0,.int .u8 0,.int .u8 0,.int .u8 0,.int .u8 0,.int .u8 0,.int .u8 0,.int .u8 0,.int .u8 0,.int .u8 0,.int .u8 0,.int .u8 0,.int .u8 0,.int .u8 0,.int .u8 0,.int .u8 0,.int .u8 0,.int .u8 0,.int .u8 0,.int .u8 0,.int .u8 0,.int .u8 0,.int .u8 0,.int .u8 0,.int .u8 0,.int .u8 0,.int .u8 0,.int .u8 0,.int .u8 0,.int .u8 0,.int .u8 0,.int .u8 0,.int .u8 0,.int .u8 0,.int .u8 0,.int .u8 0,.int .u8 0,.int .u8 0,.int .u8 0,.int .u8 0,.int .u8 0,.int .u8 0,.int .u8 0,.int .u8 0,.int .u8 0,.int .u8 0,.int .u8 0,.int .u8 0,.int .u8 0,.int .u8 0,.int .u8 0]:=by kernel_rfl
theorem bld_96:bldT cx.P 96=none:=by kernel_rfl
theorem und_27:cx.P.underlying 27=some (.int .u64):=by kernel_rfl
theorem elm_96:elm cx.P 96=some (some 65,1,false):=by kernel_rfl
theorem und_96:cx.P.underlying 96=some (.array 65 5):=by kernel_rfl
theorem zero_101:zeroL cx.P 101=some [.bool false,.bool false,.bool false,.bool false,.bool false,.bool false,.bool false,.bool false,.bool false,.bool false,.bool false,.bool false,.bool false,.bool false,.bool false,.bool false,.bool false,.bool false,.bool false,.bool false,.bool false,.bool false,.bool false,.bool false,.bool false,.bool false,.bool false,.bool false,.bool false,.bool false,.bool false,.bool false,.bool false,.bool false,.bool false,.bool false,.bool false,.bool false,.bool false,.bool false,.bool false,.bool false,.bool false,.bool false,.bool false,.bool false,.bool false,.bool false,.bool false,.bool false,.bool false,.bool false,.bool false,.bool false,.bool false,.bool false,.bool false,.bool false,.bool false,.bool false,.bool false,.bool false,.bool false,.bool false,.bool false,.bool false,.bool false,.bool false,.bool false,.bool false,.bool false,.bool false,.bool false,.bool false,.bool false,.bool false,.bool false,.bool false,.bool false,.bool false,.bool false,.bool false,.bool false,.bool false,.bool false,.bool false,.bool false,.bool false,.bool false,.bool false,.bool false,.bool false,.bool false,.bool false,.bool false,.bool false,.bool false,.bool false,.bool false,.bool false,.bool false,.bool false,.bool false,.bool false,.bool false,.bool false,.bool false,.bool false,.bool false,.bool false,.bool false,.bool false,.bool false,.bool false,.bool false,.bool false,.bool false,.bool false,.bool false,.bool false,.bool false,.bool false,.bool false,.bool false,.bool false,.bool false,.bool false,.bool false,.bool false,.bool false,.bool false,.bool false,.bool false,.bool false,.bool false,.bool false,.bool false,.bool false,.bool false,.bool false,.bool false,.bool false,.bool false,.bool false,.bool false,.bool false,.bool false,.bool false,.bool false,.bool false,.bool false,.bool false,.bool false,.bool false,.bool false,.bool false,.bool false,.bool false,.bool false,.bool false,.bool false,.bool false,.bool false,.bool false,.bool false,.bool false,.bool false,.bool false,.bool false,.bool false,.bool false,.bool false,.bool false,.bool false,.bool false,.bool false,.bool false,.bool false,.bool false,.bool false,.bool false,.bool false,.bool false,.bool false,.bool false,.bool false,.bool false,.bool false,.bool false,.bool false,.bool false,.bool false,.bool false,.bool false,.bool false,.bool false,.bool false,.bool false,.bool false,.bool false,.bool false,.bool false,.bool false,.bool false,.bool false,.bool false,.bool false,.bool false,.bool false,.bool false,.bool false,.bool false,.bool false,.bool false,.bool false,.bool false,.bool false,.bool false,.bool false,.bool false,.bool false,.bool false,.bool false,.bool false,.bool false,.bool false,.bool false,.bool false,.bool false,.bool false,.bool false,.bool false,.bool false,.bool false,.bool false,.bool false,.bool false,.bool false,.bool false,.bool false,.bool false,.bool false,.bool false,.bool false,.bool false,.bool false,.bool false,.bool false,.bool false,.bool false,.bool false,.bool false,.bool false,.bool false,.bool false,.bool false]:=by kernel_rfl
theorem bld_101:bldT cx.P 101=none:=by kernel_rfl
theorem ty_101:ty cx.P 101=some (256,true):=by kernel_rfl
theorem elm_101:elm cx.P 101=some (some 256,1,false):=by kernel_rfl
theorem ty_4:ty cx.P 4=some (1,false):=by kernel_rfl
theorem elm_118:elm cx.P 118=some (some 32,1,false):=by kernel_rfl
theorem elm_119:elm cx.P 119=some (some 64,1,false):=by kernel_rfl
theorem ty_44:ty cx.P 44=some (1,false):=by kernel_rfl
theorem shape_125:shapeT cx.P 125=some ([.str [],.str [],.val .nilIface],[(0,1),(1,1),(2,1)]):=by kernel_rfl
theorem elm_127:elm cx.P 127=some (some 256,1,false):=by kernel_rfl
theorem elm_130:elm cx.P 130=some (some 16,2,true):=by kernel_rfl
theorem ty_129:ty cx.P 129=some (2,true):=by kernel_rfl
theorem zero_129:zeroL cx.P 129=some [.int .u8 0,.int .u8 0]:=by kernel_rfl
theorem bld_129:bldT cx.P 129=none:=by kernel_rfl
theorem fld_129_0:fld cx.P 129 0=some (0,1,false):=by kernel_rfl
theorem fld_129_1:fld cx.P 129 1=some (1,1,false):=by kernel_rfl
set_option linter.defProp false in
def tys:=(Ai und_23 (Ai und_3 (Ai und_5 (Ai el_28 (Ai und_9 (Ai lk_9 (Ai und_28 (Ai bt_28 (Ai lk_28 (Ai et_28 (Ai bet_28 (Ai elm_28 (Ai ty_5 (Ai el_30 (Ai zero_40 (Ai bld_40 (Ai zero_41 (Ai bld_41 (Ai ty_41 (Ai elm_41 (Ai und_41 (Ai zero_28 (Ai bld_28 (Ai und_30 (Ai lk_30 (Ai et_30 (Ai bet_30 (Ai elm_30 (Ai ty_3 (Ai ty_28 (Ai und_21 (Ai shape_41 (Ai fld_40_1 (Ai und_52 (Ai und_53 (Ai shape_57 (Ai fld_57_0 (Ai ty_9 (Ai fld_57_1 (Ai zero_61 (Ai bld_61 (Ai ty_61 (Ai fld_61_0 (Ai fld_40_0 (Ai ty_38 (Ai und_38 (Ai und_67 (Ai shape_77 (Ai el_78 (Ai und_78 (Ai lk_78 (Ai et_78 (Ai bet_78 (Ai elm_78 (Ai ty_77 (Ai zero_77 (Ai bld_77 (Ai fld_77_0 (Ai fld_77_1 (Ai ty_75 (Ai shape_61 (Ai und_2 (Ai zero_82 (Ai bld_82 (Ai und_83 (Ai elm_82 (Ai und_82 (Ai elm_95 (Ai ty_83 (Ai zero_96 (Ai bld_96 (Ai und_27 (Ai elm_96 (Ai und_96 (Ai zero_101 (Ai bld_101 (Ai ty_101 (Ai elm_101 (Ai ty_4 (Ai elm_118 (Ai elm_119 (Ai ty_44 (Ai shape_125 (Ai elm_127 (Ai elm_130 (Ai ty_129 (Ai zero_129 (Ai bld_129 (Ai fld_129_0 (Ai fld_129_1 True.intro))))))))))))))))))))))))))))))))))))))))))))))))))))))))))))))))))))))))))))))))))))))))))
theorem kind_4:kindT cx.P 4=some .bool:=by kernel_rfl
theorem kind_3:kindT cx.P 3=some (.int .i64):=by kernel_rfl
end Go.Proofs.YtnnbggkpgacdiaaDoor
namespace Go.Proofs.YtnnbggkpgacdiaaDoor
set_option maxRecDepth 100000
set_option maxHeartbeats 32000000
set_option linter.unusedSimpArgs false
set_option linter.unusedVariables false
open Go Go.RowKit
def may (n:Int):Bool:=decide (n=9∨n=10∨n=13∨(32≤n∧n≤1114111 ∧ ¬(55296≤n∧n≤57343)∧n≠65534∧n≠65535))
theorem may_iff (n:Int):may n=true↔(n=9∨n=10∨n=13∨(32≤n∧n≤1114111 ∧ ¬(55296≤n∧n≤57343)∧n≠65534∧n≠65535)):=by
 unfold may;exact decide_eq_true_iff
theorem may_t {n:Int}(h:n=9∨n=10∨n=13∨(32≤n∧n≤1114111 ∧ ¬(55296≤n∧n≤57343)∧n≠65534∧n≠65535)):true=may n:=((may_iff n).2 h).symm
theorem may_f {n:Int}(h:¬(n=9∨n=10∨n=13∨(32≤n∧n≤1114111 ∧ ¬(55296≤n∧n≤57343)∧n≠65534∧n≠65535))):false=may n:=by
 unfold may;symm;exact decide_eq_false_iff_not.2 h
theorem may_range {n:Int}(h:may n=true):0≤n∧n≤1114111∧(2048≤n→n≤65535→(2048≤n∧n<55296)∨(57343<n∧n≤65535)):=by
 have:=(may_iff n).1 h
 refine⟨by omega,by omega,fun a b=>by omega⟩
def enc (l:List Int):List UInt8:=l.flatMap Lib.encodeRune
def u8 (b:UInt8):Value:=.int .u8 (b.toNat:Int)
def ofErr (l:List Int):Int:=if l.all may then (if 16384<(enc l).length then 4 else 0) else 50
def ofText (l:List Int):List UInt8:=if ofErr l=0 then enc l else []
theorem enc_snoc (a:List Int)(x:Int):enc (a++[x])=enc a++Lib.encodeRune x:=by simp[enc]
theorem encodeRune_length (x:Int):1≤(Lib.encodeRune x).length∧(Lib.encodeRune x).length≤4:=by
 unfold Lib.encodeRune Lib.encodeRuneZ
 repeat' split
 all_goals simp
theorem enc_length (l:List Int):(enc l).length≤4*l.length:=by
 induction l with
 | nil=>simp[enc]
 | cons x l ih =>
  have:=(encodeRune_length x).2
  simp only[enc,List.flatMap_cons,List.length_append,List.length_cons]at ih ⊢
  omega
theorem ofErr_bad {l:List Int}{k:Nat}(hk:k<l.length)(h:may (l.getD k 0)=false):ofErr l=50:=by
 unfold ofErr
 rw[if_neg]
 intro hall
 have:=List.all_eq_true.1 hall (l[k]) (List.getElem_mem hk)
 simp[List.getD_eq_getElem?_getD,hk]at h
 rw[h]at this;cases this
theorem all_snoc {l:List Int}{k:Nat}(hk:k<l.length)(h:(l.take k).all may=true)(hm:may (l.getD k 0)=true):(l.take (k+1)).all may=true:=by
 rw[List.take_succ_eq_append_getElem hk,List.all_append,h]
 simp[List.getD_eq_getElem?_getD,hk]at hm
 simp[hm]
end Go.Proofs.YtnnbggkpgacdiaaDoor
namespace Go.Proofs.YtnnbggkpgacdiaaDoor
set_option maxRecDepth 100000
set_option maxHeartbeats 32000000
set_option linter.unusedSimpArgs false
set_option linter.unusedVariables false
open Go Go.RowKit Go.Lib
def one (l:List UInt8):Option (Int×Nat) :=
 if l=[] then none
 else if (decodeL l).1=65533∧(decodeL l).2=1 then none
 else if may ((decodeL l).1:Int) then some (((decodeL l).1:Int),(decodeL l).2) else none
def decF:Nat→List UInt8→Option (List Int)
 | _,[]=>some []
 | 0,_=>none
 | f+1,l=>match one l with
  | none=>none
  | some (z,k)=>(decF f (l.drop k)).map (z :: ·)
def dec (l:List UInt8):Option (List Int):=decF l.length l
theorem one_some {l:List UInt8}{z:Int}{k:Nat}(h:one l=some (z,k)):l≠[]∧may z=true∧encodeRune z=l.take k∧1≤k∧k≤l.length:=by
 unfold one at h
 split at h
 ·cases h
 rename_i hne
 split at h
 ·cases h
 rename_i hv
 split at h
 ·rename_i hm
  simp only[Option.some.injEq,Prod.mk.injEq]at h
  obtain⟨rfl,rfl⟩:=h
  have he:=encode_decode l hne hv
  have hle:=decodeL_le l hne
  refine⟨hne,hm,he,?_,hle⟩
  have:=(encodeRune_length ((decodeL l).1:Int)).1
  rw[he,List.length_take]at this
  omega
 ·cases h
theorem mod64 {x:Int}(h0:0≤x)(h1:x<256):(x.toNat.toUInt8).toNat=x.toNat:=by simp;omega
theorem one_enc {z:Int}(hm:may z=true)(rest:List UInt8):one (encodeRune z++rest)=some (z,(encodeRune z).length):=by
 have hmz:=(may_iff z).1 hm
 have key:decodeL (encodeRune z++rest)=(z.toNat,(encodeRune z).length):=by
  rw[decodeL_N]
  by_cases c1:0≤z∧z≤127
  ·have e:encodeRune z=[z.toNat.toUInt8]:=by simp[encodeRune,encodeRuneZ_one c1.1 c1.2]
   rw[e]
   have a:=mod64 (x:=z) (by omega) (by omega)
   simp only[List.cons_append,List.nil_append,List.getD_cons_zero,List.length_cons,List.length_nil,a,decodeN]
   rw[if_pos (by omega)]
  ·by_cases c2:128≤z∧z≤2047
   ·have e:encodeRune z=[(192+z / 64).toNat.toUInt8,(128+z % 64).toNat.toUInt8]:=by simp[encodeRune,encodeRuneZ_two c2.1 c2.2]
    rw[e]
    have a:=mod64 (x:=192+z / 64) (by omega) (by omega)
    have b:=mod64 (x:=128+z % 64) (by omega) (by omega)
    simp only[List.cons_append,List.nil_append,List.getD_cons_zero,List.getD_cons_succ,List.length_cons,List.length_nil,a,b,decodeN]
    rw[if_neg (by omega),if_pos (by omega),if_pos (by omega)]
    simp only[Prod.mk.injEq,and_true];omega
   ·by_cases c3:z≤65535
    ·have e:encodeRune z=[(224+z / 4096).toNat.toUInt8,(128+z / 64 % 64).toNat.toUInt8,(128+z % 64).toNat.toUInt8]:=by simp[encodeRune,encodeRuneZ_three (r:=z) (by omega)]
     rw[e]
     have a:=mod64 (x:=224+z / 4096) (by omega) (by omega)
     have b:=mod64 (x:=128+z / 64 % 64) (by omega) (by omega)
     have c:=mod64 (x:=128+z % 64) (by omega) (by omega)
     simp only[List.cons_append,List.nil_append,List.getD_cons_zero,List.getD_cons_succ,List.length_cons,List.length_nil,a,b,c,decodeN]
     rw[if_neg (by omega),if_neg (by omega),if_pos (by omega),if_pos (by omega)]
     simp only[Prod.mk.injEq,and_true];omega
    ·have e:encodeRune z=[(240+z / 262144).toNat.toUInt8,(128+z / 4096 % 64).toNat.toUInt8,(128+z / 64 % 64).toNat.toUInt8,(128+z % 64).toNat.toUInt8]:=by simp[encodeRune,encodeRuneZ_four (r:=z) (by omega) (by omega)]
     rw[e]
     have a:=mod64 (x:=240+z / 262144) (by omega) (by omega)
     have b:=mod64 (x:=128+z / 4096 % 64) (by omega) (by omega)
     have c:=mod64 (x:=128+z / 64 % 64) (by omega) (by omega)
     have d:=mod64 (x:=128+z % 64) (by omega) (by omega)
     simp only[List.cons_append,List.nil_append,List.getD_cons_zero,List.getD_cons_succ,List.length_cons,List.length_nil,a,b,c,d,decodeN]
     rw[if_neg (by omega),if_neg (by omega),if_neg (by omega),if_pos (by omega),if_pos (by omega)]
     simp only[Prod.mk.injEq,and_true];omega
 have hne:encodeRune z++rest≠[]:=by
  intro h
  have:=(encodeRune_length z).1
  rw[List.append_eq_nil_iff]at h
  rw[h.1]at this;simp at this
 unfold one
 rw[if_neg hne,key]
 have hz:((z.toNat:Nat):Int)=z:=by omega
 simp only[hz,hm,if_true]
 rw[if_neg]
 rintro ⟨h1,h2⟩
 have hz2:z=65533:=by omega
 subst hz2
 revert h2
 decide
theorem decF_fuel:∀(f g:Nat) (l:List UInt8),l.length≤f→l.length≤g→decF f l=decF g l
 | _,_,[],_,_=>by simp[decF]
 | 0,_,x::l,h,_=>by simp at h
 | _,0,x::l,_,h=>by simp at h
 | f+1,g+1,x::l,hf,hg=>by
  simp only[decF]
  cases h1:one (x::l) with
  | none=>rfl
  | some p =>
   obtain⟨z,k⟩:=p
   obtain⟨_,_,_,hk,_⟩:=one_some h1
   simp only
   rw[decF_fuel f g ((x::l).drop k) (by simp at hf ⊢;omega) (by simp at hg ⊢;omega)]
theorem dec_nil:dec []=some []:=rfl
theorem dec_step {l:List UInt8}{z:Int}{k:Nat}(h:one l=some (z,k)):dec l=(dec (l.drop k)).map (z :: ·):=by
 obtain⟨hne,_,_,hk,hkl⟩:=one_some h
 obtain⟨x,l',rfl⟩:=List.exists_cons_of_ne_nil hne
 unfold dec
 rw[show(x::l').length=l'.length+1 from rfl]
 simp only[decF,h]
 rw[decF_fuel l'.length ((x::l').drop k).length _ (by simp;omega) (Nat.le_refl _)]
theorem dec_bad {l:List UInt8}(hne:l≠[])(h:one l=none):dec l=none:=by
 obtain⟨x,l',rfl⟩:=List.exists_cons_of_ne_nil hne
 unfold dec
 rw[show(x::l').length=l'.length+1 from rfl]
 simp only[decF,h]
theorem dec_enc:∀(zs:List Int),zs.all may=true→dec (enc zs)=some zs
 | [],_=>rfl
 | z::zs,h=>by
  simp only[List.all_cons,Bool.and_eq_true]at h
  have e:enc (z::zs)=encodeRune z++enc zs:=by simp[enc]
  rw[e,dec_step (one_enc h.1 (enc zs)),List.drop_left,dec_enc zs h.2]
  rfl
theorem dec_some:∀(n:Nat) (l:List UInt8) (zs:List Int),l.length≤n→dec l=some zs→zs.all may=true∧enc zs=l
 | 0,l,zs,hn,h=>by
  have:l=[]:=List.eq_nil_of_length_eq_zero (by omega)
  subst this
  rw[dec_nil]at h
  cases h
  exact⟨rfl,rfl⟩
 | n+1,l,zs,hn,h=>by
  by_cases hne:l=[]
  ·subst hne
   rw[dec_nil]at h
   cases h
   exact⟨rfl,rfl⟩
  ·cases h1:one l with
   | none=>rw[dec_bad hne h1]at h;cases h
   | some p =>
    obtain⟨z,k⟩:=p
    obtain⟨_,hm,he,hk,hkl⟩:=one_some h1
    rw[dec_step h1]at h
    obtain⟨zs',h2,rfl⟩:=Option.map_eq_some_iff.1 h
    obtain⟨ha,hb⟩:=dec_some n (l.drop k) zs' (by simp;omega) h2
    refine⟨by simp[hm,ha],?_⟩
    show encodeRune z++enc zs'=l
    rw[he,hb,List.take_append_drop]
theorem dec_iff (l:List UInt8)(zs:List Int):dec l=some zs↔zs.all may=true∧enc zs=l :=
 ⟨fun h=>dec_some l.length l zs (Nat.le_refl _) h,fun ⟨h1,h2⟩=>by rw[← h2,dec_enc zs h1]⟩
theorem odd_prefix {l:List UInt8}(h:hasPrefix l [239,191,189]=true):∃ rest,l=encodeRune 65533++rest:=by
 unfold hasPrefix at h
 obtain⟨rest,hr⟩:=List.isPrefixOf_iff_prefix.1 h
 exact⟨rest,by rw[← hr];congr 1⟩
theorem decodeL_odd {l:List UInt8}(h:hasPrefix l [239,191,189]=true):(decodeL l).2≠1:=by
 obtain⟨rest,rfl⟩:=odd_prefix h
 have h1:=one_enc (z:=65533) (by decide) rest
 unfold one at h1
 split at h1
 ·cases h1
 split at h1
 ·cases h1
 rename_i hv
 split at h1
 ·simp only[Option.some.injEq,Prod.mk.injEq]at h1
  rw[h1.2]
  decide
 ·cases h1
theorem one_of_decode {l:List UInt8}(hne:l≠[]):one l=if ((decodeL l).1=65533∧hasPrefix l [239,191,189]=false)∨may ((decodeL l).1:Int)=false then none else some (((decodeL l).1:Int),(decodeL l).2):=by
  unfold one
  rw[if_neg hne]
  by_cases h1:(decodeL l).1=65533∧(decodeL l).2=1
  · rw[if_pos h1,if_pos]
    left
    refine⟨h1.1,?_⟩
    cases hp:hasPrefix l [239,191,189] with
    | false=>rfl
    | true=>exact absurd h1.2 (decodeL_odd hp)
  · rw [if_neg h1]
    by_cases h2:(decodeL l).1=65533
    · have he:=encode_decode l hne h1
      rw[h2]at he
      have hp:hasPrefix l [239,191,189]=true:=by
        unfold hasPrefix
        rw[List.isPrefixOf_iff_prefix,show([239,191,189]:List UInt8)=encodeRune ((65533:Nat):Int) from by decide,he]
        exact List.take_prefix _ _
      rw[hp]
      by_cases hm:may ((decodeL l).1:Int)=true
      · simp[hm]
      · simp[hm]
    · by_cases hm:may ((decodeL l).1:Int)=true
      · simp[hm,h2]
      · simp[hm,h2]
theorem decode_drop (s:ByteArray)(pos:Nat):Utf8.decode s pos=decodeL (s.data.toList.drop pos):=by
 have h:=tail_decode s pos 0
 rw[Nat.add_zero]at h
 rw[← h]
 unfold decodeL
 congr 1
 have h2:(s.extract pos s.size).data.toList=s.data.toList.drop pos:=by
  rw[extract_data,List.take_of_length_le]
  simp
 apply ByteArray.ext
 apply Array.ext'
 simpa using h2
def ptsErr (l:List UInt8):Int:=if 16384<l.length then 4 else match dec l with|none=>50|some _=>0
theorem ptsErr_len {s:List UInt8}(h:ptsErr s=0):s.length≤16384:=by
 unfold ptsErr at h
 split at h
 ·omega
 ·omega
def escB (q:Bool)(c:UInt8):List UInt8 :=
 if c=38 then [38,97,109,112,59] else if c=60 then [38,108,116,59] else if c=62 then [38,103,116,59] else if c=13 then [38,35,49,51,59]
 else if q=true then (if c=34 then [38,113,117,111,116,59] else if c=9 then [38,35,57,59] else if c=10 then [38,35,49,48,59] else [c]) else [c]
def escW (q:Bool)(s:List UInt8):List UInt8:=s.flatMap (escB q)
theorem escW_nil (q:Bool):escW q []=[]:=rfl
theorem escW_snoc (q:Bool)(a:List UInt8)(c:UInt8):escW q (a++[c])=escW q a++escB q c:=by simp[escW]
theorem escB_length (q:Bool)(c:UInt8):1≤(escB q c).length∧(escB q c).length≤6:=by
 unfold escB
 repeat' split
 all_goals simp
theorem escB_ne (q:Bool)(c:UInt8):escB q c≠[]:=by
 intro h
 have:=(escB_length q c).1
 rw[h]at this;simp at this
theorem escW_length (q:Bool)(s:List UInt8):s.length≤(escW q s).length∧(escW q s).length≤6*s.length:=by
 induction s with
 | nil=>simp[escW]
 | cons c s ih =>
  have:=escB_length q c
  simp only[escW,List.flatMap_cons,List.length_append,List.length_cons]at ih ⊢
  omega
theorem escW_take (q:Bool){s:List UInt8}{k:Nat}{c:UInt8}(h:s[k]? = some c):escW q (s.take (k+1))=escW q (s.take k)++escB q c:=by
 obtain⟨hk,rfl⟩:=List.getElem?_eq_some_iff.1 h
 rw[List.take_succ_eq_append_getElem hk,escW_snoc]
theorem dec_app:∀(p:List Int) (r:List UInt8),p.all may=true→dec (enc p++r)=(dec r).map (p ++ ·)
 | [],r,_=>by simp[enc]
 | z::p,r,h=>by
  simp only[List.all_cons,Bool.and_eq_true]at h
  have e:enc (z::p)++r=encodeRune z++(enc p++r):=by simp[enc]
  rw[e,dec_step (one_enc h.1 _),List.drop_left,dec_app p r h.2,Option.map_map]
  congr 1
theorem dec_both {a b:List UInt8}{x y:List Int}(ha:dec a=some x)(hb:dec b=some y):dec (a++b)=some (x++y):=by
 obtain⟨h1,rfl⟩:=(dec_iff a x).1 ha
 rw[dec_app x b h1,hb];rfl
def cut1 (d:UInt8):List UInt8→Option (List UInt8×List UInt8)
 | []=>none
 | c::r=>if c=d then some ([],r) else (cut1 d r).map (fun p=>(c::p.1,p.2))
theorem cut1_none {d:UInt8} : ∀ {s:List UInt8},cut1 d s=none↔d ∉ s
 | []=>by simp[cut1]
 | c::r=>by
  simp only[cut1]
  by_cases h:c=d
  ·simp[h]
  ·rw[if_neg h]
   simp only[Option.map_eq_none_iff,cut1_none (s:=r),List.mem_cons,not_or]
   constructor
   ·intro h2;exact⟨fun e=>h e.symm,h2⟩
   ·intro h2;exact h2.2
theorem cut1_some {d:UInt8} : ∀ {s a b:List UInt8},cut1 d s=some (a,b)→s=a++d::b∧d ∉ a
 | [],a,b,h=>by simp[cut1]at h
 | c::r,a,b,h=>by
  simp only[cut1]at h
  by_cases hc:c=d
  ·rw[if_pos hc]at h;cases h;subst hc;simp
  ·rw[if_neg hc]at h
   obtain⟨⟨a',b'⟩,h1,h2⟩:=Option.map_eq_some_iff.1 h
   cases h2
   obtain⟨e1,e2⟩:=cut1_some h1
   refine⟨by rw[e1];rfl,?_⟩
   simp only[List.mem_cons,not_or]
   exact⟨fun e=>hc e.symm,e2⟩
theorem cut1_of {d:UInt8} : ∀ {a b:List UInt8},d ∉ a→cut1 d (a++d::b)=some (a,b)
 | [],b,_=>by simp[cut1]
 | c::a,b,h=>by
  simp only[List.mem_cons,not_or]at h
  simp only[List.cons_append,cut1]
  rw[if_neg (fun e=>h.1 e.symm),cut1_of h.2];rfl
theorem cut1_at {d:UInt8}{s:List UInt8}{i:Nat}(h1:d ∉ s.take i)(h2:s[i]? = some d):cut1 d s=some (s.take i,s.drop (i+1)):=by
 obtain⟨hi,he⟩:=List.getElem?_eq_some_iff.1 h2
 have:s=s.take i++d::s.drop (i+1):=by
  conv=>lhs;rw[← List.take_append_drop i s]
  rw[List.drop_eq_getElem_cons hi,he]
 have h3:=cut1_of (b:=s.drop (i+1)) h1
 rwa[← this]at h3
theorem index1_none {d:UInt8}{s:List UInt8} : indexByte s d = -1↔cut1 d s=none:=by
 rw[cut1_none]
 constructor
 ·intro h hm
  obtain⟨k,hk,rfl⟩:=List.getElem_of_mem hm
  exact indexByte_none h k (List.getElem?_eq_getElem hk)
 ·intro h
  have hge:=indexByte_ge s d
  by_cases hneg:indexByte s d = -1
  ·exact hneg
  ·obtain⟨o,ho⟩:∃ o:Nat,indexByte s d=o:=⟨(indexByte s d).toNat,by omega⟩
   exact absurd (List.mem_of_getElem? (indexByte_some ho).1) h
theorem index1_some {d:UInt8}{s a b:List UInt8}(h:cut1 d s=some (a,b)):indexByte s d=a.length∧s.take a.length=a∧s.drop (a.length+1)=b∧a.length+1+b.length=s.length:=by
 obtain⟨h1,h2⟩:=cut1_some h
 have hne:indexByte s d ≠ -1:=fun e=>by rw[index1_none.1 e]at h;cases h
 have hge:=indexByte_ge s d
 obtain⟨o,ho⟩:∃ o:Nat,indexByte s d=o:=⟨(indexByte s d).toNat,by omega⟩
 obtain⟨g1,g2⟩:=indexByte_some ho
 have hat:=cut1_at (i:=o) (fun hm=>by
  obtain⟨k,hk,he⟩:=List.getElem_of_mem hm
  rw[List.length_take]at hk
  rw[List.getElem_take]at he
  exact g2 k (by omega) (by rw[List.getElem?_eq_getElem (by omega),he])) g1
 rw[h]at hat
 cases hat
 have hlt:=(List.getElem?_eq_some_iff.1 g1).1
 have hl:(s.take o).length=o:=by rw[List.length_take];omega
 rw[hl]
 refine⟨ho,rfl,rfl,?_⟩
 rw[List.length_drop];omega
theorem beq_byte (c d:UInt8):((c.toNat:Int)==(d.toNat:Int))=decide (c=d):=by
 rw[Bool.eq_iff_iff,beq_iff_eq,decide_eq_true_iff]
 constructor
 ·intro h;exact UInt8.toNat_inj.1 (by omega)
 ·rintro rfl;rfl
end Go.Proofs.YtnnbggkpgacdiaaDoor
namespace Go.Proofs.YtnnbggkpgacdiaaDoor
set_option maxRecDepth 100000
set_option maxHeartbeats 32000000
set_option linter.unusedSimpArgs false
set_option linter.unusedVariables false
open Go Go.RowKit Vm Go.Lib Tryd
open Vm renaming cond_bool→Ca,cond_bit→Cb
open And renaming intro→Ai
open List renaming length_map→Lm,not_mem_nil→Ln,map_nil→Lo,map_cons→Lc,mem_cons→Lk
open Bool renaming not_false→Bf,not_true→Bt
def validB (r:Int):Bool:=(decide (0≤r)&&decide (r<55296))||(decide (57343<r)&&decide (r≤1114111))
theorem valid_ev (r:Int)(nm:Nat):Ev cx 20 nm [.int .i32 r] Mem.nil (.bool (validB r)) []:=by
 unfold validB
 refine ev_go rfl (fun cargs w=>call20 cargs w) func20 rfl mixed (by kernel_rfl) rfl ?_;intro b0 hb0
 (repeat' first|simp only[fins,mems,results20,ntmps20,wks,vcs,seval,tys]|exact rfl|refine call_off (v:=.any) ?_|((first|apply Ca|apply Cb)<;>intro hb)|refine Ai (by omega) ?_|(apply Ai<;>intro hb)|refine Fin.pure ?_ ?_ ?_|simp only[injs])
 all_goals simp_all
theorem tMay_ev (n:Int)(nm:Nat):Ev cx 9 nm [.int .i64 n] Mem.nil (.bool (may n)) []:=by
 refine ev_go rfl (fun cargs w=>call9 cargs w) func9 rfl mixed (by kernel_rfl) rfl ?_;intro b0 hb0
 (repeat' first|simp only[fins,mems,results9,ntmps9,wks,vcs,seval,tys]|exact rfl|refine call_off (v:=.any) ?_|((first|apply Ca|apply Cb)<;>intro hb)|refine Ai (by omega) ?_|(apply Ai<;>intro hb)|refine Fin.pure ?_ ?_ ?_|simp only[injs])
 all_goals simp only[decide_eq_true_eq,decide_eq_false_iff_not,beq_iff_eq,beq_eq_false_iff_ne,ne_eq]at *
 all_goals (first|(exfalso;omega)|(exact may_t (by omega))|(exact may_f (by omega))|skip)
 have hw:IntKind.i32.wrap n=n:=IntWalk.i32_in _ (by omega)
 rw[hw]
 have hv:validB n=may n:=by
  cases h:may n with
  | true =>
   have:=(may_iff n).1 h
   unfold validB
   simp only[Bool.or_eq_true,Bool.and_eq_true,decide_eq_true_eq];omega
  | false =>
   have h':¬ _:=fun q=>by rw[(may_iff n).2 q]at h;cases h
   unfold validB
   simp only[Bool.or_eq_false_iff,Bool.and_eq_false_iff,decide_eq_false_iff_not];omega
 (repeat' first|simp only[fins,mems,results9,ntmps9,wks,hv,vcs,seval,tys]|exact rfl|refine call_off (v:=.any) ?_|(first|(refine call_fn ?_ (valid_ev n _) ?_)|(refine call_fn_g ?_ (fun _=>valid_ev n _) ?_))|((first|apply Ca|apply Cb)<;>intro hb)|refine Ai (by omega) ?_|(apply Ai<;>intro hb)|refine Fin.pure ?_ ?_ ?_|simp only[injs])
def preB (s p:List UInt8):Bool:=decide (p.length≤s.length)&&(s.take p.length==p)
theorem hasPre_ev (s p:List UInt8)(hs:s.length≤lim)(hp:p.length≤lim)(nm:Nat):Ev cx 54 nm [.str s,.str p] Mem.nil (.bool (preB s p)) []:=by
 unfold lim at hs hp
 unfold preB
 refine ev_go rfl (fun cargs w=>call54 cargs w) func54 rfl mixed (by kernel_rfl) rfl ?_;intro b0 hb0
 (repeat' first|simp only[fins,mems,results54,ntmps54,wks,decide_eq_true_eq,imp_self,vcs,seval,tys]|exact rfl|refine call_off (v:=.any) ?_|((first|apply Ca|apply Cb)<;>intro hb)|refine Ai (by omega) ?_|(apply Ai<;>intro hb)|refine Fin.pure ?_ ?_ ?_|simp only[injs])
theorem pre_ev (s p:List UInt8)(hs:s.length≤lim)(hp:p.length≤lim)(nm:Nat):Ev cx 43 nm [.str s,.str p] Mem.nil (.bool (preB s p)) []:=by
 refine ev_go rfl (fun cargs w=>call43 cargs w) func43 rfl mixed (by kernel_rfl) rfl ?_;intro b0 hb0
 (repeat' first|simp only[fins,mems,results43,ntmps43,wks,vcs,seval,tys]|exact rfl|refine call_off (v:=.any) ?_|(first|(refine call_fn ?_ (hasPre_ev s p hs hp _) ?_)|(refine call_fn_g ?_ (fun _=>hasPre_ev s p hs hp _) ?_))|((first|apply Ca|apply Cb)<;>intro hb)|refine Ai (by omega) ?_|(apply Ai<;>intro hb)|refine Fin.pure ?_ ?_ ?_|simp only[injs])
def pts (l:List UInt8):List Int:=if 16384<l.length then [] else (dec l).getD []
def intRow (z:Int):List V:=[.int .i64 z]
theorem preB_eq (s p:List UInt8):preB s p=Lib.hasPrefix s p:=by
 unfold preB Lib.hasPrefix
 rw[Bool.eq_iff_iff]
 simp only[Bool.and_eq_true,decide_eq_true_eq,beq_iff_eq,List.isPrefixOf_iff_prefix,List.prefix_iff_eq_take]
 constructor
 ·rintro ⟨_,h⟩;exact h.symm
 ·intro h
  refine⟨?_,h.symm⟩
  have:=congrArg List.length h
  simp at this;omega
theorem one_at {s:List UInt8}{p:Nat}(hp:p<s.length):one (s.drop p)=if ((runeAt s p).1=65533∧preB (s.drop p) [239,191,189]=false)∨may ((runeAt s p).1:Int)=false then none else some (((runeAt s p).1:Int),(runeAt s p).2):=by
 have hne:s.drop p≠[]:=by
  intro h
  have:=congrArg List.length h
  simp at this;omega
 have hd:runeAt s p=Lib.decodeL (s.drop p):=decode_drop ⟨s.toArray⟩ p
 rw[hd,preB_eq]
 exact one_of_decode hne
theorem rune_le (s:List UInt8)(p:Nat):(runeAt s p).1≤2147483647:=decode_le _ _
theorem take_i (l:List Int):(l.map intRow).take l.length=l.map intRow:=List.take_of_length_le (by simp)
theorem isRow_inst:Ob.isRow instCells=true:=rfl
theorem plain_i (l:List Int):plainLL (l.map intRow)=true:=plainLL_map _ (fun _=>rfl) l
theorem points_ev (s:List UInt8)(hs:s.length≤lim)(nm:Nat):Ev cx 33 nm [.str s] Mem.nil (.tup [.sl false 1 ((pts s).map intRow),.int .i64 (ptsErr s)]) []:=by
 unfold lim at hs
 by_cases hbig:16384<s.length
 ·have he:ptsErr s=4:=by unfold ptsErr;rw[if_pos hbig]
  have hq:pts s=[]:=by unfold pts;rw[if_pos hbig]
  have hd:decide ((16384:Int)<s.length)=true:=decide_eq_true (by omega)
  refine ev_go rfl (fun cargs w=>call33 cargs w) func33 rfl mixed (by kernel_rfl) rfl ?_;intro b0 hb0
  (repeat' first|simp only[fins,mems,results33,ntmps33,wks,he,hq,hd,Lo,vcs,seval,tys]|exact rfl|refine call_off (v:=.any) ?_|((first|apply Ca|apply Cb)<;>intro hb)|refine Ai (by omega) ?_|(apply Ai<;>intro hb)|refine Fin.pure ?_ ?_ ?_|simp only[injs])
 ·have hd:decide ((16384:Int)<s.length)=false:=decide_eq_false (by omega)
  refine ev_go rfl (fun cargs w=>call33 cargs w) func33 rfl mixed (by kernel_rfl) rfl ?_;intro b0 hb0
  repeat' first|simp only[fins,mems,results33,ntmps33,wks,hd,vcs,seval,tys]|exact rfl|refine call_off (v:=.any) ?_|(refine ext_range (s:=?_) ?_ ?_ ?_;rotate_left 1;(iterate 2 (focus (simp only[results33,ntmps33,wks,hd,vcs,seval,tys]<;>exact rfl))))|(refine extG_true ?_)|(refine extG_false ?_)|((first|apply Ca|apply Cb)<;>intro hb)|refine Ai (by omega) ?_|(apply Ai<;>intro hb)
  (refine loop_can2 cxG (fun x:Nat×List Int=>s.length-x.1) (fun x=>x.1≤s.length∧x.2.length≤x.1∧dec s=(dec (s.drop x.1)).map (x.2 ++ ·)) (b0+16) (fun x=>[(0,.str s),(2,.own (b0+1) 0 x.2.length),(10,.ptr b0 0 0)]) (fun x=>[(b0,iterK s x.1),(b0+1,⟨1,x.2.map intRow⟩)]) ((0,[])) [some (b0+96),none] ?_ ?_ ?_ ?_;rotate_left 1;(focus (show b0≤_;omega));(focus (refine⟨?_,?_⟩<;>(try simp only[cans,isRow_inst,ren_iter,renOk_iter,plain_i,vcs,seval,tys,injs])<;>(try omega)));rotate_left 1)
  ·refine⟨Nat.zero_le _,Nat.le_refl _,?_⟩
   rw[List.drop_zero];cases dec s<;>rfl
  ·rintro ⟨p,zs⟩ ⟨h1,h2,h3⟩
   by_cases hp:p<s.length
   ·have ho:=one_at hp
    have hne:s.drop p≠[]:=by
     intro h
     have:=congrArg List.length h
     simp at this;omega
    have hrl:=rune_le s p
    have hw:IntKind.i64.wrap ((runeAt s p).1:Int)=((runeAt s p).1:Int):=wrap_in (by omega) (by omega)
    have hle:(s.drop p).length≤lim:=by unfold lim;simp;omega
    by_cases hbad:((runeAt s p).1=65533∧preB (s.drop p) [239,191,189]=false)∨may ((runeAt s p).1:Int)=false
    ·rw[if_pos hbad]at ho
     have hd0:dec s=none:=by
      have:=h3
      simp only at this
      rw[this,dec_bad hne ho];rfl
     have he:ptsErr s=50:=by unfold ptsErr;rw[if_neg hbig,hd0]
     have hq:pts s=[]:=by unfold pts;rw[if_neg hbig,hd0];rfl
     cases hc:(((runeAt s p).1:Int)==65533)<;>cases hpr:preB (s.drop p) [239,191,189]<;>cases hm:may ((runeAt s p).1:Int)
     all_goals (try (exfalso;simp_all;done))
     all_goals ((repeat' first|simp only[fins,mems,results33,ntmps33,wks,he,hq,hp,hw,hc,hpr,hm,plain_i,Lo,List.length_drop,vcs,seval,tys]|exact rfl|refine call_off (v:=.any) ?_|(first|(refine call_fn ?_ (pre_ev (s.drop p) [239,191,189] hle (by decide) _) ?_)|(refine call_fn_g ?_ (fun _=>pre_ev (s.drop p) [239,191,189] hle (by decide) _) ?_)|(refine call_fn ?_ (tMay_ev ((runeAt s p).1:Int) _) ?_)|(refine call_fn_g ?_ (fun _=>tMay_ev ((runeAt s p).1:Int) _) ?_))|(refine ext_next (s:=?_) (y:=?_) (p:=?_) ?_ ?_ ?_ ?_;rotate_left 3;(iterate 2 (focus (simp only[results33,ntmps33,wks,he,hq,hp,hw,hc,hpr,hm,plain_i,Lo,List.length_drop,vcs,seval,tys]<;>exact rfl)));(focus (simp only[results33,ntmps33,wks,he,hq,hp,hw,hc,hpr,hm,plain_i,Lo,List.length_drop,vcs,seval,tys]<;>omega)))|(refine extG_true ?_)|(refine extG_false ?_)|((first|apply Ca|apply Cb)<;>intro hb)|refine Ai (by omega) ?_|(apply Ai<;>intro hb)|refine Fin.pure ?_ ?_ ?_|simp only[injs]))
    ·rw[if_neg hbad]at ho
     obtain⟨_,hm,_,hk1,hk2⟩:=one_some ho
     have hds:dec s=(dec (s.drop (p+(runeAt s p).2))).map ((zs++[((runeAt s p).1:Int)]) ++ ·):=by
      have:=h3
      simp only at this
      rw[this,dec_step ho,List.drop_drop]
      cases dec (s.drop (p+(runeAt s p).2))<;>simp
     have hlen:(s.drop p).length=s.length-p:=by simp
     have h2':zs.length≤p:=h2
     have hsn:zs.map intRow++[[V.int .i64 ((runeAt s p).1:Int)]]=(zs++[((runeAt s p).1:Int)]).map intRow:=by simp[intRow]
     have hnx:p+(runeAt s p).2≤s.length:=by omega
     cases hc:(((runeAt s p).1:Int)==65533)<;>cases hpr:preB (s.drop p) [239,191,189]
     all_goals (try (exfalso;exact hbad (.inl ⟨by have:=beq_iff_eq.1 hc;omega,hpr⟩)))
     all_goals (repeat' first|simp only[fins,mems,results33,ntmps33,wks,hp,hw,hc,hpr,hm,plain_i,hsn,Lo,List.length_drop,Lm,Nat.le_refl,Option.bind_some,Option.bind_none,vcs,seval,tys]|exact rfl|refine call_off (v:=.any) ?_|(first|(refine call_fn ?_ (pre_ev (s.drop p) [239,191,189] hle (by decide) _) ?_)|(refine call_fn_g ?_ (fun _=>pre_ev (s.drop p) [239,191,189] hle (by decide) _) ?_)|(refine call_fn ?_ (tMay_ev ((runeAt s p).1:Int) _) ?_)|(refine call_fn_g ?_ (fun _=>tMay_ev ((runeAt s p).1:Int) _) ?_))|(refine ext_next (s:=?_) (y:=?_) (p:=?_) ?_ ?_ ?_ ?_;rotate_left 3;(iterate 2 (focus (simp only[results33,ntmps33,wks,hp,hw,hc,hpr,hm,plain_i,hsn,Lo,List.length_drop,Lm,Nat.le_refl,Option.bind_some,Option.bind_none,vcs,seval,tys]<;>exact rfl)));(focus (simp only[results33,ntmps33,wks,hp,hw,hc,hpr,hm,plain_i,hsn,Lo,List.length_drop,Lm,Nat.le_refl,Option.bind_some,Option.bind_none,vcs,seval,tys]<;>omega)))|(refine extG_true ?_)|(refine extG_false ?_)|((first|apply Ca|apply Cb)<;>intro hb)|refine Ai (by omega) ?_|(apply Ai<;>intro hb))
     all_goals ((refine again_can2 cxG ((p+(runeAt s p).2,zs++[((runeAt s p).1:Int)])) [some b0,some (b0+416)] ?_ ?_ ?_ ?_;rotate_left 2;(focus (show b0≤_;omega));(focus (refine⟨?_,?_⟩<;>(try simp only[cans,isRow_inst,ren_iter,renOk_iter,plain_i,hsn,Lm,List.length_append,List.length_cons,List.length_nil,Option.bind_some,Option.bind_none,vcs,seval,tys,injs])<;>(try omega)))))
     all_goals (first|(show s.length-(p+(runeAt s p).2)<s.length-p;omega)|exact⟨hnx,by simp;omega,hds⟩|skip)
   ·have hpe:p=s.length:=by omega
    subst hpe
    have he:ptsErr s=0:=by
     rw[List.drop_length,dec_nil]at h3
     unfold ptsErr;rw[if_neg hbig,h3];rfl
    have hq:pts s=zs:=by
     rw[List.drop_length,dec_nil]at h3
     unfold pts;rw[if_neg hbig,h3];simp
    (repeat' first|simp only[fins,mems,results33,ntmps33,wks,he,hq,plain_i,take_i,memL_cons,memL_nil,Lm,Nat.le_refl,vcs,seval,tys]|exact rfl|refine call_off (v:=.any) ?_|(refine ext_over (s:=?_) (y:=?_) (p:=?_) ?_ ?_ ?_ ?_;rotate_left 3;(iterate 2 (focus (simp only[results33,ntmps33,wks,he,hq,plain_i,take_i,memL_cons,memL_nil,Lm,Nat.le_refl,vcs,seval,tys]<;>exact rfl)));(focus (simp only[results33,ntmps33,wks,he,hq,plain_i,take_i,memL_cons,memL_nil,Lm,Nat.le_refl,vcs,seval,tys]<;>omega)))|(refine extG_true ?_)|(refine extG_false ?_)|((first|apply Ca|apply Cb)<;>intro hb)|refine Ai (by omega) ?_|(apply Ai<;>intro hb)|refine Fin.pure ?_ ?_ ?_|simp only[injs])
theorem tCheck_ev (s:List UInt8)(hs:s.length≤lim)(nm:Nat):Ev cx 25 nm [.str s] Mem.nil (.int .i64 (ptsErr s)) []:=by
 refine ev_go rfl (fun cargs w=>call25 cargs w) func25 rfl mixed (by kernel_rfl) rfl ?_;intro b0 hb0
 (repeat' first|simp only[fins,mems,results25,ntmps25,wks,vcs,seval,tys]|exact rfl|refine call_off (v:=.any) ?_|(first|(refine call_fn ?_ (points_ev s hs _) ?_)|(refine call_fn_g ?_ (fun _=>points_ev s hs _) ?_))|((first|apply Ca|apply Cb)<;>intro hb)|refine Ai (by omega) ?_|(apply Ai<;>intro hb)|refine Fin.pure ?_ ?_ ?_|simp only[injs])
theorem enc_rows {z:Int}(h0:0≤z)(h1:z<256):byteRow (z.toNat.toUInt8)=[V.int .u8 z]:=by
 have:=mod64 h0 h1
 unfold byteRow
 rw[this]
 congr 2;omega
theorem enc1 {z:Int}(h0:0≤z)(h1:z≤127):(encodeRune z).map byteRow=[[V.int .u8 z]]:=by
 simp only[encodeRune,encodeRuneZ_one h0 h1,Lc,Lo]
 rw[enc_rows (by omega) (by omega)]
theorem enc2 {z:Int}(h0:128≤z)(h1:z≤2047):(encodeRune z).map byteRow=[[V.int .u8 (192+z / 64)],[V.int .u8 (128+z % 64)]]:=by
 simp only[encodeRune,encodeRuneZ_two h0 h1,Lc,Lo]
 rw[enc_rows (by omega) (by omega),enc_rows (by omega) (by omega)]
theorem enc3 {z:Int}(h0:(2048≤z∧z<55296)∨(57343<z∧z≤65535)):(encodeRune z).map byteRow=[[V.int .u8 (224+z / 4096)],[V.int .u8 (128+z / 64 % 64)],[V.int .u8 (128+z % 64)]]:=by
 simp only[encodeRune,encodeRuneZ_three h0,Lc,Lo]
 rw[enc_rows (by omega) (by omega),enc_rows (by omega) (by omega),enc_rows (by omega) (by omega)]
theorem enc4 {z:Int}(h0:65536≤z)(h1:z≤1114111):(encodeRune z).map byteRow=[[V.int .u8 (240+z / 262144)],[V.int .u8 (128+z / 4096 % 64)],[V.int .u8 (128+z / 64 % 64)],[V.int .u8 (128+z % 64)]]:=by
 simp only[encodeRune,encodeRuneZ_four h0 h1,Lc,Lo]
 rw[enc_rows (by omega) (by omega),enc_rows (by omega) (by omega),enc_rows (by omega) (by omega),enc_rows (by omega) (by omega)]
theorem one_bsI (bs:List UInt8):((bs.map byteRow).all fun r=>r.all V.one)=true:=by
 rw[List.all_eq_true]
 intro r hr
 obtain⟨c,_,rfl⟩:=List.mem_map.1 hr
 rfl
theorem isRow_typed (t:TypeId):(Ob.typed t).isRow=true:=rfl
theorem tyT (s:Nat)(r:List (List V))(t:TypeId):Blk.ty (@Blk.mk s r (.typed t))=some t:=rfl
theorem ren_bytesI (σ:List (Nat×Nat))(bs:List UInt8)(t:TypeId):Blk.ren σ (@Blk.mk 1 (bs.map byteRow) (.typed t)) = @Blk.mk 1 (bs.map byteRow) (.typed t):=by
 have h:plainLL (bs.map byteRow)=true:=plainLL_map _ (fun _=>rfl) bs
 simp only[Blk.ren,renLL,h,if_true]
theorem renOk_bytesI (σ:List (Nat×Nat))(bs:List UInt8)(t:TypeId):Blk.renOk σ (@Blk.mk 1 (bs.map byteRow) (.typed t))=true:=by
 have h:plainLL (bs.map byteRow)=true:=plainLL_map _ (fun _=>rfl) bs
 simp only[Blk.renOk,renOkLL,h,Bool.true_or,Bool.true_and]
 rfl
end Go.Proofs.YtnnbggkpgacdiaaDoor
namespace Go.Proofs.YtnnbggkpgacdiaaDoor
set_option maxRecDepth 100000
set_option maxHeartbeats 32000000
set_option linter.unusedSimpArgs false
set_option linter.unusedVariables false
open Go Go.RowKit Go.Lib
def hexD (c:UInt8):Option Nat:=if 48≤c.toNat∧c.toNat≤57 then some (c.toNat-48) else if 97≤c.toNat∧c.toNat≤102 then some (c.toNat-87) else if 65≤c.toNat∧c.toNat≤70 then some (c.toNat-55) else none
def hexV:Nat→List UInt8→Option Nat
 | n,[]=>some n
 | n,c::r=>match hexD c with|none=>none|some d=>hexV (16*n+d) r
def hexL (s:List UInt8):Option Nat:=if s=[]∨6<s.length∨s.head? = some 48 then none else hexV 0 s
def decD (c:UInt8):Option Nat:=if 48≤c.toNat∧c.toNat≤57 then some (c.toNat-48) else none
def decV:Nat→List UInt8→Option Nat
 | n,[]=>some n
 | n,c::r=>match decD c with|none=>none|some d=>decV (10*n+d) r
def decL (s:List UInt8):Option Nat:=if s=[]∨16<s.length∨(s.head? = some 48∧s≠[48]) then none else (decV 0 s).bind fun n=>if n≤9007199254740991 then some n else none
def pointW (o:Option Nat):Option (List UInt8):=o.bind fun n=>if may (n:Int)=true then some (encodeRune n) else none
def meantL (s:List UInt8):Option (List UInt8) :=
 if s=[97,109,112] then some [38] else if s=[108,116] then some [60] else if s=[103,116] then some [62] else if s=[113,117,111,116] then some [34] else if s=[97,112,111,115] then some [39]
 else if s.head? = some 35 then (if s.tail.head? = some 120 then pointW (hexL s.tail.tail) else pointW (decL s.tail)) else none
theorem cut1_len {d:UInt8}{s a b:List UInt8}(h:cut1 d s=some (a,b)):b.length<s.length:=by
 have:=(cut1_some h).1
 rw[this];simp;omega
def readL:List UInt8→Option (List UInt8)
 | []=>some []
 | c::r=>if c=60 then none else if c=38 then (match h:cut1 59 r with|none=>none|some (a,b)=>match meantL a with|none=>none|some x=>(readL b).map (x ++ ·)) else (readL r).map (c :: ·)
termination_by s=>s.length
decreasing_by
 ·have:=cut1_len h;simp;omega
 ·simp
theorem readL_nil:readL []=some []:=by rw[readL]
theorem readL_lt (r:List UInt8):readL (60::r)=none:=by rw[readL];rfl
theorem readL_other {c:UInt8}(h1:c≠60)(h2:c≠38)(r:List UInt8):readL (c::r)=(readL r).map (c :: ·):=by rw[readL,if_neg h1,if_neg h2]
theorem readL_none {r:List UInt8}(h:cut1 59 r=none):readL (38::r)=none:=by
 rw[readL,if_neg (by decide),if_pos rfl]
 split
 ·rfl
 ·rename_i e;rw[h]at e;cases e
theorem readL_bad {r a b:List UInt8}(h:cut1 59 r=some (a,b))(hm:meantL a=none):readL (38::r)=none:=by
 rw[readL,if_neg (by decide),if_pos rfl]
 split
 ·rfl
 ·rename_i e;rw[h]at e;cases e;rw[hm]
theorem readL_ref {r a b x:List UInt8}(h:cut1 59 r=some (a,b))(hm:meantL a=some x):readL (38::r)=(readL b).map (x ++ ·):=by
 rw[readL,if_neg (by decide),if_pos rfl]
 split
 ·rename_i e;rw[h]at e;cases e
 ·rename_i e;rw[h]at e;cases e;rw[hm]
theorem meant_amp:meantL [97,109,112]=some [38]:=by decide
theorem meant_lt:meantL [108,116]=some [60]:=by decide
theorem meant_gt:meantL [103,116]=some [62]:=by decide
theorem meant_quot:meantL [113,117,111,116]=some [34]:=by decide
def digitsL (n:Nat):List UInt8:=if n≤9 then [UInt8.ofNat (48+n)] else digitsL (n / 10)++[UInt8.ofNat (48+n % 10)]
termination_by n
decreasing_by omega
theorem digits_low {n:Nat}(h:n≤9):digitsL n=[UInt8.ofNat (48+n)]:=by rw[digitsL,if_pos h]
theorem digits_high {n:Nat}(h:9<n):digitsL n=digitsL (n / 10)++[UInt8.ofNat (48+n % 10)]:=by rw[digitsL,if_neg (by omega)]
theorem digits_ne (n:Nat):digitsL n≠[]:=by
 by_cases h:n≤9
 ·rw[digits_low h];simp
 ·rw[digits_high (by omega)];simp
theorem digits_head:∀(k n:Nat),n≤k→n≠0→(digitsL n).head? ≠ some 48
 | 0,n,h,h0=>absurd (Nat.le_zero.1 h) h0
 | k+1,n,h,h0=>by
  by_cases h9:n≤9
  ·rw[digits_low h9]
   simp only[List.head?_cons,ne_eq,Option.some.injEq]
   intro e
   have:=congrArg UInt8.toNat e
   simp at this
   omega
  ·rw[digits_high (by omega)]
   have ih:=digits_head k (n / 10) (by omega) (by omega)
   have hne:=digits_ne (n / 10)
   cases hd:digitsL (n / 10) with
   | nil=>exact absurd hd hne
   | cons a b=>rw[hd]at ih;simpa using ih
theorem decD_range {c:UInt8}{d:Nat}(h:decD c=some d):d≤9∧c=UInt8.ofNat (48+d)∧c.toNat=48+d:=by
 unfold decD at h
 split at h
 ·cases h
  refine⟨by omega,?_,by omega⟩
  have:48+(c.toNat-48)=c.toNat:=by omega
  rw[this];simp
 ·cases h
theorem decV_snoc:∀(s:List UInt8) (n:Nat) (c:UInt8),decV n (s++[c])=(decV n s).bind fun m=>(decD c).map fun d=>10*m+d
 | [],n,c=>by
  simp only[List.nil_append,decV,Option.bind_some]
  cases decD c<;>rfl
 | x::s,n,c=>by
  simp only[List.cons_append,decV]
  cases decD x with
  | none=>rfl
  | some d=>exact decV_snoc s _ c
theorem decV_le:∀(s:List UInt8) (n m:Nat),decV n s=some m→n≤m∧m<(n+1)*10 ^ s.length
 | [],n,m,h=>by simp only[decV]at h;cases h;simp
 | x::s,n,m,h=>by
  simp only[decV]at h
  cases hx:decD x with
  | none=>rw[hx]at h;cases h
  | some d =>
   rw[hx]at h
   have hd:=(decD_range hx).1
   obtain⟨h1,h2⟩:=decV_le s _ m h
   refine⟨by omega,Nat.lt_of_lt_of_le h2 ?_⟩
   rw[List.length_cons,Nat.pow_succ',← Nat.mul_assoc]
   exact Nat.mul_le_mul_right _ (by omega)
theorem digits_decV:∀(k n:Nat),n≤k→decV 0 (digitsL n)=some n
 | k,n,hk=>by
  by_cases h:n≤9
  ·rw[digits_low h]
   have:(UInt8.ofNat (48+n)).toNat=48+n:=by simp;omega
   simp only[decV,decD,this]
   rw[if_pos (by omega)]
   simp
  ·rw[digits_high (by omega),decV_snoc]
   have ih:decV 0 (digitsL (n / 10))=some (n / 10):=by
    cases k with
    | zero=>omega
    | succ k=>exact digits_decV k (n / 10) (by omega)
   rw[ih]
   have:(UInt8.ofNat (48+n % 10)).toNat=48+n % 10:=by simp;omega
   simp only[Option.bind_some,decD,this]
   rw[if_pos (by omega)]
   simp;omega
end Go.Proofs.YtnnbggkpgacdiaaDoor
namespace Go.Proofs.YtnnbggkpgacdiaaDoor
set_option maxRecDepth 100000
set_option maxHeartbeats 32000000
set_option linter.unusedSimpArgs false
set_option linter.unusedVariables false
open Go Go.RowKit Vm Go.Lib Tryd
open Vm renaming cond_bool→Ca,cond_bit→Cb
open And renaming intro→Ai
open List renaming length_map→Lm,not_mem_nil→Ln,map_nil→Lo,map_cons→Lc,mem_cons→Lk
open Bool renaming not_false→Bf,not_true→Bt
theorem plain_bsG (bs:List UInt8):plainLL (bs.map byteRow)=true:=plainLL_map _ (fun _=>rfl) bs
theorem decV_take {s:List UInt8}{k:Nat}{c:UInt8}(h:s[k]? = some c):decV 0 (s.take (k+1))=(decV 0 (s.take k)).bind fun m=>(decD c).map fun d=>10*m+d:=by
 obtain⟨hk,rfl⟩:=List.getElem?_eq_some_iff.1 h
 rw[List.take_succ_eq_append_getElem hk,decV_snoc]
theorem decV_none:∀ {s t:List UInt8} {n:Nat},decV n s=none→decV n (s++t)=none
 | [],t,n,h=>by simp[decV]at h
 | c::s,t,n,h=>by
  simp only[List.cons_append,decV]at h ⊢
  cases hc:decD c with
  | none=>rfl
  | some d=>rw[hc]at h;exact decV_none h
def readE (s:List UInt8):V:=match decL s with
 | some n=>.tup [.int .i64 n,.int .i64 0]
 | none=>.tup [.int .i64 0,.int .i64 60]
theorem readE_none {s:List UInt8}(h:decL s=none):readE s = .tup [.int .i64 0,.int .i64 60]:=by unfold readE;rw[h]
theorem readE_some {s:List UInt8}{n:Nat}(h:decL s=some n):readE s = .tup [.int .i64 n,.int .i64 0]:=by unfold readE;rw[h]
theorem numRead_ev (s:List UInt8)(hs:s.length≤lim)(nm:Nat):Ev cx 47 nm [.str s] Mem.nil (readE s) []:=by
  unfold lim at hs
  by_cases hbad:s=[]∨16<s.length∨(s.head? = some 48∧s≠[48])
  · have hn:decL s=none:=by unfold decL;rw[if_pos hbad]
    have hr:=readE_none hn
    by_cases h0:s=[]
    · subst h0
      have e0:(([]:List UInt8)==[])=true:=rfl
      refine ev_go rfl (fun cargs w=>call47 cargs w) func47 rfl mixed (by kernel_rfl) rfl ?_;intro b0 hb0
      (repeat' first|simp only[fins,mems,results47,ntmps47,wks,e0,hr,vcs,seval,tys]|exact rfl|refine call_off (v:=.any) ?_|((first|apply Ca|apply Cb)<;>intro hb)|refine Ai (by omega) ?_|(apply Ai<;>intro hb)|refine Fin.pure ?_ ?_ ?_|simp only[injs])
    · have e0:(s==[])=false:=beq_false_of_ne h0
      by_cases h16:16<s.length
      · have e1:decide ((16:Int)<(s.length:Int))=true:=decide_eq_true (by omega)
        refine ev_go rfl (fun cargs w=>call47 cargs w) func47 rfl mixed (by kernel_rfl) rfl ?_;intro b0 hb0
        (repeat' first|simp only[fins,mems,results47,ntmps47,wks,e0,e1,hr,vcs,seval,tys]|exact rfl|refine call_off (v:=.any) ?_|((first|apply Ca|apply Cb)<;>intro hb)|refine Ai (by omega) ?_|(apply Ai<;>intro hb)|refine Fin.pure ?_ ?_ ?_|simp only[injs])
      · obtain⟨h1,h2⟩:s.head? = some 48∧s≠[48]:=by rcases hbad with h|h|h;exact absurd h h0;exact absurd h h16;exact h
        have e1:decide ((16:Int)<(s.length:Int))=false:=decide_eq_false (by omega)
        have e2:s[0]? = some 48:=by rw[← List.head?_eq_getElem?];exact h1
        have e3:(s==[48])=false:=beq_false_of_ne h2
        have e4:0<s.length:=List.length_pos_iff.2 h0
        have e6:(((48:UInt8).toNat:Int)==48)=true:=rfl
        refine ev_go rfl (fun cargs w=>call47 cargs w) func47 rfl mixed (by kernel_rfl) rfl ?_;intro b0 hb0
        (repeat' first|simp only[fins,mems,results47,ntmps47,wks,e0,e1,e2,e3,e4,e6,hr,Bf,vcs,seval,tys]|exact rfl|refine call_off (v:=.any) ?_|((first|apply Ca|apply Cb)<;>intro hb)|refine Ai (by omega) ?_|(apply Ai<;>intro hb)|refine Fin.pure ?_ ?_ ?_|simp only[injs])
  · have h0:s≠[]:=fun h=>hbad (.inl h)
    have h16:¬ 16<s.length:=fun h=>hbad (.inr (.inl h))
    have h48:¬(s.head? = some 48∧s≠[48]):=fun h=>hbad (.inr (.inr h))
    have hdl:decL s=(decV 0 s).bind fun n=>if n≤9007199254740991 then some n else none:=by unfold decL;rw[if_neg hbad]
    have e0:(s==[])=false:=beq_false_of_ne h0
    have e1:decide ((16:Int)<(s.length:Int))=false:=decide_eq_false (by omega)
    have e4:0<s.length:=List.length_pos_iff.2 h0
    obtain⟨c0,hc0⟩:∃ c,s[0]? = some c:=⟨_,List.getElem?_eq_getElem e4⟩
    have e2:((c0.toNat:Int)==48)=decide (c0=48):=beq_byte c0 48
    have e3:c0=48→(s==[48])=true:=fun h=>by
      by_cases h5:s=[48]
      · rw[h5];rfl
      · exact absurd ⟨by rw[List.head?_eq_getElem?,hc0,h],h5⟩ h48
    have hround:∀ b:Bool,decide (c0=48)=b→(b=true→(s==[48])=true):=fun b h h2=>e3 (of_decide_eq_true (h.trans h2))
    generalize hb:decide (c0=48)=b at e2
    have e5:=hround b hb
    clear hround
    refine ev_go rfl (fun cargs w=>call47 cargs w) func47 rfl mixed (by kernel_rfl) rfl ?_;intro b0 hb0
    cases b
    all_goals (
      first|have e6:=e5 rfl|have e6:True:=trivial
      repeat' first|simp only[fins,mems,results47,ntmps47,wks,e0,e1,hc0,e2,e4,e6,Bt,Bf,vcs,seval,tys]|exact rfl|refine call_off (v:=.any) ?_|(refine ext_toBytes (bs:=?_) ?_ ?_ ?_ ?_;rotate_left 1;(iterate 2 (focus (simp only[results47,ntmps47,wks,e0,e1,hc0,e2,e4,e6,Bt,Bf,vcs,seval,tys];done)));(focus (simp only[results47,ntmps47,wks,e0,e1,hc0,e2,e4,e6,Bt,Bf,vcs,seval,tys]<;>exact rfl)))|(refine extG_true ?_)|(refine extG_false ?_)|((first|apply Ca|apply Cb)<;>intro hb)|refine Ai (by omega) ?_|(apply Ai<;>intro hb)
      (refine loop_can2 cxG (fun x:Nat×Nat=>s.length-x.1) (fun x=>x.1≤s.length∧decV 0 (s.take x.1)=some x.2) (b0+16) (fun x=>[(2,.int .i64 x.2),(4,.bool false),(25,.sl false 1 (s.map byteRow)),(26,.int .i64 s.length),(27,.int .i64 x.1)]) (fun x=>[]) ((0,0)) [] ?_ ?_ ?_ ?_;rotate_left 1;(focus (show b0≤_;omega));(focus (refine⟨?_,?_⟩<;>(try simp only[cans,plain_bsG,Lm,show decV 0 []=some 0 from rfl,vcs,seval,tys,injs])<;>(try omega)));rotate_left 1)
      · exact⟨Nat.zero_le _,rfl⟩
      · rintro ⟨k,m⟩ ⟨hk,hv⟩
        simp only at hk hv
        have hmb:=(decV_le _ _ _ hv).2
        have hkl:(s.take k).length=k:=by rw[List.length_take];omega
        rw[hkl]at hmb
        have hp16:(10:Nat) ^ k≤10 ^ 16:=Nat.pow_le_pow_right (by omega) (by omega)
        have hm16:m<10000000000000000:=by simp only[Nat.zero_add,Nat.one_mul]at hmb;exact Nat.lt_of_lt_of_le hmb hp16
        by_cases hlt:k<s.length
        · obtain⟨c,hc⟩:∃ c,s[k]? = some c:=⟨_,List.getElem?_eq_getElem hlt⟩
          have hh:(s.map byteRow)[k]? = some (byteRow c):=by rw[List.getElem?_map,hc];rfl
          have hd:decide (k<s.length)=true:=decide_eq_true hlt
          have hwk:IntKind.i64.wrap ((k:Int)+1)=((k+1:Nat):Int):=wrap_in (by omega) (by omega)
          have hcn:c.toNat<256:=c.toNat_lt
          have hw1:IntKind.i64.wrap (c.toNat:Int)=(c.toNat:Int):=wrap_in (by omega) (by omega)
          have hw2:IntKind.i64.wrap ((c.toNat:Int)-48)=(c.toNat:Int)-48:=wrap_in (by omega) (by omega)
          have hnx:=decV_take hc
          rw[hv]at hnx
          simp only[Option.bind_some]at hnx
          cases hdc:decD c with
          | none =>
            have hno:decV 0 s=none:=by
              rw[hdc]at hnx
              rw[← List.take_append_drop (k+1) s]
              exact decV_none hnx
            have hr:=readE_none (s:=s) (by rw[hdl,hno];rfl)
            have hcs:decide ((c.toNat:Int)-48<0)=true∨(decide ((c.toNat:Int)-48<0)=false∧decide ((9:Int)<(c.toNat:Int)-48)=true):=by
              by_cases h1:(c.toNat:Int)-48<0
              · exact .inl (decide_eq_true h1)
              · refine .inr ⟨decide_eq_false h1,decide_eq_true ?_⟩
                unfold decD at hdc
                split at hdc
                · cases hdc
                · omega
            rcases hcs with h1|⟨h1,h2⟩
            · (repeat' first|simp only[fins,mems,results47,ntmps47,wks,hh,hd,hlt,hw1,hw2,h1,hr,byteRow,Lm,vcs,seval,tys]|exact rfl|refine call_off (v:=.any) ?_|((first|apply Ca|apply Cb)<;>intro hb)|refine Ai (by omega) ?_|(apply Ai<;>intro hb)|refine Fin.pure ?_ ?_ ?_|simp only[injs])
            · (repeat' first|simp only[fins,mems,results47,ntmps47,wks,hh,hd,hlt,hw1,hw2,h1,h2,hr,byteRow,Lm,vcs,seval,tys]|exact rfl|refine call_off (v:=.any) ?_|((first|apply Ca|apply Cb)<;>intro hb)|refine Ai (by omega) ?_|(apply Ai<;>intro hb)|refine Fin.pure ?_ ?_ ?_|simp only[injs])
          | some d =>
            obtain⟨d9,_,hcd⟩:=decD_range hdc
            rw[hdc]at hnx
            have h1:decide ((c.toNat:Int)-48<0)=false:=decide_eq_false (by omega)
            have h2:decide ((9:Int)<(c.toNat:Int)-48)=false:=decide_eq_false (by omega)
            have hw3:IntKind.i64.wrap (10*(m:Int))=10*(m:Int):=wrap_in (by omega) (by omega)
            have hw4:IntKind.i64.wrap (10*(m:Int)+((c.toNat:Int)-48))=((10*m+d:Nat):Int):=by rw[wrap_in (by omega) (by omega)];omega
            repeat' first|simp only[fins,mems,results47,ntmps47,wks,hh,hd,hlt,hw1,hw2,hw3,hw4,h1,h2,byteRow,Lm,vcs,seval,tys]|exact rfl|refine call_off (v:=.any) ?_|((first|apply Ca|apply Cb)<;>intro hb)|refine Ai (by omega) ?_|(apply Ai<;>intro hb)
            all_goals ((refine again_can2 cxG ((k+1,10*m+d)) [] ?_ ?_ ?_ ?_;rotate_left 2;(focus (show b0≤_;omega));(focus (refine⟨?_,?_⟩<;>(try simp only[cans,plain_bsG,hwk,hw4,Lm,vcs,seval,tys,injs])<;>(try omega)))))
            all_goals (first|(show s.length-(k+1)<s.length-k;omega)|exact⟨hlt,hnx⟩|skip)
        · have hke:k=s.length:=by omega
          subst hke
          rw[List.take_length]at hv
          have hd:decide (s.length<s.length)=false:=decide_eq_false (by omega)
          by_cases hmx:m≤9007199254740991
          · have hr:=readE_some (s:=s) (n:=m) (by rw[hdl,hv];simp only[Option.bind_some];rw[if_pos hmx])
            have h1:decide ((9007199254740991:Int)<(m:Int))=false:=decide_eq_false (by omega)
            (repeat' first|simp only[fins,mems,results47,ntmps47,wks,hd,h1,hr,Lm,vcs,seval,tys]|exact rfl|refine call_off (v:=.any) ?_|((first|apply Ca|apply Cb)<;>intro hb)|refine Ai (by omega) ?_|(apply Ai<;>intro hb)|refine Fin.pure ?_ ?_ ?_|simp only[injs])
          · have hr:=readE_none (s:=s) (by rw[hdl,hv];simp only[Option.bind_some];rw[if_neg hmx])
            have h1:decide ((9007199254740991:Int)<(m:Int))=true:=decide_eq_true (by omega)
            (repeat' first|simp only[fins,mems,results47,ntmps47,wks,hd,h1,hr,Lm,vcs,seval,tys]|exact rfl|refine call_off (v:=.any) ?_|((first|apply Ca|apply Cb)<;>intro hb)|refine Ai (by omega) ?_|(apply Ai<;>intro hb)|refine Fin.pure ?_ ?_ ?_|simp only[injs]))
def lowI (c:UInt8):Int:=IntKind.u8.wrap ((BitVec.ofInt IntKind.u8.bits (c.toNat:Int) ||| BitVec.ofInt IntKind.u8.bits 32).toNat:Int)
theorem lower_ev (c:UInt8)(nm:Nat):Ev cx 75 nm [.int .u8 c.toNat] Mem.nil (.int .u8 (lowI c)) []:=by
 have h:IntKind.u8.wrap ((BitVec.ofInt IntKind.u8.bits (c.toNat:Int) ||| BitVec.ofInt IntKind.u8.bits 32).toNat:Int)=lowI c:=rfl
 refine ev_go rfl (fun cargs w=>call75 cargs w) func75 rfl mixed (by kernel_rfl) rfl ?_;intro b0 hb0
 (repeat' first|simp only[fins,mems,results75,ntmps75,wks,h,vcs,seval,tys]|exact rfl|refine call_off (v:=.any) ?_|((first|apply Ca|apply Cb)<;>intro hb)|refine Ai (by omega) ?_|(apply Ai<;>intro hb)|refine Fin.pure ?_ ?_ ?_|simp only[injs])
theorem low_hex {c:UInt8}{d:Nat}(h:hexD c=some d):(48≤c.toNat∧c.toNat≤57∧d=c.toNat-48)∨(57<c.toNat∧c.toNat≠95∧97≤lowI c∧lowI c≤102∧(d:Int)=lowI c-87):=by
 have key:∀ n:Fin 256,(97≤n.val∧n.val≤102→lowI (UInt8.ofNat n.val)=n.val)∧(65≤n.val∧n.val≤70→lowI (UInt8.ofNat n.val)=n.val+32):=by decide +kernel
 have hk:=key ⟨c.toNat,c.toNat_lt⟩
 simp only[UInt8.ofNat_toNat]at hk
 unfold hexD at h
 split at h
 ·rename_i h1;cases h;left;omega
 ·split at h
  ·rename_i h1;cases h;right
   have:=hk.1 h1
   omega
  ·split at h
   ·rename_i h1;cases h;right
    have:=hk.2 h1
    omega
   ·cases h
theorem hexV_snoc:∀(s:List UInt8) (n:Nat) (c:UInt8),hexV n (s++[c])=(hexV n s).bind fun m=>(hexD c).map fun d=>16*m+d
 | [],n,c=>by
  simp only[List.nil_append,hexV,Option.bind_some]
  cases hexD c<;>rfl
 | x::s,n,c=>by
  simp only[List.cons_append,hexV]
  cases hexD x with
  | none=>rfl
  | some d=>exact hexV_snoc s _ c
theorem hexV_take {s:List UInt8}{k:Nat}{c:UInt8}(h:s[k]? = some c):hexV 0 (s.take (k+1))=(hexV 0 (s.take k)).bind fun m=>(hexD c).map fun d=>16*m+d:=by
 obtain⟨hk,rfl⟩:=List.getElem?_eq_some_iff.1 h
 rw[List.take_succ_eq_append_getElem hk,hexV_snoc]
theorem hexD_lt {c:UInt8}{d:Nat}(h:hexD c=some d):d<16:=by
 unfold hexD at h
 split at h
 ·cases h;omega
 ·split at h
  ·cases h;omega
  ·split at h
   ·cases h;omega
   ·cases h
theorem hexV_lt:∀(s:List UInt8) (n m:Nat),hexV n s=some m→m<(n+1)*16 ^ s.length
 | [],n,m,h=>by simp only[hexV]at h;cases h;simp
 | x::s,n,m,h=>by
  simp only[hexV]at h
  cases hx:hexD x with
  | none=>rw[hx]at h;cases h
  | some d =>
   rw[hx]at h
   have hd:=hexD_lt hx
   refine Nat.lt_of_lt_of_le (hexV_lt s _ m h) ?_
   rw[List.length_cons,Nat.pow_succ',← Nat.mul_assoc]
   exact Nat.mul_le_mul_right _ (by omega)
theorem hexV_none:∀ {s t:List UInt8} {n:Nat},hexV n s=none→hexV n (s++t)=none
 | [],t,n,h=>by simp[hexV]at h
 | c::s,t,n,h=>by
  simp only[List.cons_append,hexV]at h ⊢
  cases hc:hexD c with
  | none=>rfl
  | some d=>rw[hc]at h;exact hexV_none h
def allHex (s:List UInt8):Bool:=s.all fun c=>(hexD c).isSome
theorem hexV_all:∀(s:List UInt8) (n:Nat),allHex s=(hexV n s).isSome
 | [],n=>rfl
 | c::s,n=>by
  simp only[allHex,List.all_cons,hexV]
  cases hc:hexD c with
  | none=>simp
  | some d=>simpa [allHex] using hexV_all s (16*n+d)
theorem uint_ev (s:List UInt8)(n:Nat)(hl:s.length≤6)(h0:s≠[])(hv:hexV 0 s=some n)(nm:Nat):Ev cx 63 nm [.str s,.int .i64 16,.int .i64 32] Mem.nil (.tup [.int .u64 n,.val .nilIface]) []:=by
 have e0:(s==[])=false:=beq_false_of_ne h0
 have hsh:IntKind.u64.wrap (1*2 ^ min 32 IntKind.u64.bits)=4294967296:=by decide
 have hsh2:IntKind.u64.wrap (4294967296-1)=4294967295:=by decide
 have hsh3:IntKind.u64.wrap 4294967295=4294967295:=by decide
 have hL:s.length≤6:=hl
 have hw32:IntKind.u64.wrap 32=32:=by decide
 have q16:IntKind.u8.wrap 16=16:=by decide
 have q16':IntKind.u64.wrap 16=16:=by decide
 refine ev_go rfl (fun cargs w=>call63 cargs w) func63 rfl mixed (by kernel_rfl) rfl ?_;intro b0 hb0
 repeat' first|simp only[fins,mems,results63,ntmps63,wks,e0,hw32,hsh,hsh2,hsh3,vcs,seval,tys]|exact rfl|refine call_off (v:=.any) ?_|(refine ext_toBytes (bs:=?_) ?_ ?_ ?_ ?_;rotate_left 1;(iterate 2 (focus (simp only[results63,ntmps63,wks,e0,hw32,hsh,hsh2,hsh3,vcs,seval,tys];done)));(focus (simp only[results63,ntmps63,wks,e0,hw32,hsh,hsh2,hsh3,vcs,seval,tys]<;>exact rfl)))|(refine extG_true ?_)|(refine extG_false ?_)|((first|apply Ca|apply Cb)<;>intro hb)|refine Ai (by omega) ?_|(apply Ai<;>intro hb)
 (refine loop_can2 cxG (fun x:Nat×Nat=>s.length-x.1) (fun x=>x.1≤s.length∧hexV 0 (s.take x.1)=some x.2) (b0+16) (fun x=>[(1,.int .i64 16),(8,.bool false),(9,.str s),(10,.int .u64 1152921504606846976),(11,.int .u64 4294967295),(12,.bool false),(13,.int .u64 x.2),(99,.sl false 1 (s.map byteRow)),(100,.int .i64 s.length),(101,.int .i64 x.1)]) (fun x=>[]) ((0,0)) [] ?_ ?_ ?_ ?_;rotate_left 1;(focus (show b0≤_;omega));(focus (refine⟨?_,?_⟩<;>(try simp only[cans,plain_bsG,Lm,show hexV 0 []=some 0 from rfl,vcs,seval,tys,injs])<;>(try omega)));rotate_left 1)
 ·exact⟨Nat.zero_le _,rfl⟩
 ·rintro ⟨k,m⟩ ⟨hk,hm⟩
  simp only at hk hm
  have hmb:=hexV_lt _ _ _ hm
  have hkl:(s.take k).length=k:=by rw[List.length_take];omega
  rw[hkl]at hmb
  have hp6:(16:Nat) ^ k≤16 ^ 6:=Nat.pow_le_pow_right (by omega) (by omega)
  have hm6:m<16777216:=by simp only[Nat.zero_add,Nat.one_mul]at hmb;exact Nat.lt_of_lt_of_le hmb hp6
  by_cases hlt:k<s.length
  ·obtain⟨c,hc⟩:∃ c,s[k]? = some c:=⟨_,List.getElem?_eq_getElem hlt⟩
   have hh:(s.map byteRow)[k]? = some (byteRow c):=by rw[List.getElem?_map,hc];rfl
   have hd:decide (k<s.length)=true:=decide_eq_true hlt
   have hwk:IntKind.i64.wrap ((k:Int)+1)=((k+1:Nat):Int):=wrap_in (by omega) (by omega)
   have hcn:c.toNat<256:=c.toNat_lt
   have hnx:=hexV_take hc
   rw[hm]at hnx
   simp only[Option.bind_some]at hnx
   cases hdc:hexD c with
   | none =>
    exfalso
    rw[hdc]at hnx
    have:hexV 0 s=none:=by rw[← List.take_append_drop (k+1) s];exact hexV_none hnx
    rw[this]at hv;cases hv
   | some d =>
    rw[hdc]at hnx
    have hdl:=hexD_lt hdc
    have hd16:decide ((16:Int)≤(d:Int))=false:=decide_eq_false (by omega)
    have hcu:decide ((1152921504606846976:Int)≤(m:Int))=false:=decide_eq_false (by omega)
    have hw3:IntKind.u64.wrap ((m:Int)*16)=(m:Int)*16:=IntWalk.u64_in _ (by omega)
    have hw4:IntKind.u64.wrap (d:Int)=(d:Int):=IntWalk.u64_in _ (by omega)
    have hw5:IntKind.u64.wrap ((m:Int)*16+(d:Int))=((16*m+d:Nat):Int):=by rw[IntWalk.u64_in _ (by omega)];omega
    have hc1:decide (((16*m+d:Nat):Int)<(m:Int)*16)=false:=decide_eq_false (by omega)
    have hc2:decide ((4294967295:Int)<((16*m+d:Nat):Int))=false:=decide_eq_false (by omega)
    rcases low_hex hdc with ⟨h1,h2,h3⟩|⟨h1,h2,h3,h4,h5⟩
    ·have q95:((c.toNat:Int)==95)=false:=beq_false_of_ne (by omega)
     have q48:decide ((48:Int)≤(c.toNat:Int))=true:=decide_eq_true (by omega)
     have q57:decide ((c.toNat:Int)≤57)=true:=decide_eq_true (by omega)
     have hw1:IntKind.u8.wrap ((c.toNat:Int)-48)=(d:Int):=by rw[IntWalk.u8_in _ (by omega)];omega
     repeat' first|simp only[fins,mems,results63,ntmps63,wks,hh,hd,hlt,hw1,hw3,hw4,hw5,hd16,hcu,hc1,hc2,q95,q48,q57,q16,q16',byteRow,Lm,vcs,seval,tys]|exact rfl|refine call_off (v:=.any) ?_|((first|apply Ca|apply Cb)<;>intro hb)|refine Ai (by omega) ?_|(apply Ai<;>intro hb)
     all_goals ((refine again_can2 cxG ((k+1,16*m+d)) [] ?_ ?_ ?_ ?_;rotate_left 2;(focus (show b0≤_;omega));(focus (refine⟨?_,?_⟩<;>(try simp only[cans,plain_bsG,hwk,Lm,vcs,seval,tys,injs])<;>(try omega)))))
     all_goals (first|(show s.length-(k+1)<s.length-k;omega)|exact⟨hlt,hnx⟩|skip)
    ·have q95:((c.toNat:Int)==95)=false:=beq_false_of_ne (by omega)
     have q48:decide ((48:Int)≤(c.toNat:Int))=true:=decide_eq_true (by omega)
     have q57:decide ((c.toNat:Int)≤57)=false:=decide_eq_false (by omega)
     have q97:decide ((97:Int)≤lowI c)=true:=decide_eq_true (by omega)
     have q122:decide (lowI c≤(122:Int))=true:=decide_eq_true (by omega)
     have hw1:IntKind.u8.wrap (lowI c-97)=lowI c-97:=IntWalk.u8_in _ (by omega)
     have hw2:IntKind.u8.wrap (lowI c-97+10)=(d:Int):=by rw[IntWalk.u8_in _ (by omega)];omega
     repeat' first|simp only[fins,mems,results63,ntmps63,wks,hh,hd,hlt,hw1,hw2,hw3,hw4,hw5,hd16,hcu,hc1,hc2,q95,q48,q57,q97,q122,q16,q16',byteRow,Lm,vcs,seval,tys]|exact rfl|refine call_off (v:=.any) ?_|(first|(refine call_fn ?_ (lower_ev c _) ?_)|(refine call_fn_g ?_ (fun _=>lower_ev c _) ?_))|((first|apply Ca|apply Cb)<;>intro hb)|refine Ai (by omega) ?_|(apply Ai<;>intro hb)
     all_goals ((refine again_can2 cxG ((k+1,16*m+d)) [] ?_ ?_ ?_ ?_;rotate_left 2;(focus (show b0≤_;omega));(focus (refine⟨?_,?_⟩<;>(try simp only[cans,plain_bsG,hwk,Lm,vcs,seval,tys,injs])<;>(try omega)))))
     all_goals (first|(show s.length-(k+1)<s.length-k;omega)|exact⟨hlt,hnx⟩|skip)
  ·have hke:k=s.length:=by omega
   subst hke
   rw[List.take_length,hv]at hm
   cases hm
   have hd:decide (s.length<s.length)=false:=decide_eq_false (by omega)
   (repeat' first|simp only[fins,mems,results63,ntmps63,wks,hd,Lm,vcs,seval,tys]|exact rfl|refine call_off (v:=.any) ?_|((first|apply Ca|apply Cb)<;>intro hb)|refine Ai (by omega) ?_|(apply Ai<;>intro hb)|refine Fin.pure ?_ ?_ ?_|simp only[injs])
end Go.Proofs.YtnnbggkpgacdiaaDoor
