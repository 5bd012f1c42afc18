/-
 Texts joined: XTy,XEp,XEq,XEr,XEs,XEn,XEx,XLa,XUa,XSa.
-/
import Derived.Test.YtfcfldmioonipaaGreatDoorChecked
import Derived.Lib.LaidU8
import Derived.Lib.ItoaNum
import Derived.Lib.RuneBytes
import Derived.Lib.MapLaws
import Derived.Lib.RuneCountTail
import Derived.Lib.IndexLaws
import Derived.Test.YtfcfldmioonipaaGreatDoorQe
namespace Go.Proofs.YtfcfldmioonipaaGreatDoor
set_option maxRecDepth 100000
set_option maxHeartbeats 32000000
set_option linter.unusedSimpArgs false
set_option linter.unusedVariables false
open Go Go.RowKit Vm Go.Lib Tryz
open Vm renaming cond_bool→Ca,cond_bit→Cb
open And renaming intro→Ai
open List renaming length_map→Lm,not_mem_nil→Ln,map_nil→Lo,map_cons→Lc,mem_cons→Lk
open Bool renaming not_false→Bf,not_true→Bt
noncomputable def cx:Cx:=⟨Tryz.prog,fun _=>.any,[]⟩
theorem cxG:∀ g,(cx.G g).plain=true:=fun _=>rfl
theorem mixed:cx.P.follows .mixedOrders=true:=by kernel_rfl
theorem und_9:cx.P.underlying 9=some .string:=by kernel_rfl
theorem lk_9:lenKind cx.P 9=true:=by kernel_rfl
theorem und_3:cx.P.underlying 3=some (.int .i64):=by kernel_rfl
theorem und_22:cx.P.underlying 22=some (.slice 39):=by kernel_rfl
theorem el_22:elInfo cx.P 22=some ([.int .u8 0,.str [],.str [],.nils,.str [],.int .i64 0],88):=by kernel_rfl
theorem lk_22:lenKind cx.P 22=true:=by kernel_rfl
theorem et_22:elemT cx.P 22=some 39:=by kernel_rfl
theorem bet_22:betT cx.P 22=none:=by kernel_rfl
theorem elm_22:elm cx.P 22=some (none,6,true):=by kernel_rfl
theorem fld_39_2:fld cx.P 39 2=some (2,1,false):=by kernel_rfl
theorem ty_9:ty cx.P 9=some (1,false):=by kernel_rfl
theorem fld_39_1:fld cx.P 39 1=some (1,1,false):=by kernel_rfl
theorem fld_39_4:fld cx.P 39 4=some (4,1,false):=by kernel_rfl
theorem fld_39_3:fld cx.P 39 3=some (3,1,false):=by kernel_rfl
theorem ty_37:ty cx.P 37=some (1,false):=by kernel_rfl
theorem und_37:cx.P.underlying 37=some (.slice 41):=by kernel_rfl
theorem el_37:elInfo cx.P 37=some ([.str [],.str [],.str []],48):=by kernel_rfl
theorem lk_37:lenKind cx.P 37=true:=by kernel_rfl
theorem et_37:elemT cx.P 37=some 41:=by kernel_rfl
theorem bet_37:betT cx.P 37=none:=by kernel_rfl
theorem elm_37:elm cx.P 37=some (none,3,true):=by kernel_rfl
theorem ty_41:ty cx.P 41=some (3,true):=by kernel_rfl
theorem zero_41:zeroL cx.P 41=some [.str [],.str [],.str []]:=by kernel_rfl
theorem bld_41:bldT cx.P 41=none:=by kernel_rfl
theorem fld_41_1:fld cx.P 41 1=some (1,1,false):=by kernel_rfl
theorem fld_41_0:fld cx.P 41 0=some (0,1,false):=by kernel_rfl
theorem fld_41_2:fld cx.P 41 2=some (2,1,false):=by kernel_rfl
theorem ty_39:ty cx.P 39=some (6,true):=by kernel_rfl
theorem zero_39:zeroL cx.P 39=some [.int .u8 0,.str [],.str [],.nils,.str [],.int .i64 0]:=by kernel_rfl
theorem bld_39:bldT cx.P 39=none:=by kernel_rfl
theorem zero_22:zeroL cx.P 22=some [.nils]:=by kernel_rfl
theorem bld_22:bldT cx.P 22=none:=by kernel_rfl
theorem ty_22:ty cx.P 22=some (1,false):=by kernel_rfl
theorem und_25:cx.P.underlying 25=some (.int .i64):=by kernel_rfl
theorem zero_4:zeroL cx.P 4=some [.bool false]:=by kernel_rfl
theorem bld_4:bldT cx.P 4=none:=by kernel_rfl
theorem ty_4:ty cx.P 4=some (1,false):=by kernel_rfl
theorem zero_44:zeroL cx.P 44=some [.val .nilFunc]:=by kernel_rfl
theorem bld_44:bldT cx.P 44=none:=by kernel_rfl
theorem ty_44:ty cx.P 44=some (1,false):=by kernel_rfl
theorem shape_48:shapeT cx.P 48=some ([.str []],[(0,1)]):=by kernel_rfl
theorem zero_59:zeroL cx.P 59=some [.val .nilFunc]:=by kernel_rfl
theorem bld_59:bldT cx.P 59=none:=by kernel_rfl
theorem ty_59:ty cx.P 59=some (1,false):=by kernel_rfl
theorem fld_39_0:fld cx.P 39 0=some (0,1,false):=by kernel_rfl
theorem ty_5:ty cx.P 5=some (1,false):=by kernel_rfl
theorem und_5:cx.P.underlying 5=some (.int .u8):=by kernel_rfl
theorem fld_39_5:fld cx.P 39 5=some (5,1,false):=by kernel_rfl
theorem ty_3:ty cx.P 3=some (1,false):=by kernel_rfl
theorem zero_64:zeroL cx.P 64=some [.val .nilFunc]:=by kernel_rfl
theorem bld_64:bldT cx.P 64=none:=by kernel_rfl
theorem ty_64:ty cx.P 64=some (1,false):=by kernel_rfl
theorem und_66:cx.P.underlying 66=some (.slice 3):=by kernel_rfl
theorem lk_66:lenKind cx.P 66=true:=by kernel_rfl
theorem zero_48:zeroL cx.P 48=some [.str []]:=by kernel_rfl
theorem bld_48:bldT cx.P 48=none:=by kernel_rfl
theorem ty_48:ty cx.P 48=some (1,true):=by kernel_rfl
theorem fld_48_0:fld cx.P 48 0=some (0,1,false):=by kernel_rfl
theorem shape_39:shapeT cx.P 39=some ([.int .u8 0,.str [],.str [],.nils,.str [],.int .i64 0],[(0,1),(1,1),(2,1),(3,1),(4,1),(5,1)]):=by kernel_rfl
theorem shape_41:shapeT cx.P 41=some ([.str [],.str [],.str []],[(0,1),(1,1),(2,1)]):=by kernel_rfl
theorem el_66:elInfo cx.P 66=some ([.int .i64 0],8):=by kernel_rfl
theorem et_66:elemT cx.P 66=some 3:=by kernel_rfl
theorem bet_66:betT cx.P 66=none:=by kernel_rfl
theorem elm_66:elm cx.P 66=some (none,1,false):=by kernel_rfl
theorem und_79:cx.P.underlying 79=some (.slice 9):=by kernel_rfl
theorem el_79:elInfo cx.P 79=some ([.str []],16):=by kernel_rfl
theorem lk_79:lenKind cx.P 79=true:=by kernel_rfl
theorem et_79:elemT cx.P 79=some 9:=by kernel_rfl
theorem bet_79:betT cx.P 79=none:=by kernel_rfl
theorem feq_41:flatEq cx.P 41=some [(0,1),(1,1),(2,1)]:=by kernel_rfl
theorem zero_66:zeroL cx.P 66=some [.nils]:=by kernel_rfl
theorem bld_66:bldT cx.P 66=none:=by kernel_rfl
theorem ty_66:ty cx.P 66=some (1,false):=by kernel_rfl
theorem zero_85:zeroL cx.P 85=some [.val .nilFunc]:=by kernel_rfl
theorem bld_85:bldT cx.P 85=none:=by kernel_rfl
theorem ty_85:ty cx.P 85=some (1,false):=by kernel_rfl
theorem und_21:cx.P.underlying 21=some (.int .i32):=by kernel_rfl
theorem elm_79:elm cx.P 79=some (none,1,false):=by kernel_rfl
theorem und_2:cx.P.underlying 2=some (.int .i64):=by kernel_rfl
theorem zero_107:zeroL cx.P 107=some [.int .u8 0,.int .u8 0,.int .u8 0,.int .u8 0,.int .u8 0,.int .u8 0,.int .u8 0,.int .u8 0,.int .u8 0,.int .u8 0,.int .u8 0,.int .u8 0,.int .u8 0,.int .u8 0,.int .u8 0,.int .u8 0,.int .u8 0,.int .u8 0,.int .u8 0,.int .u8 0,.int .u8 0,.int .u8 0,.int .u8 0,.int .u8 0]:=by kernel_rfl
theorem bld_107:bldT cx.P 107=none:=by kernel_rfl
theorem und_108:cx.P.underlying 108=some (.int .u64):=by kernel_rfl
theorem elm_107:elm cx.P 107=some (some 24,1,false):=by kernel_rfl
theorem und_107:cx.P.underlying 107=some (.array 24 5):=by kernel_rfl
theorem und_111:cx.P.underlying 111=some (.slice 5):=by kernel_rfl
theorem bt_111:bytesT cx.P 111=true:=by kernel_rfl
theorem el_111:elInfo cx.P 111=some ([.int .u8 0],1):=by kernel_rfl
theorem und_116:cx.P.underlying 116=some (.int .u32):=by kernel_rfl
theorem elm_120:elm cx.P 120=some (some 20,1,false):=by kernel_rfl
theorem ty_108:ty cx.P 108=some (1,false):=by kernel_rfl
theorem lk_111:lenKind cx.P 111=true:=by kernel_rfl
theorem et_111:elemT cx.P 111=some 5:=by kernel_rfl
theorem bet_111:betT cx.P 111=some 5:=by kernel_rfl
theorem elm_111:elm cx.P 111=some (none,1,false):=by kernel_rfl
theorem zero_121:zeroL cx.P 121=some [.int .u8 0,.int .u8 0,.int .u8 0,.int .u8 0,.int .u8 0,.int .u8 0,.int .u8 0,.int .u8 0,.int .u8 0,.int .u8 0,.int .u8 0,.int .u8 0,.int .u8 0,.int .u8 0,.int .u8 0,.int .u8 0,.int .u8 0,.int .u8 0,.int .u8 0,.int .u8 0,.int .u8 0,.int .u8 0,.int .u8 0,.int .u8 0,.int .u8 0,.int .u8 0,.int .u8 0,.int .u8 0,.int .u8 0,.int .u8 0,.int .u8 0,.int .u8 0,.int .u8 0,.int .u8 0,.int .u8 0,.int .u8 0,.int .u8 0,.int .u8 0,.int .u8 0,.int .u8 0,.int .u8 0,.int .u8 0,.int .u8 0,.int .u8 0,.int .u8 0,.int .u8 0,.int .u8 0,.int .u8 0,.int .u8 0,.int .u8 0,.int .u8 0,.int .u8 0,.int .u8 0,.int .u8 0,.int .u8 0,.int .u8 0,.int .u8 0,.int .u8 0,.int .u8 0,.int .u8 0,.int .u8 0,.int .u8 0,.int .u8 0,.int .u8 0,.int .u8 0]:=by kernel_rfl
theorem bld_121:bldT cx.P 121=none:=by kernel_rfl
theorem und_106:cx.P.underlying 106=some (.int .u64):=by kernel_rfl
theorem elm_121:elm cx.P 121=some (some 65,1,false):=by kernel_rfl
theorem und_121:cx.P.underlying 121=some (.array 65 5):=by kernel_rfl
theorem elm_125:elm cx.P 125=some (some 32,1,false):=by kernel_rfl
theorem elm_126:elm cx.P 126=some (some 64,1,false):=by kernel_rfl
set_option linter.defProp false in
def tys:=(Ai und_9 (Ai lk_9 (Ai und_3 (Ai und_22 (Ai el_22 (Ai lk_22 (Ai et_22 (Ai bet_22 (Ai elm_22 (Ai fld_39_2 (Ai ty_9 (Ai fld_39_1 (Ai fld_39_4 (Ai fld_39_3 (Ai ty_37 (Ai und_37 (Ai el_37 (Ai lk_37 (Ai et_37 (Ai bet_37 (Ai elm_37 (Ai ty_41 (Ai zero_41 (Ai bld_41 (Ai fld_41_1 (Ai fld_41_0 (Ai fld_41_2 (Ai ty_39 (Ai zero_39 (Ai bld_39 (Ai zero_22 (Ai bld_22 (Ai ty_22 (Ai und_25 (Ai zero_4 (Ai bld_4 (Ai ty_4 (Ai zero_44 (Ai bld_44 (Ai ty_44 (Ai shape_48 (Ai zero_59 (Ai bld_59 (Ai ty_59 (Ai fld_39_0 (Ai ty_5 (Ai und_5 (Ai fld_39_5 (Ai ty_3 (Ai zero_64 (Ai bld_64 (Ai ty_64 (Ai und_66 (Ai lk_66 (Ai zero_48 (Ai bld_48 (Ai ty_48 (Ai fld_48_0 (Ai shape_39 (Ai shape_41 (Ai el_66 (Ai et_66 (Ai bet_66 (Ai elm_66 (Ai und_79 (Ai el_79 (Ai lk_79 (Ai et_79 (Ai bet_79 (Ai feq_41 (Ai zero_66 (Ai bld_66 (Ai ty_66 (Ai zero_85 (Ai bld_85 (Ai ty_85 (Ai und_21 (Ai elm_79 (Ai und_2 (Ai zero_107 (Ai bld_107 (Ai und_108 (Ai elm_107 (Ai und_107 (Ai und_111 (Ai bt_111 (Ai el_111 (Ai und_116 (Ai elm_120 (Ai ty_108 (Ai lk_111 (Ai et_111 (Ai bet_111 (Ai elm_111 (Ai zero_121 (Ai bld_121 (Ai und_106 (Ai elm_121 (Ai und_121 (Ai elm_125 (Ai elm_126 True.intro)))))))))))))))))))))))))))))))))))))))))))))))))))))))))))))))))))))))))))))))))))))))))))))))))))))
theorem kind_3:kindT cx.P 3=some (.int .i64):=by kernel_rfl
theorem kind_41:kindT cx.P 41=some (.struct [9,9,9]):=by kernel_rfl
theorem kind_37:kindT cx.P 37=some (.slice 41 3 48):=by kernel_rfl
theorem kind_9:kindT cx.P 9=some .str:=by kernel_rfl
theorem kind_5:kindT cx.P 5=some (.int .u8):=by kernel_rfl
theorem kind_39:kindT cx.P 39=some (.struct [5,9,9,37,9,3]):=by kernel_rfl
theorem kind_22:kindT cx.P 22=some (.slice 39 6 88):=by kernel_rfl
end Go.Proofs.YtfcfldmioonipaaGreatDoor
namespace Go.Proofs.YtfcfldmioonipaaGreatDoor
set_option maxRecDepth 100000
set_option maxHeartbeats 32000000
set_option linter.unusedSimpArgs false
set_option linter.unusedVariables false
open Go Go.RowKit
def may (n:Int):Bool:=decide (n=9∨n=10∨n=13∨(32≤n∧n≤1114111 ∧ ¬(55296≤n∧n≤57343)∧n≠65534∧n≠65535))
theorem may_iff (n:Int):may n=true↔(n=9∨n=10∨n=13∨(32≤n∧n≤1114111 ∧ ¬(55296≤n∧n≤57343)∧n≠65534∧n≠65535)):=by
 unfold may;exact decide_eq_true_iff
theorem may_t {n:Int}(h:n=9∨n=10∨n=13∨(32≤n∧n≤1114111 ∧ ¬(55296≤n∧n≤57343)∧n≠65534∧n≠65535)):true=may n:=((may_iff n).2 h).symm
theorem may_f {n:Int}(h:¬(n=9∨n=10∨n=13∨(32≤n∧n≤1114111 ∧ ¬(55296≤n∧n≤57343)∧n≠65534∧n≠65535))):false=may n:=by
 unfold may;symm;exact decide_eq_false_iff_not.2 h
def enc (l:List Int):List UInt8:=l.flatMap Lib.encodeRune
def u8 (b:UInt8):Value:=.int .u8 (b.toNat:Int)
theorem encodeRune_length (x:Int):1≤(Lib.encodeRune x).length∧(Lib.encodeRune x).length≤4:=by
 unfold Lib.encodeRune Lib.encodeRuneZ
 repeat' split
 all_goals simp
end Go.Proofs.YtfcfldmioonipaaGreatDoor
namespace Go.Proofs.YtfcfldmioonipaaGreatDoor
set_option maxRecDepth 100000
set_option maxHeartbeats 32000000
set_option linter.unusedSimpArgs false
set_option linter.unusedVariables false
open Go Go.RowKit Go.Lib
def one (l:List UInt8):Option (Int×Nat) :=
 if l=[] then none
 else if (decodeL l).1=65533∧(decodeL l).2=1 then none
 else if may ((decodeL l).1:Int) then some (((decodeL l).1:Int),(decodeL l).2) else none
def decF:Nat→List UInt8→Option (List Int)
 | _,[]=>some []
 | 0,_=>none
 | f+1,l=>match one l with
  | none=>none
  | some (z,k)=>(decF f (l.drop k)).map (z :: ·)
def dec (l:List UInt8):Option (List Int):=decF l.length l
theorem one_some {l:List UInt8}{z:Int}{k:Nat}(h:one l=some (z,k)):l≠[]∧may z=true∧encodeRune z=l.take k∧1≤k∧k≤l.length:=by
 unfold one at h
 split at h
 ·cases h
 rename_i hne
 split at h
 ·cases h
 rename_i hv
 split at h
 ·rename_i hm
  simp only[Option.some.injEq,Prod.mk.injEq]at h
  obtain⟨rfl,rfl⟩:=h
  have he:=encode_decode l hne hv
  have hle:=decodeL_le l hne
  refine⟨hne,hm,he,?_,hle⟩
  have:=(encodeRune_length ((decodeL l).1:Int)).1
  rw[he,List.length_take]at this
  omega
 ·cases h
theorem mod64 {x:Int}(h0:0≤x)(h1:x<256):(x.toNat.toUInt8).toNat=x.toNat:=by simp;omega
theorem one_enc {z:Int}(hm:may z=true)(rest:List UInt8):one (encodeRune z++rest)=some (z,(encodeRune z).length):=by
 have hmz:=(may_iff z).1 hm
 have key:decodeL (encodeRune z++rest)=(z.toNat,(encodeRune z).length):=by
  rw[decodeL_N]
  by_cases c1:0≤z∧z≤127
  ·have e:encodeRune z=[z.toNat.toUInt8]:=by simp[encodeRune,encodeRuneZ_one c1.1 c1.2]
   rw[e]
   have a:=mod64 (x:=z) (by omega) (by omega)
   simp only[List.cons_append,List.nil_append,List.getD_cons_zero,List.length_cons,List.length_nil,a,decodeN]
   rw[if_pos (by omega)]
  ·by_cases c2:128≤z∧z≤2047
   ·have e:encodeRune z=[(192+z / 64).toNat.toUInt8,(128+z % 64).toNat.toUInt8]:=by simp[encodeRune,encodeRuneZ_two c2.1 c2.2]
    rw[e]
    have a:=mod64 (x:=192+z / 64) (by omega) (by omega)
    have b:=mod64 (x:=128+z % 64) (by omega) (by omega)
    simp only[List.cons_append,List.nil_append,List.getD_cons_zero,List.getD_cons_succ,List.length_cons,List.length_nil,a,b,decodeN]
    rw[if_neg (by omega),if_pos (by omega),if_pos (by omega)]
    simp only[Prod.mk.injEq,and_true];omega
   ·by_cases c3:z≤65535
    ·have e:encodeRune z=[(224+z / 4096).toNat.toUInt8,(128+z / 64 % 64).toNat.toUInt8,(128+z % 64).toNat.toUInt8]:=by simp[encodeRune,encodeRuneZ_three (r:=z) (by omega)]
     rw[e]
     have a:=mod64 (x:=224+z / 4096) (by omega) (by omega)
     have b:=mod64 (x:=128+z / 64 % 64) (by omega) (by omega)
     have c:=mod64 (x:=128+z % 64) (by omega) (by omega)
     simp only[List.cons_append,List.nil_append,List.getD_cons_zero,List.getD_cons_succ,List.length_cons,List.length_nil,a,b,c,decodeN]
     rw[if_neg (by omega),if_neg (by omega),if_pos (by omega),if_pos (by omega)]
     simp only[Prod.mk.injEq,and_true];omega
    ·have e:encodeRune z=[(240+z / 262144).toNat.toUInt8,(128+z / 4096 % 64).toNat.toUInt8,(128+z / 64 % 64).toNat.toUInt8,(128+z % 64).toNat.toUInt8]:=by simp[encodeRune,encodeRuneZ_four (r:=z) (by omega) (by omega)]
     rw[e]
     have a:=mod64 (x:=240+z / 262144) (by omega) (by omega)
     have b:=mod64 (x:=128+z / 4096 % 64) (by omega) (by omega)
     have c:=mod64 (x:=128+z / 64 % 64) (by omega) (by omega)
     have d:=mod64 (x:=128+z % 64) (by omega) (by omega)
     simp only[List.cons_append,List.nil_append,List.getD_cons_zero,List.getD_cons_succ,List.length_cons,List.length_nil,a,b,c,d,decodeN]
     rw[if_neg (by omega),if_neg (by omega),if_neg (by omega),if_pos (by omega),if_pos (by omega)]
     simp only[Prod.mk.injEq,and_true];omega
 have hne:encodeRune z++rest≠[]:=by
  intro h
  have:=(encodeRune_length z).1
  rw[List.append_eq_nil_iff]at h
  rw[h.1]at this;simp at this
 unfold one
 rw[if_neg hne,key]
 have hz:((z.toNat:Nat):Int)=z:=by omega
 simp only[hz,hm,if_true]
 rw[if_neg]
 rintro ⟨h1,h2⟩
 have hz2:z=65533:=by omega
 subst hz2
 revert h2
 decide
theorem decF_fuel:∀(f g:Nat) (l:List UInt8),l.length≤f→l.length≤g→decF f l=decF g l
 | _,_,[],_,_=>by simp[decF]
 | 0,_,x::l,h,_=>by simp at h
 | _,0,x::l,_,h=>by simp at h
 | f+1,g+1,x::l,hf,hg=>by
  simp only[decF]
  cases h1:one (x::l) with
  | none=>rfl
  | some p =>
   obtain⟨z,k⟩:=p
   obtain⟨_,_,_,hk,_⟩:=one_some h1
   simp only
   rw[decF_fuel f g ((x::l).drop k) (by simp at hf ⊢;omega) (by simp at hg ⊢;omega)]
theorem dec_nil:dec []=some []:=rfl
theorem dec_step {l:List UInt8}{z:Int}{k:Nat}(h:one l=some (z,k)):dec l=(dec (l.drop k)).map (z :: ·):=by
 obtain⟨hne,_,_,hk,hkl⟩:=one_some h
 obtain⟨x,l',rfl⟩:=List.exists_cons_of_ne_nil hne
 unfold dec
 rw[show(x::l').length=l'.length+1 from rfl]
 simp only[decF,h]
 rw[decF_fuel l'.length ((x::l').drop k).length _ (by simp;omega) (Nat.le_refl _)]
theorem dec_bad {l:List UInt8}(hne:l≠[])(h:one l=none):dec l=none:=by
 obtain⟨x,l',rfl⟩:=List.exists_cons_of_ne_nil hne
 unfold dec
 rw[show(x::l').length=l'.length+1 from rfl]
 simp only[decF,h]
theorem odd_prefix {l:List UInt8}(h:hasPrefix l [239,191,189]=true):∃ rest,l=encodeRune 65533++rest:=by
 unfold hasPrefix at h
 obtain⟨rest,hr⟩:=List.isPrefixOf_iff_prefix.1 h
 exact⟨rest,by rw[← hr];congr 1⟩
theorem decodeL_odd {l:List UInt8}(h:hasPrefix l [239,191,189]=true):(decodeL l).2≠1:=by
 obtain⟨rest,rfl⟩:=odd_prefix h
 have h1:=one_enc (z:=65533) (by decide) rest
 unfold one at h1
 split at h1
 ·cases h1
 split at h1
 ·cases h1
 rename_i hv
 split at h1
 ·simp only[Option.some.injEq,Prod.mk.injEq]at h1
  rw[h1.2]
  decide
 ·cases h1
theorem one_of_decode {l:List UInt8}(hne:l≠[]):one l=if ((decodeL l).1=65533∧hasPrefix l [239,191,189]=false)∨may ((decodeL l).1:Int)=false then none else some (((decodeL l).1:Int),(decodeL l).2):=by
  unfold one
  rw[if_neg hne]
  by_cases h1:(decodeL l).1=65533∧(decodeL l).2=1
  · rw[if_pos h1,if_pos]
    left
    refine⟨h1.1,?_⟩
    cases hp:hasPrefix l [239,191,189] with
    | false=>rfl
    | true=>exact absurd h1.2 (decodeL_odd hp)
  · rw [if_neg h1]
    by_cases h2:(decodeL l).1=65533
    · have he:=encode_decode l hne h1
      rw[h2]at he
      have hp:hasPrefix l [239,191,189]=true:=by
        unfold hasPrefix
        rw[List.isPrefixOf_iff_prefix,show([239,191,189]:List UInt8)=encodeRune ((65533:Nat):Int) from by decide,he]
        exact List.take_prefix _ _
      rw[hp]
      by_cases hm:may ((decodeL l).1:Int)=true
      · simp[hm]
      · simp[hm]
    · by_cases hm:may ((decodeL l).1:Int)=true
      · simp[hm,h2]
      · simp[hm,h2]
theorem decode_drop (s:ByteArray)(pos:Nat):Utf8.decode s pos=decodeL (s.data.toList.drop pos):=by
 have h:=tail_decode s pos 0
 rw[Nat.add_zero]at h
 rw[← h]
 unfold decodeL
 congr 1
 have h2:(s.extract pos s.size).data.toList=s.data.toList.drop pos:=by
  rw[extract_data,List.take_of_length_le]
  simp
 apply ByteArray.ext
 apply Array.ext'
 simpa using h2
def headS (c:Int):Int:=if c<128 then 1 else if 192≤c∧c<224 then 2 else if 224≤c∧c<240 then 3 else if 240≤c∧c<248 then 4 else 0
def headN (c:Int):Int:=if c<128 then c else if 192≤c∧c<224 then c-192 else if 224≤c∧c<240 then c-224 else if 240≤c∧c<248 then c-240 else 0
def contN (n:Int)(l:List UInt8):Int:=l.foldl (fun n b=>64*n+(b.toNat:Int) % 64) n
def oneZ (l:List UInt8):Int:=match one l with|some (z,_)=>z|none=>0
def oneK (l:List UInt8):Int:=match one l with|some (_,k)=>(k:Int)|none=>0
theorem headS_range (c:Int):0≤headS c∧headS c≤4:=by
 unfold headS;repeat' split
 all_goals omega
theorem headN_range {c:Int}(h:0≤c∧c<256):0≤headN c∧headN c≤127∧(headS c≠1→headN c≤31):=by
 unfold headN headS;repeat' split
 all_goals omega
theorem contN_snoc (n:Int)(l:List UInt8)(b:UInt8):contN n (l++[b])=64*contN n l+(b.toNat:Int) % 64:=by simp[contN]
theorem head_enc {z:Int}(hm:may z=true):∃ b rest,encodeRune z=b::rest∧headS (b.toNat:Int)=((encodeRune z).length:Nat)∧contN (headN (b.toNat:Int)) rest=z:=by
 have hmz:=(may_iff z).1 hm
 by_cases c1:0≤z∧z≤127
 ·have e:encodeRune z=[z.toNat.toUInt8]:=by simp[encodeRune,encodeRuneZ_one c1.1 c1.2]
  have a:=mod64 (x:=z) (by omega) (by omega)
  refine⟨_,_,e,?_,?_⟩
  ·rw[e,a];unfold headS;rw[if_pos (by omega)];rfl
  ·rw[a];unfold headN;rw[if_pos (by omega)];simp[contN];omega
 ·by_cases c2:128≤z∧z≤2047
  ·have e:encodeRune z=[(192+z / 64).toNat.toUInt8,(128+z % 64).toNat.toUInt8]:=by simp[encodeRune,encodeRuneZ_two c2.1 c2.2]
   have a:=mod64 (x:=192+z / 64) (by omega) (by omega)
   have b:=mod64 (x:=128+z % 64) (by omega) (by omega)
   refine⟨_,_,e,?_,?_⟩
   ·rw[e,a];unfold headS;rw[if_neg (by omega),if_pos (by omega)];rfl
   ·rw[a];unfold headN;rw[if_neg (by omega),if_pos (by omega)];simp only[contN,List.foldl_cons,List.foldl_nil,b];omega
  ·by_cases c3:z≤65535
   ·have e:encodeRune z=[(224+z / 4096).toNat.toUInt8,(128+z / 64 % 64).toNat.toUInt8,(128+z % 64).toNat.toUInt8]:=by simp[encodeRune,encodeRuneZ_three (r:=z) (by omega)]
    have a:=mod64 (x:=224+z / 4096) (by omega) (by omega)
    have b:=mod64 (x:=128+z / 64 % 64) (by omega) (by omega)
    have c:=mod64 (x:=128+z % 64) (by omega) (by omega)
    refine⟨_,_,e,?_,?_⟩
    ·rw[e,a];unfold headS;rw[if_neg (by omega),if_neg (by omega),if_pos (by omega)];rfl
    ·rw[a];unfold headN;rw[if_neg (by omega),if_neg (by omega),if_pos (by omega)];simp only[contN,List.foldl_cons,List.foldl_nil,b,c];omega
   ·have e:encodeRune z=[(240+z / 262144).toNat.toUInt8,(128+z / 4096 % 64).toNat.toUInt8,(128+z / 64 % 64).toNat.toUInt8,(128+z % 64).toNat.toUInt8]:=by simp[encodeRune,encodeRuneZ_four (r:=z) (by omega) (by omega)]
    have a:=mod64 (x:=240+z / 262144) (by omega) (by omega)
    have b:=mod64 (x:=128+z / 4096 % 64) (by omega) (by omega)
    have c:=mod64 (x:=128+z / 64 % 64) (by omega) (by omega)
    have d:=mod64 (x:=128+z % 64) (by omega) (by omega)
    refine⟨_,_,e,?_,?_⟩
    ·rw[e,a];unfold headS;rw[if_neg (by omega),if_neg (by omega),if_neg (by omega),if_pos (by omega)];rfl
    ·rw[a];unfold headN;rw[if_neg (by omega),if_neg (by omega),if_neg (by omega),if_pos (by omega)];simp only[contN,List.foldl_cons,List.foldl_nil,b,c,d];omega
theorem one_yes {l:List UInt8}{n:Int}{k:Nat}(hm:may n=true)(he:encodeRune n=l.take k)(hk:k≤l.length):one l=some (n,k):=by
 have h:=one_enc hm (l.drop k)
 have hlen:(encodeRune n).length=k:=by rw[he,List.length_take];omega
 rw[hlen,he,List.take_append_drop]at h
 exact h
theorem one_no {b:UInt8}{l:List UInt8}{k:Nat}(hs:headS (b.toNat:Int)=k)(hno:k=0∨(b::l).length<k∨(k≤(b::l).length ∧ ∀ n,n=contN (headN (b.toNat:Int)) (l.take (k-1))→may n=true→encodeRune n≠(b::l).take k)):one (b::l)=none:=by
 cases h:one (b::l) with
 | none=>rfl
 | some p =>
  obtain⟨z,j⟩:=p
  obtain⟨_,hm,he,hj1,hj2⟩:=one_some h
  obtain⟨b',rest,e1,e2,e3⟩:=head_enc hm
  have hlen:(encodeRune z).length=j:=by rw[he,List.length_take];omega
  obtain⟨j',rfl⟩:∃ j',j=j'+1:=⟨j-1,by omega⟩
  rw[he,List.take_succ_cons]at e1
  obtain⟨e4,e5⟩:=List.cons.inj e1
  subst e4
  rw[hlen]at e2
  have hkj:k=j'+1:=by rw[hs]at e2;exact Int.ofNat.inj e2
  subst hkj
  rcases hno with h0|h0|⟨_,h0⟩
  ·omega
  ·omega
  ·refine absurd he (h0 z ?_ hm)
   rw[← e3,← e5];rfl
def ptsErr (l:List UInt8):Int:=if 16384<l.length then 4 else match dec l with|none=>50|some _=>0
theorem ptsErr_len {s:List UInt8}(h:ptsErr s=0):s.length≤16384:=by
 unfold ptsErr at h
 split at h
 ·omega
 ·omega
def letB (c:UInt8):Bool:=(decide (97≤c.toNat)&&decide (c.toNat≤122))||(decide (65≤c.toNat)&&decide (c.toNat≤90))||decide (c=95)
def partB (first:Bool)(c:UInt8):Bool:=letB c||(!first&&((decide (48≤c.toNat)&&decide (c.toNat≤57))||decide (c=46)||decide (c=45)))
def nameL:List UInt8→Bool
 | []=>false
 | c::r=>partB true c&&r.all (partB false)
def cut1 (d:UInt8):List UInt8→Option (List UInt8×List UInt8)
 | []=>none
 | c::r=>if c=d then some ([],r) else (cut1 d r).map (fun p=>(c::p.1,p.2))
def fullL (s:List UInt8):Bool:=match cut1 58 s with
 | none=>nameL s
 | some (a,b)=>nameL a&&nameL b
theorem cut1_none {d:UInt8} : ∀ {s:List UInt8},cut1 d s=none↔d ∉ s
 | []=>by simp[cut1]
 | c::r=>by
  simp only[cut1]
  by_cases h:c=d
  ·simp[h]
  ·rw[if_neg h]
   simp only[Option.map_eq_none_iff,cut1_none (s:=r),List.mem_cons,not_or]
   constructor
   ·intro h2;exact⟨fun e=>h e.symm,h2⟩
   ·intro h2;exact h2.2
theorem cut1_some {d:UInt8} : ∀ {s a b:List UInt8},cut1 d s=some (a,b)→s=a++d::b∧d ∉ a
 | [],a,b,h=>by simp[cut1]at h
 | c::r,a,b,h=>by
  simp only[cut1]at h
  by_cases hc:c=d
  ·rw[if_pos hc]at h;cases h;subst hc;simp
  ·rw[if_neg hc]at h
   obtain⟨⟨a',b'⟩,h1,h2⟩:=Option.map_eq_some_iff.1 h
   cases h2
   obtain⟨e1,e2⟩:=cut1_some h1
   refine⟨by rw[e1];rfl,?_⟩
   simp only[List.mem_cons,not_or]
   exact⟨fun e=>hc e.symm,e2⟩
theorem cut1_of {d:UInt8} : ∀ {a b:List UInt8},d ∉ a→cut1 d (a++d::b)=some (a,b)
 | [],b,_=>by simp[cut1]
 | c::a,b,h=>by
  simp only[List.mem_cons,not_or]at h
  simp only[List.cons_append,cut1]
  rw[if_neg (fun e=>h.1 e.symm),cut1_of h.2];rfl
theorem cut1_at {d:UInt8}{s:List UInt8}{i:Nat}(h1:d ∉ s.take i)(h2:s[i]? = some d):cut1 d s=some (s.take i,s.drop (i+1)):=by
 obtain⟨hi,he⟩:=List.getElem?_eq_some_iff.1 h2
 have:s=s.take i++d::s.drop (i+1):=by
  conv=>lhs;rw[← List.take_append_drop i s]
  rw[List.drop_eq_getElem_cons hi,he]
 have h3:=cut1_of (b:=s.drop (i+1)) h1
 rwa[← this]at h3
theorem index1_none {d:UInt8}{s:List UInt8} : indexByte s d = -1↔cut1 d s=none:=by
 rw[cut1_none]
 constructor
 ·intro h hm
  obtain⟨k,hk,rfl⟩:=List.getElem_of_mem hm
  exact indexByte_none h k (List.getElem?_eq_getElem hk)
 ·intro h
  have hge:=indexByte_ge s d
  by_cases hneg:indexByte s d = -1
  ·exact hneg
  ·obtain⟨o,ho⟩:∃ o:Nat,indexByte s d=o:=⟨(indexByte s d).toNat,by omega⟩
   exact absurd (List.mem_of_getElem? (indexByte_some ho).1) h
theorem index1_some {d:UInt8}{s a b:List UInt8}(h:cut1 d s=some (a,b)):indexByte s d=a.length∧s.take a.length=a∧s.drop (a.length+1)=b∧a.length+1+b.length=s.length:=by
 obtain⟨h1,h2⟩:=cut1_some h
 have hne:indexByte s d ≠ -1:=fun e=>by rw[index1_none.1 e]at h;cases h
 have hge:=indexByte_ge s d
 obtain⟨o,ho⟩:∃ o:Nat,indexByte s d=o:=⟨(indexByte s d).toNat,by omega⟩
 obtain⟨g1,g2⟩:=indexByte_some ho
 have hat:=cut1_at (i:=o) (fun hm=>by
  obtain⟨k,hk,he⟩:=List.getElem_of_mem hm
  rw[List.length_take]at hk
  rw[List.getElem_take]at he
  exact g2 k (by omega) (by rw[List.getElem?_eq_getElem (by omega),he])) g1
 rw[h]at hat
 cases hat
 have hlt:=(List.getElem?_eq_some_iff.1 g1).1
 have hl:(s.take o).length=o:=by rw[List.length_take];omega
 rw[hl]
 refine⟨ho,rfl,rfl,?_⟩
 rw[List.length_drop];omega
def namedTo (s:List UInt8)(k:Nat):Prop:=∀(i:Nat) (c:UInt8),i<k→s[i]? = some c→partB (i==0) c=true
theorem nameL_true {s:List UInt8}(hne:s≠[])(h:namedTo s s.length):nameL s=true:=by
 cases s with
 | nil=>exact absurd rfl hne
 | cons c r =>
  have h0:=h 0 c (by simp) (by simp)
  simp only[beq_self_eq_true]at h0
  simp only[nameL,h0,Bool.true_and,List.all_eq_true]
  intro x hx
  obtain⟨k,hk,rfl⟩:=List.getElem_of_mem hx
  have:=h (k+1) r[k] (by simp;omega) (by simp[hk])
  have h3:((k+1)==0)=false:=beq_false_of_ne (by omega)
  rwa[h3]at this
theorem nameL_false {s:List UInt8}{k:Nat}{c:UInt8}(hc:s[k]? = some c)(h:partB (k==0) c=false):nameL s=false:=by
 cases s with
 | nil=>simp at hc
 | cons x r =>
  cases k with
  | zero =>
   simp at hc;subst hc
   simp only[beq_self_eq_true]at h
   simp[nameL,h]
  | succ k =>
   have h3:((k+1)==0)=false:=beq_false_of_ne (by omega)
   rw[h3]at h
   simp only[List.getElem?_cons_succ]at hc
   simp only[nameL,Bool.and_eq_false_iff,List.all_eq_false]
   right
   exact⟨c,List.mem_of_getElem? hc,by rw[h];simp⟩
theorem beq_byte (c d:UInt8):((c.toNat:Int)==(d.toNat:Int))=decide (c=d):=by
 rw[Bool.eq_iff_iff,beq_iff_eq,decide_eq_true_iff]
 constructor
 ·intro h;exact UInt8.toNat_inj.1 (by omega)
 ·rintro rfl;rfl
structure Pr where
 name:List UInt8
 value:List UInt8
deriving DecidableEq
structure Tk where
 kind:Nat
 name:List UInt8
 attrs:List Pr
 text:List UInt8
deriving DecidableEq
structure At where
 space:List UInt8
 name:List UInt8
 value:List UInt8
deriving DecidableEq
structure Nd where
 kind:Nat
 space:List UInt8
 name:List UInt8
 attrs:List At
 text:List UInt8
 many:Int
deriving DecidableEq
structure Gr where
 v:List Nd
 opn:List Nat
def Nd.inc (n:Nd):Nd:={ n with many:=n.many+1 }
def incG (v:List Nd)(opn:List Nat):List Nd:=match opn.getLast? with
 | some k=>v.modify k Nd.inc
 | none=>v
def addG (g:Gr)(n:Nd):List Nd:=incG g.v g.opn++[n]
def blankB (c:UInt8):Bool:=c==32||c==9||c==10||c==13
def blankL (s:List UInt8):Bool:=s.all blankB
def textN (s:List UInt8):Nd:=⟨2,[],[],[],s,0⟩
def givenL (l:List Pr):List At:=l.map fun a=>⟨[],a.name,a.value⟩
def elemN (t:Tk):Nd:=⟨1,[],t.name,givenL t.attrs,[],0⟩
def lastName (g:Gr):Option (List UInt8):=g.opn.getLast?.bind fun k=>(g.v[k]?).map Nd.name
def stepG (g:Gr)(t:Tk)(txt:Bool):Gr×Int :=
 if t.kind=4 then
  if (txt||(g.opn.isEmpty && !blankL t.text))=true then (g,80)
  else if g.opn.isEmpty=true then (g,0) else (⟨addG g (textN t.text),g.opn⟩,0)
 else if t.kind=2 then
  if lastName g=some t.name then (⟨g.v,g.opn.dropLast⟩,0) else (g,80)
 else if (g.opn.isEmpty && !g.v.isEmpty)=true then (g,80)
 else if 12≤g.opn.length then (g,100)
 else (⟨addG g (elemN t),if t.kind=1 then g.opn++[g.v.length] else g.opn⟩,0)
def goG:Gr→Bool→List Tk→Gr×Int
 | g,_,[]=>(g,0)
 | g,txt,t::r=>if (stepG g t txt).2=0 then goG (stepG g t txt).1 (t.kind==4) r else stepG g t txt
structure Gr.Ok (g:Gr) (n:Nat):Prop where
 in_:∀ k∈g.opn,k<g.v.length
 deep:g.opn.length≤12
 many:∀ x∈g.v,0≤x.many∧x.many≤n
 len:g.v.length≤n
end Go.Proofs.YtfcfldmioonipaaGreatDoor
namespace Go.Proofs.YtfcfldmioonipaaGreatDoor
set_option maxRecDepth 100000
set_option maxHeartbeats 32000000
set_option linter.unusedSimpArgs false
set_option linter.unusedVariables false
open Go Go.RowKit Vm Go.Lib Tryz
open Vm renaming cond_bool→Ca,cond_bit→Cb
open And renaming intro→Ai
open List renaming length_map→Lm,not_mem_nil→Ln,map_nil→Lo,map_cons→Lc,mem_cons→Lk
open Bool renaming not_false→Bf,not_true→Bt
def okA (l:List At)(a:At):Bool:=!(l.any fun b=>a.space==b.space&&a.name==b.name)&&fullL a.name&&decide (ptsErr a.value=0)&&decide (ptsErr a.space=0)
def atsTo (l:List At)(k:Nat):Prop:=∀(i:Nat) (a:At),i<k→l[i]? = some a→okA (l.take i) a=true
def atsL (l:List At):Bool:=decide (l.length≤16)&&l.zipIdx.all fun p=>okA (l.take p.2) p.1
theorem ats_iff {l:List At} : atsL l=true↔l.length≤16∧atsTo l l.length:=by
 unfold atsL atsTo
 simp only[Bool.and_eq_true,decide_eq_true_eq,List.all_eq_true]
 refine and_congr_right fun _=>⟨fun h i a hi ha=>?_,fun h p hp=>?_⟩
 ·refine h (a,i) ?_
  rw[List.mem_zipIdx_iff_getElem?];exact ha
 ·have:=(List.mem_zipIdx_iff_getElem?).1 hp
  exact h p.2 p.1 (List.getElem?_eq_some_iff.1 this).1 this
theorem atsTo_succ {l:List At}{k:Nat}{a:At}(h:atsTo l k)(ha:l[k]? = some a)(ho:okA (l.take k) a=true):atsTo l (k+1):=by
 intro i b hi hb
 by_cases e:i=k
 ·subst e;rw[ha]at hb;cases hb;exact ho
 ·exact h i b (by omega) hb
theorem ats_false {l:List At}{k:Nat}{a:At}(ha:l[k]? = some a)(ho:okA (l.take k) a=false):atsL l=false:=by
 cases h:atsL l with
 | false=>rfl
 | true =>
  have:=(ats_iff.1 h).2 k a (List.getElem?_eq_some_iff.1 ha).1 ha
  rw[ho]at this;cases this
def mayN (n:Nd):Bool :=
 if n.kind=2 then n.name.isEmpty&&n.space.isEmpty&&n.attrs.isEmpty&&decide (n.many=0) && !n.text.isEmpty&&decide (ptsErr n.text=0)
 else decide (n.kind=1)&&n.text.isEmpty&&fullL n.name&&decide (ptsErr n.space=0)&&atsL n.attrs
theorem mayN_kind {n:Nd}(h:mayN n=true):n.kind=1∨n.kind=2:=by
 unfold mayN at h
 split at h
 ·right;assumption
 ·simp only[Bool.and_eq_true,decide_eq_true_eq]at h;left;exact h.1.1.1.1
theorem mayN_text {n:Nd}(h:mayN n=true)(hk:n.kind=2):n.name=[]∧n.space=[]∧n.attrs=[]∧n.many=0∧n.text≠[]∧ptsErr n.text=0:=by
 unfold mayN at h
 rw[if_pos hk]at h
 simp only[Bool.and_eq_true,decide_eq_true_eq,List.isEmpty_iff,Bool.not_eq_true',List.isEmpty_eq_false_iff]at h
 obtain⟨⟨⟨⟨⟨h1,h2⟩,h3⟩,h4⟩,h5⟩,h6⟩:=h
 exact⟨h1,h2,h3,h4,h5,h6⟩
theorem mayN_elem {n:Nd}(h:mayN n=true)(hk:n.kind=1):n.text=[]∧fullL n.name=true∧ptsErr n.space=0∧atsL n.attrs=true:=by
 unfold mayN at h
 rw[if_neg (by omega)]at h
 simp only[Bool.and_eq_true,decide_eq_true_eq,List.isEmpty_iff]at h
 obtain⟨⟨⟨⟨h1,h2⟩,h3⟩,h4⟩,h5⟩:=h
 exact⟨h2,h3,h4,h5⟩
def loopW (walk:Nat→List Nat→Option Nat×List Nat)(v:List Nd):Nat→Option Nat→Nat→List Nat→Option Nat×List Nat
 | 0,next,_,en=>(next,en)
 | _+1,none,_,en=>(none,en)
 | n+1,some next,last,en=>match v[next]? with
  | none=>(none,en)
  | some y=>if (last==2&&y.kind==2)=true then (none,en) else loopW walk v n (walk next en).1 y.kind (walk next en).2
def endWk (p:Nat)(r:Option Nat×List Nat):Option Nat×List Nat:=match r.1 with
 | some e=>(some e,r.2.set p e)
 | none=>(none,r.2)
def okW (x:Nd)(dz:Bool):Bool:=mayN x&&decide (0≤x.many) && !(x.kind==1&&dz)
def nodeW (walk:Nat→List Nat→Option Nat×List Nat)(v:List Nd)(dz:Bool)(p:Nat)(en:List Nat):Option Nat×List Nat:=match v[p]? with
 | none=>(none,en)
 | some x=>if okW x dz=true then endWk p (loopW walk v x.many.toNat (some (p+1)) 1 en) else (none,en)
def walkW (v:List Nd):Nat→Nat→List Nat→Option Nat×List Nat
 | 0=>nodeW (fun _ en=>(none,en)) v true
 | d+1=>nodeW (walkW v d) v false
def finO (n:Nat):Option Nat×List Nat→Option (List Nat)
 |(some e,en)=>if e=n then some en else none
 |(none,_)=>none
def behindO (v:List Nd):Option (List Nat):=if (v.isEmpty||decide (512<v.length) || !((v[0]?).map Nd.kind==some 1))=true then none else finO v.length (walkW v 12 0 (List.replicate v.length 0))
inductive Fo where
 | nil
 | cons (n:Nd) (k r:Fo)
def Fo.flat:Fo→List Nd
 | .nil=>[]
 | .cons n k r=>n::(k.flat++r.flat)
def Fo.count:Fo→Nat
 | .nil=>0
 | .cons _ _ r=>r.count+1
def Fo.size:Fo→Nat
 | .nil=>0
 | .cons _ k r=>k.size+r.size+1
theorem Fo.flat_length:∀(F:Fo),F.flat.length=F.size
 | .nil=>rfl
 | .cons n k r=>by simp[Fo.flat,Fo.size,k.flat_length,r.flat_length]
def Fo.good:Fo→Nat→Nat→Bool
 | .nil,_,_=>true
 | .cons n k r,d,last=>mayN n&&decide (n.many=(k.count:Int)) && !(last==2&&n.kind==2) && !(n.kind==1&&d==0)&&k.good (d-1) 1&&r.good d n.kind
def Fo.ends:Fo→Nat→List Nat
 | .nil,_=>[]
 | .cons _ k r,b=>(b+1+k.size)::(k.ends (b+1)++r.ends (b+1+k.size))
theorem Fo.ends_length:∀(F:Fo) (b:Nat),(F.ends b).length=F.size
 | .nil,_=>rfl
 | .cons n k r,b=>by simp[Fo.ends,Fo.size,k.ends_length,r.ends_length]
def Fo.app:Fo→Fo→Fo
 | .nil,g=>g
 | .cons n k r,g=>.cons n k (r.app g)
theorem Fo.app_nil:∀(F:Fo),F.app .nil=F
 | .nil=>rfl
 | .cons n k r=>by simp[Fo.app,r.app_nil]
theorem Fo.app_flat:∀(F G:Fo),(F.app G).flat=F.flat++G.flat
 | .nil,_=>rfl
 | .cons n k r,g=>by simp[Fo.app,Fo.flat,r.app_flat]
theorem Fo.app_count:∀(F G:Fo),(F.app G).count=F.count+G.count
 | .nil,_=>by simp[Fo.app,Fo.count]
 | .cons n k r,g=>by simp[Fo.app,Fo.count,r.app_count];omega
theorem Fo.app_size:∀(F G:Fo),(F.app G).size=F.size+G.size
 | .nil,_=>by simp[Fo.app,Fo.size]
 | .cons n k r,g=>by simp[Fo.app,Fo.size,r.app_size];omega
def Fo.lastK:Fo→Nat→Nat
 | .nil,last=>last
 | .cons n _ r,_=>r.lastK n.kind
theorem Fo.app_good:∀(F G:Fo) (d last:Nat),(F.app G).good d last=(F.good d last&&G.good d (F.lastK last))
 | .nil,_,_,_=>by simp[Fo.app,Fo.good,Fo.lastK]
 | .cons n k r,g,d,last=>by simp[Fo.app,Fo.good,Fo.lastK,r.app_good,Bool.and_assoc]
theorem Fo.good_cons {n:Nd}{k r:Fo}{d last:Nat} :(Fo.cons n k r).good d last=true↔mayN n=true∧n.many=(k.count:Int) ∧ ¬(last=2∧n.kind=2) ∧ ¬(n.kind=1∧d=0)∧k.good (d-1) 1=true∧r.good d n.kind=true:=by
 simp only[Fo.good,Bool.and_eq_true,decide_eq_true_eq,Bool.not_eq_true',Bool.and_eq_false_iff,beq_eq_false_iff_ne,ne_eq]
 constructor
 ·rintro ⟨⟨⟨⟨⟨h1,h2⟩,h3⟩,h4⟩,h5⟩,h6⟩
  exact⟨h1,h2,by rcases h3 with h|h<;>simp_all,by rcases h4 with h|h<;>simp_all,h5,h6⟩
 ·rintro ⟨h1,h2,h3,h4,h5,h6⟩
  exact⟨⟨⟨⟨⟨h1,h2⟩,by by_cases h:last=2<;>simp_all⟩,by by_cases h:n.kind=1<;>simp_all⟩,h5⟩,h6⟩
theorem Fo.good_mono:∀ {F:Fo} {d d' last:Nat},d≤d'→F.good d last=true→F.good d' last=true
 | .nil,_,_,_,_,_=>rfl
 | .cons n k r,d,d',last,hd,h=>by
  obtain⟨h1,h2,h3,h4,h5,h6⟩:=Fo.good_cons.1 h
  exact Fo.good_cons.2 ⟨h1,h2,h3,by omega,Fo.good_mono (by omega) h5,Fo.good_mono hd h6⟩
theorem Fo.text_leaf {n:Nd}{k r:Fo}{d last:Nat}(h:(Fo.cons n k r).good d last=true)(hk:n.kind=2):k = .nil:=by
 obtain⟨h1,h2,_⟩:=Fo.good_cons.1 h
 have:=(mayN_text h1 hk).2.2.2.1
 cases k with
 | nil=>rfl
 | cons _ _ _=>simp[Fo.count]at h2;omega
theorem spl_two {en l1 l2:List Nat}{p:Nat}(h:p+l1.length+l2.length≤en.length):spliceL (spliceL en p l1) (p+l1.length) l2=spliceL en p (l1++l2):=by
 have e1:(spliceL en p l1).length=en.length:=spliceL_length (by omega)
 refine List.ext_getElem? fun i=>?_
 rw[spliceL_get (by omega),spliceL_get (by omega),spliceL_get (by simp;omega),List.getElem?_append,List.length_append]
 by_cases a:i<p
 ·rw[if_pos (by omega),if_pos a,if_pos a]
 ·by_cases b:i<p+l1.length
  ·rw[if_pos b,if_neg a,if_pos b,if_neg a,if_pos (by omega),if_pos (by omega)]
  ·by_cases c:i<p+l1.length+l2.length
   ·rw[if_neg b,if_pos c,if_neg a,if_pos (by omega),if_neg (by omega)];congr 1;omega
   ·rw[if_neg b,if_neg c,if_neg a,if_neg b,if_neg a,if_neg (by omega)]
theorem spl_set {en l:List Nat}{p e:Nat}(h:p+1+l.length≤en.length):(spliceL en (p+1) l).set p e=spliceL en p (e::l):=by
  refine List.ext_getElem? fun i=>?_
  rw[List.getElem?_set,spliceL_length (by omega),spliceL_get (by omega),spliceL_get (by simp;omega)]
  by_cases a:p=i
  · subst a;rw[if_pos rfl,if_pos (by omega),if_neg (by omega),if_pos (by simp)];simp
  · rw [if_neg a]
    by_cases b:i<p
    · rw[if_pos (by omega),if_pos b]
    · by_cases c:i<p+1+l.length
      · rw[if_neg (by omega),if_pos c,if_neg b,if_pos (by simp;omega)]
        obtain⟨j,rfl⟩:∃ j,i=p+1+j:=⟨i-(p+1),by omega⟩
        rw[show p+1+j-(p+1)=j by omega,show p+1+j-p=j+1 by omega];simp
      · rw[if_neg (by omega),if_neg c,if_neg b,if_neg (by simp;omega)]
theorem spl_nil (en:List Nat)(p:Nat):spliceL en p []=en:=by simp[spliceL]
def WalkOk (v:List Nd)(d:Nat)(walk:Nat→List Nat→Option Nat×List Nat):Prop:=∀ p en,en.length=v.length →
 ((walk p en).2.length=v.length ∧ ∀ e,(walk p en).1=some e → ∃ n k,(Fo.cons n k .nil).good d 0=true∧v.drop p=n::(k.flat++v.drop e)∧e=p+1+k.size∧e≤v.length∧(walk p en).2=spliceL en p ((Fo.cons n k .nil).ends p)) ∧
 ∀ n k r,(Fo.cons n k .nil).good d 0=true→v.drop p=n::(k.flat++r)→walk p en=(some (p+1+k.size),spliceL en p ((Fo.cons n k .nil).ends p))
theorem drop_at {v:List Nd}{p:Nat}{n:Nd}{r:List Nd}(h:v.drop p=n::r):v[p]? = some n∧v.drop (p+1)=r∧p<v.length:=by
 have h1:v[p]? = some n:=by have:=congrArg (·[0]?) h;simpa using this
 refine⟨h1,?_,(List.getElem?_eq_some_iff.1 h1).1⟩
 have:=congrArg (List.drop 1) h
 rw[List.drop_drop]at this;simpa using this
theorem drop_from {v:List Nd}{p:Nat}{n:Nd}(h:v[p]? = some n):v.drop p=n::v.drop (p+1):=by
 obtain⟨hp,rfl⟩:=List.getElem?_eq_some_iff.1 h
 exact List.drop_eq_getElem_cons hp
theorem drop_more {v a r:List Nd}{p:Nat}(h:v.drop p=a++r):v.drop (p+a.length)=r:=by
 rw[← List.drop_drop,h,List.drop_left]
theorem drop_len {v a r:List Nd}{p:Nat}(h:v.drop p=a++r)(hp:p≤v.length):p+a.length≤v.length:=by
 have:=congrArg List.length h
 simp at this;omega
theorem loop_ok {v:List Nd}{d:Nat}{walk:Nat→List Nat→Option Nat×List Nat}(hw:WalkOk v d walk):∀(c:Nat) (next:Option Nat) (last:Nat) (en:List Nat),en.length=v.length →
  (loopW walk v c next last en).2.length=v.length ∧ ∀ p,next=some p→p≤v.length →
  (∀ e,(loopW walk v c next last en).1=some e → ∃ F:Fo,F.count=c∧F.good d last=true∧v.drop p=F.flat++v.drop e∧e=p+F.size∧e≤v.length∧(loopW walk v c next last en).2=spliceL en p (F.ends p)) ∧
  ∀(F:Fo) (r:List Nd),F.count=c→F.good d last=true→v.drop p=F.flat++r→loopW walk v c next last en=(some (p+F.size),spliceL en p (F.ends p))
 | 0,next,last,en,hl=>by
  refine⟨hl,fun p hp hle=>⟨fun e he=>⟨.nil,rfl,rfl,?_,?_,?_,?_⟩,fun F r hc _ _=>?_⟩⟩
  ·subst hp;simp only[loopW,Option.some.injEq]at he;subst he;rfl
  ·subst hp;simp only[loopW,Option.some.injEq]at he;subst he;rfl
  ·subst hp;simp only[loopW,Option.some.injEq]at he;subst he;exact hle
  ·simp[loopW,Fo.ends,spl_nil]
  ·cases F with
   | nil=>subst hp;simp[loopW,Fo.ends,Fo.size,spl_nil]
   | cons _ _ _=>simp[Fo.count]at hc
 | c+1,none,last,en,hl=>⟨hl,fun p hp=>by cases hp⟩
 | c+1,some q,last,en,hl=>by
  cases hv:v[q]? with
  | none =>
   refine⟨by simpa [loopW,hv] using hl,fun p hp hle=>?_⟩
   cases hp
   refine⟨fun e he=>by simp[loopW,hv]at he,fun F r hc hg hd=>?_⟩
   cases F with
   | nil=>simp[Fo.count]at hc
   | cons n k r' =>
    simp only[Fo.flat,List.cons_append]at hd
    rw[(drop_at hd).1]at hv;cases hv
  | some y =>
   by_cases hb:(last==2&&y.kind==2)=true
   ·refine⟨by simpa [loopW,hv,hb] using hl,fun p hp hle=>?_⟩
    cases hp
    refine⟨fun e he=>by simp[loopW,hv,hb]at he,fun F r hc hg hd=>?_⟩
    cases F with
    | nil=>simp[Fo.count]at hc
    | cons n k r' =>
     simp only[Fo.flat,List.cons_append]at hd
     rw[(drop_at hd).1]at hv;cases hv
     simp only[Bool.and_eq_true,beq_iff_eq]at hb
     exact absurd hb (Fo.good_cons.1 hg).2.2.1
   ·have hb':(last==2&&y.kind==2)=false:=by simpa using hb
    have hu:loopW walk v (c+1) (some q) last en=loopW walk v c (walk q en).1 y.kind (walk q en).2:=by simp[loopW,hv,hb']
    rw[hu]
    obtain⟨⟨w1,w2⟩,w3⟩:=hw q en hl
    obtain⟨i1,i2⟩:=loop_ok hw c (walk q en).1 y.kind (walk q en).2 w1
    refine⟨i1,fun p hp hle=>?_⟩
    cases hp
    refine⟨fun e he=>?_,fun F r hc hg hd=>?_⟩
    ·cases hwq:(walk q en).1 with
     | none =>
      rw[hwq]at he
      cases c<;>simp[loopW]at he
     | some e1 =>
      obtain⟨n,k,g1,g2,g3,g4,g5⟩:=w2 e1 hwq
      obtain⟨i3,_⟩:=i2 e1 hwq g4
      obtain⟨F,f1,f2,f3,f4,f5,f6⟩:=i3 e he
      have hy:n=y:=by rw[(drop_at g2).1]at hv;exact Option.some.inj hv
      subst hy
      obtain⟨k1,k2,k3,k4,k5,k6⟩:=Fo.good_cons.1 g1
      refine⟨.cons n k F,by simp[Fo.count,f1],Fo.good_cons.2 ⟨k1,k2,?_,k4,k5,f2⟩,?_,?_,f5,?_⟩
      ·simpa using hb'
      ·rw[g2,f3];simp[Fo.flat]
      ·simp only[Fo.size];omega
      ·rw[hwq]at f6;rw[f6,g5]
       have hlen:=Fo.ends_length (.cons n k .nil) q
       have hlF:=Fo.ends_length F e1
       have hs:e1=q+((Fo.cons n k .nil).ends q).length:=by rw[hlen];simp[Fo.size];omega
       have:=spl_two (en:=en) (l1:=(Fo.cons n k .nil).ends q) (l2:=F.ends e1) (p:=q) (by omega)
       rw[← hs]at this
       rw[this]
       simp[Fo.ends,g3]
    ·cases F with
     | nil=>simp[Fo.count]at hc
     | cons n k r' =>
      obtain⟨k1,k2,k3,k4,k5,k6⟩:=Fo.good_cons.1 hg
      simp only[Fo.flat,List.cons_append,List.append_assoc]at hd
      have hy:n=y:=by rw[(drop_at hd).1]at hv;exact Option.some.inj hv
      subst hy
      have hwk:=w3 n k (r'.flat++r) (Fo.good_cons.2 ⟨k1,k2,by omega,k4,k5,rfl⟩) hd
      have hd1:v.drop q=(n::k.flat)++(r'.flat++r):=by simpa using hd
      have hle1:=drop_len hd1 hle
      have hd2:=drop_more hd1
      simp only[List.length_cons,Fo.flat_length]at hle1 hd2
      have hq1:q+(k.size+1)=q+1+k.size:=by omega
      rw[hq1]at hd2
      obtain⟨_,i4⟩:=i2 (q+1+k.size) (by rw[hwk]) (by omega)
      have hF:=i4 r' r (by simpa [Fo.count] using hc) k6 hd2
      rw[hF,hwk]
      have hlen:=Fo.ends_length (.cons n k .nil) q
      have hs:q+1+k.size=q+((Fo.cons n k .nil).ends q).length:=by rw[hlen];simp[Fo.size];omega
      have hle2:=drop_len hd2 (by omega)
      rw[Fo.flat_length]at hle2
      have:=spl_two (en:=en) (l1:=(Fo.cons n k .nil).ends q) (l2:=r'.ends (q+1+k.size)) (p:=q) (by rw[Fo.ends_length,Fo.ends_length];simp only[Fo.size];omega)
      rw[← hs]at this
      simp only
      rw[this]
      simp[Fo.ends,Fo.size];omega
theorem endWk_len {p n:Nat}{r:Option Nat×List Nat}(h:r.2.length=n):(endWk p r).2.length=n:=by
 unfold endWk;split<;>simpa using h
theorem node_ok {v:List Nd}{d:Nat}{dz:Bool}{walk:Nat→List Nat→Option Nat×List Nat}(hz:dz=decide (d=0))(hw:d≠0→WalkOk v (d-1) walk)(hw0:∀ p en,(walk p en).2.length=en.length):WalkOk v d (nodeW walk v dz):=by
 have hlen0:∀(c:Nat) (next:Option Nat) (last:Nat) (en:List Nat),(loopW walk v c next last en).2.length=en.length:=by
  intro c
  induction c with
  | zero=>intro next last en;rfl
  | succ c ih =>
   intro next last en
   cases next with
   | none=>rfl
   | some q =>
    cases hv:v[q]? with
    | none=>simp[loopW,hv]
    | some y =>
     by_cases hb:(last==2&&y.kind==2)=true
     ·simp[loopW,hv,hb]
     ·have hb':(last==2&&y.kind==2)=false:=by simpa using hb
      rw[show loopW walk v (c+1) (some q) last en=loopW walk v c (walk q en).1 y.kind (walk q en).2 by simp[loopW,hv,hb'],ih,hw0]
 intro p en hl
 cases hv:v[p]? with
 | none =>
  refine⟨⟨by simpa [nodeW,hv] using hl,fun e he=>by simp[nodeW,hv]at he⟩,fun n k r _ hd=>?_⟩
  rw[(drop_at hd).1]at hv;cases hv
 | some x =>
  have hpl:=(List.getElem?_eq_some_iff.1 hv).1
  by_cases hx:okW x dz=true
  ·have hu:nodeW walk v dz p en=endWk p (loopW walk v x.many.toNat (some (p+1)) 1 en):=by simp[nodeW,hv,hx]
   rw[hu]
   simp only[okW,Bool.and_eq_true,decide_eq_true_eq,Bool.not_eq_true',Bool.and_eq_false_iff,beq_eq_false_iff_ne]at hx
   obtain⟨⟨hm,h0⟩,hkd⟩:=hx
   have hkd':¬(x.kind=1∧d=0):=by
    rintro ⟨e1,e2⟩;rcases hkd with h|h
    ·exact h e1
    ·subst hz;simp[e2]at h
   by_cases hd0:d=0
   ·have hk2:x.kind=2:=by rcases mayN_kind hm with h|h;exact absurd ⟨h,hd0⟩ hkd';exact h
    obtain⟨_,_,_,hm0,_,_⟩:=mayN_text hm hk2
    have hl0:loopW walk v x.many.toNat (some (p+1)) 1 en=(some (p+1),en):=by rw[hm0];rfl
    rw[hl0]
    have hs:en.set p (p+1)=spliceL en p ((Fo.cons x .nil .nil).ends p):=by
     have:=spl_set (en:=en) (l:=[]) (p:=p) (e:=p+1) (by simp;omega)
     rw[spl_nil]at this
     rw[this];simp[Fo.ends,Fo.size]
    refine⟨⟨by simp[endWk];omega,fun e he=>⟨x,.nil,?_,?_,?_,?_,?_⟩⟩,fun n k r hg hd=>?_⟩
    ·exact Fo.good_cons.2 ⟨hm,by simp[Fo.count,hm0],by omega,hkd',rfl,rfl⟩
    ·simp only[endWk,Option.some.injEq]at he;subst he;simp[Fo.flat];exact drop_from hv
    ·simp only[endWk,Option.some.injEq]at he;subst he;simp[Fo.size]
    ·simp only[endWk,Option.some.injEq]at he;subst he;omega
    ·simp only[endWk];exact hs
    ·have hy:n=x:=by rw[(drop_at hd).1]at hv;exact Option.some.inj hv
     subst hy
     have hkn:=Fo.text_leaf hg hk2
     subst hkn
     simp only[endWk,Fo.size,Nat.add_zero];rw[hs]
   ·obtain⟨i1,i2⟩:=loop_ok (hw hd0) x.many.toNat (some (p+1)) 1 en hl
    obtain⟨i3,i4⟩:=i2 (p+1) rfl (by omega)
    refine⟨⟨endWk_len i1,fun e he=>?_⟩,fun n k r hg hd=>?_⟩
    ·cases hq:(loopW walk v x.many.toNat (some (p+1)) 1 en).1 with
     | none=>simp[endWk,hq]at he
     | some e1 =>
      have hee:e1=e:=by simpa [endWk,hq] using he
      subst hee
      obtain⟨F,f1,f2,f3,f4,f5,f6⟩:=i3 e1 hq
      refine⟨x,F,Fo.good_cons.2 ⟨hm,by rw[f1];omega,by omega,hkd',f2,rfl⟩,?_,?_,f5,?_⟩
      ·rw[← f3];exact drop_from hv
      ·omega
      ·simp only[endWk,hq,f6]
       rw[spl_set (by rw[Fo.ends_length];omega)]
       simp[Fo.ends,f4]
    ·have hy:n=x:=by rw[(drop_at hd).1]at hv;exact Option.some.inj hv
     subst hy
     obtain⟨k1,k2,k3,k4,k5,k6⟩:=Fo.good_cons.1 hg
     obtain⟨_,hd1,_⟩:=drop_at hd
     have:=i4 k r (by rw[k2];simp) k5 hd1
     rw[this]
     have hle:=drop_len hd1 (by omega)
     rw[Fo.flat_length]at hle
     simp only[endWk]
     rw[spl_set (by rw[Fo.ends_length];omega)]
     simp[Fo.ends]
  ·have hu:nodeW walk v dz p en=(none,en):=by simp[nodeW,hv,hx]
   rw[hu]
   refine⟨⟨hl,fun e he=>by cases he⟩,fun n k r hg hd=>?_⟩
   have hy:n=x:=by rw[(drop_at hd).1]at hv;exact Option.some.inj hv
   subst hy
   obtain⟨k1,k2,k3,k4,k5,k6⟩:=Fo.good_cons.1 hg
   exfalso;apply hx
   simp only[okW,Bool.and_eq_true,decide_eq_true_eq,Bool.not_eq_true',Bool.and_eq_false_iff,beq_eq_false_iff_ne]
   refine⟨⟨k1,by omega⟩,?_⟩
   subst hz
   by_cases e:n.kind=1
   ·right;simp;omega
   ·left;exact e
theorem loopW_len {walk:Nat→List Nat→Option Nat×List Nat}(hw0:∀ p en,(walk p en).2.length=en.length)(v:List Nd):∀(c:Nat) (next:Option Nat) (last:Nat) (en:List Nat),(loopW walk v c next last en).2.length=en.length
 | 0,_,_,_=>rfl
 | _+1,none,_,_=>rfl
 | c+1,some q,last,en=>by
  cases hv:v[q]? with
  | none=>simp[loopW,hv]
  | some y =>
   by_cases hb:(last==2&&y.kind==2)=true
   ·simp[loopW,hv,hb]
   ·have hb':(last==2&&y.kind==2)=false:=by simpa using hb
    rw[show loopW walk v (c+1) (some q) last en=loopW walk v c (walk q en).1 y.kind (walk q en).2 by simp[loopW,hv,hb'],loopW_len hw0,hw0]
theorem nodeW_len {walk:Nat→List Nat→Option Nat×List Nat}(hw0:∀ p en,(walk p en).2.length=en.length)(v:List Nd)(dz:Bool)(p:Nat)(en:List Nat):(nodeW walk v dz p en).2.length=en.length:=by
 unfold nodeW
 split
 ·rfl
 ·split
  ·exact endWk_len (loopW_len hw0 v _ _ _ _)
  ·rfl
theorem walkW_len (v:List Nd):∀(d p:Nat) (en:List Nat),(walkW v d p en).2.length=en.length
 | 0,p,en=>nodeW_len (fun _ _=>rfl) v true p en
 | d+1,p,en=>nodeW_len (walkW_len v d) v false p en
theorem walk_ok (v:List Nd):∀(d:Nat),WalkOk v d (walkW v d)
 | 0=>node_ok (d:=0) rfl (fun h=>absurd rfl h) (fun _ _=>rfl)
 | d+1=>node_ok (d:=d+1) (by simp) (fun _=>walk_ok v d) (walkW_len v d)
theorem behind_iff {v:List Nd}{en:List Nat} : behindO v=some en ↔ ∃ n k,n.kind=1∧v=n::k.flat∧(Fo.cons n k .nil).good 12 0=true∧v.length≤512∧en=(1+k.size)::k.ends 1:=by
 have hw:=walk_ok v 12 0 (List.replicate v.length 0) (by simp)
 constructor
 ·intro h
  unfold behindO at h
  split at h
  ·cases h
  ·rename_i hc
   simp only[Bool.or_eq_true,decide_eq_true_eq,Bool.not_eq_true',not_or,Bool.not_eq_true,List.isEmpty_eq_false_iff,Nat.not_lt,Bool.not_eq_false,beq_iff_eq,Option.map_eq_some_iff]at hc
   obtain⟨⟨c1,c2⟩,x,c3,c4⟩:=hc
   cases hr:walkW v 12 0 (List.replicate v.length 0) with
   | mk a b =>
    rw[hr]at h hw
    cases a with
    | none=>cases h
    | some e =>
     simp only[finO]at h
     split at h
     ·rename_i he
      cases h
      obtain⟨n,k,h1,h2,h3,h4,h5⟩:=hw.1.2 e rfl
      subst he
      simp only[List.drop_zero,List.drop_length,List.append_nil]at h2
      have hx:x=n:=by rw[h2]at c3;simpa using c3.symm
      subst hx
      refine⟨x,k,c4,h2,h1,c2,?_⟩
      simp only at h5
      have hle:=Fo.ends_length (.cons x k .nil) 0
      have hvl:v.length=k.size+1:=by rw[h2];simp[Fo.flat_length]
      rw[h5]
      unfold spliceL
      rw[hle,List.take_zero,List.drop_of_length_le (by simp[Fo.size];omega)]
      simp[Fo.ends]
     ·cases h
 ·rintro ⟨n,k,h1,h2,h3,h4,rfl⟩
  have hwk:=hw.2 n k [] h3 (by simpa using h2)
  have hvl:v.length=k.size+1:=by rw[h2];simp[Fo.flat_length]
  unfold behindO
  rw[if_neg (by rw[h2];simp[h1];rw[h2]at h4;simpa using h4),hwk]
  simp only[finO]
  rw[if_pos (by omega)]
  have hle:=Fo.ends_length (.cons n k .nil) 0
  unfold spliceL
  rw[hle,List.take_zero,List.drop_of_length_le (by simp[Fo.size];omega)]
  simp[Fo.ends]
end Go.Proofs.YtfcfldmioonipaaGreatDoor
