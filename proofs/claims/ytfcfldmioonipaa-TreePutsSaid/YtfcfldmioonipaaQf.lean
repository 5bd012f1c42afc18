/-
 Texts joined: XTy,XEp,XEq,XEr,XEs,XEn,XEx,XLa,XUa.
-/
import Derived.Test.YtfcfldmioonipaaChecked
import Derived.Lib.LaidU8
import Derived.Lib.ItoaNum
import Derived.Lib.RuneBytes
import Derived.Lib.MapLaws
import Derived.Lib.RuneCountTail
import Derived.Lib.IndexLaws
import Derived.Test.YtfcfldmioonipaaQe
namespace Go.Proofs.Ytfcfldmioonipaa
set_option maxRecDepth 100000
set_option maxHeartbeats 32000000
set_option linter.unusedSimpArgs false
set_option linter.unusedVariables false
open Go Go.RowKit Vm Go.Lib Try
open Vm renaming cond_bool→Ca,cond_bit→Cb
open And renaming intro→Ai
open List renaming length_map→Lm,not_mem_nil→Ln,map_nil→Lo,map_cons→Lc,mem_cons→Lk
open Bool renaming not_false→Bf,not_true→Bt
noncomputable def cx:Cx:=⟨Try.prog,fun _=>.any,[]⟩
theorem cxG:∀ g,(cx.G g).plain=true:=fun _=>rfl
theorem mixed:cx.P.follows .mixedOrders=true:=by kernel_rfl
theorem und_25:cx.P.underlying 25=some (.slice 27):=by kernel_rfl
theorem el_25:elInfo cx.P 25=some ([.nils],24):=by kernel_rfl
theorem lk_25:lenKind cx.P 25=true:=by kernel_rfl
theorem et_25:elemT cx.P 25=some 27:=by kernel_rfl
theorem bet_25:betT cx.P 25=none:=by kernel_rfl
theorem und_3:cx.P.underlying 3=some (.int .i64):=by kernel_rfl
theorem ty_24:ty cx.P 24=some (6,true):=by kernel_rfl
theorem el_27:elInfo cx.P 27=some ([.int .u8 0,.str [],.str [],.nils,.str [],.int .i64 0],88):=by kernel_rfl
theorem elm_25:elm cx.P 25=some (none,1,false):=by kernel_rfl
theorem ty_27:ty cx.P 27=some (1,false):=by kernel_rfl
theorem und_27:cx.P.underlying 27=some (.slice 24):=by kernel_rfl
theorem lk_27:lenKind cx.P 27=true:=by kernel_rfl
theorem et_27:elemT cx.P 27=some 24:=by kernel_rfl
theorem bet_27:betT cx.P 27=none:=by kernel_rfl
theorem und_9:cx.P.underlying 9=some .string:=by kernel_rfl
theorem lk_9:lenKind cx.P 9=true:=by kernel_rfl
theorem und_4:cx.P.underlying 4=some .bool:=by kernel_rfl
theorem elm_27:elm cx.P 27=some (none,6,true):=by kernel_rfl
theorem fld_24_2:fld cx.P 24 2=some (2,1,false):=by kernel_rfl
theorem ty_9:ty cx.P 9=some (1,false):=by kernel_rfl
theorem fld_24_1:fld cx.P 24 1=some (1,1,false):=by kernel_rfl
theorem fld_24_4:fld cx.P 24 4=some (4,1,false):=by kernel_rfl
theorem fld_24_3:fld cx.P 24 3=some (3,1,false):=by kernel_rfl
theorem ty_22:ty cx.P 22=some (1,false):=by kernel_rfl
theorem und_22:cx.P.underlying 22=some (.slice 59):=by kernel_rfl
theorem el_22:elInfo cx.P 22=some ([.str [],.str [],.str []],48):=by kernel_rfl
theorem lk_22:lenKind cx.P 22=true:=by kernel_rfl
theorem et_22:elemT cx.P 22=some 59:=by kernel_rfl
theorem bet_22:betT cx.P 22=none:=by kernel_rfl
theorem elm_22:elm cx.P 22=some (none,3,true):=by kernel_rfl
theorem ty_59:ty cx.P 59=some (3,true):=by kernel_rfl
theorem zero_59:zeroL cx.P 59=some [.str [],.str [],.str []]:=by kernel_rfl
theorem bld_59:bldT cx.P 59=none:=by kernel_rfl
theorem fld_59_1:fld cx.P 59 1=some (1,1,false):=by kernel_rfl
theorem fld_59_0:fld cx.P 59 0=some (0,1,false):=by kernel_rfl
theorem fld_59_2:fld cx.P 59 2=some (2,1,false):=by kernel_rfl
theorem zero_24:zeroL cx.P 24=some [.int .u8 0,.str [],.str [],.nils,.str [],.int .i64 0]:=by kernel_rfl
theorem bld_24:bldT cx.P 24=none:=by kernel_rfl
theorem fld_24_5:fld cx.P 24 5=some (5,1,false):=by kernel_rfl
theorem ty_3:ty cx.P 3=some (1,false):=by kernel_rfl
theorem und_42:cx.P.underlying 42=some (.slice 3):=by kernel_rfl
theorem lk_42:lenKind cx.P 42=true:=by kernel_rfl
theorem zero_62:zeroL cx.P 62=some [.val .nilFunc]:=by kernel_rfl
theorem bld_62:bldT cx.P 62=none:=by kernel_rfl
theorem ty_62:ty cx.P 62=some (1,false):=by kernel_rfl
theorem und_29:cx.P.underlying 29=some (.int .i64):=by kernel_rfl
theorem fld_24_0:fld cx.P 24 0=some (0,1,false):=by kernel_rfl
theorem ty_5:ty cx.P 5=some (1,false):=by kernel_rfl
theorem und_5:cx.P.underlying 5=some (.int .u8):=by kernel_rfl
theorem zero_37:zeroL cx.P 37=some [.nils]:=by kernel_rfl
theorem bld_37:bldT cx.P 37=none:=by kernel_rfl
theorem zero_42:zeroL cx.P 42=some [.nils]:=by kernel_rfl
theorem bld_42:bldT cx.P 42=none:=by kernel_rfl
theorem ty_42:ty cx.P 42=some (1,false):=by kernel_rfl
theorem ty_37:ty cx.P 37=some (1,false):=by kernel_rfl
theorem zero_4:zeroL cx.P 4=some [.bool false]:=by kernel_rfl
theorem bld_4:bldT cx.P 4=none:=by kernel_rfl
theorem ty_4:ty cx.P 4=some (1,false):=by kernel_rfl
theorem zero_65:zeroL cx.P 65=some [.val .nilFunc]:=by kernel_rfl
theorem bld_65:bldT cx.P 65=none:=by kernel_rfl
theorem ty_65:ty cx.P 65=some (1,false):=by kernel_rfl
theorem und_37:cx.P.underlying 37=some (.slice 70):=by kernel_rfl
theorem el_37:elInfo cx.P 37=some ([.int .u8 0,.str [],.nils,.str []],64):=by kernel_rfl
theorem lk_37:lenKind cx.P 37=true:=by kernel_rfl
theorem et_37:elemT cx.P 37=some 70:=by kernel_rfl
theorem bet_37:betT cx.P 37=none:=by kernel_rfl
theorem elm_42:elm cx.P 42=some (none,1,false):=by kernel_rfl
theorem el_42:elInfo cx.P 42=some ([.int .i64 0],8):=by kernel_rfl
theorem et_42:elemT cx.P 42=some 3:=by kernel_rfl
theorem bet_42:betT cx.P 42=none:=by kernel_rfl
theorem zero_80:zeroL cx.P 80=some [.nilp,.nils]:=by kernel_rfl
theorem bld_80:bldT cx.P 80=some 80:=by kernel_rfl
theorem elm_37:elm cx.P 37=some (none,4,true):=by kernel_rfl
theorem fld_70_0:fld cx.P 70 0=some (0,1,false):=by kernel_rfl
theorem fld_70_1:fld cx.P 70 1=some (1,1,false):=by kernel_rfl
theorem fld_70_3:fld cx.P 70 3=some (3,1,false):=by kernel_rfl
theorem fld_70_2:fld cx.P 70 2=some (2,1,false):=by kernel_rfl
theorem ty_68:ty cx.P 68=some (1,false):=by kernel_rfl
theorem zero_89:zeroL cx.P 89=some [.val .nilFunc]:=by kernel_rfl
theorem bld_89:bldT cx.P 89=none:=by kernel_rfl
theorem ty_89:ty cx.P 89=some (1,false):=by kernel_rfl
theorem zero_93:zeroL cx.P 93=some [.val .nilFunc]:=by kernel_rfl
theorem bld_93:bldT cx.P 93=none:=by kernel_rfl
theorem ty_93:ty cx.P 93=some (1,false):=by kernel_rfl
theorem feq_59:flatEq cx.P 59=some [(0,1),(1,1),(2,1)]:=by kernel_rfl
theorem shape_70:shapeT cx.P 70=some ([.int .u8 0,.str [],.nils,.str []],[(0,1),(1,1),(2,1),(3,1)]):=by kernel_rfl
theorem zero_70:zeroL cx.P 70=some [.int .u8 0,.str [],.nils,.str []]:=by kernel_rfl
theorem bld_70:bldT cx.P 70=none:=by kernel_rfl
theorem ty_70:ty cx.P 70=some (4,true):=by kernel_rfl
theorem shape_72:shapeT cx.P 72=some ([.str [],.str []],[(0,1),(1,1)]):=by kernel_rfl
theorem el_68:elInfo cx.P 68=some ([.str [],.str []],32):=by kernel_rfl
theorem und_68:cx.P.underlying 68=some (.slice 72):=by kernel_rfl
theorem lk_68:lenKind cx.P 68=true:=by kernel_rfl
theorem et_68:elemT cx.P 68=some 72:=by kernel_rfl
theorem bet_68:betT cx.P 68=none:=by kernel_rfl
theorem fld_80_1:fld cx.P 80 1=some (1,1,false):=by kernel_rfl
theorem ty_78:ty cx.P 78=some (1,false):=by kernel_rfl
theorem und_78:cx.P.underlying 78=some (.slice 5):=by kernel_rfl
theorem el_78:elInfo cx.P 78=some ([.int .u8 0],1):=by kernel_rfl
theorem lk_78:lenKind cx.P 78=true:=by kernel_rfl
theorem et_78:elemT cx.P 78=some 5:=by kernel_rfl
theorem bet_78:betT cx.P 78=some 5:=by kernel_rfl
theorem und_102:cx.P.underlying 102=some (.pointer 5):=by kernel_rfl
theorem elm_68:elm cx.P 68=some (none,2,true):=by kernel_rfl
theorem ty_72:ty cx.P 72=some (2,true):=by kernel_rfl
theorem feq_72:flatEq cx.P 72=some [(0,1),(1,1)]:=by kernel_rfl
theorem fld_80_0:fld cx.P 80 0=some (0,1,false):=by kernel_rfl
theorem ty_77:ty cx.P 77=some (1,false):=by kernel_rfl
theorem und_77:cx.P.underlying 77=some (.pointer 80):=by kernel_rfl
theorem und_107:cx.P.underlying 107=some .unsafePointer:=by kernel_rfl
theorem und_21:cx.P.underlying 21=some (.int .i32):=by kernel_rfl
theorem bt_78:bytesT cx.P 78=true:=by kernel_rfl
theorem und_124:cx.P.underlying 124=some (.int .u32):=by kernel_rfl
set_option linter.defProp false in
def tys:=(Ai und_25 (Ai el_25 (Ai lk_25 (Ai et_25 (Ai bet_25 (Ai und_3 (Ai ty_24 (Ai el_27 (Ai elm_25 (Ai ty_27 (Ai und_27 (Ai lk_27 (Ai et_27 (Ai bet_27 (Ai und_9 (Ai lk_9 (Ai und_4 (Ai elm_27 (Ai fld_24_2 (Ai ty_9 (Ai fld_24_1 (Ai fld_24_4 (Ai fld_24_3 (Ai ty_22 (Ai und_22 (Ai el_22 (Ai lk_22 (Ai et_22 (Ai bet_22 (Ai elm_22 (Ai ty_59 (Ai zero_59 (Ai bld_59 (Ai fld_59_1 (Ai fld_59_0 (Ai fld_59_2 (Ai zero_24 (Ai bld_24 (Ai fld_24_5 (Ai ty_3 (Ai und_42 (Ai lk_42 (Ai zero_62 (Ai bld_62 (Ai ty_62 (Ai und_29 (Ai fld_24_0 (Ai ty_5 (Ai und_5 (Ai zero_37 (Ai bld_37 (Ai zero_42 (Ai bld_42 (Ai ty_42 (Ai ty_37 (Ai zero_4 (Ai bld_4 (Ai ty_4 (Ai zero_65 (Ai bld_65 (Ai ty_65 (Ai und_37 (Ai el_37 (Ai lk_37 (Ai et_37 (Ai bet_37 (Ai elm_42 (Ai el_42 (Ai et_42 (Ai bet_42 (Ai zero_80 (Ai bld_80 (Ai elm_37 (Ai fld_70_0 (Ai fld_70_1 (Ai fld_70_3 (Ai fld_70_2 (Ai ty_68 (Ai zero_89 (Ai bld_89 (Ai ty_89 (Ai zero_93 (Ai bld_93 (Ai ty_93 (Ai feq_59 (Ai shape_70 (Ai zero_70 (Ai bld_70 (Ai ty_70 (Ai shape_72 (Ai el_68 (Ai und_68 (Ai lk_68 (Ai et_68 (Ai bet_68 (Ai fld_80_1 (Ai ty_78 (Ai und_78 (Ai el_78 (Ai lk_78 (Ai et_78 (Ai bet_78 (Ai und_102 (Ai elm_68 (Ai ty_72 (Ai feq_72 (Ai fld_80_0 (Ai ty_77 (Ai und_77 (Ai und_107 (Ai und_21 (Ai bt_78 (Ai und_124 True.intro)))))))))))))))))))))))))))))))))))))))))))))))))))))))))))))))))))))))))))))))))))))))))))))))))))))))))))))))))
theorem kind_27:kindT cx.P 27=some (.slice 24 6 88):=by kernel_rfl
theorem kind_25:kindT cx.P 25=some (.slice 27 1 24):=by kernel_rfl
theorem kind_3:kindT cx.P 3=some (.int .i64):=by kernel_rfl
theorem kind_59:kindT cx.P 59=some (.struct [9,9,9]):=by kernel_rfl
theorem kind_22:kindT cx.P 22=some (.slice 59 3 48):=by kernel_rfl
theorem kind_9:kindT cx.P 9=some .str:=by kernel_rfl
theorem kind_5:kindT cx.P 5=some (.int .u8):=by kernel_rfl
theorem kind_24:kindT cx.P 24=some (.struct [5,9,9,22,9,3]):=by kernel_rfl
end Go.Proofs.Ytfcfldmioonipaa
namespace Go.Proofs.Ytfcfldmioonipaa
set_option maxRecDepth 100000
set_option maxHeartbeats 32000000
set_option linter.unusedSimpArgs false
set_option linter.unusedVariables false
open Go Go.RowKit
def may (n:Int):Bool:=decide (n=9∨n=10∨n=13∨(32≤n∧n≤1114111 ∧ ¬(55296≤n∧n≤57343)∧n≠65534∧n≠65535))
theorem may_iff (n:Int):may n=true↔(n=9∨n=10∨n=13∨(32≤n∧n≤1114111 ∧ ¬(55296≤n∧n≤57343)∧n≠65534∧n≠65535)):=by
 unfold may;exact decide_eq_true_iff
theorem may_t {n:Int}(h:n=9∨n=10∨n=13∨(32≤n∧n≤1114111 ∧ ¬(55296≤n∧n≤57343)∧n≠65534∧n≠65535)):true=may n:=((may_iff n).2 h).symm
theorem may_f {n:Int}(h:¬(n=9∨n=10∨n=13∨(32≤n∧n≤1114111 ∧ ¬(55296≤n∧n≤57343)∧n≠65534∧n≠65535))):false=may n:=by
 unfold may;symm;exact decide_eq_false_iff_not.2 h
def enc (l:List Int):List UInt8:=l.flatMap Lib.encodeRune
def u8 (b:UInt8):Value:=.int .u8 (b.toNat:Int)
theorem encodeRune_length (x:Int):1≤(Lib.encodeRune x).length∧(Lib.encodeRune x).length≤4:=by
 unfold Lib.encodeRune Lib.encodeRuneZ
 repeat' split
 all_goals simp
end Go.Proofs.Ytfcfldmioonipaa
namespace Go.Proofs.Ytfcfldmioonipaa
set_option maxRecDepth 100000
set_option maxHeartbeats 32000000
set_option linter.unusedSimpArgs false
set_option linter.unusedVariables false
open Go Go.RowKit Go.Lib
def one (l:List UInt8):Option (Int×Nat) :=
 if l=[] then none
 else if (decodeL l).1=65533∧(decodeL l).2=1 then none
 else if may ((decodeL l).1:Int) then some (((decodeL l).1:Int),(decodeL l).2) else none
def decF:Nat→List UInt8→Option (List Int)
 | _,[]=>some []
 | 0,_=>none
 | f+1,l=>match one l with
  | none=>none
  | some (z,k)=>(decF f (l.drop k)).map (z :: ·)
def dec (l:List UInt8):Option (List Int):=decF l.length l
theorem one_some {l:List UInt8}{z:Int}{k:Nat}(h:one l=some (z,k)):l≠[]∧may z=true∧encodeRune z=l.take k∧1≤k∧k≤l.length:=by
 unfold one at h
 split at h
 ·cases h
 rename_i hne
 split at h
 ·cases h
 rename_i hv
 split at h
 ·rename_i hm
  simp only[Option.some.injEq,Prod.mk.injEq]at h
  obtain⟨rfl,rfl⟩:=h
  have he:=encode_decode l hne hv
  have hle:=decodeL_le l hne
  refine⟨hne,hm,he,?_,hle⟩
  have:=(encodeRune_length ((decodeL l).1:Int)).1
  rw[he,List.length_take]at this
  omega
 ·cases h
theorem mod64 {x:Int}(h0:0≤x)(h1:x<256):(x.toNat.toUInt8).toNat=x.toNat:=by simp;omega
theorem one_enc {z:Int}(hm:may z=true)(rest:List UInt8):one (encodeRune z++rest)=some (z,(encodeRune z).length):=by
 have hmz:=(may_iff z).1 hm
 have key:decodeL (encodeRune z++rest)=(z.toNat,(encodeRune z).length):=by
  rw[decodeL_N]
  by_cases c1:0≤z∧z≤127
  ·have e:encodeRune z=[z.toNat.toUInt8]:=by simp[encodeRune,encodeRuneZ_one c1.1 c1.2]
   rw[e]
   have a:=mod64 (x:=z) (by omega) (by omega)
   simp only[List.cons_append,List.nil_append,List.getD_cons_zero,List.length_cons,List.length_nil,a,decodeN]
   rw[if_pos (by omega)]
  ·by_cases c2:128≤z∧z≤2047
   ·have e:encodeRune z=[(192+z / 64).toNat.toUInt8,(128+z % 64).toNat.toUInt8]:=by simp[encodeRune,encodeRuneZ_two c2.1 c2.2]
    rw[e]
    have a:=mod64 (x:=192+z / 64) (by omega) (by omega)
    have b:=mod64 (x:=128+z % 64) (by omega) (by omega)
    simp only[List.cons_append,List.nil_append,List.getD_cons_zero,List.getD_cons_succ,List.length_cons,List.length_nil,a,b,decodeN]
    rw[if_neg (by omega),if_pos (by omega),if_pos (by omega)]
    simp only[Prod.mk.injEq,and_true];omega
   ·by_cases c3:z≤65535
    ·have e:encodeRune z=[(224+z / 4096).toNat.toUInt8,(128+z / 64 % 64).toNat.toUInt8,(128+z % 64).toNat.toUInt8]:=by simp[encodeRune,encodeRuneZ_three (r:=z) (by omega)]
     rw[e]
     have a:=mod64 (x:=224+z / 4096) (by omega) (by omega)
     have b:=mod64 (x:=128+z / 64 % 64) (by omega) (by omega)
     have c:=mod64 (x:=128+z % 64) (by omega) (by omega)
     simp only[List.cons_append,List.nil_append,List.getD_cons_zero,List.getD_cons_succ,List.length_cons,List.length_nil,a,b,c,decodeN]
     rw[if_neg (by omega),if_neg (by omega),if_pos (by omega),if_pos (by omega)]
     simp only[Prod.mk.injEq,and_true];omega
    ·have e:encodeRune z=[(240+z / 262144).toNat.toUInt8,(128+z / 4096 % 64).toNat.toUInt8,(128+z / 64 % 64).toNat.toUInt8,(128+z % 64).toNat.toUInt8]:=by simp[encodeRune,encodeRuneZ_four (r:=z) (by omega) (by omega)]
     rw[e]
     have a:=mod64 (x:=240+z / 262144) (by omega) (by omega)
     have b:=mod64 (x:=128+z / 4096 % 64) (by omega) (by omega)
     have c:=mod64 (x:=128+z / 64 % 64) (by omega) (by omega)
     have d:=mod64 (x:=128+z % 64) (by omega) (by omega)
     simp only[List.cons_append,List.nil_append,List.getD_cons_zero,List.getD_cons_succ,List.length_cons,List.length_nil,a,b,c,d,decodeN]
     rw[if_neg (by omega),if_neg (by omega),if_neg (by omega),if_pos (by omega),if_pos (by omega)]
     simp only[Prod.mk.injEq,and_true];omega
 have hne:encodeRune z++rest≠[]:=by
  intro h
  have:=(encodeRune_length z).1
  rw[List.append_eq_nil_iff]at h
  rw[h.1]at this;simp at this
 unfold one
 rw[if_neg hne,key]
 have hz:((z.toNat:Nat):Int)=z:=by omega
 simp only[hz,hm,if_true]
 rw[if_neg]
 rintro ⟨h1,h2⟩
 have hz2:z=65533:=by omega
 subst hz2
 revert h2
 decide
theorem decF_fuel:∀(f g:Nat) (l:List UInt8),l.length≤f→l.length≤g→decF f l=decF g l
 | _,_,[],_,_=>by simp[decF]
 | 0,_,x::l,h,_=>by simp at h
 | _,0,x::l,_,h=>by simp at h
 | f+1,g+1,x::l,hf,hg=>by
  simp only[decF]
  cases h1:one (x::l) with
  | none=>rfl
  | some p =>
   obtain⟨z,k⟩:=p
   obtain⟨_,_,_,hk,_⟩:=one_some h1
   simp only
   rw[decF_fuel f g ((x::l).drop k) (by simp at hf ⊢;omega) (by simp at hg ⊢;omega)]
theorem dec_nil:dec []=some []:=rfl
theorem dec_step {l:List UInt8}{z:Int}{k:Nat}(h:one l=some (z,k)):dec l=(dec (l.drop k)).map (z :: ·):=by
 obtain⟨hne,_,_,hk,hkl⟩:=one_some h
 obtain⟨x,l',rfl⟩:=List.exists_cons_of_ne_nil hne
 unfold dec
 rw[show(x::l').length=l'.length+1 from rfl]
 simp only[decF,h]
 rw[decF_fuel l'.length ((x::l').drop k).length _ (by simp;omega) (Nat.le_refl _)]
theorem dec_bad {l:List UInt8}(hne:l≠[])(h:one l=none):dec l=none:=by
 obtain⟨x,l',rfl⟩:=List.exists_cons_of_ne_nil hne
 unfold dec
 rw[show(x::l').length=l'.length+1 from rfl]
 simp only[decF,h]
theorem odd_prefix {l:List UInt8}(h:hasPrefix l [239,191,189]=true):∃ rest,l=encodeRune 65533++rest:=by
 unfold hasPrefix at h
 obtain⟨rest,hr⟩:=List.isPrefixOf_iff_prefix.1 h
 exact⟨rest,by rw[← hr];congr 1⟩
theorem decodeL_odd {l:List UInt8}(h:hasPrefix l [239,191,189]=true):(decodeL l).2≠1:=by
 obtain⟨rest,rfl⟩:=odd_prefix h
 have h1:=one_enc (z:=65533) (by decide) rest
 unfold one at h1
 split at h1
 ·cases h1
 split at h1
 ·cases h1
 rename_i hv
 split at h1
 ·simp only[Option.some.injEq,Prod.mk.injEq]at h1
  rw[h1.2]
  decide
 ·cases h1
theorem one_of_decode {l:List UInt8}(hne:l≠[]):one l=if ((decodeL l).1=65533∧hasPrefix l [239,191,189]=false)∨may ((decodeL l).1:Int)=false then none else some (((decodeL l).1:Int),(decodeL l).2):=by
  unfold one
  rw[if_neg hne]
  by_cases h1:(decodeL l).1=65533∧(decodeL l).2=1
  · rw[if_pos h1,if_pos]
    left
    refine⟨h1.1,?_⟩
    cases hp:hasPrefix l [239,191,189] with
    | false=>rfl
    | true=>exact absurd h1.2 (decodeL_odd hp)
  · rw [if_neg h1]
    by_cases h2:(decodeL l).1=65533
    · have he:=encode_decode l hne h1
      rw[h2]at he
      have hp:hasPrefix l [239,191,189]=true:=by
        unfold hasPrefix
        rw[List.isPrefixOf_iff_prefix,show([239,191,189]:List UInt8)=encodeRune ((65533:Nat):Int) from by decide,he]
        exact List.take_prefix _ _
      rw[hp]
      by_cases hm:may ((decodeL l).1:Int)=true
      · simp[hm]
      · simp[hm]
    · by_cases hm:may ((decodeL l).1:Int)=true
      · simp[hm,h2]
      · simp[hm,h2]
theorem decode_drop (s:ByteArray)(pos:Nat):Utf8.decode s pos=decodeL (s.data.toList.drop pos):=by
 have h:=tail_decode s pos 0
 rw[Nat.add_zero]at h
 rw[← h]
 unfold decodeL
 congr 1
 have h2:(s.extract pos s.size).data.toList=s.data.toList.drop pos:=by
  rw[extract_data,List.take_of_length_le]
  simp
 apply ByteArray.ext
 apply Array.ext'
 simpa using h2
def headS (c:Int):Int:=if c<128 then 1 else if 192≤c∧c<224 then 2 else if 224≤c∧c<240 then 3 else if 240≤c∧c<248 then 4 else 0
def headN (c:Int):Int:=if c<128 then c else if 192≤c∧c<224 then c-192 else if 224≤c∧c<240 then c-224 else if 240≤c∧c<248 then c-240 else 0
def contN (n:Int)(l:List UInt8):Int:=l.foldl (fun n b=>64*n+(b.toNat:Int) % 64) n
def oneZ (l:List UInt8):Int:=match one l with|some (z,_)=>z|none=>0
def oneK (l:List UInt8):Int:=match one l with|some (_,k)=>(k:Int)|none=>0
theorem headS_range (c:Int):0≤headS c∧headS c≤4:=by
 unfold headS;repeat' split
 all_goals omega
theorem headN_range {c:Int}(h:0≤c∧c<256):0≤headN c∧headN c≤127∧(headS c≠1→headN c≤31):=by
 unfold headN headS;repeat' split
 all_goals omega
theorem contN_snoc (n:Int)(l:List UInt8)(b:UInt8):contN n (l++[b])=64*contN n l+(b.toNat:Int) % 64:=by simp[contN]
theorem head_enc {z:Int}(hm:may z=true):∃ b rest,encodeRune z=b::rest∧headS (b.toNat:Int)=((encodeRune z).length:Nat)∧contN (headN (b.toNat:Int)) rest=z:=by
 have hmz:=(may_iff z).1 hm
 by_cases c1:0≤z∧z≤127
 ·have e:encodeRune z=[z.toNat.toUInt8]:=by simp[encodeRune,encodeRuneZ_one c1.1 c1.2]
  have a:=mod64 (x:=z) (by omega) (by omega)
  refine⟨_,_,e,?_,?_⟩
  ·rw[e,a];unfold headS;rw[if_pos (by omega)];rfl
  ·rw[a];unfold headN;rw[if_pos (by omega)];simp[contN];omega
 ·by_cases c2:128≤z∧z≤2047
  ·have e:encodeRune z=[(192+z / 64).toNat.toUInt8,(128+z % 64).toNat.toUInt8]:=by simp[encodeRune,encodeRuneZ_two c2.1 c2.2]
   have a:=mod64 (x:=192+z / 64) (by omega) (by omega)
   have b:=mod64 (x:=128+z % 64) (by omega) (by omega)
   refine⟨_,_,e,?_,?_⟩
   ·rw[e,a];unfold headS;rw[if_neg (by omega),if_pos (by omega)];rfl
   ·rw[a];unfold headN;rw[if_neg (by omega),if_pos (by omega)];simp only[contN,List.foldl_cons,List.foldl_nil,b];omega
  ·by_cases c3:z≤65535
   ·have e:encodeRune z=[(224+z / 4096).toNat.toUInt8,(128+z / 64 % 64).toNat.toUInt8,(128+z % 64).toNat.toUInt8]:=by simp[encodeRune,encodeRuneZ_three (r:=z) (by omega)]
    have a:=mod64 (x:=224+z / 4096) (by omega) (by omega)
    have b:=mod64 (x:=128+z / 64 % 64) (by omega) (by omega)
    have c:=mod64 (x:=128+z % 64) (by omega) (by omega)
    refine⟨_,_,e,?_,?_⟩
    ·rw[e,a];unfold headS;rw[if_neg (by omega),if_neg (by omega),if_pos (by omega)];rfl
    ·rw[a];unfold headN;rw[if_neg (by omega),if_neg (by omega),if_pos (by omega)];simp only[contN,List.foldl_cons,List.foldl_nil,b,c];omega
   ·have e:encodeRune z=[(240+z / 262144).toNat.toUInt8,(128+z / 4096 % 64).toNat.toUInt8,(128+z / 64 % 64).toNat.toUInt8,(128+z % 64).toNat.toUInt8]:=by simp[encodeRune,encodeRuneZ_four (r:=z) (by omega) (by omega)]
    have a:=mod64 (x:=240+z / 262144) (by omega) (by omega)
    have b:=mod64 (x:=128+z / 4096 % 64) (by omega) (by omega)
    have c:=mod64 (x:=128+z / 64 % 64) (by omega) (by omega)
    have d:=mod64 (x:=128+z % 64) (by omega) (by omega)
    refine⟨_,_,e,?_,?_⟩
    ·rw[e,a];unfold headS;rw[if_neg (by omega),if_neg (by omega),if_neg (by omega),if_pos (by omega)];rfl
    ·rw[a];unfold headN;rw[if_neg (by omega),if_neg (by omega),if_neg (by omega),if_pos (by omega)];simp only[contN,List.foldl_cons,List.foldl_nil,b,c,d];omega
theorem one_yes {l:List UInt8}{n:Int}{k:Nat}(hm:may n=true)(he:encodeRune n=l.take k)(hk:k≤l.length):one l=some (n,k):=by
 have h:=one_enc hm (l.drop k)
 have hlen:(encodeRune n).length=k:=by rw[he,List.length_take];omega
 rw[hlen,he,List.take_append_drop]at h
 exact h
theorem one_no {b:UInt8}{l:List UInt8}{k:Nat}(hs:headS (b.toNat:Int)=k)(hno:k=0∨(b::l).length<k∨(k≤(b::l).length ∧ ∀ n,n=contN (headN (b.toNat:Int)) (l.take (k-1))→may n=true→encodeRune n≠(b::l).take k)):one (b::l)=none:=by
 cases h:one (b::l) with
 | none=>rfl
 | some p =>
  obtain⟨z,j⟩:=p
  obtain⟨_,hm,he,hj1,hj2⟩:=one_some h
  obtain⟨b',rest,e1,e2,e3⟩:=head_enc hm
  have hlen:(encodeRune z).length=j:=by rw[he,List.length_take];omega
  obtain⟨j',rfl⟩:∃ j',j=j'+1:=⟨j-1,by omega⟩
  rw[he,List.take_succ_cons]at e1
  obtain⟨e4,e5⟩:=List.cons.inj e1
  subst e4
  rw[hlen]at e2
  have hkj:k=j'+1:=by rw[hs]at e2;exact Int.ofNat.inj e2
  subst hkj
  rcases hno with h0|h0|⟨_,h0⟩
  ·omega
  ·omega
  ·refine absurd he (h0 z ?_ hm)
   rw[← e3,← e5];rfl
def ptsErr (l:List UInt8):Int:=if 16384<l.length then 4 else match dec l with|none=>50|some _=>0
theorem ptsErr_len {s:List UInt8}(h:ptsErr s=0):s.length≤16384:=by
 unfold ptsErr at h
 split at h
 ·omega
 ·omega
def letB (c:UInt8):Bool:=(decide (97≤c.toNat)&&decide (c.toNat≤122))||(decide (65≤c.toNat)&&decide (c.toNat≤90))||decide (c=95)
def partB (first:Bool)(c:UInt8):Bool:=letB c||(!first&&((decide (48≤c.toNat)&&decide (c.toNat≤57))||decide (c=46)||decide (c=45)))
def nameL:List UInt8→Bool
 | []=>false
 | c::r=>partB true c&&r.all (partB false)
def cut1 (d:UInt8):List UInt8→Option (List UInt8×List UInt8)
 | []=>none
 | c::r=>if c=d then some ([],r) else (cut1 d r).map (fun p=>(c::p.1,p.2))
def fullL (s:List UInt8):Bool:=match cut1 58 s with
 | none=>nameL s
 | some (a,b)=>nameL a&&nameL b
theorem cut1_none {d:UInt8} : ∀ {s:List UInt8},cut1 d s=none↔d ∉ s
 | []=>by simp[cut1]
 | c::r=>by
  simp only[cut1]
  by_cases h:c=d
  ·simp[h]
  ·rw[if_neg h]
   simp only[Option.map_eq_none_iff,cut1_none (s:=r),List.mem_cons,not_or]
   constructor
   ·intro h2;exact⟨fun e=>h e.symm,h2⟩
   ·intro h2;exact h2.2
theorem cut1_some {d:UInt8} : ∀ {s a b:List UInt8},cut1 d s=some (a,b)→s=a++d::b∧d ∉ a
 | [],a,b,h=>by simp[cut1]at h
 | c::r,a,b,h=>by
  simp only[cut1]at h
  by_cases hc:c=d
  ·rw[if_pos hc]at h;cases h;subst hc;simp
  ·rw[if_neg hc]at h
   obtain⟨⟨a',b'⟩,h1,h2⟩:=Option.map_eq_some_iff.1 h
   cases h2
   obtain⟨e1,e2⟩:=cut1_some h1
   refine⟨by rw[e1];rfl,?_⟩
   simp only[List.mem_cons,not_or]
   exact⟨fun e=>hc e.symm,e2⟩
theorem cut1_of {d:UInt8} : ∀ {a b:List UInt8},d ∉ a→cut1 d (a++d::b)=some (a,b)
 | [],b,_=>by simp[cut1]
 | c::a,b,h=>by
  simp only[List.mem_cons,not_or]at h
  simp only[List.cons_append,cut1]
  rw[if_neg (fun e=>h.1 e.symm),cut1_of h.2];rfl
theorem cut1_at {d:UInt8}{s:List UInt8}{i:Nat}(h1:d ∉ s.take i)(h2:s[i]? = some d):cut1 d s=some (s.take i,s.drop (i+1)):=by
 obtain⟨hi,he⟩:=List.getElem?_eq_some_iff.1 h2
 have:s=s.take i++d::s.drop (i+1):=by
  conv=>lhs;rw[← List.take_append_drop i s]
  rw[List.drop_eq_getElem_cons hi,he]
 have h3:=cut1_of (b:=s.drop (i+1)) h1
 rwa[← this]at h3
theorem index1_none {d:UInt8}{s:List UInt8} : indexByte s d = -1↔cut1 d s=none:=by
 rw[cut1_none]
 constructor
 ·intro h hm
  obtain⟨k,hk,rfl⟩:=List.getElem_of_mem hm
  exact indexByte_none h k (List.getElem?_eq_getElem hk)
 ·intro h
  have hge:=indexByte_ge s d
  by_cases hneg:indexByte s d = -1
  ·exact hneg
  ·obtain⟨o,ho⟩:∃ o:Nat,indexByte s d=o:=⟨(indexByte s d).toNat,by omega⟩
   exact absurd (List.mem_of_getElem? (indexByte_some ho).1) h
theorem index1_some {d:UInt8}{s a b:List UInt8}(h:cut1 d s=some (a,b)):indexByte s d=a.length∧s.take a.length=a∧s.drop (a.length+1)=b∧a.length+1+b.length=s.length:=by
 obtain⟨h1,h2⟩:=cut1_some h
 have hne:indexByte s d ≠ -1:=fun e=>by rw[index1_none.1 e]at h;cases h
 have hge:=indexByte_ge s d
 obtain⟨o,ho⟩:∃ o:Nat,indexByte s d=o:=⟨(indexByte s d).toNat,by omega⟩
 obtain⟨g1,g2⟩:=indexByte_some ho
 have hat:=cut1_at (i:=o) (fun hm=>by
  obtain⟨k,hk,he⟩:=List.getElem_of_mem hm
  rw[List.length_take]at hk
  rw[List.getElem_take]at he
  exact g2 k (by omega) (by rw[List.getElem?_eq_getElem (by omega),he])) g1
 rw[h]at hat
 cases hat
 have hlt:=(List.getElem?_eq_some_iff.1 g1).1
 have hl:(s.take o).length=o:=by rw[List.length_take];omega
 rw[hl]
 refine⟨ho,rfl,rfl,?_⟩
 rw[List.length_drop];omega
def namedTo (s:List UInt8)(k:Nat):Prop:=∀(i:Nat) (c:UInt8),i<k→s[i]? = some c→partB (i==0) c=true
theorem nameL_true {s:List UInt8}(hne:s≠[])(h:namedTo s s.length):nameL s=true:=by
 cases s with
 | nil=>exact absurd rfl hne
 | cons c r =>
  have h0:=h 0 c (by simp) (by simp)
  simp only[beq_self_eq_true]at h0
  simp only[nameL,h0,Bool.true_and,List.all_eq_true]
  intro x hx
  obtain⟨k,hk,rfl⟩:=List.getElem_of_mem hx
  have:=h (k+1) r[k] (by simp;omega) (by simp[hk])
  have h3:((k+1)==0)=false:=beq_false_of_ne (by omega)
  rwa[h3]at this
theorem nameL_false {s:List UInt8}{k:Nat}{c:UInt8}(hc:s[k]? = some c)(h:partB (k==0) c=false):nameL s=false:=by
 cases s with
 | nil=>simp at hc
 | cons x r =>
  cases k with
  | zero =>
   simp at hc;subst hc
   simp only[beq_self_eq_true]at h
   simp[nameL,h]
  | succ k =>
   have h3:((k+1)==0)=false:=beq_false_of_ne (by omega)
   rw[h3]at h
   simp only[List.getElem?_cons_succ]at hc
   simp only[nameL,Bool.and_eq_false_iff,List.all_eq_false]
   right
   exact⟨c,List.mem_of_getElem? hc,by rw[h];simp⟩
theorem beq_byte (c d:UInt8):((c.toNat:Int)==(d.toNat:Int))=decide (c=d):=by
 rw[Bool.eq_iff_iff,beq_iff_eq,decide_eq_true_iff]
 constructor
 ·intro h;exact UInt8.toNat_inj.1 (by omega)
 ·rintro rfl;rfl
structure Pr where
 name:List UInt8
 value:List UInt8
deriving DecidableEq
structure Tk where
 kind:Nat
 name:List UInt8
 attrs:List Pr
 text:List UInt8
deriving DecidableEq
structure At where
 space:List UInt8
 name:List UInt8
 value:List UInt8
deriving DecidableEq
structure Nd where
 kind:Nat
 space:List UInt8
 name:List UInt8
 attrs:List At
 text:List UInt8
 many:Int
deriving DecidableEq
structure Gr where
 v:List Nd
 opn:List Nat
def Nd.inc (n:Nd):Nd:={ n with many:=n.many+1 }
def incG (v:List Nd)(opn:List Nat):List Nd:=match opn.getLast? with
 | some k=>v.modify k Nd.inc
 | none=>v
def addG (g:Gr)(n:Nd):List Nd:=incG g.v g.opn++[n]
def blankB (c:UInt8):Bool:=c==32||c==9||c==10||c==13
def blankL (s:List UInt8):Bool:=s.all blankB
def textN (s:List UInt8):Nd:=⟨2,[],[],[],s,0⟩
def givenL (l:List Pr):List At:=l.map fun a=>⟨[],a.name,a.value⟩
def elemN (t:Tk):Nd:=⟨1,[],t.name,givenL t.attrs,[],0⟩
def lastName (g:Gr):Option (List UInt8):=g.opn.getLast?.bind fun k=>(g.v[k]?).map Nd.name
def stepG (g:Gr)(t:Tk)(txt:Bool):Gr×Int :=
 if t.kind=4 then
  if (txt||(g.opn.isEmpty && !blankL t.text))=true then (g,80)
  else if g.opn.isEmpty=true then (g,0) else (⟨addG g (textN t.text),g.opn⟩,0)
 else if t.kind=2 then
  if lastName g=some t.name then (⟨g.v,g.opn.dropLast⟩,0) else (g,80)
 else if (g.opn.isEmpty && !g.v.isEmpty)=true then (g,80)
 else if 12≤g.opn.length then (g,100)
 else (⟨addG g (elemN t),if t.kind=1 then g.opn++[g.v.length] else g.opn⟩,0)
end Go.Proofs.Ytfcfldmioonipaa
