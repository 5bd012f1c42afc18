/-
 Texts joined: XGg,XNg,XNh,XGh,XGi,XNi,XNj,XNk,XNl.
-/
import Derived.Test.YtfcfldmioonipaaQj
import Derived.Test.YtfcfldmioonipaaQi
import Derived.Test.YtfcfldmioonipaaQh
import Derived.Test.YtfcfldmioonipaaQg
namespace Go.Proofs.Ytfcfldmioonipaa
set_option maxRecDepth 100000
set_option maxHeartbeats 32000000
set_option linter.unusedSimpArgs false
set_option linter.unusedVariables false
open Go Go.RowKit Vm Go.Lib Try
open Vm renaming cond_bool→Ca,cond_bit→Cb
open And renaming intro→Ai
open List renaming length_map→Lm,not_mem_nil→Ln,map_nil→Lo,map_cons→Lc,mem_cons→Lk
open Bool renaming not_false→Bf,not_true→Bt
section
variable {cx:Cx} {Q:Post} {st:List Frm} {nm:Nat} {e:Env} {M:Mem} {d:Bool} {fs:List (List Nat)} {ops r:List Oper} {dst:Option Tmp} {t:TypeId} {pos:String} {af:Array Edge} {gd:Option (Nat×Bool)} {i:Nat}
end
theorem name_some {s n r:List UInt8}(h:nameO s=some (n,r)):wordT s=n∧wordR s=r∧fullL n=true:=by
 unfold nameO at h
 split at h
 ·rename_i hf;cases h;exact⟨rfl,rfl,hf⟩
 ·cases h
section
variable (rest a b:List UInt8) (hr:rest.length≤1000000) (hc:cut1 59 rest=some (a,b))
include hr hc
end
structure RSt where
 rest:List UInt8
 out:List UInt8
def RSt.inv (s:List UInt8)(x:RSt):Prop:=readL s=(readL x.rest).map (x.out ++ ·)∧x.rest.length≤s.length∧x.out.length≤4*(s.length-x.rest.length)
theorem cut_dec {d:UInt8}(hd:d.toNat<128):∀(zs:List Int) (a b:List UInt8),zs.all may=true→enc zs=a++d::b→(dec a).isSome=true∧(dec b).isSome=true
 | [],a,b,_,h=>by
  have:=congrArg List.length h
  simp[enc]at this
 | z::zs,a,b,hm,h=>by
  simp only[List.all_cons,Bool.and_eq_true]at hm
  have e:enc (z::zs)=encodeRune z++enc zs:=by simp[enc]
  have e1:enc [z]=encodeRune z:=by simp[enc]
  have d1:dec (encodeRune z)=some [z]:=by rw[← e1];exact dec_enc [z] (by simp[hm.1])
  rw[e]at h
  rcases List.append_eq_append_iff.1 h with ⟨a',h1,h2⟩|⟨c',h1,h2⟩
  ·obtain⟨k1,k2⟩:=cut_dec hd zs a' b hm.2 h2
   obtain⟨y,hy⟩:=Option.isSome_iff_exists.1 k1
   refine⟨?_,k2⟩
   rw[h1,dec_both d1 hy];rfl
  ·cases c' with
   | nil =>
    simp only[List.append_nil,List.nil_append]at h1 h2
    obtain⟨_,k2⟩:=cut_dec hd zs [] b hm.2 (by rw[← h2];rfl)
    refine⟨?_,k2⟩
    rw[← h1,d1];rfl
   | cons c t =>
    simp only[List.cons_append,List.cons.injEq]at h2
    obtain⟨h2,h3⟩:=h2
    by_cases hz:z<128
    ·have hr:=may_range hm.1
     rw[low_enc (by omega) hz]at h1
     cases a with
     | nil =>
      simp only[List.nil_append,List.cons.injEq]at h1
      rw[← h1.2,List.nil_append]at h3
      exact⟨rfl,by rw[h3,dec_enc zs hm.2];rfl⟩
     | cons a0 a1 =>
      have:=congrArg List.length h1
      simp at this
    ·have:=enc_high (z:=z) (by omega) d (by rw[h1,h2];simp)
     omega
theorem cut_text {d:UInt8}(hd:d.toNat<128){s a b:List UInt8}(h:(dec s).isSome=true)(he:s=a++d::b):(dec a).isSome=true∧(dec b).isSome=true:=by
 obtain⟨zs,hz⟩:=Option.isSome_iff_exists.1 h
 obtain⟨hm,h2⟩:=(dec_iff s zs).1 hz
 exact cut_dec hd zs a b hm (by rw[h2,he])
end Go.Proofs.Ytfcfldmioonipaa
namespace Go.Proofs.Ytfcfldmioonipaa
set_option maxRecDepth 100000
set_option maxHeartbeats 32000000
set_option linter.unusedSimpArgs false
set_option linter.unusedVariables false
open Go Go.RowKit Go.Lib
theorem drop_dec {p:UInt8→Bool}(hp:∀ c,p c=true→c.toNat<128):∀ s:List UInt8,(dec s).isSome=true→(dec (s.dropWhile p)).isSome=true
 | [],h=>h
 | c::s,h=>by
  rw[List.dropWhile_cons]
  by_cases hc:p c=true
  ·rw[if_pos hc]
   exact drop_dec hp s (cut_text (hp c hc) (a:=[]) h rfl).2
  ·rw[if_neg hc];exact h
theorem blank_low:∀ c:UInt8,blankB c=true→c.toNat<128:=by
 have key:∀ n:Fin 256,blankB (UInt8.ofNat n.val)=true→n.val<128:=by decide +kernel
 intro c hc
 have:=key ⟨c.toNat,c.toNat_lt⟩ (by simpa using hc)
 exact this
theorem word_low:∀ c:UInt8,wordB c=true→c.toNat<128:=by
 have key:∀ n:Fin 256,wordB (UInt8.ofNat n.val)=true→n.val<128:=by decide +kernel
 intro c hc
 have:=key ⟨c.toNat,c.toNat_lt⟩ (by simpa using hc)
 exact this
theorem skip_dec {s:List UInt8}(h:(dec s).isSome=true):(dec (skipL s)).isSome=true:=drop_dec blank_low s h
theorem name_dec {s n r:List UInt8}(h:(dec s).isSome=true)(hn:nameO s=some (n,r)):(dec r).isSome=true:=by
 rw[←(name_some hn).2.1]
 exact drop_dec word_low s h
theorem value_dec {s v r:List UInt8}(h:(dec s).isSome=true)(hv:valueO s=some (v,r)):(dec r).isSome=true:=by
 obtain⟨a,h1,_⟩:=value_some hv
 obtain⟨k,hk,rfl,_⟩:=quote_some h1
 have hk128:k.toNat<128:=by rcases hk with rfl|rfl<;>decide
 exact(cut_text hk128 (a:=k::a) h rfl).2
theorem attr_dec {s r:List UInt8}{a:Pr}(h:(dec s).isSome=true)(ha:attrO s=some (a,r)):(dec r).isSome=true:=by
 obtain⟨r1,t,h1,h2,h3⟩:=attr_some ha
 have d1:=skip_dec (name_dec h h1)
 rw[h2]at d1
 have d2:=(cut_text (d:=61) (by decide) (a:=[]) d1 rfl).2
 exact value_dec (skip_dec d2) h3
theorem text_dec {s:List UInt8}(h:(dec s).isSome=true):(dec (textT s)).isSome=true∧(dec (textR s)).isSome=true:=by
 have e:s=textT s++textR s:=(List.takeWhile_append_dropWhile).symm
 cases hr:textR s with
 | nil =>
  rw[hr,List.append_nil]at e
  rw[← e];exact⟨h,rfl⟩
 | cons c t =>
  have hc:textB c=false:=by
   have:=List.head?_dropWhile_not textB s
   unfold textR at hr
   rw[hr]at this
   simpa using this
  have hc60:c=60:=by simpa [textB] using hc
  rw[hr]at e
  subst hc60
  obtain⟨h1,h2⟩:=cut_text (d:=60) (by decide) h e
  refine⟨h1,?_⟩
  have d60:dec [60]=some [60]:=by decide +kernel
  obtain⟨y,hy⟩:=Option.isSome_iff_exists.1 h2
  rw[show(60:UInt8)::t=[60]++t from rfl,dec_both d60 hy];rfl
end Go.Proofs.Ytfcfldmioonipaa
namespace Go.Proofs.Ytfcfldmioonipaa
set_option maxRecDepth 100000
set_option maxHeartbeats 32000000
set_option linter.unusedSimpArgs false
set_option linter.unusedVariables false
open Go Go.RowKit Vm Go.Lib Try
open Vm renaming cond_bool→Ca,cond_bit→Cb
open And renaming intro→Ai
open List renaming length_map→Lm,not_mem_nil→Ln,map_nil→Lo,map_cons→Lc,mem_cons→Lk
open Bool renaming not_false→Bf,not_true→Bt
def idxI (o:Option Nat):Int:=match o with|some n=>n|none=>-1
theorem idxI_some (n:Nat):idxI (some n)=n:=rfl
theorem idxI_none:idxI none = -1:=rfl
theorem find_at2 {α:Type}{p:α→Bool} : ∀ {l:List α} {k:Nat} {x:α},(l.take k).any p=false→l[k]? = some x→p x=true→l.findIdx? p=some k
 | [],k,x,_,h,_=>by simp at h
 | y::l,0,x,_,h,hp=>by simp at h;subst h;simp[List.findIdx?_cons,hp]
 | y::l,k+1,x,hn,h,hp=>by
  simp only[List.take_succ_cons,List.any_cons,Bool.or_eq_false_iff]at hn
  rw[List.findIdx?_cons,hn.1]
  simp[find_at2 (l:=l) (k:=k) (x:=x) hn.2 (by simpa using h) hp]
theorem find_none2 {α:Type}{p:α→Bool}{l:List α}(h:l.any p=false):l.findIdx? p=none:=by
 simpa [List.findIdx?_eq_none_iff] using h
theorem any_none {α:Type}{p:α→Bool}{l:List α}(h:l.findIdx? p=none):l.any p=false:=by
 simpa [List.findIdx?_eq_none_iff] using h
theorem any_some {α:Type}{p:α→Bool}{l:List α}{n:Nat}(h:l.findIdx? p=some n):l.any p=true:=by
 cases ha:l.any p with
 | true=>rfl
 | false=>rw[find_none2 ha]at h;cases h
theorem finL_caps {caps:List V}(h:plainL caps=true)(σ:List (Nat×Nat))(M:Mem):finL σ M caps=caps:=(finL_plain σ M caps h).1
theorem finLOk_caps {caps:List V}(h:plainL caps=true)(σ:List (Nat×Nat))(M:Mem):finLOk σ M caps=True:=eq_true (finL_plain σ M caps h).2
end Go.Proofs.Ytfcfldmioonipaa
