/-
 Texts joined: XGg,XNg,XNh,XGh,XGi,XNi,XNj,XNk,XNl.
-/
import Derived.Test.YtfcfldmioonipaaQj
import Derived.Test.YtfcfldmioonipaaQi
import Derived.Test.YtfcfldmioonipaaQh
import Derived.Test.YtfcfldmioonipaaQg
namespace Go.Proofs.Ytfcfldmioonipaa
set_option maxRecDepth 100000
set_option maxHeartbeats 32000000
set_option linter.unusedSimpArgs false
set_option linter.unusedVariables false
open Go Go.RowKit Vm Go.Lib Try
open Vm renaming cond_bool→Ca,cond_bit→Cb
open And renaming intro→Ai
open List renaming length_map→Lm,not_mem_nil→Ln,map_nil→Lo,map_cons→Lc,mem_cons→Lk
open Bool renaming not_false→Bf,not_true→Bt
section
variable {cx:Cx} {Q:Post} {st:List Frm} {nm:Nat} {e:Env} {M:Mem} {d:Bool} {fs:List (List Nat)} {ops r:List Oper} {dst:Option Tmp} {t:TypeId} {pos:String} {af:Array Edge} {gd:Option (Nat×Bool)} {i:Nat}
end
section
variable (rest a b:List UInt8) (hr:rest.length≤1000000) (hc:cut1 59 rest=some (a,b))
include hr hc
end
end Go.Proofs.Ytfcfldmioonipaa
namespace Go.Proofs.Ytfcfldmioonipaa
set_option maxRecDepth 100000
set_option maxHeartbeats 32000000
set_option linter.unusedSimpArgs false
set_option linter.unusedVariables false
open Go Go.RowKit Go.Lib
end Go.Proofs.Ytfcfldmioonipaa
namespace Go.Proofs.Ytfcfldmioonipaa
set_option maxRecDepth 100000
set_option maxHeartbeats 32000000
set_option linter.unusedSimpArgs false
set_option linter.unusedVariables false
open Go Go.RowKit Vm Go.Lib Try
open Vm renaming cond_bool→Ca,cond_bit→Cb
open And renaming intro→Ai
open List renaming length_map→Lm,not_mem_nil→Ln,map_nil→Lo,map_cons→Lc,mem_cons→Lk
open Bool renaming not_false→Bf,not_true→Bt
def idxI (o:Option Nat):Int:=match o with|some n=>n|none=>-1
theorem idxI_some (n:Nat):idxI (some n)=n:=rfl
theorem idxI_none:idxI none = -1:=rfl
theorem find_at2 {α:Type}{p:α→Bool} : ∀ {l:List α} {k:Nat} {x:α},(l.take k).any p=false→l[k]? = some x→p x=true→l.findIdx? p=some k
 | [],k,x,_,h,_=>by simp at h
 | y::l,0,x,_,h,hp=>by simp at h;subst h;simp[List.findIdx?_cons,hp]
 | y::l,k+1,x,hn,h,hp=>by
  simp only[List.take_succ_cons,List.any_cons,Bool.or_eq_false_iff]at hn
  rw[List.findIdx?_cons,hn.1]
  simp[find_at2 (l:=l) (k:=k) (x:=x) hn.2 (by simpa using h) hp]
theorem find_none2 {α:Type}{p:α→Bool}{l:List α}(h:l.any p=false):l.findIdx? p=none:=by
 simpa [List.findIdx?_eq_none_iff] using h
theorem any_none {α:Type}{p:α→Bool}{l:List α}(h:l.findIdx? p=none):l.any p=false:=by
 simpa [List.findIdx?_eq_none_iff] using h
theorem any_some {α:Type}{p:α→Bool}{l:List α}{n:Nat}(h:l.findIdx? p=some n):l.any p=true:=by
 cases ha:l.any p with
 | true=>rfl
 | false=>rw[find_none2 ha]at h;cases h
theorem finL_caps {caps:List V}(h:plainL caps=true)(σ:List (Nat×Nat))(M:Mem):finL σ M caps=caps:=(finL_plain σ M caps h).1
theorem finLOk_caps {caps:List V}(h:plainL caps=true)(σ:List (Nat×Nat))(M:Mem):finLOk σ M caps=True:=eq_true (finL_plain σ M caps h).2
end Go.Proofs.Ytfcfldmioonipaa
