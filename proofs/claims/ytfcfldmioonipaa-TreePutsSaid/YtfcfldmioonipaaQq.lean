/-
 Texts joined: XSu,XOc,XOd,XOe,XOf,XOi,XOg,XOj,XOh.
-/
import Derived.Test.YtfcfldmioonipaaQp
import Derived.Test.YtfcfldmioonipaaQm
import Derived.Test.YtfcfldmioonipaaQe
import Derived.Test.YtfcfldmioonipaaQj
namespace Go.Proofs.Ytfcfldmioonipaa
set_option maxRecDepth 100000
set_option maxHeartbeats 32000000
set_option linter.unusedSimpArgs false
set_option linter.unusedVariables false
open Go Go.RowKit Vm Go.Lib Try
open Vm renaming cond_bool→Ca,cond_bit→Cb
open And renaming intro→Ai
open List renaming length_map→Lm,not_mem_nil→Ln,map_nil→Lo,map_cons→Lc,mem_cons→Lk
open Bool renaming not_false→Bf,not_true→Bt
theorem tak_at (l:List At):(l.map atC).take l.length=l.map atC:=take_map_len _ _
section
variable {Q:Post} {st:List Frm} {nm:Nat} {e:Env} {M:Mem} {d:Bool} {fs:List (List Nat)} {ops r:List Oper} {dst:Option Tmp} {t:TypeId} {pos:String} {af:Array Edge} {gd:Option (Nat×Bool)} {i:Nat}
end
theorem under {a b0:Nat}(h:a<b0):((a=b0)=False)∧(∀ c,(a=b0+c)=False)∧((b0=a)=False)∧(∀ c,(b0+c=a)=False):=⟨lt_ne h,lt_ne_add h,lt_ne' h,lt_ne_add' h⟩
end Go.Proofs.Ytfcfldmioonipaa
