/-
 Texts joined: XSl,XSm,XSn,XSo.
-/
import Derived.Test.YtcllbjanalhjgaaGreatDoorQt
namespace Go.Proofs.YtcllbjanalhjgaaGreatDoor
set_option maxRecDepth 100000
set_option maxHeartbeats 32000000
set_option linter.unusedSimpArgs false
set_option linter.unusedVariables false
open Go Go.RowKit Vm Go.Lib Tryz
open Vm renaming be→Ca,bo→Cb
open And renaming intro→Ai
open List renaming length_map→Lm,not_mem_nil→Ln,map_nil→Lo,map_cons→Lc,mem_cons→Lk
open Bool renaming not_false→Bf,not_true→Bt
def pR (v:List Nd):V:=.sl false 6 (v.map bc)
end Go.Proofs.YtcllbjanalhjgaaGreatDoor
