/-
 Texts joined: XJj,XJk,XJl,XJm.
-/
import Derived.Test.YtjonibipieofcaaGreatDoorMn
set_option linter.all false
namespace Go.Proofs.YtjonibipieofcaaGreatDoor
open Go Go.RowKit Vm Go.Lib Tryz
open Vm renaming aI->Ca,aP->Cb
open And renaming intro->Ai
open List renaming length_map->Lm,not_mem_nil->Ln,map_nil->Lo,map_cons->Lc,mem_cons->Lk
open Bool renaming not_false->Bf,not_true->Bt
end Go.Proofs.YtjonibipieofcaaGreatDoor
