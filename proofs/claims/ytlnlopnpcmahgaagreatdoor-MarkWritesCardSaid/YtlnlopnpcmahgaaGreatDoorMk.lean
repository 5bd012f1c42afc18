/-
 Texts joined: XUf,XUg,XUh.
-/
import Derived.Test.YtlnlopnpcmahgaaGreatDoorQp
import Derived.Test.YtlnlopnpcmahgaaGreatDoorMl
import Derived.Test.YtlnlopnpcmahgaaGreatDoorQq
set_option linter.all false
namespace Go.Proofs.YtlnlopnpcmahgaaGreatDoor
set_option maxRecDepth 100000
set_option maxHeartbeats 32000000
open Go Go.RowKit Vm Go.Lib Tryz
open Vm renaming aH->Ca,aL->Cb
open And renaming intro->Ai
open List renaming length_map->Lm,not_mem_nil->Ln,map_nil->Lo,map_cons->Lc,mem_cons->Lk
open Bool renaming not_false->Bf,not_true->Bt
end Go.Proofs.YtlnlopnpcmahgaaGreatDoor
