/-
 Texts joined: XJj,XJk,XJl,XJm.
-/
import Derived.Test.YtlnlopnpcmahgaaGreatDoorMn
import Derived.Test.YtlnlopnpcmahgaaGreatDoorR4
import Derived.Test.YtlnlopnpcmahgaaGreatDoorR5
import Derived.Test.YtlnlopnpcmahgaaGreatDoorR7
set_option linter.all false
namespace Go.Proofs.YtlnlopnpcmahgaaGreatDoor
open Go Go.RowKit Vm Go.Lib Tryz
open Vm renaming aH->Ca,aL->Cb
open And renaming intro->Ai
open List renaming length_map->Lm,not_mem_nil->Ln,map_nil->Lo,map_cons->Lc,mem_cons->Lk
open Bool renaming not_false->Bf,not_true->Bt
end Go.Proofs.YtlnlopnpcmahgaaGreatDoor
