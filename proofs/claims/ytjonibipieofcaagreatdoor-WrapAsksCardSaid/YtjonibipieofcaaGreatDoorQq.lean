/-
 Texts joined: XUe.
-/
import Derived.Test.YtjonibipieofcaaGreatDoorQp
set_option linter.all false
namespace Go.Proofs.YtjonibipieofcaaGreatDoor
set_option maxRecDepth 100000
set_option maxHeartbeats 32000000
open Go Go.RowKit Vm Go.Lib Tryz
open Vm renaming aI->Ca,aP->Cb
open And renaming intro->Ai
open List renaming length_map->Lm,not_mem_nil->Ln,map_nil->Lo,map_cons->Lc,mem_cons->Lk
open Bool renaming not_false->Bf,not_true->Bt
structure PSt where
 k:Nat
 g:Gr
 junk:List Nat
 last:Nat
def PSt.inv (l:List Tk)(x:PSt):Prop:=x.k<=l.length/\x.g.Ok x.k/\Pc ⟨[],[]⟩ false l=Pc x.g (x.last==4) (l.drop x.k)
end Go.Proofs.YtjonibipieofcaaGreatDoor
