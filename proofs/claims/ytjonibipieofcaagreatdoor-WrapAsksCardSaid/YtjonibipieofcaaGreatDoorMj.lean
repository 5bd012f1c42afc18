/-
 Texts joined: XNv,XNw,XNx.
-/
import Derived.Test.YtjonibipieofcaaGreatDoorMi
import Derived.Test.YtjonibipieofcaaGreatDoorQn
set_option linter.all false
namespace Go.Proofs.YtjonibipieofcaaGreatDoor
set_option maxRecDepth 100000
set_option maxHeartbeats 32000000
open Go Go.RowKit Vm Go.Lib Tryz
open Vm renaming aI->Ca,aP->Cb
open And renaming intro->Ai
open List renaming length_map->Lm,not_mem_nil->Ln,map_nil->Lo,map_cons->Lc,mem_cons->Lk
open Bool renaming not_false->Bf,not_true->Bt
def ID (r s:List UInt8):Prop:=∃ w,s=w++r
def ID.refl (s:List UInt8):ID s s:=⟨[],rfl⟩
def ID.trans {a b c:List UInt8}(h1:ID a b)(h2:ID b c):ID a c:=by
 obtain⟨x,rfl⟩:=h1
 obtain⟨y,rfl⟩:=h2
 exact⟨y++x,(List.append_assoc _ _ _).symm⟩
def ID.cons {c:UInt8}{r s:List UInt8}(h:ID (c::r) s):ID r s:=by
 obtain⟨x,rfl⟩:=h
 exact⟨x++[c],by simp⟩
end Go.Proofs.YtjonibipieofcaaGreatDoor
