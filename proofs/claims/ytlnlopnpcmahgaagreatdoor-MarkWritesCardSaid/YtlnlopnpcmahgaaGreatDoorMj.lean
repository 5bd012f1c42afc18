/-
 Texts joined: XNv,XNw,XNx.
-/
import Derived.Test.YtlnlopnpcmahgaaGreatDoorMi
import Derived.Test.YtlnlopnpcmahgaaGreatDoorQn
set_option linter.all false
namespace Go.Proofs.YtlnlopnpcmahgaaGreatDoor
set_option maxRecDepth 100000
set_option maxHeartbeats 32000000
open Go Go.RowKit Vm Go.Lib Tryz
open Vm renaming aH->Ca,aL->Cb
open And renaming intro->Ai
open List renaming length_map->Lm,not_mem_nil->Ln,map_nil->Lo,map_cons->Lc,mem_cons->Lk
open Bool renaming not_false->Bf,not_true->Bt
def Fp (r s:List UInt8):Prop:=∃ w,s=w++r
def Fp.refl (s:List UInt8):Fp s s:=⟨[],rfl⟩
def Fp.trans {a b c:List UInt8}(h1:Fp a b)(h2:Fp b c):Fp a c:=by
 obtain⟨x,rfl⟩:=h1
 obtain⟨y,rfl⟩:=h2
 exact⟨y++x,(List.append_assoc _ _ _).symm⟩
def Fp.cons {c:UInt8}{r s:List UInt8}(h:Fp (c::r) s):Fp r s:=by
 obtain⟨x,rfl⟩:=h
 exact⟨x++[c],by simp⟩
end Go.Proofs.YtlnlopnpcmahgaaGreatDoor
