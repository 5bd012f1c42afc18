/-
 Texts joined: XGe,XEu,XUt,XNb,XGf.
-/
import Derived.Test.YtjonibipieofcaaGreatDoorQh
set_option linter.all false
namespace Go.Proofs.YtjonibipieofcaaGreatDoor
set_option maxRecDepth 100000
set_option maxHeartbeats 32000000
open Go Go.RowKit Vm Go.Lib Tryz
open Vm renaming aI->Ca,aP->Cb
open And renaming intro->Ai
open List renaming length_map->Lm,not_mem_nil->Ln,map_nil->Lo,map_cons->Lc,mem_cons->Lk
open Bool renaming not_false->Bf,not_true->Bt
def DE (s:List UInt8)(c:UInt8)(M:ao)(nm:Nat):Ev cx 177 nm [.str s,.int .u8 c.toNat] M (.int .i64 (indexByte s c)) [] :=
 Ev.indexByte func177 (by kernel_rfl) (by kernel_rfl) (by kernel_rfl) (by kernel_rfl) s c M nm
def wx (s:List UInt8)(c:UInt8)(nm:Nat):Ev cx 166 nm [.str s,.int .u8 c.toNat] ao.nil (.int .i64 (indexByte s c)) []:=by
 refine aX call166 func166 ?_;intro b0 hb0
 exact wP (a2 results166 ntmps166) (DE s c _)
def mq (s:List UInt8)(d:UInt8)(nm:Nat):Ev cx 170 nm [.str s,.str [d]] ao.nil (.int .i64 (indexByte s d)) []:=by
 by_cases h:[d]=s
 ·subst h
  have e:indexByte [d] d=0:=by simp[indexByte]
  have e1:([d]==[d])=true:=by simp
  refine aX call170 func170 ?_;intro b0 hb0
  exact wP (a4 results170 ntmps170 e e1) (wx [d] d)
 ·have e1:([d]==s)=false:=beq_false_of_ne h
  refine aX call170 func170 ?_;intro b0 hb0
  exact wP (a3 results170 ntmps170 e1) (wx s d)
def oa (d:UInt8)(s:List UInt8):V:=match fA d s with
 | none=>.tup [.str s,.str [],.bool false]
 | some (a,b)=>.tup [.str a,.str b,.bool true]
def I6 (s:List UInt8)(d:UInt8)(hs:s.length<=aT)(nm:Nat):Ev cx 152 nm [.str s,.str [d]] ao.nil (oa d s) []:=by
 unfold aT at hs
 cases hc:fA d s with
 | none =>
  have e:indexByte s d = -1:=qq.2 hc
  have ev:oa d s = .tup [.str s,.str [],.bool false]:=by unfold oa;rw[hc]
  rw[ev]
  refine aX call152 func152 ?_;intro b0 hb0
  (repeat' first|simp only[au,ap,results152,ntmps152,am,aj,ai,seval]|exact rfl|refine aa (v:=.any) ?_|(first|(refine ah ?_ ((by have:=mq s d;rw[e]at this;exact this _)) ?_)|(refine ac ?_ (fun _=>(by have:=mq s d;rw[e]at this;exact this _)) ?_))|refine av (by decide +kernel) ?_|((first|apply Ca|apply Cb)<;>intro hb)|refine Ai (by omega) ?_|(apply Ai<;>intro hb)|apply Fin.pure|simp only[aq])
 | some p =>
  obtain⟨a,b⟩:=p
  obtain⟨e,e1,e2,e3⟩:=lL hc
  have ev:oa d s = .tup [.str a,.str b,.bool true]:=by unfold oa;rw[hc]
  have h1:(a.length:Int)<=s.length:=by omega
  have h2:IntKind.i64.wrap ((a.length:Int)+1)=((a.length+1:Nat):Int):=bH
  have h3:((a.length+1:Nat):Int)<=s.length:=by omega
  have h4:a.length<=s.length:=by omega
  have h5:a.length+1<=s.length:=by omega
  rw[ev]
  refine aX call152 func152 ?_;intro b0 hb0
  (repeat' first|simp only[au,ap,results152,ntmps152,am,h1,h2,h3,h4,h5,e1,e2,aj,ai,seval]|exact rfl|refine aa (v:=.any) ?_|(first|(refine ah ?_ ((by have:=mq s d;rw[e]at this;exact this _)) ?_)|(refine ac ?_ (fun _=>(by have:=mq s d;rw[e]at this;exact this _)) ?_))|refine av (by decide +kernel) ?_|((first|apply Ca|apply Cb)<;>intro hb)|refine Ai (by omega) ?_|(apply Ai<;>intro hb)|apply Fin.pure|simp only[aq])
def L0 (s:List UInt8)(d:UInt8)(hs:s.length<=aT)(nm:Nat):Ev cx 120 nm [.str s,.str [d]] ao.nil (oa d s) []:=by
 have hev:=I6 s d hs
 cases hc:fA d s with
 | none =>
  have ev:oa d s = .tup [.str s,.str [],.bool false]:=by unfold oa;rw[hc]
  rw[ev]at hev ⊢
  refine aX call120 func120 ?_;intro b0 hb0
  exact wP (a2 results120 ntmps120) hev
 | some p =>
  have ev:oa d s = .tup [.str p.1,.str p.2,.bool true]:=by unfold oa;rw[hc]
  rw[ev]at hev ⊢
  refine aX call120 func120 ?_;intro b0 hb0
  exact wP (a2 results120 ntmps120) hev
def Gq (s:List UInt8)(c:UInt8)(nm:Nat):Ev cx 146 nm [.str s,.int .u8 c.toNat] ao.nil (.int .i64 (indexByte s c)) []:=by
 refine aX call146 func146 ?_;intro b0 hb0
 exact wP (a2 results146 ntmps146) (wx s c)
end Go.Proofs.YtjonibipieofcaaGreatDoor
