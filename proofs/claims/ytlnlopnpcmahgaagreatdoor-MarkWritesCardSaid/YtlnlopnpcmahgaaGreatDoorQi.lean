/-
 Texts joined: XGe,XEu,XUt,XNb,XGf.
-/
import Derived.Test.YtlnlopnpcmahgaaGreatDoorQg
import Derived.Test.YtlnlopnpcmahgaaGreatDoorQh
import Derived.Test.YtlnlopnpcmahgaaGreatDoorQf
set_option linter.all false
namespace Go.Proofs.YtlnlopnpcmahgaaGreatDoor
set_option maxRecDepth 100000
set_option maxHeartbeats 32000000
open Go Go.RowKit Vm Go.Lib Tryz
open Vm renaming aH->Ca,aL->Cb
open And renaming intro->Ai
open List renaming length_map->Lm,not_mem_nil->Ln,map_nil->Lo,map_cons->Lc,mem_cons->Lk
open Bool renaming not_false->Bf,not_true->Bt
def su (s:List UInt8)(c:UInt8)(M:am)(nm:Nat):Ev cx 212 nm [.str s,.int .u8 c.toNat] M (.int .i64 (indexByte s c)) [] :=
 Ev.indexByte func212 (by kernel_rfl) (by kernel_rfl) (by kernel_rfl) (by kernel_rfl) s c M nm
def pf (s:List UInt8)(c:UInt8)(nm:Nat):Ev cx 185 nm [.str s,.int .u8 c.toNat] am.nil (.int .i64 (indexByte s c)) []:=by
 refine aV call185 func185 rfl (by kernel_rfl) rfl ?_;intro b0 hb0
 (repeat' first|simp only[aj,ag,results185,ntmps185,ap,ai,seval,ah]|exact rfl|refine aa (v:=.any) ?_|(first|(refine ac ?_ (su s c _ _) ?_)|(refine ab ?_ (fun _=>su s c _ _) ?_))|((first|apply Ca|apply Cb)<;>intro hb)|refine Ai (by omega) ?_|(apply Ai<;>intro hb)|refine Fin.pure ?_ ?_ ?_|simp only[al])
def kI (s:List UInt8)(d:UInt8)(nm:Nat):Ev cx 220 nm [.str s,.str [d]] am.nil (.int .i64 (indexByte s d)) []:=by
 by_cases h:[d]=s
 ·subst h
  have e:indexByte [d] d=0:=by simp[indexByte]
  have e1:([d]==[d])=true:=by simp
  refine aV call220 func220 rfl (by kernel_rfl) rfl ?_;intro b0 hb0
  (repeat' first|simp only[aj,ag,results220,ntmps220,ap,e,e1,ai,seval,ah]|exact rfl|refine aa (v:=.any) ?_|(first|(refine ac ?_ (pf [d] d _) ?_)|(refine ab ?_ (fun _=>pf [d] d _) ?_))|((first|apply Ca|apply Cb)<;>intro hb)|refine Ai (by omega) ?_|(apply Ai<;>intro hb)|refine Fin.pure ?_ ?_ ?_|simp only[al])
 ·have e1:([d]==s)=false:=beq_false_of_ne h
  refine aV call220 func220 rfl (by kernel_rfl) rfl ?_;intro b0 hb0
  (repeat' first|simp only[aj,ag,results220,ntmps220,ap,e1,ai,seval,ah]|exact rfl|refine aa (v:=.any) ?_|(first|(refine ac ?_ (pf s d _) ?_)|(refine ab ?_ (fun _=>pf s d _) ?_))|((first|apply Ca|apply Cb)<;>intro hb)|refine Ai (by omega) ?_|(apply Ai<;>intro hb)|refine Fin.pure ?_ ?_ ?_|simp only[al])
def l6 (d:UInt8)(s:List UInt8):V:=match eA d s with
 | none=>.tup [.str s,.str [],.bool false]
 | some (a,b)=>.tup [.str a,.str b,.bool true]
def FT (s:List UInt8)(d:UInt8)(hs:s.length<=aS)(nm:Nat):Ev cx 203 nm [.str s,.str [d]] am.nil (l6 d s) []:=by
 unfold aS at hs
 cases hc:eA d s with
 | none =>
  have e:indexByte s d = -1:=ov.2 hc
  have ev:l6 d s = .tup [.str s,.str [],.bool false]:=by unfold l6;rw[hc]
  rw[ev]
  refine aV call203 func203 rfl (by kernel_rfl) rfl ?_;intro b0 hb0
  (repeat' first|simp only[aj,ag,results203,ntmps203,ap,ai,seval,ah]|exact rfl|refine aa (v:=.any) ?_|(first|(refine ac ?_ ((by have:=kI s d;rw[e]at this;exact this _)) ?_)|(refine ab ?_ (fun _=>(by have:=kI s d;rw[e]at this;exact this _)) ?_))|refine ao (by decide +kernel) ?_|((first|apply Ca|apply Cb)<;>intro hb)|refine Ai (by omega) ?_|(apply Ai<;>intro hb)|refine Fin.pure ?_ ?_ ?_|simp only[al])
 | some p =>
  obtain⟨a,b⟩:=p
  obtain⟨e,e1,e2,e3⟩:=jX hc
  have ev:l6 d s = .tup [.str a,.str b,.bool true]:=by unfold l6;rw[hc]
  have h1:(a.length:Int)<=s.length:=by omega
  have h2:IntKind.i64.wrap ((a.length:Int)+1)=((a.length+1:Nat):Int):=aK
  have h3:((a.length+1:Nat):Int)<=s.length:=by omega
  have h4:a.length<=s.length:=by omega
  have h5:a.length+1<=s.length:=by omega
  rw[ev]
  refine aV call203 func203 rfl (by kernel_rfl) rfl ?_;intro b0 hb0
  (repeat' first|simp only[aj,ag,results203,ntmps203,ap,h1,h2,h3,h4,h5,e1,e2,ai,seval,ah]|exact rfl|refine aa (v:=.any) ?_|(first|(refine ac ?_ ((by have:=kI s d;rw[e]at this;exact this _)) ?_)|(refine ab ?_ (fun _=>(by have:=kI s d;rw[e]at this;exact this _)) ?_))|refine ao (by decide +kernel) ?_|((first|apply Ca|apply Cb)<;>intro hb)|refine Ai (by omega) ?_|(apply Ai<;>intro hb)|refine Fin.pure ?_ ?_ ?_|simp only[al])
def HZ (s:List UInt8)(d:UInt8)(hs:s.length<=aS)(nm:Nat):Ev cx 172 nm [.str s,.str [d]] am.nil (l6 d s) []:=by
 have hev:=FT s d hs
 cases hc:eA d s with
 | none =>
  have ev:l6 d s = .tup [.str s,.str [],.bool false]:=by unfold l6;rw[hc]
  rw[ev]at hev ⊢
  refine aV call172 func172 rfl (by kernel_rfl) rfl ?_;intro b0 hb0
  (repeat' first|simp only[aj,ag,results172,ntmps172,ap,ai,seval,ah]|exact rfl|refine aa (v:=.any) ?_|(first|(refine ac ?_ (hev _) ?_)|(refine ab ?_ (fun _=>hev _) ?_))|((first|apply Ca|apply Cb)<;>intro hb)|refine Ai (by omega) ?_|(apply Ai<;>intro hb)|refine Fin.pure ?_ ?_ ?_|simp only[al])
 | some p =>
  have ev:l6 d s = .tup [.str p.1,.str p.2,.bool true]:=by unfold l6;rw[hc]
  rw[ev]at hev ⊢
  refine aV call172 func172 rfl (by kernel_rfl) rfl ?_;intro b0 hb0
  (repeat' first|simp only[aj,ag,results172,ntmps172,ap,ai,seval,ah]|exact rfl|refine aa (v:=.any) ?_|(first|(refine ac ?_ (hev _) ?_)|(refine ab ?_ (fun _=>hev _) ?_))|((first|apply Ca|apply Cb)<;>intro hb)|refine Ai (by omega) ?_|(apply Ai<;>intro hb)|refine Fin.pure ?_ ?_ ?_|simp only[al])
end Go.Proofs.YtlnlopnpcmahgaaGreatDoor
