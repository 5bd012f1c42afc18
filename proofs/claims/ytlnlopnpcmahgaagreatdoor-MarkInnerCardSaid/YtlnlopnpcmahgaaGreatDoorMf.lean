/-
 Texts joined: XIh.
-/
import Derived.Test.YtlnlopnpcmahgaaGreatDoorMe
import Derived.Test.YtlnlopnpcmahgaaGreatDoorQv
import Derived.Test.YtlnlopnpcmahgaaGreatDoorQw
set_option linter.all false
namespace Go.Proofs.YtlnlopnpcmahgaaGreatDoor
open Go Go.RowKit Vm Go.Lib Tryz
open Vm renaming aW->Ca,bf->Cb
open And renaming intro->Ai
open List renaming length_map->Lm,not_mem_nil->Ln,map_nil->Lo,map_cons->Lc,mem_cons->Lk
open Bool renaming not_false->Bf,not_true->Bt
def Nu (s want:List UInt8):Bool:=((cF s).2==0)&&((cF s).1==want)
set_option maxRecDepth 100000 in
def Eu (s want:List UInt8)(hs:s.length<=16384)(nm:Nat):Ev cx 19 nm [.str s,.str want] am.nil (.bool (Nu s want)) []:=by
 have hc:=tp s hs
 unfold Nu
 generalize (cF s).1=x at hc ⊢
 generalize (cF s).2=E at hc ⊢
 refine bh call19 func19 rfl (by kernel_rfl) rfl ?_;intro b0 hb0
 (repeat' first|simp only[ak,ag,results19,ntmps19,al,ai,seval,ah]|exact rfl|refine aa (v:=.any) ?_|(first|(refine ae ?_ (hc _) ?_)|(refine ab ?_ (fun _=>hc _) ?_))|((first|apply Ca|apply Cb)<;>intro hb)|refine Ai (by omega) ?_|(apply Ai<;>intro hb)|refine Fin.pure ?_ ?_ ?_|simp only[ap])
def sL (s:List UInt8):List Nd×Int:=let q:=Qa s;let v:List Nd×Int:=if q.2.2≠0 then ([],q.2.2) else (dJ q.1,cR q.1);if v.2≠0 then ([],v.2) else cJ v.1
def AO (s:List UInt8):dy s=sL s:=by unfold dy sL gN;rw[NK]
def u5 (v:List Nd)(sp:List UInt8):List UInt8×Int:=let b:=ck v sp;if b.2≠0 then ([],b.2) else let l:=dn b.1;if l.2≠0 then ([],l.2) else let e:=eP l.1;(if e=0 then bk l.1 else [],e)
def rH (v:List Nd)(sp:List UInt8):cD v sp=u5 v sp:=rfl
def zk (s:List UInt8):List UInt8×Int:=let r:=sL s;if r.2≠0 then ([],r.2) else u5 r.1 []
def kJ (s:List UInt8):cF s=zk s:=by unfold cF zk;rw[AO,rH]
def PR:List UInt8:=[60,112,58,97,32,120,109,108,110,115,58,112,61,39,117,39,32,62,60,112,58,98,32,62,60,47,112,58,98,62,60,47,112,58,97,62]
def PS:List UInt8:=[60,97,32,120,109,108,110,115,61,34,117,34,62,60,98,47,62,60,47,97,62]
def PT:Nu PR PS=true:=by unfold Nu;rw[kJ];decide +kernel
def sV (nm:Nat):Ev cx 20 nm [] am.nil (.bool true) []:=by
 have h:=Eu PR PS (by decide)
 rw[PT]at h
 unfold PR PS at h
 refine bh call20 func20 rfl (by kernel_rfl) rfl ?_;intro b0 hb0
 (repeat' first|simp only[ak,ag,results20,ntmps20,al,ai,seval,ah]|exact rfl|refine aa (v:=.any) ?_|(first|(refine ae ?_ (h _) ?_)|(refine ab ?_ (fun _=>h _) ?_))|((first|apply Ca|apply Cb)<;>intro hb)|refine Ai (by omega) ?_|(apply Ai<;>intro hb)|refine Fin.pure ?_ ?_ ?_|simp only[ap])
end Go.Proofs.YtlnlopnpcmahgaaGreatDoor
