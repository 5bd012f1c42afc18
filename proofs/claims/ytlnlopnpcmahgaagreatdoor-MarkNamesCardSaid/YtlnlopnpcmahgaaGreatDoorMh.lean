/-
 Texts joined: XIj.
-/
import Derived.Test.YtlnlopnpcmahgaaGreatDoorMf
set_option linter.all false
namespace Go.Proofs.YtlnlopnpcmahgaaGreatDoor
open Go Go.RowKit Vm Go.Lib Tryz
open Vm renaming aW->Ca,bf->Cb
open And renaming intro->Ai
open List renaming length_map->Lm,not_mem_nil->Ln,map_nil->Lo,map_cons->Lc,mem_cons->Lk
open Bool renaming not_false->Bf,not_true->Bt
def yk (s:List UInt8)(e:Int):Bool:=((((dy s).2==e)&&((cF s).2==e))&&((((dy s).1.length:Nat):Int)==0))&&((cF s).1==[])
set_option maxRecDepth 100000 in
def Kx (s:List UInt8)(e:Int)(hs:s.length<=16384)(nm:Nat):Ev cx 18 nm [.str s,.int .i64 e] am.nil (.bool (yk s e)) []:=by
 have hr:=Od s hs
 have hc:=tp s hs
 unfold yk
 unfold iO at hr
 have hpl:=ad (dy s).1
 generalize (dy s).1=v at hr hpl ⊢
 generalize (dy s).2=f at hr ⊢
 generalize (cF s).1=x at hc ⊢
 generalize (cF s).2=g at hc ⊢
 refine bh call18 func18 rfl (by kernel_rfl) rfl ?_;intro b0 hb0
 (repeat' first|simp only[ak,ag,results18,ntmps18,al,hpl,Lm,ai,seval,ah]|exact rfl|refine aa (v:=.any) ?_|(first|(refine ae ?_ (hr _) ?_)|(refine ab ?_ (fun _=>hr _) ?_)|(refine ae ?_ (hc _) ?_)|(refine ab ?_ (fun _=>hc _) ?_))|((first|apply Ca|apply Cb)<;>intro hb)|refine Ai (by omega) ?_|(apply Ai<;>intro hb)|refine Fin.pure ?_ ?_ ?_|simp only[ap])
def yl (s:List UInt8)(e:Int):yk s e=(let r:=sL s;let c:List UInt8×Int:=if r.2≠0 then ([],r.2) else u5 r.1 [];(((r.2==e)&&(c.2==e))&&(((r.1.length:Nat):Int)==0))&&(c.1==[])):=by
 unfold yk;rw[kJ,AO];rfl
def nS (s:List UInt8)(e:Int)(hs:s.length<=16384)(h:yk s e=true)(nm:Nat):Ev cx 18 nm [.str s,.int .i64 e] am.nil (.bool true) []:=by
 have:=Kx s e hs nm;rwa[h]at this
def Am (s w:List UInt8)(hs:s.length<=16384)(h:Nu s w=true)(nm:Nat):Ev cx 19 nm [.str s,.str w] am.nil (.bool true) []:=by
 have:=Eu s w hs nm;rwa[h]at this
def SW:yk [60,97,62,0,60,47,97,62] 50=true:=by rw[yl];decide +kernel
def SX:yk [60,97,62] 80=true:=by rw[yl];decide +kernel
def SY:yk [60,112,58,97,47,62] 110=true:=by rw[yl];decide +kernel
def SZ:yk [60,97,62,38,120,59,60,47,97,62] 80=true:=by rw[yl];decide +kernel
def SR:Nu [32,60,97,32,98,32,61,32,39,49,39,62,120,32,38,103,116,59,32,121,60,47,97,62,10] [60,97,32,98,61,34,49,34,62,120,32,38,103,116,59,32,121,60,47,97,62]=true:=by unfold Nu;rw[kJ];decide +kernel
def SS:Nu [60,97,32,120,109,108,110,115,61,39,117,39,62,60,98,32,120,109,108,110,115,61,39,39,47,62,60,99,47,62,60,47,97,62] [60,97,32,120,109,108,110,115,61,34,117,34,62,60,98,32,120,109,108,110,115,61,34,34,47,62,60,99,47,62,60,47,97,62]=true:=by unfold Nu;rw[kJ];decide +kernel
def SN:List Nd:=[⟨1,[117],[97],[],[],0⟩]
def R9:cD SN [117]=([60,97,47,62],0):=by rw[rH];decide +kernel
def Sa:cD [] []=([],8):=by rw[rH];decide +kernel
def Rf:cF [60,120,109,108,58,97,47,62]=([],8):=by rw[kJ];decide +kernel
set_option maxRecDepth 100000 in
set_option maxHeartbeats 32000000 in
def ut (nm:Nat):Ev cx 5 nm [] am.nil (.bool true) []:=by
 have hal:=sV
 have hq1:=nS _ _ (by decide) SW
 have hq2:=nS _ _ (by decide) SX
 have hq3:=nS _ _ (by decide) SY
 have hq4:=nS _ _ (by decide) SZ
 have hi1:=Am _ _ (by decide) SR
 have hi2:=Am _ _ (by decide) SS
 have hw1:=qu SN [117] (by decide) (fun n hn=>by rw[List.mem_singleton.1 hn];simp[Nd.okTo,Nd.i64]) (by decide)
 rw[R9]at hw1
 have hW:SN.map aV=[[.int .u8 1,.str [117],.str [97],.sl false 3 [],.str [],.int .i64 0]]:=rfl
 rw[hW]at hw1
 have hz:=qu [] [] (by decide) (fun n hn=>by cases hn) (by decide)
 rw[Sa,Lo]at hz
 have hcm:=tp [60,120,109,108,58,97,47,62] (by decide)
 rw[Rf]at hcm
 refine bh call5 func5 rfl (by kernel_rfl) rfl ?_;intro b0 hb0;have zF:=Ai results5 ntmps5
 repeat' first|simp only[ak,ag,zF,al,ai,seval,ah]|exact rfl|refine aa (v:=.any) ?_|((first|(refine ae ?_ (hq1 _) ?_)|(refine ab ?_ (fun _=>hq1 _) ?_)|(refine ae ?_ (hi1 _) ?_)|(refine ab ?_ (fun _=>hi1 _) ?_));(focus (simp only[zF,al,ai,seval,ah]<;>exact rfl)))|((first|(refine ae ?_ (hq2 _) ?_)|(refine ab ?_ (fun _=>hq2 _) ?_)|(refine ae ?_ (hi2 _) ?_)|(refine ab ?_ (fun _=>hi2 _) ?_));(focus (simp only[zF,al,ai,seval,ah]<;>exact rfl)))|((first|(refine ae ?_ (hq3 _) ?_)|(refine ab ?_ (fun _=>hq3 _) ?_));(focus (simp only[zF,al,ai,seval,ah]<;>exact rfl)))|((first|(refine ae ?_ (hq4 _) ?_)|(refine ab ?_ (fun _=>hq4 _) ?_));(focus (simp only[zF,al,ai,seval,ah]<;>exact rfl)))|((first|apply Ca|apply Cb)<;>intro hb)|refine Ai (by omega) ?_|(apply Ai<;>intro hb)
 refine BN (xs:=?_) [b0+288] ?_ (hw1 _) ?_ ?_ rfl ?_
 rotate_left 1
 ·simp only[ag,al,ai,seval,ah]<;>exact rfl
 ·simp only[SO,Rh,ak,ag,al,oP,qH,lD,mU,gw,plainL,V.plain,bL,Lc,Lo,Bool.and_self,Bool.true_and,ai,seval,ah]
 ·simp only[SO,Rh,ak,ag,al,oP,qH,lD,mU,gw,plainL,V.plain,Lc,Lo,Bool.and_self,Bool.true_and,ai,seval,ah]
 (repeat' first|simp only[ak,ag,zF,al,plainL,V.plain,List.length_cons,List.length_nil,Bool.and_self,ai,seval,ah]|exact rfl|refine aa (v:=.any) ?_|(first|(refine ae ?_ (hal _) ?_)|(refine ab ?_ (fun _=>hal _) ?_)|(refine ae ?_ (hcm _) ?_)|(refine ab ?_ (fun _=>hcm _) ?_))|((refine Fy (xs:=?_) ?_ (Ev.args_le (hz _) ?_) ?_);rotate_left 1)|omega|((first|apply Ca|apply Cb)<;>intro hb)|refine Ai (by omega) ?_|(apply Ai<;>intro hb)|refine Fin.pure ?_ ?_ ?_|simp only[ap])
def ur (xs:List V)(h:jl cx.P Tryz.f5.params.toList xs):Ev cx 5 0 xs am.nil (.bool true) []:=by
 rw[Tryz.params5]at h
 obtain rfl:=y6 h
 exact ut 0
end Go.Proofs.YtlnlopnpcmahgaaGreatDoor
