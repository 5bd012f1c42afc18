/-
 Texts joined: XOq.
-/
import Derived.Test.YtidmkaalhmeflaaGreatDoorR7
namespace Go.Proofs.YtidmkaalhmeflaaGreatDoor
set_option maxRecDepth 100000
set_option maxHeartbeats 32000000
set_option linter.unusedSimpArgs false
set_option linter.unusedVariables false
open Go Go.RowKit Vm Go.Lib Tryz
open Vm renaming aZ→Ca,bj→Cb
open And renaming intro→Ai
open List renaming length_map→Lm,not_mem_nil→Ln,map_nil→Lo,map_cons→Lc,mem_cons→Lk
open Bool renaming not_false→Bf,not_true→Bt
theorem Qu {ρ:Names}{D:Nat→Prop}{w:World}{t:Bool}{z:Nat}{a b:List (List V)}{cv:Value}(h:Is ρ D w (.sl t z a) cv)(hle:ir a b):Is ρ D w (.sl t z b) cv:=by
 obtain⟨e1,e2⟩:=jQ hle
 cases h with
 | sl0 ht =>
  have:b=[]:=List.eq_nil_of_length_eq_zero e1.symm
  subst this;exact .sl0 ht
 | sl c hc ht hd hb hr hx hu =>
  rw[e1]at hc ht ⊢
  refine .sl c hc ht hd hb (fun i row hi=>?_) (fun i j row u hi hj=>?_) (fun i j row u hi hj=>?_)
  ·obtain⟨x,h1,h2⟩:=e2 i row hi
   rw[← hr i x h1,(fJ h2).1]
  ·obtain⟨x,h1,h2⟩:=e2 i row hi
   obtain⟨y,h3,_⟩:=(fJ h2).2 j u hj
   exact hx i j x y h1 h3
  ·obtain⟨x,h1,h2⟩:=e2 i row hi
   obtain⟨y,h3,h4⟩:=(fJ h2).2 j u hj
   exact(hu i j x y h1 h3).le u h4
theorem Ev.arg_sl {f:FuncId}{nm:Nat}{t:Bool}{z:Nat}{a b:List (List V)}{xs:List V}{M:aq}{v:V}{eff:List (Nat×Option Blk)}(h:Ev cx f nm (.sl t z b::xs) M v eff)(hle:ir a b):Ev cx f nm (.sl t z a::xs) M v eff:=by
 refine⟨h.1,fun X w ρ cargs B hr hfr hB hn hargs=>h.2 X w ρ cargs B hr hfr hB (by simpa using hn) (fun i u cv hi hc=>?_)⟩
 cases i with
 | zero=>simp only[List.getElem?_cons_zero,Option.some.injEq]at hi;subst hi;exact Qu (hargs 0 _ cv rfl hc) hle
 | succ i=>exact hargs (i+1) u cv (by simpa using hi) hc
theorem RY (s:List UInt8):R6 s=(let q:=Hw s;let v:List Nd×Int:=if q.2.2≠0 then ([],q.2.2) else (dn q.1,cP q.1);((v.2==0)&&((Rq v.1).2==110))&&((((Rq v.1).1.length:Nat):Int)==0)):=by
 unfold R6 bF;rw[wz]
theorem RB (s:List UInt8)(hs:s.length≤16384)(h:R6 s=true)(nm:Nat):Ev cx 26 nm [.str s] aq.nil (.bool true) []:=by
 have:=Qw s hs nm;rwa[h]at this
theorem Rh:R6 [60,112,58,97,47,62]=true:=by rw[RY];decide +kernel
theorem PN:R6 [60,97,32,120,109,108,110,115,58,120,109,108,110,115,61,39,117,39,47,62]=true:=by rw[RY];decide +kernel
theorem Rk:R6 [60,97,32,120,109,108,110,115,58,112,61,39,39,47,62]=true:=by rw[RY];decide +kernel
theorem Ri:R6 [60,97,32,120,109,108,110,115,58,120,109,108,61,39,117,39,47,62]=true:=by rw[RY];decide +kernel
theorem Rm:R6 [60,97,32,120,109,108,110,115,61,39,104,116,116,112,58,47,47,119,119,119,46,119,51,46,111,114,103,47,88,77,76,47,49,57,57,56,47,110,97,109,101,115,112,97,99,101,39,47,62]=true:=by rw[RY];decide +kernel
theorem Rl:R6 [60,97,32,112,58,98,61,39,49,39,47,62]=true:=by rw[RY];decide +kernel
theorem PH:R6 [60,97,32,120,109,108,110,115,58,112,61,39,117,39,32,120,109,108,110,115,58,113,61,39,117,39,32,112,58,98,61,39,49,39,32,113,58,98,61,39,50,39,47,62]=true:=by rw[RY];decide +kernel
theorem Rj:R6 [60,97,32,120,109,108,110,115,58,112,61,39,104,116,116,112,58,47,47,119,119,119,46,119,51,46,111,114,103,47,50,48,48,48,47,120,109,108,110,115,47,39,47,62]=true:=by rw[RY];decide +kernel
theorem PU:R6 [60,97,62,60,98,32,120,109,108,110,115,58,112,61,39,117,39,47,62,60,112,58,99,47,62,60,47,97,62]=true:=by rw[RY];decide +kernel
def Q7:List UInt8:=[60,120,58,97,32,120,109,108,110,115,58,120,61,39,117,39,32,120,109,108,58,108,97,110,103,61,39,101,110,39,62,60,98,47,62,60,47,120,58,97,62]
def QT:List UInt8:=[60,97,32,120,109,108,110,115,61,39,117,39,32,120,109,108,58,108,97,110,103,61,39,101,110,39,62,60,98,32,120,109,108,110,115,61,39,39,47,62,60,47,97,62]
def Q5:List Nd:=[⟨1,[117],[97],[⟨[104,116,116,112,58,47,47,119,119,119,46,119,51,46,111,114,103,47,88,77,76,47,49,57,57,56,47,110,97,109,101,115,112,97,99,101],[108,97,110,103],[101,110]⟩],[],1⟩,⟨1,[],[98],[],[],0⟩]
theorem QM:NW Q7 QT Q5=true:=by rw[QW];decide +kernel
def Re:List Nd:=[⟨1,[],[97,58,98],[],[],0⟩]
def Ox:List Nd:=[⟨1,[],[97],[⟨[],[120,109,108,110,115],[]⟩],[],0⟩]
def Rg:List Nd:=[⟨1,[117],[97],[],[],0⟩]
theorem Q1:cn Re≠0:=by decide +kernel
theorem Ra:cn Ox≠0:=by decide +kernel
theorem Q4:(if cn Re≠0 then cn Re else 8)=8:=by decide +kernel
theorem Rf:(if cn Ox≠0 then cn Ox else 8)=8:=by decide +kernel
theorem MR:Rp Rg [117]=([⟨1,[],[97],[],[],0⟩],0):=by decide +kernel
theorem qU (nm:Nat):Ev cx 5 nm [] aq.nil (.bool true) []:=by
 have hal:=RU
 have hq1:=RB _ (by decide) Rh
 have hq2:=RB _ (by decide) PN
 have hq3:=RB _ (by decide) Rk
 have hq4:=RB _ (by decide) Ri
 have hq5:=RB _ (by decide) Rm
 have hq6:=RB _ (by decide) Rl
 have hq7:=RB _ (by decide) PH
 have hq8:=RB _ (by decide) Rj
 have hq9:=RB _ (by decide) PU
 have h1:=P5 Q7 QT Q5 (by decide) (by decide) (by decide) (by decide)
 rw[QM]at h1
 have hV:Q5.map ba=[[.int .u8 1,.str [117],.str [97],.sl false 3 [[.str [104,116,116,112,58,47,47,119,119,119,46,119,51,46,111,114,103,47,88,77,76,47,49,57,57,56,47,110,97,109,101,115,112,97,99,101],.str [108,97,110,103],.str [101,110]]],.str [],.int .i64 1],[.int .u8 1,.str [],.str [98],.sl false 3 [],.str [],.int .i64 0]]:=rfl
 unfold Q7 QT at h1
 rw[hV]at h1
 have hb1:=Su Re [] (by decide) (fun n hn=>by rw[List.mem_singleton.1 hn];simp[Nd.okTo,Nd.i64,bh]) (by decide) (.inl Q1)
 have hb2:=Su Ox [] (by decide) (fun n hn=>by rw[List.mem_singleton.1 hn];simp[Nd.okTo,Nd.i64,bh]) (by decide) (.inl Ra)
 have hb3:=RI Rg [117] (by decide) (fun n hn=>by rw[List.mem_singleton.1 hn];simp[Nd.okTo,Nd.i64]) (by decide)
 rw[Q4]at hb1;rw[Rf]at hb2;rw[MR]at hb3
 have hB1:Re.map ba=[[.int .u8 1,.str [],.str [97,58,98],.sl false 3 [],.str [],.int .i64 0]]:=rfl
 have hB2:Ox.map ba=[[.int .u8 1,.str [],.str [97],.sl false 3 [[.str [],.str [120,109,108,110,115],.str []]],.str [],.int .i64 0]]:=rfl
 have hB3:Rg.map ba=[[.int .u8 1,.str [117],.str [97],.sl false 3 [],.str [],.int .i64 0]]:=rfl
 have hR3:[(⟨1,[],[97],[],[],0⟩:Nd)].map ba=[[.int .u8 1,.str [],.str [97],.sl false 3 [],.str [],.int .i64 0]]:=rfl
 unfold gw at hb3
 rw[hB1]at hb1;rw[hB2]at hb2;rw[hB3,hR3]at hb3
 have hb3:=fun nm=>Ev.arg_sl (a:=[[.int .u8 1,.str [117],.str [97],.nils,.str [],.int .i64 0]]) (hb3 nm) (by simp only[eB,jc,kC,dA,ng,FO,ir,and_self])
 refine ay rfl (fun cargs w=>call5 cargs w) func5 rfl mixed (by kernel_rfl) rfl ?_;intro b0 hb0
 repeat' first|simp only[al,aj,results5,ntmps5,am,ai,seval,ah]|exact rfl|refine aa (v:=.any) ?_|((first|(refine ac ?_ (hq1 _) ?_)|(refine ab ?_ (fun _=>hq1 _) ?_));(focus (simp only[results5,ntmps5,am,ai,seval,ah]<;>exact rfl)))|((first|(refine ac ?_ (hq2 _) ?_)|(refine ab ?_ (fun _=>hq2 _) ?_));(focus (simp only[results5,ntmps5,am,ai,seval,ah]<;>exact rfl)))|((first|(refine ac ?_ (hq3 _) ?_)|(refine ab ?_ (fun _=>hq3 _) ?_));(focus (simp only[results5,ntmps5,am,ai,seval,ah]<;>exact rfl)))|((first|(refine ac ?_ (hq4 _) ?_)|(refine ab ?_ (fun _=>hq4 _) ?_));(focus (simp only[results5,ntmps5,am,ai,seval,ah]<;>exact rfl)))|((first|(refine ac ?_ (hq5 _) ?_)|(refine ab ?_ (fun _=>hq5 _) ?_));(focus (simp only[results5,ntmps5,am,ai,seval,ah]<;>exact rfl)))|((first|(refine ac ?_ (hq6 _) ?_)|(refine ab ?_ (fun _=>hq6 _) ?_));(focus (simp only[results5,ntmps5,am,ai,seval,ah]<;>exact rfl)))|((first|(refine ac ?_ (hq7 _) ?_)|(refine ab ?_ (fun _=>hq7 _) ?_));(focus (simp only[results5,ntmps5,am,ai,seval,ah]<;>exact rfl)))|((first|(refine ac ?_ (hq8 _) ?_)|(refine ab ?_ (fun _=>hq8 _) ?_));(focus (simp only[results5,ntmps5,am,ai,seval,ah]<;>exact rfl)))|((first|(refine ac ?_ (hq9 _) ?_)|(refine ab ?_ (fun _=>hq9 _) ?_));(focus (simp only[results5,ntmps5,am,ai,seval,ah]<;>exact rfl)))|((first|apply Ca|apply Cb)<;>intro hb)|refine Ai (by omega) ?_|(apply Ai<;>intro hb)
 refine kB (xs:=?_) [b0+496,b0+448] ?_ (h1 _) ?_ ?_ rfl ?_
 rotate_left 1
 ·simp only[aj,am,ai,seval,ah]<;>exact rfl
 ·simp only[LS,xP,al,aj,am,ei,fh,c8,dK,eB,plainL,V.plain,dA,Lc,Lo,Bool.and_self,Bool.true_and,ai,seval,ah]
 ·simp only[LS,xP,al,aj,am,ei,fh,c8,dK,eB,plainL,V.plain,Lc,Lo,Bool.and_self,Bool.true_and,ai,seval,ah]
 repeat' first|simp only[al,aj,results5,ntmps5,am,ai,seval,ah]|exact rfl|refine aa (v:=.any) ?_|((first|apply Ca|apply Cb)<;>intro hb)|refine Ai (by omega) ?_|(apply Ai<;>intro hb)
 refine kB (xs:=?_) [b0+560] ?_ (hb1 _) ?_ ?_ rfl ?_
 rotate_left 1
 ·simp only[aj,am,ai,seval,ah]<;>exact rfl
 ·simp only[LS,xP,al,aj,am,ei,fh,c8,dK,eB,plainL,V.plain,dA,Lc,Lo,Bool.and_self,Bool.true_and,ai,seval,ah]
 ·simp only[LS,xP,al,aj,am,ei,fh,c8,dK,eB,plainL,V.plain,Lc,Lo,Bool.and_self,Bool.true_and,ai,seval,ah]
 repeat' first|simp only[al,aj,results5,ntmps5,am,ai,seval,ah]|exact rfl|refine aa (v:=.any) ?_|((first|apply Ca|apply Cb)<;>intro hb)|refine Ai (by omega) ?_|(apply Ai<;>intro hb)
 refine kB (xs:=?_) [b0+720,b0+688] ?_ (hb2 _) ?_ ?_ rfl ?_
 rotate_left 1
 ·simp only[aj,am,ai,seval,ah]<;>exact rfl
 ·simp only[LS,xP,al,aj,am,ei,fh,c8,dK,eB,plainL,V.plain,dA,Lc,Lo,Bool.and_self,Bool.true_and,ai,seval,ah]
 ·simp only[LS,xP,al,aj,am,ei,fh,c8,dK,eB,plainL,V.plain,Lc,Lo,Bool.and_self,Bool.true_and,ai,seval,ah]
 (repeat' first|simp only[al,aj,results5,ntmps5,am,Fp,tN,List.cons_append,List.nil_append,plainL,V.plain,List.length_cons,List.length_nil,Bool.and_self,ai,seval,ah]|exact rfl|refine aa (v:=.any) ?_|(first|(refine ac ?_ (hal _) ?_)|(refine ab ?_ (fun _=>hal _) ?_))|((refine xz (xs:=?_) [b0+848] ?_ ?_ ?_ ?_ (hb3 _) ?_ ?_);rotate_left 1)|omega|((first|apply Ca|apply Cb)<;>intro hb)|refine Ai (by omega) ?_|(apply Ai<;>intro hb)|refine Fin.pure ?_ ?_ ?_|simp only[au])
theorem Sb (xs:List V)(h:gF cx.P Tryz.f5.params.toList xs):Ev cx 5 0 xs aq.nil (.bool true) []:=by
 rw[Tryz.params5]at h
 obtain rfl:=tL h
 exact qU 0
end Go.Proofs.YtidmkaalhmeflaaGreatDoor
