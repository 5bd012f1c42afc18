/-
 Texts joined: XIh.
-/
import Derived.Test.YtlnlopnpcmahgaaGreatDoorMe
import Derived.Test.YtlnlopnpcmahgaaGreatDoorQv
import Derived.Test.YtlnlopnpcmahgaaGreatDoorQw
set_option linter.all false
namespace Go.Proofs.YtlnlopnpcmahgaaGreatDoor
open Go Go.RowKit Vm Go.Lib Tryz
open Vm renaming ba->Ca,bh->Cb
open And renaming intro->Ai
open List renaming length_map->Lm,not_mem_nil->Ln,map_nil->Lo,map_cons->Lc,mem_cons->Lk
open Bool renaming not_false->Bf,not_true->Bt
def Q9 (s want:List UInt8):Bool:=((bw s).2==0)&&((bw s).1==want)
set_option maxRecDepth 100000 in
def EM (s want:List UInt8)(hs:s.length<=16384)(nm:Nat):Ev cx 19 nm [.str s,.str want] ap.nil (.bool (Q9 s want)) []:=by
 have hc:=zA s hs
 unfold Q9
 generalize (bw s).1=x at hc ⊢
 generalize (bw s).2=E at hc ⊢
 refine bi call19 func19 rfl (by kernel_rfl) rfl ?_;intro b0 hb0
 (repeat' first|simp only[ak,aj,results19,ntmps19,al,ai,seval,ah]|exact rfl|refine aa (v:=.any) ?_|(first|(refine ad ?_ (hc _) ?_)|(refine ab ?_ (fun _=>hc _) ?_))|((first|apply Ca|apply Cb)<;>intro hb)|refine Ai (by omega) ?_|(apply Ai<;>intro hb)|refine Fin.pure ?_ ?_ ?_|simp only[ao])
def yH (s:List UInt8):List Nd×Int:=let q:=Qi s;let v:List Nd×Int:=if q.2.2≠0 then ([],q.2.2) else (dy q.1,cB q.1);if v.2≠0 then ([],v.2) else cp v.1
def Lb (s:List UInt8):da s=yH s:=by unfold da yH fU;rw[NX]
def BK (v:List Nd)(sp:List UInt8):List UInt8×Int:=let b:=cN v sp;if b.2≠0 then ([],b.2) else let l:=dv b.1;if l.2≠0 then ([],l.2) else let e:=fu l.1;(if e=0 then bu l.1 else [],e)
def Ic (v:List Nd)(sp:List UInt8):c8 v sp=BK v sp:=rfl
def zx (s:List UInt8):List UInt8×Int:=let r:=yH s;if r.2≠0 then ([],r.2) else BK r.1 []
def FV (s:List UInt8):bw s=zx s:=by unfold bw zx;rw[Lb,Ic]
def PZ:List UInt8:=[60,112,58,97,32,120,109,108,110,115,58,112,61,39,117,39,32,62,60,112,58,98,32,62,60,47,112,58,98,62,60,47,112,58,97,62]
def P0:List UInt8:=[60,97,32,120,109,108,110,115,61,34,117,34,62,60,98,47,62,60,47,97,62]
def P1:Q9 PZ P0=true:=by unfold Q9;rw[FV];decide +kernel
def sZ (nm:Nat):Ev cx 20 nm [] ap.nil (.bool true) []:=by
 have h:=EM PZ P0 (by decide)
 rw[P1]at h
 unfold PZ P0 at h
 refine bi call20 func20 rfl (by kernel_rfl) rfl ?_;intro b0 hb0
 (repeat' first|simp only[ak,aj,results20,ntmps20,al,ai,seval,ah]|exact rfl|refine aa (v:=.any) ?_|(first|(refine ad ?_ (h _) ?_)|(refine ab ?_ (fun _=>h _) ?_))|((first|apply Ca|apply Cb)<;>intro hb)|refine Ai (by omega) ?_|(apply Ai<;>intro hb)|refine Fin.pure ?_ ?_ ?_|simp only[ao])
set_option maxRecDepth 100000 in
set_option maxHeartbeats 16000000 in
def vR (v:List Nd)(hv:v.length<=be)(hok:∀ x∈v,x.okTo be/\x.i64)(nm:Nat):Ev cx 7 nm [.sl false 6 (v.map aZ)] ap.nil (.bool true) []:=by
 have hgr:=CR v 100 5000 (by omega) (by omega) hv (fun x hx=>(hok x hx).1)
 have hal:=sZ
 cases hg:mU v 100 5000 with
 | true =>
  rw[hg]at hgr
  refine bi call7 func7 rfl (by kernel_rfl) rfl ?_;intro b0 hb0
  (repeat' first|simp only[ak,aj,results7,ntmps7,al,ae,ai,seval,ah]|exact rfl|refine aa (v:=.any) ?_|(first|(refine ad ?_ (hal _) ?_)|(refine ab ?_ (fun _=>hal _) ?_)|(refine ad ?_ (hgr _) ?_)|(refine ab ?_ (fun _=>hgr _) ?_))|((first|apply Ca|apply Cb)<;>intro hb)|refine Ai (by omega) ?_|(apply Ai<;>intro hb)|refine Fin.pure ?_ ?_ ?_|simp only[ao])
 | false =>
  rw[hg]at hgr
  obtain⟨_,hv2⟩:=vN (by omega) (by omega) hg
  have hwr:=L6 v [] hv (fun n hn=>⟨iD (hv2 n hn).2.1 (by decide),(hok n hn).2⟩) (by simp)
  by_cases hE:(c8 v []).2=0
  ·have hrd:=yI (c8 v []).1 (xp v [])
   rw[vj hE]at hrd
   rw[hE]at hwr
   unfold g8 at hrd
   have hsm:=v7 hv (fun x hx=>(hok x hx).1)
   generalize (c8 v []).1=s at hwr hrd
   refine bi call7 func7 rfl (by kernel_rfl) rfl ?_;intro b0 hb0
   (repeat' first|simp only[ak,aj,results7,ntmps7,al,ae,Lm,Bt,ai,seval,ah]|exact rfl|refine aa (v:=.any) ?_|(first|(refine ad ?_ (hal _) ?_)|(refine ab ?_ (fun _=>hal _) ?_)|(refine ad ?_ (hgr _) ?_)|(refine ab ?_ (fun _=>hgr _) ?_)|(refine ad ?_ (hwr _) ?_)|(refine ab ?_ (fun _=>hwr _) ?_)|(refine ad ?_ (hrd _) ?_)|(refine ab ?_ (fun _=>hrd _) ?_)|(refine ad ?_ (hsm _) ?_)|(refine ab ?_ (fun _=>hsm _) ?_))|((first|apply Ca|apply Cb)<;>intro hb)|refine Ai (by omega) ?_|(apply Ai<;>intro hb)|refine Fin.pure ?_ ?_ ?_|simp only[ao])
  ·have hno:=vi hE
   rw[hno]at hwr
   have q:((c8 v []).2 != 0)=true:=by simpa using hE
   generalize (c8 v []).2=E at hwr q
   refine bi call7 func7 rfl (by kernel_rfl) rfl ?_;intro b0 hb0
   (repeat' first|simp only[ak,aj,results7,ntmps7,al,q,ae,Lm,Bt,ai,seval,ah]|exact rfl|refine aa (v:=.any) ?_|(first|(refine ad ?_ (hal _) ?_)|(refine ab ?_ (fun _=>hal _) ?_)|(refine ad ?_ (hgr _) ?_)|(refine ab ?_ (fun _=>hgr _) ?_)|(refine ad ?_ (hwr _) ?_)|(refine ab ?_ (fun _=>hwr _) ?_))|((first|apply Ca|apply Cb)<;>intro hb)|refine Ai (by omega) ?_|(apply Ai<;>intro hb)|refine Fin.pure ?_ ?_ ?_|simp only[ao])
def vQ (xs:List V)(h:ju cx.P Tryz.f7.params.toList xs):Ev cx 7 0 xs ap.nil (.bool true) []:=by
 rw[Tryz.params7]at h
 obtain⟨_,v1,_,rfl,h1,h2⟩:=h
 obtain rfl:=zh h2
 obtain⟨l,rfl,hl,hs⟩:=G5 h1
 rw[zg EP (by simp)]
 exact vR l hl hs 0
set_option maxRecDepth 100000 in
set_option maxHeartbeats 16000000 in
def uA (s:List UInt8)(hsl:s.length<=be)(nm:Nat):Ev cx 6 nm [.str s] ap.nil (.bool true) []:=by
 have hal:=sZ
 by_cases hs:s.length<=2000
 ·have d1:decide ((2000:Int)<(s.length:Int))=false:=bo
  have d2:decide (2000<s.length)=false:=bo
  have hc:=zA s (by omega)
  by_cases hE:(bw s).2=0
  ·obtain⟨c1,c2⟩:=zz hE
   obtain⟨c3,_⟩:=tz hE
   have hr1:=yI s (by omega)
   have hr2:=yI (bw s).1 (v9 s)
   have hi:=EM (bw s).1 (bw s).1 (v9 s)
   have hii:Q9 (bw s).1 (bw s).1=true:=by unfold Q9;rw[c2];simp
   rw[hii]at hi
   rw[c1]at hr2
   rw[c3]at hr1
   rw[hE]at hc
   obtain⟨f1,f2⟩:=A9 (s:=s) (by omega)
   have hsm:=v7 (v:=(da s).1) (by unfold be;omega) (fun x hx=>iD (f2 x hx).1 (by decide))
   unfold g8 at hr1 hr2
   have hpl:=ae (da s).1
   generalize (da s).1=v at hr1 hr2 hsm hpl
   generalize (bw s).1=x at hc hr2 hi
   refine bi call6 func6 rfl (by kernel_rfl) rfl ?_;intro b0 hb0
   (repeat' first|simp only[ak,aj,results6,ntmps6,al,d1,d2,hpl,Lm,Bt,ai,seval,ah]|exact rfl|refine aa (v:=.any) ?_|((first|(refine ad ?_ (hr1 _) ?_)|(refine ab ?_ (fun _=>hr1 _) ?_));(focus (simp only[results6,ntmps6,al,d1,d2,hpl,Lm,Bt,ai,seval,ah]<;>exact rfl)))|((first|(refine ad ?_ (hr2 _) ?_)|(refine ab ?_ (fun _=>hr2 _) ?_));(focus (simp only[results6,ntmps6,al,d1,d2,hpl,Lm,Bt,ai,seval,ah]<;>exact rfl)))|(first|(refine ad ?_ (hal _) ?_)|(refine ab ?_ (fun _=>hal _) ?_)|(refine ad ?_ (hc _) ?_)|(refine ab ?_ (fun _=>hc _) ?_)|(refine ad ?_ (hsm _) ?_)|(refine ab ?_ (fun _=>hsm _) ?_)|(refine ad ?_ (hi _) ?_)|(refine ab ?_ (fun _=>hi _) ?_))|((first|apply Ca|apply Cb)<;>intro hb)|refine Ai (by omega) ?_|(apply Ai<;>intro hb)|refine Fin.pure ?_ ?_ ?_|simp only[ao])
  ·have hno:=zB hE
   rw[hno]at hc
   have q:((bw s).2 != 0)=true:=by simpa using hE
   generalize (bw s).2=E at hc q
   refine bi call6 func6 rfl (by kernel_rfl) rfl ?_;intro b0 hb0
   (repeat' first|simp only[ak,aj,results6,ntmps6,al,q,d1,d2,Lm,Bt,ai,seval,ah]|exact rfl|refine aa (v:=.any) ?_|(first|(refine ad ?_ (hal _) ?_)|(refine ab ?_ (fun _=>hal _) ?_)|(refine ad ?_ (hc _) ?_)|(refine ab ?_ (fun _=>hc _) ?_))|((first|apply Ca|apply Cb)<;>intro hb)|refine Ai (by omega) ?_|(apply Ai<;>intro hb)|refine Fin.pure ?_ ?_ ?_|simp only[ao])
 ·have d1:decide ((2000:Int)<(s.length:Int))=true:=cn
  have d2:decide (2000<s.length)=true:=cn
  refine bi call6 func6 rfl (by kernel_rfl) rfl ?_;intro b0 hb0
  (repeat' first|simp only[ak,aj,results6,ntmps6,al,d1,d2,ai,seval,ah]|exact rfl|refine aa (v:=.any) ?_|(first|(refine ad ?_ (hal _) ?_)|(refine ab ?_ (fun _=>hal _) ?_))|((first|apply Ca|apply Cb)<;>intro hb)|refine Ai (by omega) ?_|(apply Ai<;>intro hb)|refine Fin.pure ?_ ?_ ?_|simp only[ao])
def uz (xs:List V)(h:ju cx.P Tryz.f6.params.toList xs):Ev cx 6 0 xs ap.nil (.bool true) []:=by
 rw[Tryz.params6]at h
 obtain⟨_,v1,_,rfl,h1,h2⟩:=h
 obtain rfl:=zh h2
 obtain⟨s,rfl,hs⟩:=iq mW h1
 rw[zg mW (by simp)]
 exact uA s (by unfold be;omega) 0
end Go.Proofs.YtlnlopnpcmahgaaGreatDoor
