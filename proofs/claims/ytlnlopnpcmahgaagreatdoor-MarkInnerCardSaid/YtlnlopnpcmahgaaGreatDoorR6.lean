/-
 Texts joined: XOh,XOk.
-/
import Derived.Test.YtlnlopnpcmahgaaGreatDoorR5
import Derived.Test.YtlnlopnpcmahgaaGreatDoorQw
set_option linter.all false
namespace Go.Proofs.YtlnlopnpcmahgaaGreatDoor
set_option maxRecDepth 100000
set_option maxHeartbeats 32000000
open Go Go.RowKit Vm Go.Lib Tryz
open Vm renaming aW->Ca,bf->Cb
open And renaming intro->Ai
open List renaming length_map->Lm,not_mem_nil->Ln,map_nil->Lo,map_cons->Lc,mem_cons->Lk
open Bool renaming not_false->Bf,not_true->Bt
def Q8 (n:Nd):Bool:=decide (16<n.attrs.length)
def It (v:List Nd)(sp:List UInt8)(hv:v.length<=bc)(hok:∀ n∈v,n.okTo bc/\n.i64)(hs:sp.length<=bc)(h:dV v≠0\/aN sp≠0\/eG sp=true)(nm:Nat) :
  Ev cx 45 nm [.sl false 6 (v.map aV),.str sp] am.nil (.tup [.nils,.int .i64 (if dV v≠0 then dV v else 8)]) []:=by
 have hc:=vU v hv hok
 have ht:=ce sp hs
 have hg:=pP sp
 by_cases h1:dV v=0
 ·have e1:(dV v != 0)=false:=by rw[h1];rfl
  rw[if_neg (by simpa using h1)]
  by_cases h2:aN sp=0
  ·have e2:(aN sp != 0)=false:=by rw[h2];rfl
   have h3:eG sp=true:=by rcases h with h|h|h;exact absurd h1 h;exact absurd h2 h;exact h
   rw[h3]at hg
   refine bh call45 func45 rfl (by kernel_rfl) rfl ?_;intro b0 hb0
   (repeat' first|simp only[ak,ag,results45,ntmps45,al,e1,e2,Bt,Bf,ad,ai,seval,ah]|exact rfl|refine aa (v:=.any) ?_|(first|(refine ae ?_ (ht _) ?_)|(refine ab ?_ (fun _=>ht _) ?_)|(refine ae ?_ (hg _) ?_)|(refine ab ?_ (fun _=>hg _) ?_))|((refine bo (xs:=?_) [b0] ?_ ?_ ?_ rfl (hc _) ?_);rotate_left 1)|omega|((first|apply Ca|apply Cb)<;>intro hb)|refine Ai (by omega) ?_|(apply Ai<;>intro hb)|refine Fin.pure ?_ ?_ ?_|simp only[ap])
  ·have e2:(aN sp != 0)=true:=by simpa using h2
   refine bh call45 func45 rfl (by kernel_rfl) rfl ?_;intro b0 hb0
   (repeat' first|simp only[ak,ag,results45,ntmps45,al,e1,e2,Bt,Bf,ad,ai,seval,ah]|exact rfl|refine aa (v:=.any) ?_|(first|(refine ae ?_ (ht _) ?_)|(refine ab ?_ (fun _=>ht _) ?_)|(refine ae ?_ (hg _) ?_)|(refine ab ?_ (fun _=>hg _) ?_))|((refine bo (xs:=?_) [b0] ?_ ?_ ?_ rfl (hc _) ?_);rotate_left 1)|omega|((first|apply Ca|apply Cb)<;>intro hb)|refine Ai (by omega) ?_|(apply Ai<;>intro hb)|refine Fin.pure ?_ ?_ ?_|simp only[ap])
 ·have e1:(dV v != 0)=true:=by simpa using h1
  rw[if_pos h1]
  refine bh call45 func45 rfl (by kernel_rfl) rfl ?_;intro b0 hb0
  (repeat' first|simp only[ak,ag,results45,ntmps45,al,e1,ad,ai,seval,ah]|exact rfl|refine aa (v:=.any) ?_|((refine bo (xs:=?_) [b0] ?_ ?_ ?_ rfl (hc _) ?_);rotate_left 1)|omega|((first|apply Ca|apply Cb)<;>intro hb)|refine Ai (by omega) ?_|(apply Ai<;>intro hb)|refine Fin.pure ?_ ?_ ?_|simp only[ap])
def Fm (n:Nd)(k:Fo)(sp:List UInt8)(hk1:n.kind=1)(hg:(Fo.cons n k .nil).good 12 0=true)(hl:k.size+1<=512)(hok:∀ x∈n::k.flat,x.okTo 1000000/\x.i64)(hs:sp.length<=bc)(hc0:dV (n::k.flat)=0)(ht0:aN sp=0)(hg0:eG sp=false)(r:V)(eff:List (Nat×Option Blk))(nm:Nat)
  (hr:(mg ((Fo.cons n k .nil).bare sp)=true/\r = .tup [.nils,.int .i64 4]/\eff=[])\/(mg ((Fo.cons n k .nil).bare sp)=false/\r = .tup [.own nm 0 ((Fo.cons n k .nil).bare sp).length,.int .i64 0]/\eff=[(nm,some ⟨6,((Fo.cons n k .nil).bare sp).map aV⟩)])) :
  Ev cx 45 nm [.sl false 6 ((n::k.flat).map aV),.str sp] am.nil r eff:=by
 have hlen:(n::k.flat).length<=512:=by simp[Fo.flat_length];omega
 have hc:=vU (n::k.flat) (by unfold bc;omega) (fun x hx=>⟨jj (hok x hx).1 (by decide),(hok x hx).2⟩)
 have ht:=ce sp hs
 have hgv:=pP sp
 rw[hc0]at hc;rw[ht0]at ht;rw[hg0]at hgv
 have hbl:=Fo.bare_len (.cons n k .nil) sp
 simp only[Fo.size]at hbl
 have hcall:=fun (ob pb lk:Nat) (d1:ob≠pb) (M:am) (m:Nat) e1 e2 a1 a2 a3 a4 l1 l2 l3=>(tl (n::k.flat) hlen hok ob pb d1 (.cons n k .nil) 12 0 hg (fun x hx=>by simpa [Fo.flat] using hx)).1 0 sp [] [] lk M m (by simp) (by simp;omega) e1 e2 a1 a2 a3 a4 l1 l2 l3
 have hcon:=fun (L:List Nd) (hL:L.length<=bc) nm=>il L 79 [] Q8 (fun x _ nm=>Iq x nm) hL rfl nm
 simp only[List.nil_append,List.length_nil,Lo]at hcall
 unfold Q3 at hcall
 generalize (Fo.cons n k .nil).bare sp=T at hcall hr hbl
 generalize n::k.flat=v at hc hcall ⊢
 have hcon:=hcon T (by unfold bc;omega)
 have hcw:(T.any Q8)=mg T:=rfl
 rw[hcw]at hcon
 have htt:(T.map aV).take T.length=T.map aV:=bz _ _
 refine lC rfl call45 func45 rfl mixed (by kernel_rfl) rfl ?_;intro b0 hb0;have zF:=Ai results45 ntmps45
 repeat' first|simp only[ak,ag,zF,al,ai,seval,ah]|exact rfl|refine aa (v:=.any) ?_|((first|apply Ca|apply Cb)<;>intro hb)|refine Ai (by omega) ?_|(apply Ai<;>intro hb)
 (refine jM bM (b0+16) ([(1,.str sp),(2,.rp [.sl false 6 (v.map aV)]),(4,.ptr b0 0 0)]) ([(b0,⟨1,[[.nils]]⟩)]) [some (b0+16)] ?_ ?_ ?_;(focus (show b0<=_;omega));(focus (refine⟨?_,?_⟩<;>(try simp only[aX,iW,ad,aJ,cM,ai,seval,ah,ap])<;>(try omega))))
 repeat' first|simp only[ak,ag,zF,al,ad,ai,seval,ah]|exact rfl|refine aa (v:=.any) ?_|(first|(refine ae ?_ (hc _) ?_)|(refine ab ?_ (fun _=>hc _) ?_))|((first|apply Ca|apply Cb)<;>intro hb)|refine Ai (by omega) ?_|(apply Ai<;>intro hb)
 refine ct ?_
 repeat' first|simp only[ak,ag,zF,al,ad,Bt,Bf,ai,seval,ah]|exact rfl|refine aa (v:=.any) ?_|(first|(refine ae ?_ (ht _) ?_)|(refine ab ?_ (fun _=>ht _) ?_)|(refine ae ?_ (hgv _) ?_)|(refine ab ?_ (fun _=>hgv _) ?_))|((first|apply Ca|apply Cb)<;>intro hb)|refine Ai (by omega) ?_|(apply Ai<;>intro hb)
 refine ct ?_
 repeat' first|simp only[ak,ag,zF,al,ad,ai,seval,ah]|exact rfl|refine aa (v:=.any) ?_|((first|apply Ca|apply Cb)<;>intro hb)|refine Ai (by omega) ?_|(apply Ai<;>intro hb)
 refine ct ?_
 repeat' first|simp only[ak,ag,zF,al,ad,ai,seval,ah]|exact rfl|refine aa (v:=.any) ?_|((first|apply Ca|apply Cb)<;>intro hb)|refine Ai (by omega) ?_|(apply Ai<;>intro hb)
 (refine ki bM (b0+16) ([(1,.str sp),(4,.ptr b0 0 0),(7,.ptr (b0+1) 0 0)]) ([(b0,⟨1,[[.own (b0+2) 0 0]]⟩),(b0+1,⟨1,[[.fn 76 [.rp [.sl false 6 (v.map aV)],.ptr b0 0 0,.ptr (b0+1) 0 0]]]⟩),(b0+2,⟨6,[]⟩)]) [some b0,some (b0+208),none] ?_ ?_ ?_;(focus (show b0<=_;omega));(focus (refine⟨?_,?_⟩<;>(try simp only[aX,ad,aJ,cM,Bool.and_self,Bool.and_false,Bool.false_and,Lm,ai,seval,ah,ap])<;>(try omega))))
 cases hw:mg T with
 | true =>
  have hre:r = .tup [.nils,.int .i64 4]/\eff=[]:=by
   rcases hr with ⟨_,h⟩|⟨h,_⟩
   ·exact h
   ·rw[hw]at h;cases h
  obtain⟨rfl,rfl⟩:=hre
  rw[hw]at hcon
  repeat' first|simp only[ak,ag,zF,al,htt,ad,au,Lm,ai,seval,ah]|exact rfl|refine aa (v:=.any) ?_|((refine bo (xs:=?_) [b0,b0+48] ?_ ?_ ?_ rfl (hcon _) ?_);rotate_left 1)|((refine cn (caps:=?_) ?_ ?_ [b0,b0+2,b0+1] (hcall b0 (b0+1) (b0+2) (by omega) _ _ (by omega) (by omega) ?_ ?_ ?_ aj (by omega) (by omega) (by omega)) ?_ ?_);rotate_left 1)|refine ct ?_|omega|((first|apply Ca|apply Cb)<;>intro hb)|refine Ai (by omega) ?_|(apply Ai<;>intro hb)
  all_goals ((refine Fin.pure ?_ ?_ ?_<;>simp only[al,ad,zF,ai,seval,ah]))
 | false =>
  have hre:r = .tup [.own nm 0 T.length,.int .i64 0]/\eff=[(nm,some ⟨6,T.map aV⟩)]:=by
   rcases hr with ⟨h,_⟩|⟨_,h⟩
   ·rw[hw]at h;cases h
   ·exact h
  obtain⟨rfl,rfl⟩:=hre
  rw[hw]at hcon
  repeat' first|simp only[ak,ag,zF,al,htt,ad,au,Lm,ai,seval,ah]|exact rfl|refine aa (v:=.any) ?_|((refine bo (xs:=?_) [b0,b0+48] ?_ ?_ ?_ rfl (hcon _) ?_);rotate_left 1)|((refine cn (caps:=?_) ?_ ?_ [b0,b0+2,b0+1] (hcall b0 (b0+1) (b0+2) (by omega) _ _ (by omega) (by omega) ?_ ?_ ?_ aj (by omega) (by omega) (by omega)) ?_ ?_);rotate_left 1)|refine ct ?_|omega|((first|apply Ca|apply Cb)<;>intro hb)|refine Ai (by omega) ?_|(apply Ai<;>intro hb)
  all_goals ((refine Fin.give [(b0+48,some 0)] [] ?_ ?_ ?_ ?_ ?_ (aL gM (by simp[aP,tgt]))<;>(try simp only[zF,al,ad,Lm,dx,ai,seval,ah])<;>(try simp only[ap])<;>(try omega)))
def Ir (v:List Nd)(sp:List UInt8)(hv:v.length<=bc)(hok:∀ n∈v,n.okTo 1000000/\n.i64)(hs:sp.length<=bc)(nm:Nat) :
  Ev cx 45 nm [.sl false 6 (v.map aV),.str sp] am.nil (iO (ck v sp).1 (ck v sp).2) []:=by
 by_cases hbad:dV v≠0\/aN sp≠0\/eG sp=true
 ·have hb:ck v sp=([],if dV v≠0 then dV v else 8):=by
   unfold ck
   by_cases h1:dV v≠0
   ·rw[if_pos h1,if_pos h1]
   ·rw[if_neg h1,if_neg h1,if_pos (hbad.resolve_left h1)]
  rw[hb]
  refine Ev.res_le (It v sp hv (fun x hx=>⟨jj (hok x hx).1 (by decide),(hok x hx).2⟩) hs hbad nm) ?_
  unfold iO
  simp only[lI,dZ,fj,bL,jG,Lo,and_self]
 ·have h1:dV v=0:=Decidable.not_not.1 fun h=>hbad (.inl h)
  have h2:aN sp=0:=Decidable.not_not.1 fun h=>hbad (.inr (.inl h))
  have h3:eG sp=false:=by
   cases h:eG sp with
   | false=>rfl
   | true=>exact absurd (.inr (.inr h)) hbad
  obtain⟨n,k,hk,rfl,hg,hl⟩:=qp (vV h1).2
  have hb:ck (n::k.flat) sp=if mg ((Fo.cons n k .nil).bare sp)=true then ([],4) else ((Fo.cons n k .nil).bare sp,0):=by
   unfold ck
   rw[if_neg (by simpa using h1),if_neg (by rw[h2,h3];simp),pO hg]
  rw[hb]
  have hgood:=Fm n k sp hk hg hl hok hs h1 h2 h3
  generalize (Fo.cons n k .nil).bare sp=T at hgood ⊢
  cases hw:mg T with
  | true =>
   rw[if_pos rfl]
   refine Ev.res_le (hgood _ _ nm (.inl ⟨hw,rfl,rfl⟩)) ?_
   unfold iO
   simp only[lI,dZ,fj,bL,jG,Lo,and_self]
  | false =>
   rw[if_neg (by decide)]
   have hpl:=ad T
   have htk:(T.map aV).take T.length=T.map aV:=bz _ _
   refine Ev.freeze (hgood _ _ nm (.inr ⟨hw,rfl,rfl⟩)) ?_ ?_
   ·simp only[ak,ag,al,hpl,htk,Lm,ai,seval,ah]<;>omega
   ·unfold iO
    simp only[ak,ag,al,hpl,htk,Lm,ai,seval,ah]
def Og (v:List Nd)(hv:v.length<=bc)(hok:∀ n∈v,n.okTo bc/\n.i64)(h:eF v≠0\/v.any oA=true)(nm:Nat) :
  Ev cx 59 nm [.sl false 6 (v.map aV)] am.nil (.tup [.nils,.int .i64 8]) []:=by
 have hc:=qC v hv hok
 have hs:=il v 105 [] oA (fun n hn nm=>wS n (hok n hn).1.1 nm) hv rfl
 by_cases h1:eF v=0
 ·rw[h1]at hc
  rw[h.resolve_left (fun h=>h h1)]at hs
  refine bh call59 func59 rfl (by kernel_rfl) rfl ?_;intro b0 hb0
  (repeat' first|simp only[ak,ag,results59,ntmps59,al,ad,ai,seval,ah]|exact rfl|refine aa (v:=.any) ?_|((refine bo (xs:=?_) [b0] ?_ ?_ ?_ rfl (hc _) ?_);rotate_left 1)|((refine bo (xs:=?_) [b0] ?_ ?_ ?_ rfl (hs _) ?_);rotate_left 1)|omega|((first|apply Ca|apply Cb)<;>intro hb)|refine Ai (by omega) ?_|(apply Ai<;>intro hb)|refine Fin.pure ?_ ?_ ?_|simp only[ap])
 ·have h8:eF v=8:=by
   unfold eF at h1 ⊢
   split
   ·rfl
   ·rename_i g;rw[if_neg g]at h1;exact absurd rfl h1
  rw[h8]at hc
  refine bh call59 func59 rfl (by kernel_rfl) rfl ?_;intro b0 hb0
  (repeat' first|simp only[ak,ag,results59,ntmps59,al,ad,ai,seval,ah]|exact rfl|refine aa (v:=.any) ?_|((refine bo (xs:=?_) [b0] ?_ ?_ ?_ rfl (hc _) ?_);rotate_left 1)|omega|((first|apply Ca|apply Cb)<;>intro hb)|refine Ai (by omega) ?_|(apply Ai<;>intro hb)|refine Fin.pure ?_ ?_ ?_|simp only[ap])
def NB:rS Ar=[(.str [],.agg [.str []]),(.str [120,109,108],.agg [.str [104,116,116,112,58,47,47,119,119,119,46,119,51,46,111,114,103,47,88,77,76,47,49,57,57,56,47,110,97,109,101,115,112,97,99,101]])]:=rfl
def K4 (n:Nd)(k:Fo)(hk1:n.kind=1)(hg:(Fo.cons n k .nil).good 12 0=true)(hl:k.size+1<=512)(hok:∀ x∈n::k.flat,x.okTo 1000000/\x.i64)(hs0:(n::k.flat).any oA=false)(r:V)(eff:List (Nat×Option Blk))(nm:Nat)
  (hr:(((Fo.cons n k .nil).res Ar).2=false/\r = .tup [.nils,.int .i64 110]/\eff=[])\/(((Fo.cons n k .nil).res Ar).2=true/\r = .tup [.own nm 0 ((Fo.cons n k .nil).res Ar).1.length,.int .i64 0]/\eff=[(nm,some ⟨6,((Fo.cons n k .nil).res Ar).1.map aV⟩)])) :
  Ev cx 59 nm [.sl false 6 ((n::k.flat).map aV)] am.nil r eff:=by
 have hlen:(n::k.flat).length<=512:=by simp[Fo.flat_length];omega
 have hokL:∀ x∈n::k.flat,x.okTo bc/\x.i64:=fun x hx=>⟨jj (hok x hx).1 (by decide),(hok x hx).2⟩
 have hc:=qC (n::k.flat) (by unfold bc;omega) hokL
 rw[qB hk1 hg hl]at hc
 have hs:=il (n::k.flat) 105 [] oA (fun n hn nm=>wS n (hokL n hn).1.1 nm) (by unfold bc;omega) rfl
 rw[hs0]at hs
 have hbl:=Fo.res_len (.cons n k .nil) Ar
 simp only[Fo.size]at hbl
 have hcall:=fun (ob rb pb lk mk:Nat) (d1:ob≠pb) (d2:ob≠rb) (d3:rb≠pb) (M:am) (m:Nat) e1 e2 e3 e4 e5 e6 e7 a0 a1 a2 a3 a4 a5 l1 l2 l3 l4 l5=>(yC (n::k.flat) hlen hok ob rb pb d1 d2 d3 (.cons n k .nil) 12 0 hg (fun x hx=>by simpa [Fo.flat] using hx)).1 0 Ar [] [] true lk mk M m (by simp) (by simp;omega) e1 e2 e3 e4 e5 e6 e7 a0 a1 a2 a3 a4 a5 l1 l2 l3 l4 l5
 simp only[List.nil_append,List.length_nil,Lo,Bool.true_and]at hcall
 unfold Q7 at hcall
 generalize (Fo.cons n k .nil).res Ar=T at hcall hr hbl
 obtain⟨T,bT⟩:=T
 generalize n::k.flat=v at hc hs hcall ⊢
 dsimp only at hcall hr hbl
 have htt:(T.map aV).take T.length=T.map aV:=bz _ _
 refine lC rfl call59 func59 rfl mixed (by kernel_rfl) rfl ?_;intro b0 hb0;have zF:=Ai results59 ntmps59
 repeat' first|simp only[ak,ag,zF,al,ai,seval,ah]|exact rfl|refine aa (v:=.any) ?_|((first|apply Ca|apply Cb)<;>intro hb)|refine Ai (by omega) ?_|(apply Ai<;>intro hb)
 (refine jM bM (b0+16) ([(1,.rp [.sl false 6 (v.map aV)]),(2,.ptr b0 0 0)]) ([(b0,⟨1,[[.nils]]⟩)]) [some (b0+16)] ?_ ?_ ?_;(focus (show b0<=_;omega));(focus (refine⟨?_,?_⟩<;>(try simp only[aX,iW,ad,aJ,cM,ai,seval,ah,ap])<;>(try omega))))
 repeat' first|simp only[ak,ag,zF,al,ad,ai,seval,ah]|exact rfl|refine aa (v:=.any) ?_|(first|(refine ae ?_ (hc _) ?_)|(refine ab ?_ (fun _=>hc _) ?_))|((first|apply Ca|apply Cb)<;>intro hb)|refine Ai (by omega) ?_|(apply Ai<;>intro hb)
 refine ct ?_
 repeat' first|simp only[ak,ag,zF,al,ad,Bt,Bf,ai,seval,ah]|exact rfl|refine aa (v:=.any) ?_|(first|(refine ae ?_ (hs _) ?_)|(refine ab ?_ (fun _=>hs _) ?_))|((first|apply Ca|apply Cb)<;>intro hb)|refine Ai (by omega) ?_|(apply Ai<;>intro hb)
 refine ct ?_
 repeat' first|simp only[ak,ag,zF,al,ad,ai,seval,ah]|exact rfl|refine aa (v:=.any) ?_|((first|apply Ca|apply Cb)<;>intro hb)|refine Ai (by omega) ?_|(apply Ai<;>intro hb)
 refine ct ?_
 repeat' first|simp only[ak,ag,zF,al,ad,ai,seval,ah]|exact rfl|refine aa (v:=.any) ?_|((first|apply Ca|apply Cb)<;>intro hb)|refine Ai (by omega) ?_|(apply Ai<;>intro hb)
 refine ct ?_
 repeat' first|simp only[ak,ag,zF,al,ad,ai,seval,ah]|exact rfl|refine aa (v:=.any) ?_|((first|apply Ca|apply Cb)<;>intro hb)|refine Ai (by omega) ?_|(apply Ai<;>intro hb)
 (refine ki bM (b0+16) ([(2,.ptr b0 0 0),(5,.ptr (b0+1) 0 0),(6,.ptr (b0+2) 0 0)]) ([(b0,⟨1,[[.own (b0+3) 0 0]]⟩),(b0+1,⟨1,[[.bool true]]⟩),(b0+2,⟨1,[[.fn 106 [.rp [.sl false 6 (v.map aV)],.ptr b0 0 0,.ptr (b0+1) 0 0,.ptr (b0+2) 0 0]]]⟩),(b0+3,⟨6,[]⟩)]) [some b0,some (b0+128),some (b0+160),none] ?_ ?_ ?_;(focus (show b0<=_;omega));(focus (refine⟨?_,?_⟩<;>(try simp only[aX,ad,aJ,cM,Bool.and_self,Bool.and_false,Bool.false_and,Lm,ai,seval,ah,ap])<;>(try omega))))
 have hcl:=fun (M:am) (m:Nat) a0 a1 a2 a3 a4 a5 l1 l2 l3 l4 l5=>hcall b0 (b0+1) (b0+2) (b0+3) (b0+32) (by omega) (by omega) (by omega) M m (by omega) (by omega) (by omega) (by omega) (by omega) (by omega) (by omega) a0 a1 a2 a3 a4 a5 l1 l2 l3 l4 l5
 cases bT with
 | false =>
  have hre:r = .tup [.nils,.int .i64 110]/\eff=[]:=by
   rcases hr with ⟨_,h⟩|⟨h,_⟩
   ·exact h
   ·cases h
  obtain⟨rfl,rfl⟩:=hre
  repeat' first|simp only[ak,ag,zF,al,NB,htt,ad,au,cC,bv,Bf,Lm,ai,seval,ah]|exact rfl|refine aa (v:=.any) ?_|((refine cn (caps:=?_) ?_ ?_ [b0+32,b0+1,b0,b0+3,b0+2] (hcl _ _ ?_ ?_ ?_ ?_ ?_ aj (by omega) (by omega) (by omega) (by omega) (by omega)) ?_ ?_);rotate_left 1)|(refine iA ?_)|(refine ba ?_)|(refine aU ?_)|(refine jB (y:=?_) (kv:=?_) (xv:=?_) (kvs:=?_) ?_ ?_ ?_ ?_ Sb ?_ ?_ ?_ ?_ ?_;rotate_left 4;(iterate 4 (focus (simp only[zF,al,NB,htt,ad,au,cC,bv,Bf,Lm,ai,seval,ah]<;>exact rfl)));(focus (kernel_rfl));(iterate 3 (focus (exact rfl))))|refine ct ?_|((first|apply Ca|apply Cb)<;>intro hb)|refine Ai (by omega) ?_|(apply Ai<;>intro hb)
  all_goals ((refine Fin.pure ?_ ?_ ?_<;>simp only[al,ad,zF,ai,seval,ah]))
 | true =>
  have hre:r = .tup [.own nm 0 T.length,.int .i64 0]/\eff=[(nm,some ⟨6,T.map aV⟩)]:=by
   rcases hr with ⟨h,_⟩|⟨_,h⟩
   ·cases h
   ·exact h
  obtain⟨rfl,rfl⟩:=hre
  repeat' first|simp only[ak,ag,zF,al,NB,htt,ad,au,cC,bv,Bt,Lm,ai,seval,ah]|exact rfl|refine aa (v:=.any) ?_|((refine cn (caps:=?_) ?_ ?_ [b0+32,b0+1,b0,b0+3,b0+2] (hcl _ _ ?_ ?_ ?_ ?_ ?_ aj (by omega) (by omega) (by omega) (by omega) (by omega)) ?_ ?_);rotate_left 1)|(refine iA ?_)|(refine ba ?_)|(refine aU ?_)|(refine jB (y:=?_) (kv:=?_) (xv:=?_) (kvs:=?_) ?_ ?_ ?_ ?_ Sb ?_ ?_ ?_ ?_ ?_;rotate_left 4;(iterate 4 (focus (simp only[zF,al,NB,htt,ad,au,cC,bv,Bt,Lm,ai,seval,ah]<;>exact rfl)));(focus (kernel_rfl));(iterate 3 (focus (exact rfl))))|refine ct ?_|((first|apply Ca|apply Cb)<;>intro hb)|refine Ai (by omega) ?_|(apply Ai<;>intro hb)
  all_goals ((refine Fin.give [(b0+128,some 0)] [] ?_ ?_ ?_ ?_ ?_ (aL gM (by simp[aP,tgt]))<;>(try simp only[zF,al,ad,Lm,dx,ai,seval,ah])<;>(try simp only[ap])<;>(try omega)))
def AU (v:List Nd)(hv:v.length<=bc)(hok:∀ n∈v,n.okTo 1000000/\n.i64)(nm:Nat) :
  Ev cx 59 nm [.sl false 6 (v.map aV)] am.nil (iO (cJ v).1 (cJ v).2) []:=by
 by_cases hbad:eF v≠0\/v.any oA=true
 ·have hb:cJ v=([],8):=by
   unfold cJ
   by_cases h1:eF v≠0
   ·rw[if_pos h1]
   ·rw[if_neg h1,if_pos (hbad.resolve_left h1)]
  rw[hb]
  refine Ev.res_le (Og v hv (fun x hx=>⟨jj (hok x hx).1 (by decide),(hok x hx).2⟩) hbad nm) ?_
  unfold iO
  simp only[lI,dZ,fj,bL,jG,Lo,and_self]
 ·have h1:eF v=0:=Decidable.not_not.1 fun h=>hbad (.inl h)
  have h2:v.any oA=false:=by
   cases h:v.any oA with
   | false=>rfl
   | true=>exact absurd (.inr h) hbad
  obtain⟨n,k,hk,rfl,hg,hl⟩:=qp h1
  have hb:cJ (n::k.flat)=if ((Fo.cons n k .nil).res Ar).2=true then (((Fo.cons n k .nil).res Ar).1,0) else ([],110):=by
   unfold cJ
   rw[if_neg (by simpa using h1),if_neg (by rw[h2];decide),pO hg]
  rw[hb]
  have hgood:=K4 n k hk hg hl hok h2
  generalize (Fo.cons n k .nil).res Ar=T at hgood ⊢
  obtain⟨T,bT⟩:=T
  dsimp only at hgood ⊢
  cases bT with
  | false =>
   rw[if_neg (by decide)]
   refine Ev.res_le (hgood _ _ nm (.inl ⟨rfl,rfl,rfl⟩)) ?_
   unfold iO
   simp only[lI,dZ,fj,bL,jG,Lo,and_self]
  | true =>
   rw[if_pos rfl]
   have hpl:=ad T
   have htk:(T.map aV).take T.length=T.map aV:=bz _ _
   refine Ev.freeze (hgood _ _ nm (.inr ⟨rfl,rfl,rfl⟩)) ?_ ?_
   ·simp only[ak,ag,al,hpl,htk,Lm,ai,seval,ah]<;>omega
   ·unfold iO
    simp only[ak,ag,al,hpl,htk,Lm,ai,seval,ah]
end Go.Proofs.YtlnlopnpcmahgaaGreatDoor
