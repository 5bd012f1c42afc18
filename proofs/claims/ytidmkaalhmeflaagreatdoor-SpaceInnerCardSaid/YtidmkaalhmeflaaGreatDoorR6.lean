/-
 Texts joined: XOh,XOk.
-/
import Derived.Test.YtidmkaalhmeflaaGreatDoorR5
import Derived.Test.YtidmkaalhmeflaaGreatDoorQw
namespace Go.Proofs.YtidmkaalhmeflaaGreatDoor
set_option maxRecDepth 100000
set_option maxHeartbeats 32000000
set_option linter.unusedSimpArgs false
set_option linter.unusedVariables false
open Go Go.RowKit Vm Go.Lib Tryz
open Vm renaming aZ→Ca,bj→Cb
open And renaming intro→Ai
open List renaming length_map→Lm,not_mem_nil→Ln,map_nil→Lo,map_cons→Lc,mem_cons→Lk
open Bool renaming not_false→Bf,not_true→Bt
def Rd (n:Nd):Bool:=decide (16<n.attrs.length)
theorem Su (v:List Nd)(sp:List UInt8)(hv:v.length≤bh)(hok:∀ n∈v,n.okTo bh∧n.i64)(hs:sp.length≤bh)(h:cn v≠0∨aQ sp≠0∨Rw sp=true)(nm:Nat) :
  Ev cx 18 nm [.sl false 6 (v.map ba),.str sp] aq.nil (.tup [.nils,.int .i64 (if cn v≠0 then cn v else 8)]) []:=by
 have hc:=pS v hv hok
 have ht:=cV sp hs
 have hg:=R7 sp
 by_cases h1:cn v=0
 ·have e1:(cn v != 0)=false:=by rw[h1];rfl
  rw[if_neg (by simpa using h1)]
  by_cases h2:aQ sp=0
  ·have e2:(aQ sp != 0)=false:=by rw[h2];rfl
   have h3:Rw sp=true:=by rcases h with h|h|h;exact absurd h1 h;exact absurd h2 h;exact h
   rw[h3]at hg
   refine ay rfl (fun cargs w=>call18 cargs w) func18 rfl mixed (by kernel_rfl) rfl ?_;intro b0 hb0
   (repeat' first|simp only[al,aj,results18,ntmps18,am,e1,e2,Bt,Bf,ad,ai,seval,ah]|exact rfl|refine aa (v:=.any) ?_|(first|(refine ac ?_ (ht _) ?_)|(refine ab ?_ (fun _=>ht _) ?_)|(refine ac ?_ (hg _) ?_)|(refine ab ?_ (fun _=>hg _) ?_))|((refine bq (xs:=?_) [b0] ?_ ?_ ?_ rfl (hc _) ?_);rotate_left 1)|omega|((first|apply Ca|apply Cb)<;>intro hb)|refine Ai (by omega) ?_|(apply Ai<;>intro hb)|refine Fin.pure ?_ ?_ ?_|simp only[au])
  ·have e2:(aQ sp != 0)=true:=by simpa using h2
   refine ay rfl (fun cargs w=>call18 cargs w) func18 rfl mixed (by kernel_rfl) rfl ?_;intro b0 hb0
   (repeat' first|simp only[al,aj,results18,ntmps18,am,e1,e2,Bt,Bf,ad,ai,seval,ah]|exact rfl|refine aa (v:=.any) ?_|(first|(refine ac ?_ (ht _) ?_)|(refine ab ?_ (fun _=>ht _) ?_)|(refine ac ?_ (hg _) ?_)|(refine ab ?_ (fun _=>hg _) ?_))|((refine bq (xs:=?_) [b0] ?_ ?_ ?_ rfl (hc _) ?_);rotate_left 1)|omega|((first|apply Ca|apply Cb)<;>intro hb)|refine Ai (by omega) ?_|(apply Ai<;>intro hb)|refine Fin.pure ?_ ?_ ?_|simp only[au])
 ·have e1:(cn v != 0)=true:=by simpa using h1
  rw[if_pos h1]
  refine ay rfl (fun cargs w=>call18 cargs w) func18 rfl mixed (by kernel_rfl) rfl ?_;intro b0 hb0
  (repeat' first|simp only[al,aj,results18,ntmps18,am,e1,ad,ai,seval,ah]|exact rfl|refine aa (v:=.any) ?_|((refine bq (xs:=?_) [b0] ?_ ?_ ?_ rfl (hc _) ?_);rotate_left 1)|omega|((first|apply Ca|apply Cb)<;>intro hb)|refine Ai (by omega) ?_|(apply Ai<;>intro hb)|refine Fin.pure ?_ ?_ ?_|simp only[au])
theorem Qd (n:Nd)(k:Fo)(sp:List UInt8)(hk1:n.kind=1)(hg:(Fo.cons n k .nil).good 12 0=true)(hl:k.size+1≤512)(hok:∀ x∈n::k.flat,x.okTo 1000000∧x.i64)(hs:sp.length≤bh)(hc0:cn (n::k.flat)=0)(ht0:aQ sp=0)(hg0:Rw sp=false)(r:V)(eff:List (Nat×Option Blk))(nm:Nat)
  (hr:(RZ ((Fo.cons n k .nil).bare sp)=true∧r = .tup [.nils,.int .i64 4]∧eff=[])∨(RZ ((Fo.cons n k .nil).bare sp)=false∧r = .tup [.own nm 0 ((Fo.cons n k .nil).bare sp).length,.int .i64 0]∧eff=[(nm,some ⟨6,((Fo.cons n k .nil).bare sp).map ba⟩)])) :
  Ev cx 18 nm [.sl false 6 ((n::k.flat).map ba),.str sp] aq.nil r eff:=by
 have hlen:(n::k.flat).length≤512:=by simp[Fo.flat_length];omega
 have hc:=pS (n::k.flat) (by unfold bh;omega) (fun x hx=>⟨kG (hok x hx).1 (by decide),(hok x hx).2⟩)
 have ht:=cV sp hs
 have hgv:=R7 sp
 rw[hc0]at hc;rw[ht0]at ht;rw[hg0]at hgv
 have hbl:=Fo.bare_len (.cons n k .nil) sp
 simp only[Fo.size]at hbl
 have hcall:=fun (ob pb lk:Nat) (d1:ob≠pb) (M:aq) (m:Nat) e1 e2 a1 a2 a3 a4 l1 l2 l3=>(Sl (n::k.flat) hlen hok ob pb d1 (.cons n k .nil) 12 0 hg (fun x hx=>by simpa [Fo.flat] using hx)).1 0 sp [] [] lk M m (by simp) (by simp;omega) e1 e2 a1 a2 a3 a4 l1 l2 l3
 have hcon:=fun (L:List Nd) (hL:L.length≤bh) nm=>gW L 58 [] Rd (fun x _ nm=>QC x nm) hL rfl nm
 simp only[List.nil_append,List.length_nil,Lo]at hcall
 unfold NX at hcall
 generalize (Fo.cons n k .nil).bare sp=T at hcall hr hbl
 generalize n::k.flat=v at hc hcall ⊢
 have hcon:=hcon T (by unfold bh;omega)
 have hcw:(T.any Rd)=RZ T:=rfl
 rw[hcw]at hcon
 have htt:(T.map ba).take T.length=T.map ba:=c7 _ _
 refine wR rfl (fun cargs w=>call18 cargs w) func18 rfl mixed (by kernel_rfl) rfl ?_;intro b0 hb0
 repeat' first|simp only[al,aj,results18,ntmps18,am,ai,seval,ah]|exact rfl|refine aa (v:=.any) ?_|((first|apply Ca|apply Cb)<;>intro hb)|refine Ai (by omega) ?_|(apply Ai<;>intro hb)
 (refine sS co (b0+16) ([(1,.str sp),(2,.rp [.sl false 6 (v.map ba)]),(4,.ptr b0 0 0)]) ([(b0,⟨1,[[.nils]]⟩)]) [some (b0+16)] ?_ ?_ ?_;(focus (show b0≤_;omega));(focus (refine⟨?_,?_⟩<;>(try simp only[bk,nc,ad,aV,jX,ai,seval,ah,au])<;>(try omega))))
 repeat' first|simp only[al,aj,results18,ntmps18,am,ad,ai,seval,ah]|exact rfl|refine aa (v:=.any) ?_|(first|(refine ac ?_ (hc _) ?_)|(refine ab ?_ (fun _=>hc _) ?_))|((first|apply Ca|apply Cb)<;>intro hb)|refine Ai (by omega) ?_|(apply Ai<;>intro hb)
 refine eY ?_
 repeat' first|simp only[al,aj,results18,ntmps18,am,ad,Bt,Bf,ai,seval,ah]|exact rfl|refine aa (v:=.any) ?_|(first|(refine ac ?_ (ht _) ?_)|(refine ab ?_ (fun _=>ht _) ?_)|(refine ac ?_ (hgv _) ?_)|(refine ab ?_ (fun _=>hgv _) ?_))|((first|apply Ca|apply Cb)<;>intro hb)|refine Ai (by omega) ?_|(apply Ai<;>intro hb)
 refine eY ?_
 repeat' first|simp only[al,aj,results18,ntmps18,am,ad,ai,seval,ah]|exact rfl|refine aa (v:=.any) ?_|((first|apply Ca|apply Cb)<;>intro hb)|refine Ai (by omega) ?_|(apply Ai<;>intro hb)
 refine eY ?_
 repeat' first|simp only[al,aj,results18,ntmps18,am,ad,ai,seval,ah]|exact rfl|refine aa (v:=.any) ?_|((first|apply Ca|apply Cb)<;>intro hb)|refine Ai (by omega) ?_|(apply Ai<;>intro hb)
 (refine rz co (b0+16) ([(1,.str sp),(4,.ptr b0 0 0),(7,.ptr (b0+1) 0 0)]) ([(b0,⟨1,[[.own (b0+2) 0 0]]⟩),(b0+1,⟨1,[[.fn 56 [.rp [.sl false 6 (v.map ba)],.ptr b0 0 0,.ptr (b0+1) 0 0]]]⟩),(b0+2,⟨6,[]⟩)]) [some b0,some (b0+208),none] ?_ ?_ ?_;(focus (show b0≤_;omega));(focus (refine⟨?_,?_⟩<;>(try simp only[bk,ad,aV,jX,Bool.and_self,Bool.and_false,Bool.false_and,Lm,ai,seval,ah,au])<;>(try omega))))
 cases hw:RZ T with
 | true =>
  have hre:r = .tup [.nils,.int .i64 4]∧eff=[]:=by
   rcases hr with ⟨_,h⟩|⟨h,_⟩
   ·exact h
   ·rw[hw]at h;cases h
  obtain⟨rfl,rfl⟩:=hre
  rw[hw]at hcon
  repeat' first|simp only[al,aj,results18,ntmps18,am,htt,ad,aR,Lm,ai,seval,ah]|exact rfl|refine aa (v:=.any) ?_|((refine bq (xs:=?_) [b0,b0+48] ?_ ?_ ?_ rfl (hcon _) ?_);rotate_left 1)|((refine dl (caps:=?_) ?_ ?_ [b0,b0+2,b0+1] (hcall b0 (b0+1) (b0+2) (by omega) _ _ (by omega) (by omega) ?_ ?_ ?_ ap (by omega) (by omega) (by omega)) ?_ ?_);rotate_left 1)|refine eY ?_|omega|((first|apply Ca|apply Cb)<;>intro hb)|refine Ai (by omega) ?_|(apply Ai<;>intro hb)
  all_goals ((refine Fin.pure ?_ ?_ ?_<;>simp only[am,ad,results18,ntmps18,ai,seval,ah]))
 | false =>
  have hre:r = .tup [.own nm 0 T.length,.int .i64 0]∧eff=[(nm,some ⟨6,T.map ba⟩)]:=by
   rcases hr with ⟨h,_⟩|⟨_,h⟩
   ·rw[hw]at h;cases h
   ·exact h
  obtain⟨rfl,rfl⟩:=hre
  rw[hw]at hcon
  repeat' first|simp only[al,aj,results18,ntmps18,am,htt,ad,aR,Lm,ai,seval,ah]|exact rfl|refine aa (v:=.any) ?_|((refine bq (xs:=?_) [b0,b0+48] ?_ ?_ ?_ rfl (hcon _) ?_);rotate_left 1)|((refine dl (caps:=?_) ?_ ?_ [b0,b0+2,b0+1] (hcall b0 (b0+1) (b0+2) (by omega) _ _ (by omega) (by omega) ?_ ?_ ?_ ap (by omega) (by omega) (by omega)) ?_ ?_);rotate_left 1)|refine eY ?_|omega|((first|apply Ca|apply Cb)<;>intro hb)|refine Ai (by omega) ?_|(apply Ai<;>intro hb)
  all_goals ((refine Fin.give [(b0+48,some 0)] [] ?_ ?_ ?_ ?_ ?_ (fun q hq=>by have hqq:=rJ q hq;first|(simp only[aF,tgt,Lc,Lo,Lk,Ln,or_false]at hqq ⊢;omega)|(simp only[aF,tgt,Lc,Lo,Lk,Ln,or_false]at hqq))<;>(try simp only[results18,ntmps18,am,ad,Lm,eH,ai,seval,ah])<;>(try simp only[au])<;>(try omega)))
theorem RI (v:List Nd)(sp:List UInt8)(hv:v.length≤bh)(hok:∀ n∈v,n.okTo 1000000∧n.i64)(hs:sp.length≤bh)(nm:Nat) :
  Ev cx 18 nm [.sl false 6 (v.map ba),.str sp] aq.nil (gw (Rp v sp).1 (Rp v sp).2) []:=by
 by_cases hbad:cn v≠0∨aQ sp≠0∨Rw sp=true
 ·have hb:Rp v sp=([],if cn v≠0 then cn v else 8):=by
   unfold Rp
   by_cases h1:cn v≠0
   ·rw[if_pos h1,if_pos h1]
   ·rw[if_neg h1,if_neg h1,if_pos (hbad.resolve_left h1)]
  rw[hb]
  refine Ev.res_le (Su v sp hv (fun x hx=>⟨kG (hok x hx).1 (by decide),(hok x hx).2⟩) hs hbad nm) ?_
  unfold gw
  simp only[pU,jc,kC,dA,ng,Lo,and_self]
 ·have h1:cn v=0:=Decidable.not_not.1 fun h=>hbad (.inl h)
  have h2:aQ sp=0:=Decidable.not_not.1 fun h=>hbad (.inr (.inl h))
  have h3:Rw sp=false:=by
   cases h:Rw sp with
   | false=>rfl
   | true=>exact absurd (.inr (.inr h)) hbad
  obtain⟨n,k,hk,rfl,hg,hl⟩:=RR (pP h1).2
  have hb:Rp (n::k.flat) sp=if RZ ((Fo.cons n k .nil).bare sp)=true then ([],4) else ((Fo.cons n k .nil).bare sp,0):=by
   unfold Rp
   rw[if_neg (by simpa using h1),if_neg (by rw[h2,h3];simp),RS hg]
  rw[hb]
  have hgood:=Qd n k sp hk hg hl hok hs h1 h2 h3
  generalize (Fo.cons n k .nil).bare sp=T at hgood ⊢
  cases hw:RZ T with
  | true =>
   rw[if_pos rfl]
   refine Ev.res_le (hgood _ _ nm (.inl ⟨hw,rfl,rfl⟩)) ?_
   unfold gw
   simp only[pU,jc,kC,dA,ng,Lo,and_self]
  | false =>
   rw[if_neg (by decide)]
   have hpl:=ad T
   have htk:(T.map ba).take T.length=T.map ba:=c7 _ _
   refine Ev.freeze (hgood _ _ nm (.inr ⟨hw,rfl,rfl⟩)) ?_ ?_
   ·simp only[al,aj,am,hpl,htk,Lm,ai,seval,ah]<;>omega
   ·unfold gw
    simp only[al,aj,am,hpl,htk,Lm,ai,seval,ah]
theorem QQ (v:List Nd)(hv:v.length≤bh)(hok:∀ n∈v,n.okTo bh∧n.i64)(h:fA v≠0∨v.any RJ=true)(nm:Nat) :
  Ev cx 16 nm [.sl false 6 (v.map ba)] aq.nil (.tup [.nils,.int .i64 8]) []:=by
 have hc:=pu v hv hok
 have hs:=gW v 45 [] RJ (fun n hn nm=>SA n (hok n hn).1.1 nm) hv rfl
 by_cases h1:fA v=0
 ·rw[h1]at hc
  rw[h.resolve_left (fun h=>h h1)]at hs
  refine ay rfl (fun cargs w=>call16 cargs w) func16 rfl mixed (by kernel_rfl) rfl ?_;intro b0 hb0
  (repeat' first|simp only[al,aj,results16,ntmps16,am,ad,ai,seval,ah]|exact rfl|refine aa (v:=.any) ?_|((refine bq (xs:=?_) [b0] ?_ ?_ ?_ rfl (hc _) ?_);rotate_left 1)|((refine bq (xs:=?_) [b0] ?_ ?_ ?_ rfl (hs _) ?_);rotate_left 1)|omega|((first|apply Ca|apply Cb)<;>intro hb)|refine Ai (by omega) ?_|(apply Ai<;>intro hb)|refine Fin.pure ?_ ?_ ?_|simp only[au])
 ·have h8:fA v=8:=by
   unfold fA at h1 ⊢
   split
   ·rfl
   ·rename_i g;rw[if_neg g]at h1;exact absurd rfl h1
  rw[h8]at hc
  refine ay rfl (fun cargs w=>call16 cargs w) func16 rfl mixed (by kernel_rfl) rfl ?_;intro b0 hb0
  (repeat' first|simp only[al,aj,results16,ntmps16,am,ad,ai,seval,ah]|exact rfl|refine aa (v:=.any) ?_|((refine bq (xs:=?_) [b0] ?_ ?_ ?_ rfl (hc _) ?_);rotate_left 1)|omega|((first|apply Ca|apply Cb)<;>intro hb)|refine Ai (by omega) ?_|(apply Ai<;>intro hb)|refine Fin.pure ?_ ?_ ?_|simp only[au])
theorem QF:Sf R4=[(.str [],.agg [.str []]),(.str [120,109,108],.agg [.str [104,116,116,112,58,47,47,119,119,119,46,119,51,46,111,114,103,47,88,77,76,47,49,57,57,56,47,110,97,109,101,115,112,97,99,101]])]:=rfl
theorem Qn (n:Nd)(k:Fo)(hk1:n.kind=1)(hg:(Fo.cons n k .nil).good 12 0=true)(hl:k.size+1≤512)(hok:∀ x∈n::k.flat,x.okTo 1000000∧x.i64)(hs0:(n::k.flat).any RJ=false)(r:V)(eff:List (Nat×Option Blk))(nm:Nat)
  (hr:(((Fo.cons n k .nil).res R4).2=false∧r = .tup [.nils,.int .i64 110]∧eff=[])∨(((Fo.cons n k .nil).res R4).2=true∧r = .tup [.own nm 0 ((Fo.cons n k .nil).res R4).1.length,.int .i64 0]∧eff=[(nm,some ⟨6,((Fo.cons n k .nil).res R4).1.map ba⟩)])) :
  Ev cx 16 nm [.sl false 6 ((n::k.flat).map ba)] aq.nil r eff:=by
 have hlen:(n::k.flat).length≤512:=by simp[Fo.flat_length];omega
 have hokL:∀ x∈n::k.flat,x.okTo bh∧x.i64:=fun x hx=>⟨kG (hok x hx).1 (by decide),(hok x hx).2⟩
 have hc:=pu (n::k.flat) (by unfold bh;omega) hokL
 rw[R5 hk1 hg hl]at hc
 have hs:=gW (n::k.flat) 45 [] RJ (fun n hn nm=>SA n (hokL n hn).1.1 nm) (by unfold bh;omega) rfl
 rw[hs0]at hs
 have hbl:=Fo.res_len (.cons n k .nil) R4
 simp only[Fo.size]at hbl
 have hcall:=fun (ob rb pb lk mk:Nat) (d1:ob≠pb) (d2:ob≠rb) (d3:rb≠pb) (M:aq) (m:Nat) e1 e2 e3 e4 e5 e6 e7 a0 a1 a2 a3 a4 a5 l1 l2 l3 l4 l5=>(SN (n::k.flat) hlen hok ob rb pb d1 d2 d3 (.cons n k .nil) 12 0 hg (fun x hx=>by simpa [Fo.flat] using hx)).1 0 R4 [] [] true lk mk M m (by simp) (by simp;omega) e1 e2 e3 e4 e5 e6 e7 a0 a1 a2 a3 a4 a5 l1 l2 l3 l4 l5
 simp only[List.nil_append,List.length_nil,Lo,Bool.true_and]at hcall
 unfold NY at hcall
 generalize (Fo.cons n k .nil).res R4=T at hcall hr hbl
 obtain⟨T,bT⟩:=T
 generalize n::k.flat=v at hc hs hcall ⊢
 dsimp only at hcall hr hbl
 have htt:(T.map ba).take T.length=T.map ba:=c7 _ _
 refine wR rfl (fun cargs w=>call16 cargs w) func16 rfl mixed (by kernel_rfl) rfl ?_;intro b0 hb0
 repeat' first|simp only[al,aj,results16,ntmps16,am,ai,seval,ah]|exact rfl|refine aa (v:=.any) ?_|((first|apply Ca|apply Cb)<;>intro hb)|refine Ai (by omega) ?_|(apply Ai<;>intro hb)
 (refine sS co (b0+16) ([(1,.rp [.sl false 6 (v.map ba)]),(2,.ptr b0 0 0)]) ([(b0,⟨1,[[.nils]]⟩)]) [some (b0+16)] ?_ ?_ ?_;(focus (show b0≤_;omega));(focus (refine⟨?_,?_⟩<;>(try simp only[bk,nc,ad,aV,jX,ai,seval,ah,au])<;>(try omega))))
 repeat' first|simp only[al,aj,results16,ntmps16,am,ad,ai,seval,ah]|exact rfl|refine aa (v:=.any) ?_|(first|(refine ac ?_ (hc _) ?_)|(refine ab ?_ (fun _=>hc _) ?_))|((first|apply Ca|apply Cb)<;>intro hb)|refine Ai (by omega) ?_|(apply Ai<;>intro hb)
 refine eY ?_
 repeat' first|simp only[al,aj,results16,ntmps16,am,ad,Bt,Bf,ai,seval,ah]|exact rfl|refine aa (v:=.any) ?_|(first|(refine ac ?_ (hs _) ?_)|(refine ab ?_ (fun _=>hs _) ?_))|((first|apply Ca|apply Cb)<;>intro hb)|refine Ai (by omega) ?_|(apply Ai<;>intro hb)
 refine eY ?_
 repeat' first|simp only[al,aj,results16,ntmps16,am,ad,ai,seval,ah]|exact rfl|refine aa (v:=.any) ?_|((first|apply Ca|apply Cb)<;>intro hb)|refine Ai (by omega) ?_|(apply Ai<;>intro hb)
 refine eY ?_
 repeat' first|simp only[al,aj,results16,ntmps16,am,ad,ai,seval,ah]|exact rfl|refine aa (v:=.any) ?_|((first|apply Ca|apply Cb)<;>intro hb)|refine Ai (by omega) ?_|(apply Ai<;>intro hb)
 refine eY ?_
 repeat' first|simp only[al,aj,results16,ntmps16,am,ad,ai,seval,ah]|exact rfl|refine aa (v:=.any) ?_|((first|apply Ca|apply Cb)<;>intro hb)|refine Ai (by omega) ?_|(apply Ai<;>intro hb)
 (refine rz co (b0+16) ([(2,.ptr b0 0 0),(5,.ptr (b0+1) 0 0),(6,.ptr (b0+2) 0 0)]) ([(b0,⟨1,[[.own (b0+3) 0 0]]⟩),(b0+1,⟨1,[[.bool true]]⟩),(b0+2,⟨1,[[.fn 46 [.rp [.sl false 6 (v.map ba)],.ptr b0 0 0,.ptr (b0+1) 0 0,.ptr (b0+2) 0 0]]]⟩),(b0+3,⟨6,[]⟩)]) [some b0,some (b0+128),some (b0+160),none] ?_ ?_ ?_;(focus (show b0≤_;omega));(focus (refine⟨?_,?_⟩<;>(try simp only[bk,ad,aV,jX,Bool.and_self,Bool.and_false,Bool.false_and,Lm,ai,seval,ah,au])<;>(try omega))))
 have hcl:=fun (M:aq) (m:Nat) a0 a1 a2 a3 a4 a5 l1 l2 l3 l4 l5=>hcall b0 (b0+1) (b0+2) (b0+3) (b0+32) (by omega) (by omega) (by omega) M m (by omega) (by omega) (by omega) (by omega) (by omega) (by omega) (by omega) a0 a1 a2 a3 a4 a5 l1 l2 l3 l4 l5
 cases bT with
 | false =>
  have hre:r = .tup [.nils,.int .i64 110]∧eff=[]:=by
   rcases hr with ⟨_,h⟩|⟨h,_⟩
   ·exact h
   ·cases h
  obtain⟨rfl,rfl⟩:=hre
  repeat' first|simp only[al,aj,results16,ntmps16,am,QF,htt,ad,aR,c6,bR,Bf,Lm,ai,seval,ah]|exact rfl|refine aa (v:=.any) ?_|((refine dl (caps:=?_) ?_ ?_ [b0+32,b0+1,b0,b0+3,b0+2] (hcl _ _ ?_ ?_ ?_ ?_ ?_ ap (by omega) (by omega) (by omega) (by omega) (by omega)) ?_ ?_);rotate_left 1)|(refine lA ?_)|(refine bm ?_)|(refine be ?_)|(refine nC (y:=?_) (kv:=?_) (xv:=?_) (kvs:=?_) ?_ ?_ ?_ ?_ Rb ?_ ?_ ?_ ?_ ?_;rotate_left 4;(iterate 4 (focus (simp only[results16,ntmps16,am,QF,htt,ad,aR,c6,bR,Bf,Lm,ai,seval,ah]<;>exact rfl)));(focus (kernel_rfl));(iterate 3 (focus (exact rfl))))|refine eY ?_|((first|apply Ca|apply Cb)<;>intro hb)|refine Ai (by omega) ?_|(apply Ai<;>intro hb)
  all_goals ((refine Fin.pure ?_ ?_ ?_<;>simp only[am,ad,results16,ntmps16,ai,seval,ah]))
 | true =>
  have hre:r = .tup [.own nm 0 T.length,.int .i64 0]∧eff=[(nm,some ⟨6,T.map ba⟩)]:=by
   rcases hr with ⟨h,_⟩|⟨_,h⟩
   ·cases h
   ·exact h
  obtain⟨rfl,rfl⟩:=hre
  repeat' first|simp only[al,aj,results16,ntmps16,am,QF,htt,ad,aR,c6,bR,Bt,Lm,ai,seval,ah]|exact rfl|refine aa (v:=.any) ?_|((refine dl (caps:=?_) ?_ ?_ [b0+32,b0+1,b0,b0+3,b0+2] (hcl _ _ ?_ ?_ ?_ ?_ ?_ ap (by omega) (by omega) (by omega) (by omega) (by omega)) ?_ ?_);rotate_left 1)|(refine lA ?_)|(refine bm ?_)|(refine be ?_)|(refine nC (y:=?_) (kv:=?_) (xv:=?_) (kvs:=?_) ?_ ?_ ?_ ?_ Rb ?_ ?_ ?_ ?_ ?_;rotate_left 4;(iterate 4 (focus (simp only[results16,ntmps16,am,QF,htt,ad,aR,c6,bR,Bt,Lm,ai,seval,ah]<;>exact rfl)));(focus (kernel_rfl));(iterate 3 (focus (exact rfl))))|refine eY ?_|((first|apply Ca|apply Cb)<;>intro hb)|refine Ai (by omega) ?_|(apply Ai<;>intro hb)
  all_goals ((refine Fin.give [(b0+128,some 0)] [] ?_ ?_ ?_ ?_ ?_ (fun q hq=>by have hqq:=rJ q hq;first|(simp only[aF,tgt,Lc,Lo,Lk,Ln,or_false]at hqq ⊢;omega)|(simp only[aF,tgt,Lc,Lo,Lk,Ln,or_false]at hqq))<;>(try simp only[results16,ntmps16,am,ad,Lm,eH,ai,seval,ah])<;>(try simp only[au])<;>(try omega)))
theorem RD (v:List Nd)(hv:v.length≤bh)(hok:∀ n∈v,n.okTo 1000000∧n.i64)(nm:Nat) :
  Ev cx 16 nm [.sl false 6 (v.map ba)] aq.nil (gw (Rq v).1 (Rq v).2) []:=by
 by_cases hbad:fA v≠0∨v.any RJ=true
 ·have hb:Rq v=([],8):=by
   unfold Rq
   by_cases h1:fA v≠0
   ·rw[if_pos h1]
   ·rw[if_neg h1,if_pos (hbad.resolve_left h1)]
  rw[hb]
  refine Ev.res_le (QQ v hv (fun x hx=>⟨kG (hok x hx).1 (by decide),(hok x hx).2⟩) hbad nm) ?_
  unfold gw
  simp only[pU,jc,kC,dA,ng,Lo,and_self]
 ·have h1:fA v=0:=Decidable.not_not.1 fun h=>hbad (.inl h)
  have h2:v.any RJ=false:=by
   cases h:v.any RJ with
   | false=>rfl
   | true=>exact absurd (.inr h) hbad
  obtain⟨n,k,hk,rfl,hg,hl⟩:=RR h1
  have hb:Rq (n::k.flat)=if ((Fo.cons n k .nil).res R4).2=true then (((Fo.cons n k .nil).res R4).1,0) else ([],110):=by
   unfold Rq
   rw[if_neg (by simpa using h1),if_neg (by rw[h2];decide),RS hg]
  rw[hb]
  have hgood:=Qn n k hk hg hl hok h2
  generalize (Fo.cons n k .nil).res R4=T at hgood ⊢
  obtain⟨T,bT⟩:=T
  dsimp only at hgood ⊢
  cases bT with
  | false =>
   rw[if_neg (by decide)]
   refine Ev.res_le (hgood _ _ nm (.inl ⟨rfl,rfl,rfl⟩)) ?_
   unfold gw
   simp only[pU,jc,kC,dA,ng,Lo,and_self]
  | true =>
   rw[if_pos rfl]
   have hpl:=ad T
   have htk:(T.map ba).take T.length=T.map ba:=c7 _ _
   refine Ev.freeze (hgood _ _ nm (.inr ⟨rfl,rfl,rfl⟩)) ?_ ?_
   ·simp only[al,aj,am,hpl,htk,Lm,ai,seval,ah]<;>omega
   ·unfold gw
    simp only[al,aj,am,hpl,htk,Lm,ai,seval,ah]
end Go.Proofs.YtidmkaalhmeflaaGreatDoor
