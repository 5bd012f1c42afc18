/-
 Texts joined: XOh,XOk.
-/
import Derived.Test.YtcllbjanalhjgaaGreatDoorR5
import Derived.Test.YtcllbjanalhjgaaGreatDoorQw
namespace Go.Proofs.YtcllbjanalhjgaaGreatDoor
set_option maxRecDepth 100000
set_option maxHeartbeats 32000000
set_option linter.unusedSimpArgs false
set_option linter.unusedVariables false
open Go Go.RowKit Vm Go.Lib Tryz
open Vm renaming be→Ca,bo→Cb
open And renaming intro→Ai
open List renaming length_map→Lm,not_mem_nil→Ln,map_nil→Lo,map_cons→Lc,mem_cons→Lk
open Bool renaming not_false→Bf,not_true→Bt
def Mi (n:Nd):Bool:=decide (16<n.attrs.length)
theorem E4 (v:List Nd)(sp:List UInt8)(hv:v.length≤bk)(hok:∀ n∈v,n.okTo bk∧n.i64)(hs:sp.length≤bk)(h:er v≠0∨aO sp≠0∨dO sp=true)(nm:Nat) :
  Ev cx 9 nm [.sl false 6 (v.map bc),.str sp] ao.nil (.tup [.nils,.int .i64 (if er v≠0 then er v else 8)]) []:=by
 have hc:=tV v hv hok
 have ht:=cP sp hs
 have hg:=nO sp
 by_cases h1:er v=0
 ·have e1:(er v != 0)=false:=by rw[h1];rfl
  rw[if_neg (by simpa using h1)]
  by_cases h2:aO sp=0
  ·have e2:(aO sp != 0)=false:=by rw[h2];rfl
   have h3:dO sp=true:=by rcases h with h|h|h;exact absurd h1 h;exact absurd h2 h;exact h
   rw[h3]at hg
   refine ay rfl (fun cargs w=>call9 cargs w) func9 rfl mixed (by kernel_rfl) rfl ?_;intro b0 hb0
   (repeat' first|simp only[am,ah,results9,ntmps9,ap,e1,e2,Bt,Bf,ai,ag,seval,ae]|exact rfl|refine aa (v:=.any) ?_|(first|(refine ac ?_ (ht _) ?_)|(refine ab ?_ (fun _=>ht _) ?_)|(refine ac ?_ (hg _) ?_)|(refine ab ?_ (fun _=>hg _) ?_))|((refine bn (xs:=?_) [b0] ?_ ?_ ?_ rfl (hc _) ?_);rotate_left 1)|omega|((first|apply Ca|apply Cb)<;>intro hb)|refine Ai (by omega) ?_|(apply Ai<;>intro hb)|refine Fin.pure ?_ ?_ ?_|simp only[au])
  ·have e2:(aO sp != 0)=true:=by simpa using h2
   refine ay rfl (fun cargs w=>call9 cargs w) func9 rfl mixed (by kernel_rfl) rfl ?_;intro b0 hb0
   (repeat' first|simp only[am,ah,results9,ntmps9,ap,e1,e2,Bt,Bf,ai,ag,seval,ae]|exact rfl|refine aa (v:=.any) ?_|(first|(refine ac ?_ (ht _) ?_)|(refine ab ?_ (fun _=>ht _) ?_)|(refine ac ?_ (hg _) ?_)|(refine ab ?_ (fun _=>hg _) ?_))|((refine bn (xs:=?_) [b0] ?_ ?_ ?_ rfl (hc _) ?_);rotate_left 1)|omega|((first|apply Ca|apply Cb)<;>intro hb)|refine Ai (by omega) ?_|(apply Ai<;>intro hb)|refine Fin.pure ?_ ?_ ?_|simp only[au])
 ·have e1:(er v != 0)=true:=by simpa using h1
  rw[if_pos h1]
  refine ay rfl (fun cargs w=>call9 cargs w) func9 rfl mixed (by kernel_rfl) rfl ?_;intro b0 hb0
  (repeat' first|simp only[am,ah,results9,ntmps9,ap,e1,ai,ag,seval,ae]|exact rfl|refine aa (v:=.any) ?_|((refine bn (xs:=?_) [b0] ?_ ?_ ?_ rfl (hc _) ?_);rotate_left 1)|omega|((first|apply Ca|apply Cb)<;>intro hb)|refine Ai (by omega) ?_|(apply Ai<;>intro hb)|refine Fin.pure ?_ ?_ ?_|simp only[au])
theorem Cm (n:Nd)(k:Fo)(sp:List UInt8)(hk1:n.kind=1)(hg:(Fo.cons n k .nil).good 12 0=true)(hl:k.size+1≤512)(hok:∀ x∈n::k.flat,x.okTo 1000000∧x.i64)(hs:sp.length≤bk)(hc0:er (n::k.flat)=0)(ht0:aO sp=0)(hg0:dO sp=false)(r:V)(eff:List (Nat×Option Blk))(nm:Nat)
  (hr:(pV ((Fo.cons n k .nil).bare sp)=true∧r = .tup [.nils,.int .i64 4]∧eff=[])∨(pV ((Fo.cons n k .nil).bare sp)=false∧r = .tup [.own nm 0 ((Fo.cons n k .nil).bare sp).length,.int .i64 0]∧eff=[(nm,some ⟨6,((Fo.cons n k .nil).bare sp).map bc⟩)])) :
  Ev cx 9 nm [.sl false 6 ((n::k.flat).map bc),.str sp] ao.nil r eff:=by
 have hlen:(n::k.flat).length≤512:=by simp[Fo.flat_length];omega
 have hc:=tV (n::k.flat) (by unfold bk;omega) (fun x hx=>⟨qD (hok x hx).1 (by decide),(hok x hx).2⟩)
 have ht:=cP sp hs
 have hgv:=nO sp
 rw[hc0]at hc;rw[ht0]at ht;rw[hg0]at hgv
 have hbl:=Fo.bare_len (.cons n k .nil) sp
 simp only[Fo.size]at hbl
 have hcall:=fun (ob pb lk:Nat) (d1:ob≠pb) (M:ao) (m:Nat) e1 e2 a1 a2 a3 a4 l1 l2 l3=>(qY (n::k.flat) hlen hok ob pb d1 (.cons n k .nil) 12 0 hg (fun x hx=>by simpa [Fo.flat] using hx)).1 0 sp [] [] lk M m (by simp) (by simp;omega) e1 e2 a1 a2 a3 a4 l1 l2 l3
 have hcon:=fun (L:List Nd) (hL:L.length≤bk) nm=>gq L 34 [] Mi (fun x _ nm=>E2 x nm) hL rfl nm
 simp only[List.nil_append,List.length_nil,Lo]at hcall
 unfold Md at hcall
 generalize (Fo.cons n k .nil).bare sp=T at hcall hr hbl
 generalize n::k.flat=v at hc hcall ⊢
 have hcon:=hcon T (by unfold bk;omega)
 have hcw:(T.any Mi)=pV T:=rfl
 rw[hcw]at hcon
 have htt:(T.map bc).take T.length=T.map bc:=cY _ _
 refine rC rfl (fun cargs w=>call9 cargs w) func9 rfl mixed (by kernel_rfl) rfl ?_;intro b0 hb0
 repeat' first|simp only[am,ah,results9,ntmps9,ap,ag,seval,ae]|exact rfl|refine aa (v:=.any) ?_|((first|apply Ca|apply Cb)<;>intro hb)|refine Ai (by omega) ?_|(apply Ai<;>intro hb)
 (refine sg cm (b0+16) ([(1,.str sp),(2,.rp [.sl false 6 (v.map bc)]),(4,.ptr b0 0 0)]) ([(b0,⟨1,[[.nils]]⟩)]) [some (b0+16)] ?_ ?_ ?_;(focus (show b0≤_;omega));(focus (refine⟨?_,?_⟩<;>(try simp only[bj,k7,ai,aU,iq,ag,seval,ae,au])<;>(try omega))))
 repeat' first|simp only[am,ah,results9,ntmps9,ap,ai,ag,seval,ae]|exact rfl|refine aa (v:=.any) ?_|(first|(refine ac ?_ (hc _) ?_)|(refine ab ?_ (fun _=>hc _) ?_))|((first|apply Ca|apply Cb)<;>intro hb)|refine Ai (by omega) ?_|(apply Ai<;>intro hb)
 refine dQ ?_
 repeat' first|simp only[am,ah,results9,ntmps9,ap,ai,Bt,Bf,ag,seval,ae]|exact rfl|refine aa (v:=.any) ?_|(first|(refine ac ?_ (ht _) ?_)|(refine ab ?_ (fun _=>ht _) ?_)|(refine ac ?_ (hgv _) ?_)|(refine ab ?_ (fun _=>hgv _) ?_))|((first|apply Ca|apply Cb)<;>intro hb)|refine Ai (by omega) ?_|(apply Ai<;>intro hb)
 refine dQ ?_
 repeat' first|simp only[am,ah,results9,ntmps9,ap,ai,ag,seval,ae]|exact rfl|refine aa (v:=.any) ?_|((first|apply Ca|apply Cb)<;>intro hb)|refine Ai (by omega) ?_|(apply Ai<;>intro hb)
 refine dQ ?_
 repeat' first|simp only[am,ah,results9,ntmps9,ap,ai,ag,seval,ae]|exact rfl|refine aa (v:=.any) ?_|((first|apply Ca|apply Cb)<;>intro hb)|refine Ai (by omega) ?_|(apply Ai<;>intro hb)
 (refine qA cm (b0+16) ([(1,.str sp),(4,.ptr b0 0 0),(7,.ptr (b0+1) 0 0)]) ([(b0,⟨1,[[.own (b0+2) 0 0]]⟩),(b0+1,⟨1,[[.fn 32 [.rp [.sl false 6 (v.map bc)],.ptr b0 0 0,.ptr (b0+1) 0 0]]]⟩),(b0+2,⟨6,[]⟩)]) [some b0,some (b0+208),none] ?_ ?_ ?_;(focus (show b0≤_;omega));(focus (refine⟨?_,?_⟩<;>(try simp only[bj,ai,aU,iq,Bool.and_self,Bool.and_false,Bool.false_and,Lm,ag,seval,ae,au])<;>(try omega))))
 cases hw:pV T with
 | true =>
  have hre:r = .tup [.nils,.int .i64 4]∧eff=[]:=by
   rcases hr with ⟨_,h⟩|⟨h,_⟩
   ·exact h
   ·rw[hw]at h;cases h
  obtain⟨rfl,rfl⟩:=hre
  rw[hw]at hcon
  repeat' first|simp only[am,ah,results9,ntmps9,ap,htt,ai,aP,Lm,ag,seval,ae]|exact rfl|refine aa (v:=.any) ?_|((refine bn (xs:=?_) [b0,b0+48] ?_ ?_ ?_ rfl (hcon _) ?_);rotate_left 1)|((refine c9 (caps:=?_) ?_ ?_ [b0,b0+2,b0+1] (hcall b0 (b0+1) (b0+2) (by omega) _ _ (by omega) (by omega) ?_ ?_ ?_ ak (by omega) (by omega) (by omega)) ?_ ?_);rotate_left 1)|refine dQ ?_|omega|((first|apply Ca|apply Cb)<;>intro hb)|refine Ai (by omega) ?_|(apply Ai<;>intro hb)
  all_goals ((refine Fin.pure ?_ ?_ ?_<;>simp only[ap,ai,results9,ntmps9,ag,seval,ae]))
 | false =>
  have hre:r = .tup [.own nm 0 T.length,.int .i64 0]∧eff=[(nm,some ⟨6,T.map bc⟩)]:=by
   rcases hr with ⟨h,_⟩|⟨_,h⟩
   ·rw[hw]at h;cases h
   ·exact h
  obtain⟨rfl,rfl⟩:=hre
  rw[hw]at hcon
  repeat' first|simp only[am,ah,results9,ntmps9,ap,htt,ai,aP,Lm,ag,seval,ae]|exact rfl|refine aa (v:=.any) ?_|((refine bn (xs:=?_) [b0,b0+48] ?_ ?_ ?_ rfl (hcon _) ?_);rotate_left 1)|((refine c9 (caps:=?_) ?_ ?_ [b0,b0+2,b0+1] (hcall b0 (b0+1) (b0+2) (by omega) _ _ (by omega) (by omega) ?_ ?_ ?_ ak (by omega) (by omega) (by omega)) ?_ ?_);rotate_left 1)|refine dQ ?_|omega|((first|apply Ca|apply Cb)<;>intro hb)|refine Ai (by omega) ?_|(apply Ai<;>intro hb)
  all_goals ((refine Fin.give [(b0+48,some 0)] [] ?_ ?_ ?_ ?_ ?_ (fun q hq=>by have hqq:=n9 q hq;first|(simp only[aD,tgt,Lc,Lo,Lk,Ln,or_false]at hqq ⊢;omega)|(simp only[aD,tgt,Lc,Lo,Lk,Ln,or_false]at hqq))<;>(try simp only[results9,ntmps9,ap,ai,Lm,ec,ag,seval,ae])<;>(try simp only[au])<;>(try omega)))
theorem E3 (v:List Nd)(sp:List UInt8)(hv:v.length≤bk)(hok:∀ n∈v,n.okTo 1000000∧n.i64)(hs:sp.length≤bk)(nm:Nat) :
  Ev cx 9 nm [.sl false 6 (v.map bc),.str sp] ao.nil (iT (g8 v sp).1 (g8 v sp).2) []:=by
 by_cases hbad:er v≠0∨aO sp≠0∨dO sp=true
 ·have hb:g8 v sp=([],if er v≠0 then er v else 8):=by
   unfold g8
   by_cases h1:er v≠0
   ·rw[if_pos h1,if_pos h1]
   ·rw[if_neg h1,if_neg h1,if_pos (hbad.resolve_left h1)]
  rw[hb]
  refine Ev.res_le (E4 v sp hv (fun x hx=>⟨qD (hok x hx).1 (by decide),(hok x hx).2⟩) hs hbad nm) ?_
  unfold iT
  simp only[pc,jI,l8,fy,pa,Lo,and_self]
 ·have h1:er v=0:=Decidable.not_not.1 fun h=>hbad (.inl h)
  have h2:aO sp=0:=Decidable.not_not.1 fun h=>hbad (.inr (.inl h))
  have h3:dO sp=false:=by
   cases h:dO sp with
   | false=>rfl
   | true=>exact absurd (.inr (.inr h)) hbad
  obtain⟨n,k,hk,rfl,hg,hl⟩:=sL (CB h1).2
  have hb:g8 (n::k.flat) sp=if pV ((Fo.cons n k .nil).bare sp)=true then ([],4) else ((Fo.cons n k .nil).bare sp,0):=by
   unfold g8
   rw[if_neg (by simpa using h1),if_neg (by rw[h2,h3];simp),vv hg]
  rw[hb]
  have hgood:=Cm n k sp hk hg hl hok hs h1 h2 h3
  generalize (Fo.cons n k .nil).bare sp=T at hgood ⊢
  cases hw:pV T with
  | true =>
   rw[if_pos rfl]
   refine Ev.res_le (hgood _ _ nm (.inl ⟨hw,rfl,rfl⟩)) ?_
   unfold iT
   simp only[pc,jI,l8,fy,pa,Lo,and_self]
  | false =>
   rw[if_neg (by decide)]
   have hpl:=ai T
   have htk:(T.map bc).take T.length=T.map bc:=cY _ _
   refine Ev.freeze (hgood _ _ nm (.inr ⟨hw,rfl,rfl⟩)) ?_ ?_
   ·simp only[am,ah,ap,hpl,htk,Lm,ag,seval,ae]<;>omega
   ·unfold iT
    simp only[am,ah,ap,hpl,htk,Lm,ag,seval,ae]
theorem Jm (v:List Nd)(hv:v.length≤bk)(hok:∀ n∈v,n.okTo bk∧n.i64)(h:eG v≠0∨v.any kN=true)(nm:Nat) :
  Ev cx 7 nm [.sl false 6 (v.map bc)] ao.nil (.tup [.nils,.int .i64 8]) []:=by
 have hc:=oD v hv hok
 have hs:=gq v 21 [] kN (fun n hn nm=>uU n (hok n hn).1.1 nm) hv rfl
 by_cases h1:eG v=0
 ·rw[h1]at hc
  rw[h.resolve_left (fun h=>h h1)]at hs
  refine ay rfl (fun cargs w=>call7 cargs w) func7 rfl mixed (by kernel_rfl) rfl ?_;intro b0 hb0
  (repeat' first|simp only[am,ah,results7,ntmps7,ap,ai,ag,seval,ae]|exact rfl|refine aa (v:=.any) ?_|((refine bn (xs:=?_) [b0] ?_ ?_ ?_ rfl (hc _) ?_);rotate_left 1)|((refine bn (xs:=?_) [b0] ?_ ?_ ?_ rfl (hs _) ?_);rotate_left 1)|omega|((first|apply Ca|apply Cb)<;>intro hb)|refine Ai (by omega) ?_|(apply Ai<;>intro hb)|refine Fin.pure ?_ ?_ ?_|simp only[au])
 ·have h8:eG v=8:=by
   unfold eG at h1 ⊢
   split
   ·rfl
   ·rename_i g;rw[if_neg g]at h1;exact absurd rfl h1
  rw[h8]at hc
  refine ay rfl (fun cargs w=>call7 cargs w) func7 rfl mixed (by kernel_rfl) rfl ?_;intro b0 hb0
  (repeat' first|simp only[am,ah,results7,ntmps7,ap,ai,ag,seval,ae]|exact rfl|refine aa (v:=.any) ?_|((refine bn (xs:=?_) [b0] ?_ ?_ ?_ rfl (hc _) ?_);rotate_left 1)|omega|((first|apply Ca|apply Cb)<;>intro hb)|refine Ai (by omega) ?_|(apply Ai<;>intro hb)|refine Fin.pure ?_ ?_ ?_|simp only[au])
theorem IH:pN wC=[(.str [],.agg [.str []]),(.str [120,109,108],.agg [.str [104,116,116,112,58,47,47,119,119,119,46,119,51,46,111,114,103,47,88,77,76,47,49,57,57,56,47,110,97,109,101,115,112,97,99,101]])]:=rfl
theorem GU (n:Nd)(k:Fo)(hk1:n.kind=1)(hg:(Fo.cons n k .nil).good 12 0=true)(hl:k.size+1≤512)(hok:∀ x∈n::k.flat,x.okTo 1000000∧x.i64)(hs0:(n::k.flat).any kN=false)(r:V)(eff:List (Nat×Option Blk))(nm:Nat)
  (hr:(((Fo.cons n k .nil).res wC).2=false∧r = .tup [.nils,.int .i64 110]∧eff=[])∨(((Fo.cons n k .nil).res wC).2=true∧r = .tup [.own nm 0 ((Fo.cons n k .nil).res wC).1.length,.int .i64 0]∧eff=[(nm,some ⟨6,((Fo.cons n k .nil).res wC).1.map bc⟩)])) :
  Ev cx 7 nm [.sl false 6 ((n::k.flat).map bc)] ao.nil r eff:=by
 have hlen:(n::k.flat).length≤512:=by simp[Fo.flat_length];omega
 have hokL:∀ x∈n::k.flat,x.okTo bk∧x.i64:=fun x hx=>⟨qD (hok x hx).1 (by decide),(hok x hx).2⟩
 have hc:=oD (n::k.flat) (by unfold bk;omega) hokL
 rw[tU hk1 hg hl]at hc
 have hs:=gq (n::k.flat) 21 [] kN (fun n hn nm=>uU n (hokL n hn).1.1 nm) (by unfold bk;omega) rfl
 rw[hs0]at hs
 have hbl:=Fo.res_len (.cons n k .nil) wC
 simp only[Fo.size]at hbl
 have hcall:=fun (ob rb pb lk mk:Nat) (d1:ob≠pb) (d2:ob≠rb) (d3:rb≠pb) (M:ao) (m:Nat) e1 e2 e3 e4 e5 e6 e7 a0 a1 a2 a3 a4 a5 l1 l2 l3 l4 l5=>(wl (n::k.flat) hlen hok ob rb pb d1 d2 d3 (.cons n k .nil) 12 0 hg (fun x hx=>by simpa [Fo.flat] using hx)).1 0 wC [] [] true lk mk M m (by simp) (by simp;omega) e1 e2 e3 e4 e5 e6 e7 a0 a1 a2 a3 a4 a5 l1 l2 l3 l4 l5
 simp only[List.nil_append,List.length_nil,Lo,Bool.true_and]at hcall
 unfold Mh at hcall
 generalize (Fo.cons n k .nil).res wC=T at hcall hr hbl
 obtain⟨T,bT⟩:=T
 generalize n::k.flat=v at hc hs hcall ⊢
 dsimp only at hcall hr hbl
 have htt:(T.map bc).take T.length=T.map bc:=cY _ _
 refine rC rfl (fun cargs w=>call7 cargs w) func7 rfl mixed (by kernel_rfl) rfl ?_;intro b0 hb0
 repeat' first|simp only[am,ah,results7,ntmps7,ap,ag,seval,ae]|exact rfl|refine aa (v:=.any) ?_|((first|apply Ca|apply Cb)<;>intro hb)|refine Ai (by omega) ?_|(apply Ai<;>intro hb)
 (refine sg cm (b0+16) ([(1,.rp [.sl false 6 (v.map bc)]),(2,.ptr b0 0 0)]) ([(b0,⟨1,[[.nils]]⟩)]) [some (b0+16)] ?_ ?_ ?_;(focus (show b0≤_;omega));(focus (refine⟨?_,?_⟩<;>(try simp only[bj,k7,ai,aU,iq,ag,seval,ae,au])<;>(try omega))))
 repeat' first|simp only[am,ah,results7,ntmps7,ap,ai,ag,seval,ae]|exact rfl|refine aa (v:=.any) ?_|(first|(refine ac ?_ (hc _) ?_)|(refine ab ?_ (fun _=>hc _) ?_))|((first|apply Ca|apply Cb)<;>intro hb)|refine Ai (by omega) ?_|(apply Ai<;>intro hb)
 refine dQ ?_
 repeat' first|simp only[am,ah,results7,ntmps7,ap,ai,Bt,Bf,ag,seval,ae]|exact rfl|refine aa (v:=.any) ?_|(first|(refine ac ?_ (hs _) ?_)|(refine ab ?_ (fun _=>hs _) ?_))|((first|apply Ca|apply Cb)<;>intro hb)|refine Ai (by omega) ?_|(apply Ai<;>intro hb)
 refine dQ ?_
 repeat' first|simp only[am,ah,results7,ntmps7,ap,ai,ag,seval,ae]|exact rfl|refine aa (v:=.any) ?_|((first|apply Ca|apply Cb)<;>intro hb)|refine Ai (by omega) ?_|(apply Ai<;>intro hb)
 refine dQ ?_
 repeat' first|simp only[am,ah,results7,ntmps7,ap,ai,ag,seval,ae]|exact rfl|refine aa (v:=.any) ?_|((first|apply Ca|apply Cb)<;>intro hb)|refine Ai (by omega) ?_|(apply Ai<;>intro hb)
 refine dQ ?_
 repeat' first|simp only[am,ah,results7,ntmps7,ap,ai,ag,seval,ae]|exact rfl|refine aa (v:=.any) ?_|((first|apply Ca|apply Cb)<;>intro hb)|refine Ai (by omega) ?_|(apply Ai<;>intro hb)
 (refine qA cm (b0+16) ([(2,.ptr b0 0 0),(5,.ptr (b0+1) 0 0),(6,.ptr (b0+2) 0 0)]) ([(b0,⟨1,[[.own (b0+3) 0 0]]⟩),(b0+1,⟨1,[[.bool true]]⟩),(b0+2,⟨1,[[.fn 22 [.rp [.sl false 6 (v.map bc)],.ptr b0 0 0,.ptr (b0+1) 0 0,.ptr (b0+2) 0 0]]]⟩),(b0+3,⟨6,[]⟩)]) [some b0,some (b0+128),some (b0+160),none] ?_ ?_ ?_;(focus (show b0≤_;omega));(focus (refine⟨?_,?_⟩<;>(try simp only[bj,ai,aU,iq,Bool.and_self,Bool.and_false,Bool.false_and,Lm,ag,seval,ae,au])<;>(try omega))))
 have hcl:=fun (M:ao) (m:Nat) a0 a1 a2 a3 a4 a5 l1 l2 l3 l4 l5=>hcall b0 (b0+1) (b0+2) (b0+3) (b0+32) (by omega) (by omega) (by omega) M m (by omega) (by omega) (by omega) (by omega) (by omega) (by omega) (by omega) a0 a1 a2 a3 a4 a5 l1 l2 l3 l4 l5
 cases bT with
 | false =>
  have hre:r = .tup [.nils,.int .i64 110]∧eff=[]:=by
   rcases hr with ⟨_,h⟩|⟨h,_⟩
   ·exact h
   ·cases h
  obtain⟨rfl,rfl⟩:=hre
  repeat' first|simp only[am,ah,results7,ntmps7,ap,IH,htt,ai,aP,cW,bN,Bf,Lm,ag,seval,ae]|exact rfl|refine aa (v:=.any) ?_|((refine c9 (caps:=?_) ?_ ?_ [b0+32,b0+1,b0,b0+3,b0+2] (hcl _ _ ?_ ?_ ?_ ?_ ?_ ak (by omega) (by omega) (by omega) (by omega) (by omega)) ?_ ?_);rotate_left 1)|(refine lg ?_)|(refine bh ?_)|(refine ba ?_)|(refine mP (y:=?_) (kv:=?_) (xv:=?_) (kvs:=?_) ?_ ?_ ?_ ?_ Nk ?_ ?_ ?_ ?_ ?_;rotate_left 4;(iterate 4 (focus (simp only[results7,ntmps7,ap,IH,htt,ai,aP,cW,bN,Bf,Lm,ag,seval,ae]<;>exact rfl)));(focus (kernel_rfl));(iterate 3 (focus (exact rfl))))|refine dQ ?_|((first|apply Ca|apply Cb)<;>intro hb)|refine Ai (by omega) ?_|(apply Ai<;>intro hb)
  all_goals ((refine Fin.pure ?_ ?_ ?_<;>simp only[ap,ai,results7,ntmps7,ag,seval,ae]))
 | true =>
  have hre:r = .tup [.own nm 0 T.length,.int .i64 0]∧eff=[(nm,some ⟨6,T.map bc⟩)]:=by
   rcases hr with ⟨h,_⟩|⟨_,h⟩
   ·cases h
   ·exact h
  obtain⟨rfl,rfl⟩:=hre
  repeat' first|simp only[am,ah,results7,ntmps7,ap,IH,htt,ai,aP,cW,bN,Bt,Lm,ag,seval,ae]|exact rfl|refine aa (v:=.any) ?_|((refine c9 (caps:=?_) ?_ ?_ [b0+32,b0+1,b0,b0+3,b0+2] (hcl _ _ ?_ ?_ ?_ ?_ ?_ ak (by omega) (by omega) (by omega) (by omega) (by omega)) ?_ ?_);rotate_left 1)|(refine lg ?_)|(refine bh ?_)|(refine ba ?_)|(refine mP (y:=?_) (kv:=?_) (xv:=?_) (kvs:=?_) ?_ ?_ ?_ ?_ Nk ?_ ?_ ?_ ?_ ?_;rotate_left 4;(iterate 4 (focus (simp only[results7,ntmps7,ap,IH,htt,ai,aP,cW,bN,Bt,Lm,ag,seval,ae]<;>exact rfl)));(focus (kernel_rfl));(iterate 3 (focus (exact rfl))))|refine dQ ?_|((first|apply Ca|apply Cb)<;>intro hb)|refine Ai (by omega) ?_|(apply Ai<;>intro hb)
  all_goals ((refine Fin.give [(b0+128,some 0)] [] ?_ ?_ ?_ ?_ ?_ (fun q hq=>by have hqq:=n9 q hq;first|(simp only[aD,tgt,Lc,Lo,Lk,Ln,or_false]at hqq ⊢;omega)|(simp only[aD,tgt,Lc,Lo,Lk,Ln,or_false]at hqq))<;>(try simp only[results7,ntmps7,ap,ai,Lm,ec,ag,seval,ae])<;>(try simp only[au])<;>(try omega)))
theorem lG (v:List Nd)(hv:v.length≤bk)(hok:∀ n∈v,n.okTo 1000000∧n.i64)(nm:Nat) :
  Ev cx 7 nm [.sl false 6 (v.map bc)] ao.nil (iT (bq v).1 (bq v).2) []:=by
 by_cases hbad:eG v≠0∨v.any kN=true
 ·have hb:bq v=([],8):=by
   unfold bq
   by_cases h1:eG v≠0
   ·rw[if_pos h1]
   ·rw[if_neg h1,if_pos (hbad.resolve_left h1)]
  rw[hb]
  refine Ev.res_le (Jm v hv (fun x hx=>⟨qD (hok x hx).1 (by decide),(hok x hx).2⟩) hbad nm) ?_
  unfold iT
  simp only[pc,jI,l8,fy,pa,Lo,and_self]
 ·have h1:eG v=0:=Decidable.not_not.1 fun h=>hbad (.inl h)
  have h2:v.any kN=false:=by
   cases h:v.any kN with
   | false=>rfl
   | true=>exact absurd (.inr h) hbad
  obtain⟨n,k,hk,rfl,hg,hl⟩:=sL h1
  have hb:bq (n::k.flat)=if ((Fo.cons n k .nil).res wC).2=true then (((Fo.cons n k .nil).res wC).1,0) else ([],110):=by
   unfold bq
   rw[if_neg (by simpa using h1),if_neg (by rw[h2];decide),vv hg]
  rw[hb]
  have hgood:=GU n k hk hg hl hok h2
  generalize (Fo.cons n k .nil).res wC=T at hgood ⊢
  obtain⟨T,bT⟩:=T
  dsimp only at hgood ⊢
  cases bT with
  | false =>
   rw[if_neg (by decide)]
   refine Ev.res_le (hgood _ _ nm (.inl ⟨rfl,rfl,rfl⟩)) ?_
   unfold iT
   simp only[pc,jI,l8,fy,pa,Lo,and_self]
  | true =>
   rw[if_pos rfl]
   have hpl:=ai T
   have htk:(T.map bc).take T.length=T.map bc:=cY _ _
   refine Ev.freeze (hgood _ _ nm (.inr ⟨rfl,rfl,rfl⟩)) ?_ ?_
   ·simp only[am,ah,ap,hpl,htk,Lm,ag,seval,ae]<;>omega
   ·unfold iT
    simp only[am,ah,ap,hpl,htk,Lm,ag,seval,ae]
end Go.Proofs.YtcllbjanalhjgaaGreatDoor
