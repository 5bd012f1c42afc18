/-
 Texts joined: XOh,XOk.
-/
import Derived.Test.YtjonibipieofcaaGreatDoorR5
import Derived.Test.YtjonibipieofcaaGreatDoorQw
set_option linter.all false
namespace Go.Proofs.YtjonibipieofcaaGreatDoor
set_option maxRecDepth 100000
set_option maxHeartbeats 32000000
open Go Go.RowKit Vm Go.Lib Tryz
open Vm renaming aI->Ca,aP->Cb
open And renaming intro->Ai
open List renaming length_map->Lm,not_mem_nil->Ln,map_nil->Lo,map_cons->Lc,mem_cons->Lk
open Bool renaming not_false->Bf,not_true->Bt
def NE (n:Nd):Bool:=decide (16<n.attrs.length)
def Fx (v:List Nd)(sp:List UInt8)(hv:v.length<=aT)(hok:∀ n∈v,n.okTo aT/\n.i64)(hs:sp.length<=aT)(h:cn v≠0\/aF sp≠0\/dN sp=true)(nm:Nat) :
  Ev cx 90 nm [.sl false 6 (v.map aD),.str sp] ao.nil (.tup [.nils,.int .i64 (if cn v≠0 then cn v else 8)]) []:=by
 have hc:=pm v hv hok
 have ht:=db sp hs
 have hg:=sq sp
 by_cases h1:cn v=0
 ·have e1:(cn v != 0)=false:=by rw[h1];rfl
  rw[if_neg (by simpa using h1)]
  by_cases h2:aF sp=0
  ·have e2:(aF sp != 0)=false:=by rw[h2];rfl
   have h3:dN sp=true:=by rcases h with h|h|h;exact absurd h1 h;exact absurd h2 h;exact h
   rw[h3]at hg
   refine aX call90 func90 ?_;intro b0 hb0
   (repeat' first|simp only[au,ap,results90,ntmps90,am,e1,e2,Bt,Bf,ae,aj,ai,seval]|exact rfl|refine aa (v:=.any) ?_|(first|(refine ah ?_ (ht _) ?_)|(refine ac ?_ (fun _=>ht _) ?_)|(refine ah ?_ (hg _) ?_)|(refine ac ?_ (fun _=>hg _) ?_))|((refine bg (xs:=?_) [b0] ?_ ?_ ?_ rfl (hc _) ?_);rotate_left 1)|omega|((first|apply Ca|apply Cb)<;>intro hb)|refine Ai (by omega) ?_|(apply Ai<;>intro hb)|apply Fin.pure|simp only[aq])
  ·have e2:(aF sp != 0)=true:=by simpa using h2
   refine aX call90 func90 ?_;intro b0 hb0
   (repeat' first|simp only[au,ap,results90,ntmps90,am,e1,e2,Bt,Bf,ae,aj,ai,seval]|exact rfl|refine aa (v:=.any) ?_|(first|(refine ah ?_ (ht _) ?_)|(refine ac ?_ (fun _=>ht _) ?_)|(refine ah ?_ (hg _) ?_)|(refine ac ?_ (fun _=>hg _) ?_))|((refine bg (xs:=?_) [b0] ?_ ?_ ?_ rfl (hc _) ?_);rotate_left 1)|omega|((first|apply Ca|apply Cb)<;>intro hb)|refine Ai (by omega) ?_|(apply Ai<;>intro hb)|apply Fin.pure|simp only[aq])
 ·have e1:(cn v != 0)=true:=by simpa using h1
  rw[if_pos h1]
  refine aX call90 func90 ?_;intro b0 hb0
  (repeat' first|simp only[au,ap,results90,ntmps90,am,e1,ae,aj,ai,seval]|exact rfl|refine aa (v:=.any) ?_|((refine bg (xs:=?_) [b0] ?_ ?_ ?_ rfl (hc _) ?_);rotate_left 1)|omega|((first|apply Ca|apply Cb)<;>intro hb)|refine Ai (by omega) ?_|(apply Ai<;>intro hb)|apply Fin.pure|simp only[aq])
def CI (n:Nd)(k:Fo)(sp:List UInt8)(hk1:n.kind=1)(hg:(Fo.cons n k .nil).good 12 0=true)(hl:k.size+1<=512)(hok:∀ x∈n::k.flat,x.okTo 1000000/\x.i64)(hs:sp.length<=aT)(hc0:cn (n::k.flat)=0)(ht0:aF sp=0)(hg0:dN sp=false)(r:V)(eff:List (Nat×Option Blk))(nm:Nat)
  (hr:(kZ ((Fo.cons n k .nil).bare sp)=true/\r = .tup [.nils,.int .i64 4]/\eff=[])\/(kZ ((Fo.cons n k .nil).bare sp)=false/\r = .tup [.own nm 0 ((Fo.cons n k .nil).bare sp).length,.int .i64 0]/\eff=[(nm,some ⟨6,((Fo.cons n k .nil).bare sp).map aD⟩)])) :
  Ev cx 90 nm [.sl false 6 ((n::k.flat).map aD),.str sp] ao.nil r eff:=by
 have hlen:(n::k.flat).length<=512:=by simp[Fo.flat_length];omega
 have hc:=pm (n::k.flat) (by unfold aT;omega) (fun x hx=>⟨cW (hok x hx).1 (by decide),(hok x hx).2⟩)
 have ht:=db sp hs
 have hgv:=sq sp
 rw[hc0]at hc;rw[ht0]at ht;rw[hg0]at hgv
 have hbl:=Fo.bare_len (.cons n k .nil) sp
 simp only[Fo.size]at hbl
 have hcall:=fun (ob pb lk:Nat) (d1:ob≠pb) (M:ao) (m:Nat) e1 e2 a1 a2 a3 a4 l1 l2 l3=>(rI (n::k.flat) hlen hok ob pb d1 (.cons n k .nil) 12 0 hg (fun x hx=>by simpa [Fo.flat] using hx)).1 0 sp [] [] lk M m (by simp) (by simp;omega) e1 e2 a1 a2 a3 a4 l1 l2 l3
 have hcon:=fun (L:List Nd) (hL:L.length<=aT) nm=>mP L 128 [] NE (fun x _ nm=>Fv x nm) hL rfl nm
 simp only[List.nil_append,List.length_nil,Lo]at hcall
 unfold NA at hcall
 generalize (Fo.cons n k .nil).bare sp=T at hcall hr hbl
 generalize n::k.flat=v at hc hcall ⊢
 have hcon:=hcon T (by unfold aT;omega)
 have hcw:(T.any NE)=kZ T:=rfl
 rw[hcw]at hcon
 have htt:(T.map aD).take T.length=T.map aD:=ba _ _
 refine iP rfl call90 func90 rfl mixed (by kernel_rfl) rfl ?_;intro b0 hb0
 refine wR (a2 results90 ntmps90) trivial ?_
 (refine aY jI (b0+16) ([(1,.str sp),(2,.rp [.sl false 6 (v.map aD)]),(4,.ptr b0 0 0)]) ([(b0,⟨1,[[.nils]]⟩)]) [some (b0+16)] ?_ ?_ ?_;(focus (show b0<=_;omega));(focus (refine⟨?_,?_⟩<;>(try simp only[aE,cL,ae,al,az,aj,ai,aq,seval])<;>(try omega))))
 refine wR (a3 results90 ntmps90 @ae) hc ?_
 refine bj ?_
 refine wR (a3 results90 ntmps90 @ae) (a2 ht hgv) ?_
 refine bj ?_
 refine wR (a3 results90 ntmps90 @ae) trivial ?_
 refine bj ?_
 refine wR (a3 results90 ntmps90 @ae) trivial ?_
 (refine oG jI (b0+16) ([(1,.str sp),(4,.ptr b0 0 0),(7,.ptr (b0+1) 0 0)]) ([(b0,⟨1,[[.own (b0+2) 0 0]]⟩),(b0+1,⟨1,[[.fn 126 [.rp [.sl false 6 (v.map aD)],.ptr b0 0 0,.ptr (b0+1) 0 0]]]⟩),(b0+2,⟨6,[]⟩)]) [some b0,some (b0+208),none] ?_ ?_ ?_;(focus (show b0<=_;omega));(focus (refine⟨?_,?_⟩<;>(try simp only[aE,ae,al,az,Bool.and_self,Bool.and_false,Bool.false_and,Lm,aj,ai,aq,seval])<;>(try omega))))
 cases hw:kZ T with
 | true =>
  have hre:r = .tup [.nils,.int .i64 4]/\eff=[]:=by
   rcases hr with ⟨_,h⟩|⟨h,_⟩
   ·exact h
   ·rw[hw]at h;cases h
  obtain⟨rfl,rfl⟩:=hre
  rw[hw]at hcon
  repeat' first|simp only[au,ap,results90,ntmps90,am,htt,ae,aA,Lm,aj,ai,seval]|exact rfl|refine aa (v:=.any) ?_|((refine bg (xs:=?_) [b0,b0+48] ?_ ?_ ?_ rfl (hcon _) ?_);rotate_left 1)|((refine dv (caps:=?_) ?_ ?_ [b0,b0+2,b0+1] (hcall b0 (b0+1) (b0+2) (by omega) _ _ (by omega) (by omega) ?_ ?_ ?_ aN (by omega) (by omega) (by omega)) ?_ ?_);rotate_left 1)|refine bj ?_|omega|((first|apply Ca|apply Cb)<;>intro hb)|refine Ai (by omega) ?_|(apply Ai<;>intro hb)
  all_goals ((apply Fin.pure<;>simp only[am,ae,results90,ntmps90,aj,ai,seval]))
 | false =>
  have hre:r = .tup [.own nm 0 T.length,.int .i64 0]/\eff=[(nm,some ⟨6,T.map aD⟩)]:=by
   rcases hr with ⟨h,_⟩|⟨_,h⟩
   ·rw[hw]at h;cases h
   ·exact h
  obtain⟨rfl,rfl⟩:=hre
  rw[hw]at hcon
  repeat' first|simp only[au,ap,results90,ntmps90,am,htt,ae,aA,Lm,aj,ai,seval]|exact rfl|refine aa (v:=.any) ?_|((refine bg (xs:=?_) [b0,b0+48] ?_ ?_ ?_ rfl (hcon _) ?_);rotate_left 1)|((refine dv (caps:=?_) ?_ ?_ [b0,b0+2,b0+1] (hcall b0 (b0+1) (b0+2) (by omega) _ _ (by omega) (by omega) ?_ ?_ ?_ aN (by omega) (by omega) (by omega)) ?_ ?_);rotate_left 1)|refine bj ?_|omega|((first|apply Ca|apply Cb)<;>intro hb)|refine Ai (by omega) ?_|(apply Ai<;>intro hb)
  all_goals ((refine Fin.give [(b0+48,some 0)] [] ?_ ?_ ?_ ?_ ?_ (bA iC (by simp[bt,tgt]))<;>(try simp only[results90,ntmps90,am,ae,Lm,jK,aj,ai,seval])<;>(try simp only[aq])<;>(try omega)))
def Fw (v:List Nd)(sp:List UInt8)(hv:v.length<=aT)(hok:∀ n∈v,n.okTo 1000000/\n.i64)(hs:sp.length<=aT)(nm:Nat) :
  Ev cx 90 nm [.sl false 6 (v.map aD),.str sp] ao.nil (qD (bC v sp).1 (bC v sp).2) []:=by
 by_cases hbad:cn v≠0\/aF sp≠0\/dN sp=true
 ·have hb:bC v sp=([],if cn v≠0 then cn v else 8):=by
   unfold bC
   by_cases h1:cn v≠0
   ·rw[if_pos h1,if_pos h1]
   ·rw[if_neg h1,if_neg h1,if_pos (hbad.resolve_left h1)]
  rw[hb]
  refine Ev.res_le (Fx v sp hv (fun x hx=>⟨cW (hok x hx).1 (by decide),(hok x hx).2⟩) hs hbad nm) ?_
  unfold qD
  simp only[pI,dO,eU,ct,jx,Lo,and_self]
 ·have h1:cn v=0:=Decidable.not_not.1 fun h=>hbad (.inl h)
  have h2:aF sp=0:=Decidable.not_not.1 fun h=>hbad (.inr (.inl h))
  have h3:dN sp=false:=by
   cases h:dN sp with
   | false=>rfl
   | true=>exact absurd (.inr (.inr h)) hbad
  obtain⟨n,k,hk,rfl,hg,hl⟩:=ma (uC h1).2
  have hb:bC (n::k.flat) sp=if kZ ((Fo.cons n k .nil).bare sp)=true then ([],4) else ((Fo.cons n k .nil).bare sp,0):=by
   unfold bC
   rw[if_neg (by simpa using h1),if_neg (by rw[h2,h3];simp),re hg]
  rw[hb]
  have hgood:=CI n k sp hk hg hl hok hs h1 h2 h3
  generalize (Fo.cons n k .nil).bare sp=T at hgood ⊢
  cases hw:kZ T with
  | true =>
   rw[if_pos rfl]
   refine Ev.res_le (hgood _ _ nm (.inl ⟨hw,rfl,rfl⟩)) ?_
   unfold qD
   simp only[pI,dO,eU,ct,jx,Lo,and_self]
  | false =>
   rw[if_neg (by decide)]
   have hpl:=ae T
   have htk:(T.map aD).take T.length=T.map aD:=ba _ _
   refine Ev.freeze (hgood _ _ nm (.inr ⟨hw,rfl,rfl⟩)) ?_ ?_
   ·simp only[au,ap,am,hpl,htk,Lm,aj,ai,seval]<;>omega
   ·unfold qD
    simp only[au,ap,am,hpl,htk,Lm,aj,ai,seval]
end Go.Proofs.YtjonibipieofcaaGreatDoor
