/-
 Texts joined: XOh,XOk.
-/
import Derived.Test.YtlnlopnpcmahgaaGreatDoorR5
import Derived.Test.YtlnlopnpcmahgaaGreatDoorQw
set_option linter.all false
namespace Go.Proofs.YtlnlopnpcmahgaaGreatDoor
set_option maxRecDepth 100000
set_option maxHeartbeats 32000000
open Go Go.RowKit Vm Go.Lib Tryz
open Vm renaming aH->Ca,aL->Cb
open And renaming intro->Ai
open List renaming length_map->Lm,not_mem_nil->Ln,map_nil->Lo,map_cons->Lc,mem_cons->Lk
open Bool renaming not_false->Bf,not_true->Bt
def Js (n:Nd):Bool:=decide (16<n.attrs.length)
def CA (v:List Nd)(sp:List UInt8)(hv:v.length<=aS)(hok:∀ n∈v,n.okTo aS/\n.i64)(hs:sp.length<=aS)(h:ct v≠0\/az sp≠0\/cZ sp=true)(nm:Nat) :
  Ev cx 45 nm [.sl false 6 (v.map aG),.str sp] am.nil (.tup [.nils,.int .i64 (if ct v≠0 then ct v else 8)]) []:=by
 have hc:=sb v hv hok
 have ht:=cE sp hs
 have hg:=qd sp
 by_cases h1:ct v=0
 ·have e1:(ct v != 0)=false:=by rw[h1];rfl
  rw[if_neg (by simpa using h1)]
  by_cases h2:az sp=0
  ·have e2:(az sp != 0)=false:=by rw[h2];rfl
   have h3:cZ sp=true:=by rcases h with h|h|h;exact absurd h1 h;exact absurd h2 h;exact h
   rw[h3]at hg
   refine aV call45 func45 rfl (by kernel_rfl) rfl ?_;intro b0 hb0
   (repeat' first|simp only[aj,ag,results45,ntmps45,ap,e1,e2,Bt,Bf,ad,ai,seval,ah]|exact rfl|refine aa (v:=.any) ?_|(first|(refine ac ?_ (ht _) ?_)|(refine ab ?_ (fun _=>ht _) ?_)|(refine ac ?_ (hg _) ?_)|(refine ab ?_ (fun _=>hg _) ?_))|((refine b7 (xs:=?_) [b0] ?_ ?_ ?_ rfl (hc _) ?_);rotate_left 1)|omega|((first|apply Ca|apply Cb)<;>intro hb)|refine Ai (by omega) ?_|(apply Ai<;>intro hb)|refine Fin.pure ?_ ?_ ?_|simp only[al])
  ·have e2:(az sp != 0)=true:=by simpa using h2
   refine aV call45 func45 rfl (by kernel_rfl) rfl ?_;intro b0 hb0
   (repeat' first|simp only[aj,ag,results45,ntmps45,ap,e1,e2,Bt,Bf,ad,ai,seval,ah]|exact rfl|refine aa (v:=.any) ?_|(first|(refine ac ?_ (ht _) ?_)|(refine ab ?_ (fun _=>ht _) ?_)|(refine ac ?_ (hg _) ?_)|(refine ab ?_ (fun _=>hg _) ?_))|((refine b7 (xs:=?_) [b0] ?_ ?_ ?_ rfl (hc _) ?_);rotate_left 1)|omega|((first|apply Ca|apply Cb)<;>intro hb)|refine Ai (by omega) ?_|(apply Ai<;>intro hb)|refine Fin.pure ?_ ?_ ?_|simp only[al])
 ·have e1:(ct v != 0)=true:=by simpa using h1
  rw[if_pos h1]
  refine aV call45 func45 rfl (by kernel_rfl) rfl ?_;intro b0 hb0
  (repeat' first|simp only[aj,ag,results45,ntmps45,ap,e1,ad,ai,seval,ah]|exact rfl|refine aa (v:=.any) ?_|((refine b7 (xs:=?_) [b0] ?_ ?_ ?_ rfl (hc _) ?_);rotate_left 1)|omega|((first|apply Ca|apply Cb)<;>intro hb)|refine Ai (by omega) ?_|(apply Ai<;>intro hb)|refine Fin.pure ?_ ?_ ?_|simp only[al])
def zM (n:Nd)(k:Fo)(sp:List UInt8)(hk1:n.kind=1)(hg:(Fo.cons n k .nil).good 12 0=true)(hl:k.size+1<=512)(hok:∀ x∈n::k.flat,x.okTo 1000000/\x.i64)(hs:sp.length<=aS)(hc0:ct (n::k.flat)=0)(ht0:az sp=0)(hg0:cZ sp=false)(r:V)(eff:List (Nat×Option Blk))(nm:Nat)
  (hr:(js ((Fo.cons n k .nil).bare sp)=true/\r = .tup [.nils,.int .i64 4]/\eff=[])\/(js ((Fo.cons n k .nil).bare sp)=false/\r = .tup [.own nm 0 ((Fo.cons n k .nil).bare sp).length,.int .i64 0]/\eff=[(nm,some ⟨6,((Fo.cons n k .nil).bare sp).map aG⟩)])) :
  Ev cx 45 nm [.sl false 6 ((n::k.flat).map aG),.str sp] am.nil r eff:=by
 have hlen:(n::k.flat).length<=512:=by simp[Fo.flat_length];omega
 have hc:=sb (n::k.flat) (by unfold aS;omega) (fun x hx=>⟨eZ (hok x hx).1 (by decide),(hok x hx).2⟩)
 have ht:=cE sp hs
 have hgv:=qd sp
 rw[hc0]at hc;rw[ht0]at ht;rw[hg0]at hgv
 have hbl:=Fo.bare_len (.cons n k .nil) sp
 simp only[Fo.size]at hbl
 have hcall:=fun (ob pb lk:Nat) (d1:ob≠pb) (M:am) (m:Nat) e1 e2 a1 a2 a3 a4 l1 l2 l3=>(pF (n::k.flat) hlen hok ob pb d1 (.cons n k .nil) 12 0 hg (fun x hx=>by simpa [Fo.flat] using hx)).1 0 sp [] [] lk M m (by simp) (by simp;omega) e1 e2 a1 a2 a3 a4 l1 l2 l3
 have hcon:=fun (L:List Nd) (hL:L.length<=aS) nm=>kV L 79 [] Js (fun x _ nm=>Cy x nm) hL rfl nm
 simp only[List.nil_append,List.length_nil,Lo]at hcall
 unfold Jp at hcall
 generalize (Fo.cons n k .nil).bare sp=T at hcall hr hbl
 generalize n::k.flat=v at hc hcall ⊢
 have hcon:=hcon T (by unfold aS;omega)
 have hcw:(T.any Js)=js T:=rfl
 rw[hcw]at hcon
 have htt:(T.map aG).take T.length=T.map aG:=bF _ _
 refine nk rfl call45 func45 rfl mixed (by kernel_rfl) rfl ?_;intro b0 hb0;have zF:=Ai results45 ntmps45
 repeat' first|simp only[aj,ag,zF,ap,ai,seval,ah]|exact rfl|refine aa (v:=.any) ?_|((first|apply Ca|apply Cb)<;>intro hb)|refine Ai (by omega) ?_|(apply Ai<;>intro hb)
 (refine iV bu (b0+16) ([(1,.str sp),(2,.rp [.sl false 6 (v.map aG)]),(4,.ptr b0 0 0)]) ([(b0,⟨1,[[.nils]]⟩)]) [some (b0+16)] ?_ ?_ ?_;(focus (show b0<=_;omega));(focus (refine⟨?_,?_⟩<;>(try simp only[aM,pI,ad,aB,aQ,ai,seval,ah,al])<;>(try omega))))
 repeat' first|simp only[aj,ag,zF,ap,ad,ai,seval,ah]|exact rfl|refine aa (v:=.any) ?_|(first|(refine ac ?_ (hc _) ?_)|(refine ab ?_ (fun _=>hc _) ?_))|((first|apply Ca|apply Cb)<;>intro hb)|refine Ai (by omega) ?_|(apply Ai<;>intro hb)
 refine ee ?_
 repeat' first|simp only[aj,ag,zF,ap,ad,Bt,Bf,ai,seval,ah]|exact rfl|refine aa (v:=.any) ?_|(first|(refine ac ?_ (ht _) ?_)|(refine ab ?_ (fun _=>ht _) ?_)|(refine ac ?_ (hgv _) ?_)|(refine ab ?_ (fun _=>hgv _) ?_))|((first|apply Ca|apply Cb)<;>intro hb)|refine Ai (by omega) ?_|(apply Ai<;>intro hb)
 refine ee ?_
 repeat' first|simp only[aj,ag,zF,ap,ad,ai,seval,ah]|exact rfl|refine aa (v:=.any) ?_|((first|apply Ca|apply Cb)<;>intro hb)|refine Ai (by omega) ?_|(apply Ai<;>intro hb)
 refine ee ?_
 repeat' first|simp only[aj,ag,zF,ap,ad,ai,seval,ah]|exact rfl|refine aa (v:=.any) ?_|((first|apply Ca|apply Cb)<;>intro hb)|refine Ai (by omega) ?_|(apply Ai<;>intro hb)
 (refine mu bu (b0+16) ([(1,.str sp),(4,.ptr b0 0 0),(7,.ptr (b0+1) 0 0)]) ([(b0,⟨1,[[.own (b0+2) 0 0]]⟩),(b0+1,⟨1,[[.fn 76 [.rp [.sl false 6 (v.map aG)],.ptr b0 0 0,.ptr (b0+1) 0 0]]]⟩),(b0+2,⟨6,[]⟩)]) [some b0,some (b0+208),none] ?_ ?_ ?_;(focus (show b0<=_;omega));(focus (refine⟨?_,?_⟩<;>(try simp only[aM,ad,aB,aQ,Bool.and_self,Bool.and_false,Bool.false_and,Lm,ai,seval,ah,al])<;>(try omega))))
 cases hw:js T with
 | true =>
  have hre:r = .tup [.nils,.int .i64 4]/\eff=[]:=by
   rcases hr with ⟨_,h⟩|⟨h,_⟩
   ·exact h
   ·rw[hw]at h;cases h
  obtain⟨rfl,rfl⟩:=hre
  rw[hw]at hcon
  repeat' first|simp only[aj,ag,zF,ap,htt,ad,aI,Lm,ai,seval,ah]|exact rfl|refine aa (v:=.any) ?_|((refine b7 (xs:=?_) [b0,b0+48] ?_ ?_ ?_ rfl (hcon _) ?_);rotate_left 1)|((refine cN (caps:=?_) ?_ ?_ [b0,b0+2,b0+1] (hcall b0 (b0+1) (b0+2) (by omega) _ _ (by omega) (by omega) ?_ ?_ ?_ aP (by omega) (by omega) (by omega)) ?_ ?_);rotate_left 1)|refine ee ?_|omega|((first|apply Ca|apply Cb)<;>intro hb)|refine Ai (by omega) ?_|(apply Ai<;>intro hb)
  all_goals ((refine Fin.pure ?_ ?_ ?_<;>simp only[ap,ad,zF,ai,seval,ah]))
 | false =>
  have hre:r = .tup [.own nm 0 T.length,.int .i64 0]/\eff=[(nm,some ⟨6,T.map aG⟩)]:=by
   rcases hr with ⟨h,_⟩|⟨_,h⟩
   ·rw[hw]at h;cases h
   ·exact h
  obtain⟨rfl,rfl⟩:=hre
  rw[hw]at hcon
  repeat' first|simp only[aj,ag,zF,ap,htt,ad,aI,Lm,ai,seval,ah]|exact rfl|refine aa (v:=.any) ?_|((refine b7 (xs:=?_) [b0,b0+48] ?_ ?_ ?_ rfl (hcon _) ?_);rotate_left 1)|((refine cN (caps:=?_) ?_ ?_ [b0,b0+2,b0+1] (hcall b0 (b0+1) (b0+2) (by omega) _ _ (by omega) (by omega) ?_ ?_ ?_ aP (by omega) (by omega) (by omega)) ?_ ?_);rotate_left 1)|refine ee ?_|omega|((first|apply Ca|apply Cb)<;>intro hb)|refine Ai (by omega) ?_|(apply Ai<;>intro hb)
  all_goals ((refine Fin.give [(b0+48,some 0)] [] ?_ ?_ ?_ ?_ ?_ (bB mF (by simp[bg,tgt]))<;>(try simp only[zF,ap,ad,Lm,jU,ai,seval,ah])<;>(try simp only[al])<;>(try omega)))
def Cz (v:List Nd)(sp:List UInt8)(hv:v.length<=aS)(hok:∀ n∈v,n.okTo 1000000/\n.i64)(hs:sp.length<=aS)(nm:Nat) :
  Ev cx 45 nm [.sl false 6 (v.map aG),.str sp] am.nil (oI (bi v sp).1 (bi v sp).2) []:=by
 by_cases hbad:ct v≠0\/az sp≠0\/cZ sp=true
 ·have hb:bi v sp=([],if ct v≠0 then ct v else 8):=by
   unfold bi
   by_cases h1:ct v≠0
   ·rw[if_pos h1,if_pos h1]
   ·rw[if_neg h1,if_neg h1,if_pos (hbad.resolve_left h1)]
  rw[hb]
  refine Ev.res_le (CA v sp hv (fun x hx=>⟨eZ (hok x hx).1 (by decide),(hok x hx).2⟩) hs hbad nm) ?_
  unfold oI
  simp only[qo,dj,ej,b8,iS,Lo,and_self]
 ·have h1:ct v=0:=Decidable.not_not.1 fun h=>hbad (.inl h)
  have h2:az sp=0:=Decidable.not_not.1 fun h=>hbad (.inr (.inl h))
  have h3:cZ sp=false:=by
   cases h:cZ sp with
   | false=>rfl
   | true=>exact absurd (.inr (.inr h)) hbad
  obtain⟨n,k,hk,rfl,hg,hl⟩:=ko (sc h1).2
  have hb:bi (n::k.flat) sp=if js ((Fo.cons n k .nil).bare sp)=true then ([],4) else ((Fo.cons n k .nil).bare sp,0):=by
   unfold bi
   rw[if_neg (by simpa using h1),if_neg (by rw[h2,h3];simp),pe hg]
  rw[hb]
  have hgood:=zM n k sp hk hg hl hok hs h1 h2 h3
  generalize (Fo.cons n k .nil).bare sp=T at hgood ⊢
  cases hw:js T with
  | true =>
   rw[if_pos rfl]
   refine Ev.res_le (hgood _ _ nm (.inl ⟨hw,rfl,rfl⟩)) ?_
   unfold oI
   simp only[qo,dj,ej,b8,iS,Lo,and_self]
  | false =>
   rw[if_neg (by decide)]
   have hpl:=ad T
   have htk:(T.map aG).take T.length=T.map aG:=bF _ _
   refine Ev.freeze (hgood _ _ nm (.inr ⟨hw,rfl,rfl⟩)) ?_ ?_
   ·simp only[aj,ag,ap,hpl,htk,Lm,ai,seval,ah]<;>omega
   ·unfold oI
    simp only[aj,ag,ap,hpl,htk,Lm,ai,seval,ah]
end Go.Proofs.YtlnlopnpcmahgaaGreatDoor
