/-
 Texts joined: XIe,XIf,XIg.
-/
import Derived.Test.YtlnlopnpcmahgaaGreatDoorMd
import Derived.Test.YtlnlopnpcmahgaaGreatDoorR6
import Derived.Test.YtlnlopnpcmahgaaGreatDoorQv
import Derived.Test.YtlnlopnpcmahgaaGreatDoorMa
import Derived.Test.YtlnlopnpcmahgaaGreatDoorMb
set_option linter.all false
namespace Go.Proofs.YtlnlopnpcmahgaaGreatDoor
open Go Go.RowKit Vm Go.Lib Tryz
open Vm renaming ba->Ca,bh->Cb
open And renaming intro->Ai
open List renaming length_map->Lm,not_mem_nil->Ln,map_nil->Lo,map_cons->Lc,mem_cons->Lk
open Bool renaming not_false->Bf,not_true->Bt
def zX (e:Int):V:=if e=0 then .val .nilIface else .iface 25 (.int .i64 e)
def jv (e:Int)(nm:Nat):Ev cx 46 nm [.int .i64 e] ap.nil (zX e) []:=by
 unfold zX
 by_cases h:e=0
 ·subst h
  rw[if_pos rfl]
  refine bi call46 func46 rfl (by kernel_rfl) rfl ?_;intro b0 hb0
  (repeat' first|simp only[ak,aj,results46,ntmps46,al,ai,seval,ah]|exact rfl|refine aa (v:=.any) ?_|((first|apply Ca|apply Cb)<;>intro hb)|refine Ai (by omega) ?_|(apply Ai<;>intro hb)|refine Fin.pure ?_ ?_ ?_|simp only[ao])
 ·rw[if_neg h]
  have q:(e==0)=false:=by simpa using h
  refine bi call46 func46 rfl (by kernel_rfl) rfl ?_;intro b0 hb0
  (repeat' first|simp only[ak,aj,results46,ntmps46,al,q,ai,seval,ah]|exact rfl|refine aa (v:=.any) ?_|(refine kQ rfl (by kernel_rfl) ?_)|((first|apply Ca|apply Cb)<;>intro hb)|refine Ai (by omega) ?_|(apply Ai<;>intro hb)|refine Fin.pure ?_ ?_ ?_|simp only[ao])
def nC (e:Int):zX e = .val .nilIface\/zX e = .iface 25 (.int .i64 e):=by
 unfold zX
 split
 ·exact .inl rfl
 ·exact .inr rfl
structure Pp where
 o:List UInt8
 t:List UInt8
 l:List Tk
 v:List Nd
def vq (p:Pp):Blk:=⟨4,[[.str p.o,.str p.t,.sl false 4 (p.l.map bE),.sl false 6 (p.v.map aZ)]]⟩
def iZ (f:Nat)(p:Pp)(e:Int)(p':Pp):Prop :=
 ∀(q:Nat) (M:ap) (nm:Nat),M q=some (vq p)->(∀ z,(M z).isSome=true->z∈[q])->q<nm->Ev cx f nm [.ptr q 0 0] M (zX e) [(q,some (vq p'))]
set_option maxRecDepth 100000 in
def Ol (p:Pp)(ht:p.t.length<=be):iZ 32 p (dJ p.t).2.2 { p with l:=(dJ p.t).1 }:=by
 intro q M nm hq ho hn
 have hl:=Qj p.t ht
 unfold NW at hl
 have hf:=jv (dJ p.t).2.2
 unfold vq at hq ⊢
 simp only at hq ⊢
 generalize (dJ p.t).1=L at hl ⊢
 generalize (dJ p.t).2.1=A at hl ⊢
 generalize (dJ p.t).2.2=E at hl hf ⊢
 rcases nC E with hW|hW
 all_goals
  rw[hW]at hf ⊢
  refine bi call32 func32 rfl (by kernel_rfl) rfl ?_;intro b0 hb0
  have lq:=aC hb0 hq
  have z0:=aE lq
  repeat' first|simp only[ak,aj,results32,ntmps32,al,hq,z0,aF,ae,ai,seval,ah]|exact rfl|refine aa (v:=.any) ?_|(first|(refine ad ?_ (hl _) ?_)|(refine ab ?_ (fun _=>hl _) ?_)|(refine ad ?_ (hf _) ?_)|(refine ab ?_ (fun _=>hf _) ?_))|((first|apply Ca|apply Cb)<;>intro hb)|refine Ai (by omega) ?_|(apply Ai<;>intro hb)
  all_goals ((refine Fin.give [(q,none)] [] ?_ ?_ ?_ ?_ ?_ (aO ho (by simp[aS,tgt]))<;>(try simp only[results32,ntmps32,al,aF,ae,hq,z0,au,dM,ai,seval,ah])<;>(try simp only[ao])<;>(try omega)))
set_option maxRecDepth 100000 in
def Hd (p:Pp)(hl:p.l.length<=600)(hs:∀ t∈p.l,t.okTo 1000000/\t.attrs.length<=30):iZ 33 p (cB p.l) { p with v:=dy p.l }:=by
 intro q M nm hq ho hn
 have hl:=KX p.l hl hs
 unfold g8 at hl
 have hf:=jv (cB p.l)
 unfold vq at hq ⊢
 simp only at hq ⊢
 generalize dy p.l=L at hl ⊢
 generalize cB p.l=E at hl hf ⊢
 rcases nC E with hW|hW
 all_goals
  rw[hW]at hf ⊢
  refine bi call33 func33 rfl (by kernel_rfl) rfl ?_;intro b0 hb0
  have lq:=aC hb0 hq
  have z0:=aE lq
  repeat' first|simp only[ak,aj,results33,ntmps33,al,hq,z0,aF,ae,ai,seval,ah]|exact rfl|refine aa (v:=.any) ?_|(first|(refine ad ?_ (hl _) ?_)|(refine ab ?_ (fun _=>hl _) ?_)|(refine ad ?_ (hf _) ?_)|(refine ab ?_ (fun _=>hf _) ?_))|((first|apply Ca|apply Cb)<;>intro hb)|refine Ai (by omega) ?_|(apply Ai<;>intro hb)
  all_goals ((refine Fin.give [(q,none)] [] ?_ ?_ ?_ ?_ ?_ (aO ho (by simp[aS,tgt]))<;>(try simp only[results33,ntmps33,al,aF,ae,hq,z0,au,dM,ai,seval,ah])<;>(try simp only[ao])<;>(try omega)))
set_option maxRecDepth 100000 in
def A4 (p:Pp)(hv:p.v.length<=be)(hok:∀ n∈p.v,n.okTo 1000000/\n.i64):iZ 34 p (cp p.v).2 { p with v:=(cp p.v).1 }:=by
 intro q M nm hq ho hn
 have hl:=Bd p.v hv hok
 unfold g8 at hl
 have hf:=jv (cp p.v).2
 unfold vq at hq ⊢
 simp only at hq ⊢
 generalize (cp p.v).1=L at hl ⊢
 generalize (cp p.v).2=E at hl hf ⊢
 rcases nC E with hW|hW
 all_goals
  rw[hW]at hf ⊢
  refine bi call34 func34 rfl (by kernel_rfl) rfl ?_;intro b0 hb0
  have lq:=aC hb0 hq
  have z0:=aE lq
  repeat' first|simp only[ak,aj,results34,ntmps34,al,hq,z0,aF,ae,ai,seval,ah]|exact rfl|refine aa (v:=.any) ?_|(first|(refine ad ?_ (hl _) ?_)|(refine ab ?_ (fun _=>hl _) ?_)|(refine ad ?_ (hf _) ?_)|(refine ab ?_ (fun _=>hf _) ?_))|((first|apply Ca|apply Cb)<;>intro hb)|refine Ai (by omega) ?_|(apply Ai<;>intro hb)
  all_goals ((refine Fin.give [(q,none)] [] ?_ ?_ ?_ ?_ ?_ (aO ho (by simp[aS,tgt]))<;>(try simp only[results34,ntmps34,al,aF,ae,hq,z0,au,dM,ai,seval,ah])<;>(try simp only[ao])<;>(try omega)))
set_option maxRecDepth 100000 in
def KV (p:Pp)(hv:p.v.length<=be)(hok:∀ n∈p.v,n.okTo 1000000/\n.i64)(hs:p.o.length<=be):iZ 25 p (cN p.v p.o).2 { p with v:=(cN p.v p.o).1 }:=by
 intro q M nm hq ho hn
 have hl:=IK p.v p.o hv hok hs
 unfold g8 at hl
 have hf:=jv (cN p.v p.o).2
 unfold vq at hq ⊢
 simp only at hq ⊢
 generalize (cN p.v p.o).1=L at hl ⊢
 generalize (cN p.v p.o).2=E at hl hf ⊢
 rcases nC E with hW|hW
 all_goals
  rw[hW]at hf ⊢
  refine bi call25 func25 rfl (by kernel_rfl) rfl ?_;intro b0 hb0
  have lq:=aC hb0 hq
  have z0:=aE lq
  repeat' first|simp only[ak,aj,results25,ntmps25,al,hq,z0,aF,ae,ai,seval,ah]|exact rfl|refine aa (v:=.any) ?_|(first|(refine ad ?_ (hl _) ?_)|(refine ab ?_ (fun _=>hl _) ?_)|(refine ad ?_ (hf _) ?_)|(refine ab ?_ (fun _=>hf _) ?_))|refine aA (by decide +kernel) ?_|((first|apply Ca|apply Cb)<;>intro hb)|refine Ai (by omega) ?_|(apply Ai<;>intro hb)
  all_goals ((refine Fin.give [(q,none)] [] ?_ ?_ ?_ ?_ ?_ (aO ho (by simp[aS,tgt]))<;>(try simp only[results25,ntmps25,al,aF,ae,hq,z0,au,dM,ai,seval,ah])<;>(try simp only[ao])<;>(try omega)))
set_option maxRecDepth 100000 in
def He (p:Pp)(hv:p.v.length<=be)(hok:∀ n∈p.v,n.okTo be/\n.i64):iZ 26 p (dv p.v).2 { p with l:=(dv p.v).1 }:=by
 intro q M nm hq ho hn
 have hl:=LX p.v hv hok
 unfold D1 at hl
 have hf:=jv (dv p.v).2
 unfold vq at hq ⊢
 simp only at hq ⊢
 generalize (dv p.v).1=L at hl ⊢
 generalize (dv p.v).2=E at hl hf ⊢
 rcases nC E with hW|hW
 all_goals
  rw[hW]at hf ⊢
  refine bi call26 func26 rfl (by kernel_rfl) rfl ?_;intro b0 hb0
  have lq:=aC hb0 hq
  have z0:=aE lq
  repeat' first|simp only[ak,aj,results26,ntmps26,al,hq,z0,aF,ae,ai,seval,ah]|exact rfl|refine aa (v:=.any) ?_|(first|(refine ad ?_ (hl _) ?_)|(refine ab ?_ (fun _=>hl _) ?_)|(refine ad ?_ (hf _) ?_)|(refine ab ?_ (fun _=>hf _) ?_))|((first|apply Ca|apply Cb)<;>intro hb)|refine Ai (by omega) ?_|(apply Ai<;>intro hb)
  all_goals ((refine Fin.give [(q,none)] [] ?_ ?_ ?_ ?_ ?_ (aO ho (by simp[aS,tgt]))<;>(try simp only[results26,ntmps26,al,aF,ae,hq,z0,au,dM,ai,seval,ah])<;>(try simp only[ao])<;>(try omega)))
set_option maxRecDepth 100000 in
def KW (p:Pp)(hl:p.l.length<=600)(hs:∀ t∈p.l,t.okTo 1000000/\t.attrs.length<=30):iZ 27 p (fu p.l) { p with t:=jf p.l }:=by
 intro q M nm hq ho hn
 have hl:=NK p.l hl hs
 have hf:=jv (fu p.l)
 unfold vq at hq ⊢
 simp only at hq ⊢
 generalize jf p.l=L at hl ⊢
 generalize fu p.l=E at hl hf ⊢
 rcases nC E with hW|hW
 all_goals
  rw[hW]at hf ⊢
  refine bi call27 func27 rfl (by kernel_rfl) rfl ?_;intro b0 hb0
  have lq:=aC hb0 hq
  have z0:=aE lq
  repeat' first|simp only[ak,aj,results27,ntmps27,al,hq,z0,aF,ae,ai,seval,ah]|exact rfl|refine aa (v:=.any) ?_|(first|(refine ad ?_ (hl _) ?_)|(refine ab ?_ (fun _=>hl _) ?_)|(refine ad ?_ (hf _) ?_)|(refine ab ?_ (fun _=>hf _) ?_))|((first|apply Ca|apply Cb)<;>intro hb)|refine Ai (by omega) ?_|(apply Ai<;>intro hb)
  all_goals ((refine Fin.give [(q,none)] [] ?_ ?_ ?_ ?_ ?_ (aO ho (by simp[aS,tgt]))<;>(try simp only[results27,ntmps27,al,aF,ae,hq,z0,au,dM,ai,seval,ah])<;>(try simp only[ao])<;>(try omega)))
inductive Way12:List Nat->Pp->Int->Pp->Prop
 | done (p:Pp):Way12 [] p 0 p
 | bad {f:Nat} {fs:List Nat} {p p':Pp} {e:Int} (h:iZ f p e p') (he:e≠0):Way12 (f::fs) p e p'
 | ok {f:Nat} {fs:List Nat} {p p1 p':Pp} {e:Int} (h:iZ f p 0 p1) (t:Way12 fs p1 e p'):Way12 (f::fs) p e p'
def BN (q f:Nat):List V:=[.fnb f [.ptr q 0 0]]
structure RunSt where
 k:Nat
 p:Pp
def RT {q:Nat}{l:List Nat}{k f:Nat}(h:l[k]? = some f):(l.map (BN q))[k]? = some [.fnb f [.ptr q 0 0]]:=by rw[List.getElem?_map,h];rfl
def LF {O:List (Nat×Nat)}{q:Nat}(h:aU O q=some q)(f:Nat):renL O (BN q f)=BN q f/\renOkL O (BN q f)=true:=by
 unfold BN
 simp only[renL,V.ren,renOkL,V.renOk,h,Option.getD_some,Option.isSome_some,Bool.and_self,and_self]
def LG {O:List (Nat×Nat)}{q:Nat}(h:aU O q=some q)(fs:List Nat):(fs.map (BN q)).all (renOkL O)=true:=by
 rw[List.all_eq_true]
 intro r hr
 obtain⟨f,_,rfl⟩:=List.mem_map.1 hr
 exact(LF h f).2
def QD {O:List (Nat×Nat)}{q:Nat}(h:aU O q=some q)(fs:List Nat):(if plainLL (fs.map (BN q))=true then fs.map (BN q) else (fs.map (BN q)).map (renL O))=fs.map (BN q):=by
 split
 ·rfl
 ·rw[List.map_map]
  exact List.map_congr_left fun f _=>(LF h f).1
set_option maxRecDepth 100000 in
set_option maxHeartbeats 4000000 in
def QB {fs:List Nat}{p p':Pp}{e:Int}(hw:Way12 fs p e p')(hl:fs.length<=6)(q y:Nat)(M:ap)(nm:Nat)(hq:M q=some (vq p))(hy:M y=some ⟨1,fs.map (BN q)⟩)(ho:∀ z,(M z).isSome=true->z∈[q,y])(hqy:q≠y)(hn:q<nm)(hny:y<nm) :
  Ev cx 24 nm [.own y 0 fs.length] M (.int .i64 e) [(y,none),(q,some (vq p'))]:=by
 unfold vq at hq ⊢
 have n1:=eq_false hqy
 have n2:=eq_false (Ne.symm hqy)
 refine bi call24 func24 rfl (by kernel_rfl) rfl ?_;intro b0 hb0;have zF:=Ai results24 ntmps24
 have lq:=aC hb0 hq
 have ly:=aC hb0 hy
 have z0:=J3 lq;have z1:=rj lq;have z2:=C9 lq;have z3:=oU lq
 have y0:=aE ly
 have hO:aU [(b0,b0),(q,q),(y,y)] q=some q:=by simp only[fL,z2,if_true,if_false]
 have r1:=LG hO fs
 have r2:=QD hO fs
 have l16:(q<b0+16)=True:=eq_true (by omega)
 have l17:(y<b0+16)=True:=eq_true (by omega)
 repeat' first|simp only[ak,aj,zF,al,hq,hy,n1,n2,z0,z1,z2,z3,y0,Lm,ai,seval,ah]|exact rfl|refine aa (v:=.any) ?_|((first|apply Ca|apply Cb)<;>intro hb)|refine Ai (by omega) ?_|(apply Ai<;>intro hb)
 (refine aR bR (fun x:RunSt=>fs.length-x.k) (fun x=>x.k<=fs.length/\Way12 (fs.drop x.k) x.p e p') (b0+16) (fun x=>[(2,.ptr b0 0 0),(6,.own y 0 fs.length),(7,.int .i64 fs.length),(8,.int .i64 x.k)]) (fun x=>[(b0,⟨1,[[.int .i64 0]]⟩),(q,⟨4,[[.str x.p.o,.str x.p.t,.sl false 4 (x.p.l.map bE),.sl false 6 (x.p.v.map aZ)]]⟩),(y,⟨1,fs.map (BN q)⟩)]) ((RunSt.mk 0 p)) [some b0,some q,some y] ?_ ?_ ?_ ?_;rotate_left 1;(focus (show b0<=_;omega));(focus (refine⟨?_,?_⟩<;>(try simp only[aX,r1,r2,l16,l17,c7,Bool.or_true,hq,hy,n1,n2,z0,z1,z2,z3,y0,aF,ae,aL,Lm,ai,seval,ah,ao])<;>(try omega)));rotate_left 1)
 ·exact⟨Nat.zero_le _,by simpa using hw⟩
 ·rintro ⟨k,p1⟩ ⟨hk,hw1⟩
  simp only at hk hw1 ⊢
  by_cases hlt:k<fs.length
  ·obtain⟨f,hf⟩:∃ f,fs[k]? = some f:=⟨_,List.getElem?_eq_getElem hlt⟩
   have hd:fs.drop k=f::fs.drop (k+1):=by
    rw[List.drop_eq_getElem_cons hlt]
    have:=(List.getElem?_eq_some_iff.1 hf).2
    rw[this]
   rw[hd]at hw1
   have hat:=RT (q:=q) hf
   have d1:decide ((k:Int)<(fs.length:Int))=true:=cn
   have d2:decide (k<fs.length)=true:=decide_eq_true hlt
   have hwk:IntKind.i64.wrap ((k:Int)+1)=((k+1:Nat):Int):=bf
   cases hw1 with
   | bad h he =>
    have hs:=h
    unfold iZ zX vq at hs
    rw[if_neg he]at hs
    have hh:=zU e b0 (.int .i64 0)
    repeat' first|simp only[ak,aj,zF,al,hat,hlt,d1,d2,hwk,n1,n2,z0,z1,z2,z3,y0,Lm,ai,seval,ah]|exact rfl|refine aa (v:=.any) ?_|(refine ac ?_ [b0] (hh _ _ ?_) ?_ ?_)|((refine eF (fi:=?_) ?_ ?_ [q] (hs _ _ _ ?_ ag (by omega)) ?_ ?_);rotate_left 1)|(refine kQ rfl (by kernel_rfl) ?_)|((first|apply Ca|apply Cb)<;>intro hb)|refine Ai (by omega) ?_|(apply Ai<;>intro hb)
    all_goals ((refine Fin.give [(q,none)] [y] ?_ ?_ ?_ ?_ ?_ (aO ho (by simp[aS,tgt]))<;>(try simp only[zF,al,aF,ae,hq,hy,n1,n2,z0,z1,z2,z3,y0,au,dM,ai,seval,ah])<;>(try simp only[ao])<;>(try omega)))
   | ok h t =>
    rename_i p2
    have hs:=h
    unfold iZ zX vq at hs
    rw[if_pos rfl]at hs
    have hh:=fun M=>zV (.iface 75 (.ptr b0 0 0)) M
    repeat' first|simp only[ak,aj,zF,al,hat,hlt,d1,d2,hwk,n1,n2,z0,z1,z2,z3,y0,Lm,ai,seval,ah]|exact rfl|refine aa (v:=.any) ?_|(first|(refine ad ?_ (hh _ _) ?_)|(refine ab ?_ (fun _=>hh _ _) ?_))|((refine eF (fi:=?_) ?_ ?_ [q] (hs _ _ _ ?_ ag (by omega)) ?_ ?_);rotate_left 1)|(refine kQ rfl (by kernel_rfl) ?_)|((first|apply Ca|apply Cb)<;>intro hb)|refine Ai (by omega) ?_|(apply Ai<;>intro hb)
    all_goals ((refine aD bR (RunSt.mk (k+1) p2) [some b0,some q,some y] ?_ ?_ ?_ ?_;rotate_left 2;(focus (show b0<=_;omega));(focus (refine⟨?_,?_⟩<;>(try simp only[aX,r1,r2,l16,l17,c7,Bool.or_true,hwk,n1,n2,z0,z1,z2,z3,y0,aF,ae,aL,Lm,ai,seval,ah,ao])<;>(try omega)))))
    all_goals (first|(show fs.length-(k+1)<fs.length-k;omega)|exact⟨hlt,t⟩|skip)
  ·have hke:k=fs.length:=by omega
   subst hke
   rw[List.drop_length]at hw1
   cases hw1
   have d1:decide ((fs.length:Int)<(fs.length:Int))=false:=bo
   have d2:decide (fs.length<fs.length)=false:=bo
   repeat' first|simp only[ak,aj,zF,al,d1,d2,n1,n2,z0,z1,z2,z3,y0,Lm,ai,seval,ah]|exact rfl|refine aa (v:=.any) ?_|((first|apply Ca|apply Cb)<;>intro hb)|refine Ai (by omega) ?_|(apply Ai<;>intro hb)
   all_goals ((refine Fin.give [(q,none)] [y] ?_ ?_ ?_ ?_ ?_ (aO ho (by simp[aS,tgt]))<;>(try simp only[zF,al,aF,ae,hq,hy,n1,n2,z0,z1,z2,z3,y0,au,dM,ai,seval,ah])<;>(try simp only[ao])<;>(try omega)))
def Ev.mem_le {f:FuncId}{nm:Nat}{args:List V}{M M':ap}{v:V}{eff:List (Nat×Option Blk)}(h:Ev cx f nm args M' v eff)(hle:P9 M M')(heq:M'.app eff=M.app eff):Ev cx f nm args M v eff:=by
 have hs:∀ x,((M' x).isSome=true)=((M x).isSome=true):=fun x=>by rw[kW hle]
 refine⟨h.1,fun X w Y cargs B hr hf hB hn hargs=>?_⟩
 have hbl:bL Y M'=bL Y M:=by funext b;simp only[bL,hs]
 have hD:bM X Y M'=bM X Y M:=by funext b;simp only[bM,hs]
 obtain⟨r1,m1⟩:=hr.weaken hle
 refine(h.2 X w Y cargs B (by rw[hbl];exact r1) hf (fun x hx=>⟨?_,(hB x hx).2⟩) hn (fun i u cv hi hc=>by rw[hD];exact hargs i u cv hi hc)).mono ?_
 ·cases hx2:M' x with
  | none=>rfl
  | some k =>
   have:=kW hle x
   rw[hx2,(hB x hx).1]at this
   cases this
 ·rintro e w' ⟨cv,rfl,Y',r,m,hv,hnn⟩
  rw[hbl,heq]at r
  rw[heq]at m hv
  exact⟨cv,rfl,Y',r,m1.trans m,hv,hnn⟩
def yN {fs:List Nat}{p p':Pp}{e:Int}(hw:Way12 fs p e p')(hl:fs.length<=6){k0:Blk}(hk:rY k0 (vq p))(q y:Nat)(M:ap)(nm:Nat)(hq:M q=some k0)(hy:M y=some ⟨1,fs.map (BN q)⟩)(ho:∀ z,(M z).isSome=true->z∈[q,y])(hqy:q≠y)(hn:q<nm)(hny:y<nm) :
  Ev cx 24 nm [.own y 0 fs.length] M (.int .i64 e) [(y,none),(q,some (vq p'))]:=by
 refine Ev.mem_le (QB hw hl q y (M.put q (some (vq p))) nm (ap.put_same _ _ _) (by rw[ap.put_ne _ _ (Ne.symm hqy)];exact hy) (fun z hz=>?_) hqy hn hny) (fun x=>?_) ?_
 ·by_cases e:z=q
  ·subst e;simp
  ·rw[ap.put_ne _ _ e]at hz;exact ho z hz
 ·by_cases e:x=q
  ·subst e;rw[hq,ap.put_same];exact hk
  ·rw[ap.put_ne _ _ e]
   have:=AM M x
   exact this
 ·funext x
  refine ap.app_congr fun hx=>?_
  have e:x≠q:=fun e=>hx (by subst e;simp[am])
  exact ap.put_ne _ _ e
def Nw:Nat:=32
def xS:Nat:=33
def Nx:Nat:=34
def EA:Nat:=25
def xU:Nat:=26
def EB:Nat:=27
def ja {f:Nat}{p p':Pp}{e:Int}(h:iZ f p e p')(he:e=0):iZ f p 0 p':=by subst he;exact h
def xn {p:Pp}(hv:p.v.length<=be)(hok:∀ n∈p.v,n.okTo 999900/\n.i64)(hs:p.o.length<=be):∃ p',Way12 [EA,xU,EB] p (c8 p.v p.o).2 p'/\((c8 p.v p.o).2=0->p'.t=(c8 p.v p.o).1):=by
  have hok1:∀ n∈p.v,n.okTo 1000000/\n.i64:=fun n hn=>⟨iD (hok n hn).1 (by decide),(hok n hn).2⟩
  have s1:=KV p hv hok1 hs
  have hbl:=zt p.v p.o
  have hbf:=bare_fit (v:=p.v) (sp:=p.o) (B:=999900) hok
  unfold c8
  by_cases h1:(cN p.v p.o).2=0
  · rw [if_neg (by simpa using h1)]
    have s2:=He { p with v:=(cN p.v p.o).1 } (by simp only;omega) (fun n hn=>⟨iD (hbf n hn).1 (by decide),(hbf n hn).2⟩)
    simp only at s2
    by_cases h2:(dv (cN p.v p.o).1).2=0
    · rw[if_neg (by simpa using h2)]
      have s3:=KW { p with v:=(cN p.v p.o).1,l:=(dv (cN p.v p.o).1).1 } (by have:=H2 (cN p.v p.o).1;simp only;omega) (H1 (K:=1000000) (fun x hx=>iD (hbf x hx).1 (by decide)))
      simp only at s3 ⊢
      by_cases h3:fu (dv (cN p.v p.o).1).1=0
      · rw[h3]
        exact⟨_,.ok (ja s1 h1) (.ok (ja s2 h2) (.ok (ja s3 h3) (.done _))),fun _=>rfl⟩
      · exact⟨_,.ok (ja s1 h1) (.ok (ja s2 h2) (.bad s3 h3)),fun h=>absurd h h3⟩
    · rw[if_pos h2]
      exact⟨_,.ok (ja s1 h1) (.bad s2 h2),fun h=>absurd h h2⟩
  · rw[if_pos h1]
    exact⟨_,.bad s1 h1,fun h=>absurd h h1⟩
def BH {p:Pp}(ht:p.t.length<=16384)(fs:List Nat)(e:Int)(G:Pp->Prop)(hb:(da p.t).2≠0->e=(da p.t).2)(hg:∀ l,(da p.t).2=0 -> ∃ p2,Way12 fs { p with l:=l,v:=(da p.t).1 } e p2/\G p2):∃ p',Way12 (Nw::xS::Nx::fs) p e p'/\((da p.t).2=0->G p'):=by
 have s1:=Ol p (by unfold be;omega)
 have hpf:=Dp ht
 unfold da at hb hg ⊢
 by_cases h1:(dJ p.t).2.2=0
 ·have hA:fU p.t=(dy (dJ p.t).1,cB (dJ p.t).1):=by unfold fU;rw[if_neg (by simpa using h1)]
  rw[hA]at hb hg hpf ⊢
  simp only at hb hg hpf ⊢
  obtain⟨f1,f2⟩:=toks_fit ht h1
  have s2:=Hd { p with l:=(dJ p.t).1 } f1 f2
  simp only at s2
  by_cases h2:cB (dJ p.t).1=0
  ·rw[if_neg (by simpa using h2)]at hb hg ⊢
   have s3:=A4 { p with l:=(dJ p.t).1,v:=dy (dJ p.t).1 } (by have:=hpf.1;simp only;unfold be;omega) hpf.2
   simp only at s3
   by_cases h3:(cp (dy (dJ p.t).1)).2=0
   ·obtain⟨p2,w,g⟩:=hg (dJ p.t).1 h3
    exact⟨_,.ok (ja s1 h1) (.ok (ja s2 h2) (.ok (ja s3 h3) w)),fun _=>g⟩
   ·rw[hb h3]
    exact⟨_,.ok (ja s1 h1) (.ok (ja s2 h2) (.bad s3 h3)),fun h=>absurd h h3⟩
  ·rw[if_pos h2]at hb ⊢
   rw[hb h2]
   exact⟨_,.ok (ja s1 h1) (.bad s2 h2),fun h=>absurd h h2⟩
 ·have hA:fU p.t=([],(dJ p.t).2.2):=by unfold fU;rw[if_pos h1]
  rw[hA]at hb ⊢
  simp only at hb ⊢
  rw[if_pos h1]at hb ⊢
  rw[hb h1]
  exact⟨_,.bad s1 h1,fun h=>absurd h h1⟩
set_option maxRecDepth 100000 in
set_option maxHeartbeats 4000000 in
def yI (s:List UInt8)(hs:s.length<=16384)(nm:Nat):Ev cx 14 nm [.str s] ap.nil (g8 (da s).1 (da s).2) []:=by
 obtain⟨p',hw,hp⟩:=BH (p:=⟨[],s,[],[]⟩) hs [] (da s).2 (fun p2=>p2.v=(da s).1) (fun _=>rfl) (fun l h=>⟨_,by simp only at h;rw[h];exact .done _,rfl⟩)
 simp only at hp
 have hr:=fun q y=>yN hw (by decide) (k0:=⟨4,[[.str [],.str s,.nils,.nils]]⟩) (by unfold vq;rw[pV];simp only[jy,eJ,fK,jP,rh,b9,V.le_refl,Lo,and_self,true_and,and_true]) q y
 unfold vq at hr
 simp only[Lc,Lo,List.length_cons,List.length_nil,BN,Nw,xS,Nx]at hr
 have hno:=Ou (s:=s)
 generalize (da s).1=v at hp hno ⊢
 generalize (da s).2=E at hp hr hno ⊢
 unfold g8
 refine lC rfl call14 func14 rfl mixed (by kernel_rfl) rfl ?_;intro b0 hb0;have zF:=Ai results14 ntmps14
 repeat' first|simp only[ak,aj,zF,al,ai,seval,ah]|exact rfl|refine aa (v:=.any) ?_|((first|apply Ca|apply Cb)<;>intro hb)|refine Ai (by omega) ?_|(apply Ai<;>intro hb)
 (refine ks bR (b0+16) ([(0,.str s)]) ([]) [] ?_ ?_ ?_;(focus (show b0<=_;omega));(focus (refine⟨?_,?_⟩<;>(try simp only[aX,aL,c7,b9,ai,seval,ah,ao])<;>(try omega))))
 repeat' first|simp only[ak,aj,zF,al,ai,seval,ah]|exact rfl|refine aa (v:=.any) ?_|((first|apply Ca|apply Cb)<;>intro hb)|refine Ai (by omega) ?_|(apply Ai<;>intro hb)
 by_cases hE:E=0
 ·subst hE
  have hv:=hp rfl
  subst hv
  (repeat' first|simp only[ak,aj,zF,al,aF,ae,ai,seval,ah]|exact rfl|refine aa (v:=.any) ?_|(refine ac ?_ [b0+48,b0+176] (hr (b0+48) (b0+176) _ _ ?_ ?_ ag (by omega) (by omega) (by omega)) ?_ ?_)|refine cH ?_|((first|apply Ca|apply Cb)<;>intro hb)|refine Ai (by omega) ?_|(apply Ai<;>intro hb)|refine Fin.pure ?_ ?_ ?_|simp only[ao])
 ·have hq:(E != 0)=true:=by simpa using hE
  have:=hno hE
  subst this
  (repeat' first|simp only[ak,aj,zF,al,hq,aF,ae,Lo,ai,seval,ah]|exact rfl|refine aa (v:=.any) ?_|(refine ac ?_ [b0+48,b0+176] (hr (b0+48) (b0+176) _ _ ?_ ?_ ag (by omega) (by omega) (by omega)) ?_ ?_)|refine cH ?_|((first|apply Ca|apply Cb)<;>intro hb)|refine Ai (by omega) ?_|(apply Ai<;>intro hb)|refine Fin.pure ?_ ?_ ?_|simp only[ao])
set_option maxRecDepth 100000 in
set_option maxHeartbeats 4000000 in
def L6 (v:List Nd)(o:List UInt8)(hv:v.length<=be)(hok:∀ n∈v,n.okTo 999900/\n.i64)(ho:o.length<=be)(nm:Nat):Ev cx 11 nm [.sl false 6 (v.map aZ),.str o] ap.nil (.tup [.str (c8 v o).1,.int .i64 (c8 v o).2]) []:=by
 obtain⟨p',hw,hp⟩:=xn (p:=⟨o,[],[],v⟩) hv hok ho
 simp only at hw hp
 have hr:=fun q y=>yN hw (by decide) (k0:=⟨4,[[.str o,.str [],.nils,.sl false 6 (v.map aZ)]]⟩) (by unfold vq;rw[pV];simp only[jy,eJ,fK,jP,rh,b9,V.le_refl,Lo,and_self,true_and,and_true]) q y
 unfold vq at hr
 simp only[Lc,Lo,List.length_cons,List.length_nil,BN,Nw,xS,Nx,EA,xU,EB]at hr
 have hno:=vi (v:=v) (sp:=o)
 generalize (c8 v o).1=x at hp hno ⊢
 generalize (c8 v o).2=E at hp hr hno ⊢
 refine lC rfl call11 func11 rfl mixed (by kernel_rfl) rfl ?_;intro b0 hb0;have zF:=Ai results11 ntmps11
 repeat' first|simp only[ak,aj,zF,al,ai,seval,ah]|exact rfl|refine aa (v:=.any) ?_|((first|apply Ca|apply Cb)<;>intro hb)|refine Ai (by omega) ?_|(apply Ai<;>intro hb)
 (refine ks bR (b0+16) ([(0,.sl false 6 (v.map aZ)),(1,.str o)]) ([]) [] ?_ ?_ ?_;(focus (show b0<=_;omega));(focus (refine⟨?_,?_⟩<;>(try simp only[aX,ae,aL,c7,b9,ai,seval,ah,ao])<;>(try omega))))
 repeat' first|simp only[ak,aj,zF,al,ae,ai,seval,ah]|exact rfl|refine aa (v:=.any) ?_|((first|apply Ca|apply Cb)<;>intro hb)|refine Ai (by omega) ?_|(apply Ai<;>intro hb)
 by_cases hE:E=0
 ·subst hE
  have hv:=hp rfl
  subst hv
  (repeat' first|simp only[ak,aj,zF,al,aF,ae,ai,seval,ah]|exact rfl|refine aa (v:=.any) ?_|(refine ac ?_ [b0+64,b0+192] (hr (b0+64) (b0+192) _ _ ?_ ?_ ag (by omega) (by omega) (by omega)) ?_ ?_)|refine cH ?_|((first|apply Ca|apply Cb)<;>intro hb)|refine Ai (by omega) ?_|(apply Ai<;>intro hb)|refine Fin.pure ?_ ?_ ?_|simp only[ao])
 ·have hq:(E != 0)=true:=by simpa using hE
  have:=hno hE
  subst this
  (repeat' first|simp only[ak,aj,zF,al,hq,aF,ae,Lo,ai,seval,ah]|exact rfl|refine aa (v:=.any) ?_|(refine ac ?_ [b0+64,b0+192] (hr (b0+64) (b0+192) _ _ ?_ ?_ ag (by omega) (by omega) (by omega)) ?_ ?_)|refine cH ?_|((first|apply Ca|apply Cb)<;>intro hb)|refine Ai (by omega) ?_|(apply Ai<;>intro hb)|refine Fin.pure ?_ ?_ ?_|simp only[ao])
set_option maxRecDepth 100000 in
set_option maxHeartbeats 4000000 in
def zA (s:List UInt8)(hs:s.length<=16384)(nm:Nat):Ev cx 16 nm [.str s] ap.nil (.tup [.str (bw s).1,.int .i64 (bw s).2]) []:=by
 obtain⟨p',hw,hp⟩:=BH (p:=⟨[],s,[],[]⟩) hs [EA,xU,EB] (bw s).2 (fun p2=>(bw s).2=0->p2.t=(bw s).1) (fun h=>by simp only at h ⊢;unfold bw;rw[if_pos h]) (fun l h=>by
  simp only at h ⊢
  obtain⟨f1,f2⟩:=A9 hs
  have hc:bw s=c8 (da s).1 []:=by unfold bw;rw[if_neg (by simpa using h)]
  rw[hc]
  exact xn (p:=⟨[],s,l,(da s).1⟩) (by simp only;unfold be;omega) (fun n hn=>⟨iD (f2 n hn).1 (by decide),(f2 n hn).2⟩) (by simp))
 have hp:(bw s).2=0->p'.t=(bw s).1:=fun h=>hp (tz h).1 h
 have hr:=fun q y=>yN hw (by decide) (k0:=⟨4,[[.str [],.str s,.nils,.nils]]⟩) (by unfold vq;rw[pV];simp only[jy,eJ,fK,jP,rh,b9,V.le_refl,Lo,and_self,true_and,and_true]) q y
 unfold vq at hr
 simp only[Lc,Lo,List.length_cons,List.length_nil,BN,Nw,xS,Nx,EA,xU,EB]at hr
 have hno:=zB (s:=s)
 generalize (bw s).1=x at hp hno ⊢
 generalize (bw s).2=E at hp hr hno ⊢
 refine lC rfl call16 func16 rfl mixed (by kernel_rfl) rfl ?_;intro b0 hb0;have zF:=Ai results16 ntmps16
 repeat' first|simp only[ak,aj,zF,al,ai,seval,ah]|exact rfl|refine aa (v:=.any) ?_|((first|apply Ca|apply Cb)<;>intro hb)|refine Ai (by omega) ?_|(apply Ai<;>intro hb)
 (refine ks bR (b0+16) ([(0,.str s)]) ([]) [] ?_ ?_ ?_;(focus (show b0<=_;omega));(focus (refine⟨?_,?_⟩<;>(try simp only[aX,ae,aL,c7,b9,ai,seval,ah,ao])<;>(try omega))))
 repeat' first|simp only[ak,aj,zF,al,ae,ai,seval,ah]|exact rfl|refine aa (v:=.any) ?_|((first|apply Ca|apply Cb)<;>intro hb)|refine Ai (by omega) ?_|(apply Ai<;>intro hb)
 by_cases hE:E=0
 ·subst hE
  have hv:=hp rfl
  subst hv
  (repeat' first|simp only[ak,aj,zF,al,aF,ae,ai,seval,ah]|exact rfl|refine aa (v:=.any) ?_|(refine ac ?_ [b0+48,b0+272] (hr (b0+48) (b0+272) _ _ ?_ ?_ ag (by omega) (by omega) (by omega)) ?_ ?_)|refine cH ?_|((first|apply Ca|apply Cb)<;>intro hb)|refine Ai (by omega) ?_|(apply Ai<;>intro hb)|refine Fin.pure ?_ ?_ ?_|simp only[ao])
 ·have hq:(E != 0)=true:=by simpa using hE
  have:=hno hE
  subst this
  (repeat' first|simp only[ak,aj,zF,al,hq,aF,ae,Lo,ai,seval,ah]|exact rfl|refine aa (v:=.any) ?_|(refine ac ?_ [b0+48,b0+272] (hr (b0+48) (b0+272) _ _ ?_ ?_ ag (by omega) (by omega) (by omega)) ?_ ?_)|refine cH ?_|((first|apply Ca|apply Cb)<;>intro hb)|refine Ai (by omega) ?_|(apply Ai<;>intro hb)|refine Fin.pure ?_ ?_ ?_|simp only[ao])
end Go.Proofs.YtlnlopnpcmahgaaGreatDoor
