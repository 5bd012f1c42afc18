/-
 Texts joined: XIe,XIf,XIg.
-/
import Derived.Test.YtlnlopnpcmahgaaGreatDoorMd
import Derived.Test.YtlnlopnpcmahgaaGreatDoorR6
import Derived.Test.YtlnlopnpcmahgaaGreatDoorQv
import Derived.Test.YtlnlopnpcmahgaaGreatDoorMa
import Derived.Test.YtlnlopnpcmahgaaGreatDoorMb
set_option linter.all false
namespace Go.Proofs.YtlnlopnpcmahgaaGreatDoor
open Go Go.RowKit Vm Go.Lib Tryz
open Vm renaming aW->Ca,bf->Cb
open And renaming intro->Ai
open List renaming length_map->Lm,not_mem_nil->Ln,map_nil->Lo,map_cons->Lc,mem_cons->Lk
open Bool renaming not_false->Bf,not_true->Bt
def zH (e:Int):V:=if e=0 then .val .nilIface else .iface 25 (.int .i64 e)
def jn (e:Int)(nm:Nat):Ev cx 46 nm [.int .i64 e] am.nil (zH e) []:=by
 unfold zH
 by_cases h:e=0
 ·subst h
  rw[if_pos rfl]
  refine bh call46 func46 rfl (by kernel_rfl) rfl ?_;intro b0 hb0
  (repeat' first|simp only[ak,ag,results46,ntmps46,al,ai,seval,ah]|exact rfl|refine aa (v:=.any) ?_|((first|apply Ca|apply Cb)<;>intro hb)|refine Ai (by omega) ?_|(apply Ai<;>intro hb)|refine Fin.pure ?_ ?_ ?_|simp only[ap])
 ·rw[if_neg h]
  have q:(e==0)=false:=by simpa using h
  refine bh call46 func46 rfl (by kernel_rfl) rfl ?_;intro b0 hb0
  (repeat' first|simp only[ak,ag,results46,ntmps46,al,q,ai,seval,ah]|exact rfl|refine aa (v:=.any) ?_|(refine kL rfl (by kernel_rfl) ?_)|((first|apply Ca|apply Cb)<;>intro hb)|refine Ai (by omega) ?_|(apply Ai<;>intro hb)|refine Fin.pure ?_ ?_ ?_|simp only[ap])
def nI (e:Int):zH e = .val .nilIface\/zH e = .iface 25 (.int .i64 e):=by
 unfold zH
 split
 ·exact .inl rfl
 ·exact .inr rfl
structure Pp where
 o:List UInt8
 t:List UInt8
 l:List Tk
 v:List Nd
def ve (p:Pp):Blk:=⟨4,[[.str p.o,.str p.t,.sl false 4 (p.l.map bE),.sl false 6 (p.v.map aV)]]⟩
def iP (f:Nat)(p:Pp)(e:Int)(p':Pp):Prop :=
 ∀(q:Nat) (M:am) (nm:Nat),M q=some (ve p)->(∀ z,(M z).isSome=true->z∈[q])->q<nm->Ev cx f nm [.ptr q 0 0] M (zH e) [(q,some (ve p'))]
set_option maxRecDepth 100000 in
def N6 (p:Pp)(ht:p.t.length<=bc):iP 32 p (dS p.t).2.2 { p with l:=(dS p.t).1 }:=by
 intro q M nm hq ho hn
 have hl:=Qb p.t ht
 unfold NJ at hl
 have hf:=jn (dS p.t).2.2
 unfold ve at hq ⊢
 simp only at hq ⊢
 generalize (dS p.t).1=L at hl ⊢
 generalize (dS p.t).2.1=A at hl ⊢
 generalize (dS p.t).2.2=E at hl hf ⊢
 rcases nI E with hW|hW
 all_goals
  rw[hW]at hf ⊢
  refine bh call32 func32 rfl (by kernel_rfl) rfl ?_;intro b0 hb0
  have lq:=aB hb0 hq
  have z0:=aD lq
  repeat' first|simp only[ak,ag,results32,ntmps32,al,hq,z0,aE,ad,ai,seval,ah]|exact rfl|refine aa (v:=.any) ?_|(first|(refine ae ?_ (hl _) ?_)|(refine ab ?_ (fun _=>hl _) ?_)|(refine ae ?_ (hf _) ?_)|(refine ab ?_ (fun _=>hf _) ?_))|((first|apply Ca|apply Cb)<;>intro hb)|refine Ai (by omega) ?_|(apply Ai<;>intro hb)
  all_goals ((refine Fin.give [(q,none)] [] ?_ ?_ ?_ ?_ ?_ (aL ho (by simp[aP,tgt]))<;>(try simp only[results32,ntmps32,al,aE,ad,hq,z0,au,dx,ai,seval,ah])<;>(try simp only[ap])<;>(try omega)))
set_option maxRecDepth 100000 in
def GW (p:Pp)(hl:p.l.length<=600)(hs:∀ t∈p.l,t.okTo 1000000/\t.attrs.length<=30):iP 33 p (cR p.l) { p with v:=dJ p.l }:=by
 intro q M nm hq ho hn
 have hl:=KK p.l hl hs
 unfold iO at hl
 have hf:=jn (cR p.l)
 unfold ve at hq ⊢
 simp only at hq ⊢
 generalize dJ p.l=L at hl ⊢
 generalize cR p.l=E at hl hf ⊢
 rcases nI E with hW|hW
 all_goals
  rw[hW]at hf ⊢
  refine bh call33 func33 rfl (by kernel_rfl) rfl ?_;intro b0 hb0
  have lq:=aB hb0 hq
  have z0:=aD lq
  repeat' first|simp only[ak,ag,results33,ntmps33,al,hq,z0,aE,ad,ai,seval,ah]|exact rfl|refine aa (v:=.any) ?_|(first|(refine ae ?_ (hl _) ?_)|(refine ab ?_ (fun _=>hl _) ?_)|(refine ae ?_ (hf _) ?_)|(refine ab ?_ (fun _=>hf _) ?_))|((first|apply Ca|apply Cb)<;>intro hb)|refine Ai (by omega) ?_|(apply Ai<;>intro hb)
  all_goals ((refine Fin.give [(q,none)] [] ?_ ?_ ?_ ?_ ?_ (aL ho (by simp[aP,tgt]))<;>(try simp only[results33,ntmps33,al,aE,ad,hq,z0,au,dx,ai,seval,ah])<;>(try simp only[ap])<;>(try omega)))
set_option maxRecDepth 100000 in
def AJ (p:Pp)(hv:p.v.length<=bc)(hok:∀ n∈p.v,n.okTo 1000000/\n.i64):iP 34 p (cJ p.v).2 { p with v:=(cJ p.v).1 }:=by
 intro q M nm hq ho hn
 have hl:=AU p.v hv hok
 unfold iO at hl
 have hf:=jn (cJ p.v).2
 unfold ve at hq ⊢
 simp only at hq ⊢
 generalize (cJ p.v).1=L at hl ⊢
 generalize (cJ p.v).2=E at hl hf ⊢
 rcases nI E with hW|hW
 all_goals
  rw[hW]at hf ⊢
  refine bh call34 func34 rfl (by kernel_rfl) rfl ?_;intro b0 hb0
  have lq:=aB hb0 hq
  have z0:=aD lq
  repeat' first|simp only[ak,ag,results34,ntmps34,al,hq,z0,aE,ad,ai,seval,ah]|exact rfl|refine aa (v:=.any) ?_|(first|(refine ae ?_ (hl _) ?_)|(refine ab ?_ (fun _=>hl _) ?_)|(refine ae ?_ (hf _) ?_)|(refine ab ?_ (fun _=>hf _) ?_))|((first|apply Ca|apply Cb)<;>intro hb)|refine Ai (by omega) ?_|(apply Ai<;>intro hb)
  all_goals ((refine Fin.give [(q,none)] [] ?_ ?_ ?_ ?_ ?_ (aL ho (by simp[aP,tgt]))<;>(try simp only[results34,ntmps34,al,aE,ad,hq,z0,au,dx,ai,seval,ah])<;>(try simp only[ap])<;>(try omega)))
set_option maxRecDepth 100000 in
def KI (p:Pp)(hv:p.v.length<=bc)(hok:∀ n∈p.v,n.okTo 1000000/\n.i64)(hs:p.o.length<=bc):iP 25 p (ck p.v p.o).2 { p with v:=(ck p.v p.o).1 }:=by
 intro q M nm hq ho hn
 have hl:=Ir p.v p.o hv hok hs
 unfold iO at hl
 have hf:=jn (ck p.v p.o).2
 unfold ve at hq ⊢
 simp only at hq ⊢
 generalize (ck p.v p.o).1=L at hl ⊢
 generalize (ck p.v p.o).2=E at hl hf ⊢
 rcases nI E with hW|hW
 all_goals
  rw[hW]at hf ⊢
  refine bh call25 func25 rfl (by kernel_rfl) rfl ?_;intro b0 hb0
  have lq:=aB hb0 hq
  have z0:=aD lq
  repeat' first|simp only[ak,ag,results25,ntmps25,al,hq,z0,aE,ad,ai,seval,ah]|exact rfl|refine aa (v:=.any) ?_|(first|(refine ae ?_ (hl _) ?_)|(refine ab ?_ (fun _=>hl _) ?_)|(refine ae ?_ (hf _) ?_)|(refine ab ?_ (fun _=>hf _) ?_))|refine az (by decide +kernel) ?_|((first|apply Ca|apply Cb)<;>intro hb)|refine Ai (by omega) ?_|(apply Ai<;>intro hb)
  all_goals ((refine Fin.give [(q,none)] [] ?_ ?_ ?_ ?_ ?_ (aL ho (by simp[aP,tgt]))<;>(try simp only[results25,ntmps25,al,aE,ad,hq,z0,au,dx,ai,seval,ah])<;>(try simp only[ap])<;>(try omega)))
set_option maxRecDepth 100000 in
def GX (p:Pp)(hv:p.v.length<=bc)(hok:∀ n∈p.v,n.okTo bc/\n.i64):iP 26 p (dn p.v).2 { p with l:=(dn p.v).1 }:=by
 intro q M nm hq ho hn
 have hl:=LH p.v hv hok
 unfold DM at hl
 have hf:=jn (dn p.v).2
 unfold ve at hq ⊢
 simp only at hq ⊢
 generalize (dn p.v).1=L at hl ⊢
 generalize (dn p.v).2=E at hl hf ⊢
 rcases nI E with hW|hW
 all_goals
  rw[hW]at hf ⊢
  refine bh call26 func26 rfl (by kernel_rfl) rfl ?_;intro b0 hb0
  have lq:=aB hb0 hq
  have z0:=aD lq
  repeat' first|simp only[ak,ag,results26,ntmps26,al,hq,z0,aE,ad,ai,seval,ah]|exact rfl|refine aa (v:=.any) ?_|(first|(refine ae ?_ (hl _) ?_)|(refine ab ?_ (fun _=>hl _) ?_)|(refine ae ?_ (hf _) ?_)|(refine ab ?_ (fun _=>hf _) ?_))|((first|apply Ca|apply Cb)<;>intro hb)|refine Ai (by omega) ?_|(apply Ai<;>intro hb)
  all_goals ((refine Fin.give [(q,none)] [] ?_ ?_ ?_ ?_ ?_ (aL ho (by simp[aP,tgt]))<;>(try simp only[results26,ntmps26,al,aE,ad,hq,z0,au,dx,ai,seval,ah])<;>(try simp only[ap])<;>(try omega)))
set_option maxRecDepth 100000 in
def KJ (p:Pp)(hl:p.l.length<=600)(hs:∀ t∈p.l,t.okTo 1000000/\t.attrs.length<=30):iP 27 p (eP p.l) { p with t:=kf p.l }:=by
 intro q M nm hq ho hn
 have hl:=Nv p.l hl hs
 have hf:=jn (eP p.l)
 unfold ve at hq ⊢
 simp only at hq ⊢
 generalize kf p.l=L at hl ⊢
 generalize eP p.l=E at hl hf ⊢
 rcases nI E with hW|hW
 all_goals
  rw[hW]at hf ⊢
  refine bh call27 func27 rfl (by kernel_rfl) rfl ?_;intro b0 hb0
  have lq:=aB hb0 hq
  have z0:=aD lq
  repeat' first|simp only[ak,ag,results27,ntmps27,al,hq,z0,aE,ad,ai,seval,ah]|exact rfl|refine aa (v:=.any) ?_|(first|(refine ae ?_ (hl _) ?_)|(refine ab ?_ (fun _=>hl _) ?_)|(refine ae ?_ (hf _) ?_)|(refine ab ?_ (fun _=>hf _) ?_))|((first|apply Ca|apply Cb)<;>intro hb)|refine Ai (by omega) ?_|(apply Ai<;>intro hb)
  all_goals ((refine Fin.give [(q,none)] [] ?_ ?_ ?_ ?_ ?_ (aL ho (by simp[aP,tgt]))<;>(try simp only[results27,ntmps27,al,aE,ad,hq,z0,au,dx,ai,seval,ah])<;>(try simp only[ap])<;>(try omega)))
inductive Way12:List Nat->Pp->Int->Pp->Prop
 | done (p:Pp):Way12 [] p 0 p
 | bad {f:Nat} {fs:List Nat} {p p':Pp} {e:Int} (h:iP f p e p') (he:e≠0):Way12 (f::fs) p e p'
 | ok {f:Nat} {fs:List Nat} {p p1 p':Pp} {e:Int} (h:iP f p 0 p1) (t:Way12 fs p1 e p'):Way12 (f::fs) p e p'
def Bs (q f:Nat):List V:=[.fnb f [.ptr q 0 0]]
structure RunSt where
 k:Nat
 p:Pp
def RQ {q:Nat}{l:List Nat}{k f:Nat}(h:l[k]? = some f):(l.map (Bs q))[k]? = some [.fnb f [.ptr q 0 0]]:=by rw[List.getElem?_map,h];rfl
def Lj {O:List (Nat×Nat)}{q:Nat}(h:aT O q=some q)(f:Nat):renL O (Bs q f)=Bs q f/\renOkL O (Bs q f)=true:=by
 unfold Bs
 simp only[renL,V.ren,renOkL,V.renOk,h,Option.getD_some,Option.isSome_some,Bool.and_self,and_self]
def Ll {O:List (Nat×Nat)}{q:Nat}(h:aT O q=some q)(fs:List Nat):(fs.map (Bs q)).all (renOkL O)=true:=by
 rw[List.all_eq_true]
 intro r hr
 obtain⟨f,_,rfl⟩:=List.mem_map.1 hr
 exact(Lj h f).2
def Qx {O:List (Nat×Nat)}{q:Nat}(h:aT O q=some q)(fs:List Nat):(if plainLL (fs.map (Bs q))=true then fs.map (Bs q) else (fs.map (Bs q)).map (renL O))=fs.map (Bs q):=by
 split
 ·rfl
 ·rw[List.map_map]
  exact List.map_congr_left fun f _=>(Lj h f).1
set_option maxRecDepth 100000 in
set_option maxHeartbeats 4000000 in
def Qv {fs:List Nat}{p p':Pp}{e:Int}(hw:Way12 fs p e p')(hl:fs.length<=6)(q y:Nat)(M:am)(nm:Nat)(hq:M q=some (ve p))(hy:M y=some ⟨1,fs.map (Bs q)⟩)(ho:∀ z,(M z).isSome=true->z∈[q,y])(hqy:q≠y)(hn:q<nm)(hny:y<nm) :
  Ev cx 24 nm [.own y 0 fs.length] M (.int .i64 e) [(y,none),(q,some (ve p'))]:=by
 unfold ve at hq ⊢
 have n1:=eq_false hqy
 have n2:=eq_false (Ne.symm hqy)
 refine bh call24 func24 rfl (by kernel_rfl) rfl ?_;intro b0 hb0;have zF:=Ai results24 ntmps24
 have lq:=aB hb0 hq
 have ly:=aB hb0 hy
 have z0:=JO lq;have z1:=rh lq;have z2:=CV lq;have z3:=o7 lq
 have y0:=aD ly
 have hO:aT [(b0,b0),(q,q),(y,y)] q=some q:=by simp only[fG,z2,if_true,if_false]
 have r1:=Ll hO fs
 have r2:=Qx hO fs
 have l16:(q<b0+16)=True:=eq_true (by omega)
 have l17:(y<b0+16)=True:=eq_true (by omega)
 repeat' first|simp only[ak,ag,zF,al,hq,hy,n1,n2,z0,z1,z2,z3,y0,Lm,ai,seval,ah]|exact rfl|refine aa (v:=.any) ?_|((first|apply Ca|apply Cb)<;>intro hb)|refine Ai (by omega) ?_|(apply Ai<;>intro hb)
 (refine aQ bM (fun x:RunSt=>fs.length-x.k) (fun x=>x.k<=fs.length/\Way12 (fs.drop x.k) x.p e p') (b0+16) (fun x=>[(2,.ptr b0 0 0),(6,.own y 0 fs.length),(7,.int .i64 fs.length),(8,.int .i64 x.k)]) (fun x=>[(b0,⟨1,[[.int .i64 0]]⟩),(q,⟨4,[[.str x.p.o,.str x.p.t,.sl false 4 (x.p.l.map bE),.sl false 6 (x.p.v.map aV)]]⟩),(y,⟨1,fs.map (Bs q)⟩)]) ((RunSt.mk 0 p)) [some b0,some q,some y] ?_ ?_ ?_ ?_;rotate_left 1;(focus (show b0<=_;omega));(focus (refine⟨?_,?_⟩<;>(try simp only[aX,r1,r2,l16,l17,cM,Bool.or_true,hq,hy,n1,n2,z0,z1,z2,z3,y0,aE,ad,aJ,Lm,ai,seval,ah,ap])<;>(try omega)));rotate_left 1)
 ·exact⟨Nat.zero_le _,by simpa using hw⟩
 ·rintro ⟨k,p1⟩ ⟨hk,hw1⟩
  simp only at hk hw1 ⊢
  by_cases hlt:k<fs.length
  ·obtain⟨f,hf⟩:∃ f,fs[k]? = some f:=⟨_,List.getElem?_eq_getElem hlt⟩
   have hd:fs.drop k=f::fs.drop (k+1):=by
    rw[List.drop_eq_getElem_cons hlt]
    have:=(List.getElem?_eq_some_iff.1 hf).2
    rw[this]
   rw[hd]at hw1
   have hat:=RQ (q:=q) hf
   have d1:decide ((k:Int)<(fs.length:Int))=true:=bR
   have d2:decide (k<fs.length)=true:=decide_eq_true hlt
   have hwk:IntKind.i64.wrap ((k:Int)+1)=((k+1:Nat):Int):=bd
   cases hw1 with
   | bad h he =>
    have hs:=h
    unfold iP zH ve at hs
    rw[if_neg he]at hs
    have hh:=zD e b0 (.int .i64 0)
    repeat' first|simp only[ak,ag,zF,al,hat,hlt,d1,d2,hwk,n1,n2,z0,z1,z2,z3,y0,Lm,ai,seval,ah]|exact rfl|refine aa (v:=.any) ?_|(refine ac ?_ [b0] (hh _ _ ?_) ?_ ?_)|((refine eC (fi:=?_) ?_ ?_ [q] (hs _ _ _ ?_ aj (by omega)) ?_ ?_);rotate_left 1)|(refine kL rfl (by kernel_rfl) ?_)|((first|apply Ca|apply Cb)<;>intro hb)|refine Ai (by omega) ?_|(apply Ai<;>intro hb)
    all_goals ((refine Fin.give [(q,none)] [y] ?_ ?_ ?_ ?_ ?_ (aL ho (by simp[aP,tgt]))<;>(try simp only[zF,al,aE,ad,hq,hy,n1,n2,z0,z1,z2,z3,y0,au,dx,ai,seval,ah])<;>(try simp only[ap])<;>(try omega)))
   | ok h t =>
    rename_i p2
    have hs:=h
    unfold iP zH ve at hs
    rw[if_pos rfl]at hs
    have hh:=fun M=>zE (.iface 75 (.ptr b0 0 0)) M
    repeat' first|simp only[ak,ag,zF,al,hat,hlt,d1,d2,hwk,n1,n2,z0,z1,z2,z3,y0,Lm,ai,seval,ah]|exact rfl|refine aa (v:=.any) ?_|(first|(refine ae ?_ (hh _ _) ?_)|(refine ab ?_ (fun _=>hh _ _) ?_))|((refine eC (fi:=?_) ?_ ?_ [q] (hs _ _ _ ?_ aj (by omega)) ?_ ?_);rotate_left 1)|(refine kL rfl (by kernel_rfl) ?_)|((first|apply Ca|apply Cb)<;>intro hb)|refine Ai (by omega) ?_|(apply Ai<;>intro hb)
    all_goals ((refine aC bM (RunSt.mk (k+1) p2) [some b0,some q,some y] ?_ ?_ ?_ ?_;rotate_left 2;(focus (show b0<=_;omega));(focus (refine⟨?_,?_⟩<;>(try simp only[aX,r1,r2,l16,l17,cM,Bool.or_true,hwk,n1,n2,z0,z1,z2,z3,y0,aE,ad,aJ,Lm,ai,seval,ah,ap])<;>(try omega)))))
    all_goals (first|(show fs.length-(k+1)<fs.length-k;omega)|exact⟨hlt,t⟩|skip)
  ·have hke:k=fs.length:=by omega
   subst hke
   rw[List.drop_length]at hw1
   cases hw1
   have d1:decide ((fs.length:Int)<(fs.length:Int))=false:=bm
   have d2:decide (fs.length<fs.length)=false:=bm
   repeat' first|simp only[ak,ag,zF,al,d1,d2,n1,n2,z0,z1,z2,z3,y0,Lm,ai,seval,ah]|exact rfl|refine aa (v:=.any) ?_|((first|apply Ca|apply Cb)<;>intro hb)|refine Ai (by omega) ?_|(apply Ai<;>intro hb)
   all_goals ((refine Fin.give [(q,none)] [y] ?_ ?_ ?_ ?_ ?_ (aL ho (by simp[aP,tgt]))<;>(try simp only[zF,al,aE,ad,hq,hy,n1,n2,z0,z1,z2,z3,y0,au,dx,ai,seval,ah])<;>(try simp only[ap])<;>(try omega)))
def Ev.mem_le {f:FuncId}{nm:Nat}{args:List V}{M M':am}{v:V}{eff:List (Nat×Option Blk)}(h:Ev cx f nm args M' v eff)(hle:P1 M M')(heq:M'.app eff=M.app eff):Ev cx f nm args M v eff:=by
 have hs:∀ x,((M' x).isSome=true)=((M x).isSome=true):=fun x=>by rw[kR hle]
 refine⟨h.1,fun X w Y cargs B hr hf hB hn hargs=>?_⟩
 have hbl:bG Y M'=bG Y M:=by funext b;simp only[bG,hs]
 have hD:bH X Y M'=bH X Y M:=by funext b;simp only[bH,hs]
 obtain⟨r1,m1⟩:=hr.weaken hle
 refine(h.2 X w Y cargs B (by rw[hbl];exact r1) hf (fun x hx=>⟨?_,(hB x hx).2⟩) hn (fun i u cv hi hc=>by rw[hD];exact hargs i u cv hi hc)).mono ?_
 ·cases hx2:M' x with
  | none=>rfl
  | some k =>
   have:=kR hle x
   rw[hx2,(hB x hx).1]at this
   cases this
 ·rintro e w' ⟨cv,rfl,Y',r,m,hv,hnn⟩
  rw[hbl,heq]at r
  rw[heq]at m hv
  exact⟨cv,rfl,Y',r,m1.trans m,hv,hnn⟩
def yD {fs:List Nat}{p p':Pp}{e:Int}(hw:Way12 fs p e p')(hl:fs.length<=6){k0:Blk}(hk:rT k0 (ve p))(q y:Nat)(M:am)(nm:Nat)(hq:M q=some k0)(hy:M y=some ⟨1,fs.map (Bs q)⟩)(ho:∀ z,(M z).isSome=true->z∈[q,y])(hqy:q≠y)(hn:q<nm)(hny:y<nm) :
  Ev cx 24 nm [.own y 0 fs.length] M (.int .i64 e) [(y,none),(q,some (ve p'))]:=by
 refine Ev.mem_le (Qv hw hl q y (M.put q (some (ve p))) nm (am.put_same _ _ _) (by rw[am.put_ne _ _ (Ne.symm hqy)];exact hy) (fun z hz=>?_) hqy hn hny) (fun x=>?_) ?_
 ·by_cases e:z=q
  ·subst e;simp
  ·rw[am.put_ne _ _ e]at hz;exact ho z hz
 ·by_cases e:x=q
  ·subst e;rw[hq,am.put_same];exact hk
  ·rw[am.put_ne _ _ e]
   have:=Av M x
   exact this
 ·funext x
  refine am.app_congr fun hx=>?_
  have e:x≠q:=fun e=>hx (by subst e;simp[ao])
  exact am.put_ne _ _ e
def Nb:Nat:=32
def xI:Nat:=33
def Nc:Nat:=34
def Eh:Nat:=25
def xJ:Nat:=26
def Ei:Nat:=27
def iS {f:Nat}{p p':Pp}{e:Int}(h:iP f p e p')(he:e=0):iP f p 0 p':=by subst he;exact h
def w9 {p:Pp}(hv:p.v.length<=bc)(hok:∀ n∈p.v,n.okTo 999900/\n.i64)(hs:p.o.length<=bc):∃ p',Way12 [Eh,xJ,Ei] p (cD p.v p.o).2 p'/\((cD p.v p.o).2=0->p'.t=(cD p.v p.o).1):=by
  have hok1:∀ n∈p.v,n.okTo 1000000/\n.i64:=fun n hn=>⟨jj (hok n hn).1 (by decide),(hok n hn).2⟩
  have s1:=KI p hv hok1 hs
  have hbl:=zh p.v p.o
  have hbf:=bare_fit (v:=p.v) (sp:=p.o) (B:=999900) hok
  unfold cD
  by_cases h1:(ck p.v p.o).2=0
  · rw [if_neg (by simpa using h1)]
    have s2:=GX { p with v:=(ck p.v p.o).1 } (by simp only;omega) (fun n hn=>⟨jj (hbf n hn).1 (by decide),(hbf n hn).2⟩)
    simp only at s2
    by_cases h2:(dn (ck p.v p.o).1).2=0
    · rw[if_neg (by simpa using h2)]
      have s3:=KJ { p with v:=(ck p.v p.o).1,l:=(dn (ck p.v p.o).1).1 } (by have:=HL (ck p.v p.o).1;simp only;omega) (HK (K:=1000000) (fun x hx=>jj (hbf x hx).1 (by decide)))
      simp only at s3 ⊢
      by_cases h3:eP (dn (ck p.v p.o).1).1=0
      · rw[h3]
        exact⟨_,.ok (iS s1 h1) (.ok (iS s2 h2) (.ok (iS s3 h3) (.done _))),fun _=>rfl⟩
      · exact⟨_,.ok (iS s1 h1) (.ok (iS s2 h2) (.bad s3 h3)),fun h=>absurd h h3⟩
    · rw[if_pos h2]
      exact⟨_,.ok (iS s1 h1) (.bad s2 h2),fun h=>absurd h h2⟩
  · rw[if_pos h1]
    exact⟨_,.bad s1 h1,fun h=>absurd h h1⟩
def Bl {p:Pp}(ht:p.t.length<=16384)(fs:List Nat)(e:Int)(G:Pp->Prop)(hb:(dy p.t).2≠0->e=(dy p.t).2)(hg:∀ l,(dy p.t).2=0 -> ∃ p2,Way12 fs { p with l:=l,v:=(dy p.t).1 } e p2/\G p2):∃ p',Way12 (Nb::xI::Nc::fs) p e p'/\((dy p.t).2=0->G p'):=by
 have s1:=N6 p (by unfold bc;omega)
 have hpf:=Dc ht
 unfold dy at hb hg ⊢
 by_cases h1:(dS p.t).2.2=0
 ·have hA:gN p.t=(dJ (dS p.t).1,cR (dS p.t).1):=by unfold gN;rw[if_neg (by simpa using h1)]
  rw[hA]at hb hg hpf ⊢
  simp only at hb hg hpf ⊢
  obtain⟨f1,f2⟩:=toks_fit ht h1
  have s2:=GW { p with l:=(dS p.t).1 } f1 f2
  simp only at s2
  by_cases h2:cR (dS p.t).1=0
  ·rw[if_neg (by simpa using h2)]at hb hg ⊢
   have s3:=AJ { p with l:=(dS p.t).1,v:=dJ (dS p.t).1 } (by have:=hpf.1;simp only;unfold bc;omega) hpf.2
   simp only at s3
   by_cases h3:(cJ (dJ (dS p.t).1)).2=0
   ·obtain⟨p2,w,g⟩:=hg (dS p.t).1 h3
    exact⟨_,.ok (iS s1 h1) (.ok (iS s2 h2) (.ok (iS s3 h3) w)),fun _=>g⟩
   ·rw[hb h3]
    exact⟨_,.ok (iS s1 h1) (.ok (iS s2 h2) (.bad s3 h3)),fun h=>absurd h h3⟩
  ·rw[if_pos h2]at hb ⊢
   rw[hb h2]
   exact⟨_,.ok (iS s1 h1) (.bad s2 h2),fun h=>absurd h h2⟩
 ·have hA:gN p.t=([],(dS p.t).2.2):=by unfold gN;rw[if_pos h1]
  rw[hA]at hb ⊢
  simp only at hb ⊢
  rw[if_pos h1]at hb ⊢
  rw[hb h1]
  exact⟨_,.bad s1 h1,fun h=>absurd h h1⟩
set_option maxRecDepth 100000 in
set_option maxHeartbeats 4000000 in
def Od (s:List UInt8)(hs:s.length<=16384)(nm:Nat):Ev cx 14 nm [.str s] am.nil (iO (dy s).1 (dy s).2) []:=by
 obtain⟨p',hw,hp⟩:=Bl (p:=⟨[],s,[],[]⟩) hs [] (dy s).2 (fun p2=>p2.v=(dy s).1) (fun _=>rfl) (fun l h=>⟨_,by simp only at h;rw[h];exact .done _,rfl⟩)
 simp only at hp
 have hr:=fun q y=>yD hw (by decide) (k0:=⟨4,[[.str [],.str s,.nils,.nils]]⟩) (by unfold ve;rw[pY];simp only[gw,dZ,fj,gR,re,bL,V.le_refl,Lo,and_self,true_and,and_true]) q y
 unfold ve at hr
 simp only[Lc,Lo,List.length_cons,List.length_nil,Bs,Nb,xI,Nc]at hr
 have hno:=Oe (s:=s)
 generalize (dy s).1=v at hp hno ⊢
 generalize (dy s).2=E at hp hr hno ⊢
 unfold iO
 refine lC rfl call14 func14 rfl mixed (by kernel_rfl) rfl ?_;intro b0 hb0;have zF:=Ai results14 ntmps14
 repeat' first|simp only[ak,ag,zF,al,ai,seval,ah]|exact rfl|refine aa (v:=.any) ?_|((first|apply Ca|apply Cb)<;>intro hb)|refine Ai (by omega) ?_|(apply Ai<;>intro hb)
 (refine ki bM (b0+16) ([(0,.str s)]) ([]) [] ?_ ?_ ?_;(focus (show b0<=_;omega));(focus (refine⟨?_,?_⟩<;>(try simp only[aX,aJ,cM,bL,ai,seval,ah,ap])<;>(try omega))))
 repeat' first|simp only[ak,ag,zF,al,ai,seval,ah]|exact rfl|refine aa (v:=.any) ?_|((first|apply Ca|apply Cb)<;>intro hb)|refine Ai (by omega) ?_|(apply Ai<;>intro hb)
 by_cases hE:E=0
 ·subst hE
  have hv:=hp rfl
  subst hv
  (repeat' first|simp only[ak,ag,zF,al,aE,ad,ai,seval,ah]|exact rfl|refine aa (v:=.any) ?_|(refine ac ?_ [b0+48,b0+176] (hr (b0+48) (b0+176) _ _ ?_ ?_ aj (by omega) (by omega) (by omega)) ?_ ?_)|refine ct ?_|((first|apply Ca|apply Cb)<;>intro hb)|refine Ai (by omega) ?_|(apply Ai<;>intro hb)|refine Fin.pure ?_ ?_ ?_|simp only[ap])
 ·have hq:(E != 0)=true:=by simpa using hE
  have:=hno hE
  subst this
  (repeat' first|simp only[ak,ag,zF,al,hq,aE,ad,Lo,ai,seval,ah]|exact rfl|refine aa (v:=.any) ?_|(refine ac ?_ [b0+48,b0+176] (hr (b0+48) (b0+176) _ _ ?_ ?_ aj (by omega) (by omega) (by omega)) ?_ ?_)|refine ct ?_|((first|apply Ca|apply Cb)<;>intro hb)|refine Ai (by omega) ?_|(apply Ai<;>intro hb)|refine Fin.pure ?_ ?_ ?_|simp only[ap])
set_option maxRecDepth 100000 in
set_option maxHeartbeats 4000000 in
def qu (v:List Nd)(o:List UInt8)(hv:v.length<=bc)(hok:∀ n∈v,n.okTo 999900/\n.i64)(ho:o.length<=bc)(nm:Nat):Ev cx 11 nm [.sl false 6 (v.map aV),.str o] am.nil (.tup [.str (cD v o).1,.int .i64 (cD v o).2]) []:=by
 obtain⟨p',hw,hp⟩:=w9 (p:=⟨o,[],[],v⟩) hv hok ho
 simp only at hw hp
 have hr:=fun q y=>yD hw (by decide) (k0:=⟨4,[[.str o,.str [],.nils,.sl false 6 (v.map aV)]]⟩) (by unfold ve;rw[pY];simp only[gw,dZ,fj,gR,re,bL,V.le_refl,Lo,and_self,true_and,and_true]) q y
 unfold ve at hr
 simp only[Lc,Lo,List.length_cons,List.length_nil,Bs,Nb,xI,Nc,Eh,xJ,Ei]at hr
 have hno:=u6 (v:=v) (sp:=o)
 generalize (cD v o).1=x at hp hno ⊢
 generalize (cD v o).2=E at hp hr hno ⊢
 refine lC rfl call11 func11 rfl mixed (by kernel_rfl) rfl ?_;intro b0 hb0;have zF:=Ai results11 ntmps11
 repeat' first|simp only[ak,ag,zF,al,ai,seval,ah]|exact rfl|refine aa (v:=.any) ?_|((first|apply Ca|apply Cb)<;>intro hb)|refine Ai (by omega) ?_|(apply Ai<;>intro hb)
 (refine ki bM (b0+16) ([(0,.sl false 6 (v.map aV)),(1,.str o)]) ([]) [] ?_ ?_ ?_;(focus (show b0<=_;omega));(focus (refine⟨?_,?_⟩<;>(try simp only[aX,ad,aJ,cM,bL,ai,seval,ah,ap])<;>(try omega))))
 repeat' first|simp only[ak,ag,zF,al,ad,ai,seval,ah]|exact rfl|refine aa (v:=.any) ?_|((first|apply Ca|apply Cb)<;>intro hb)|refine Ai (by omega) ?_|(apply Ai<;>intro hb)
 by_cases hE:E=0
 ·subst hE
  have hv:=hp rfl
  subst hv
  (repeat' first|simp only[ak,ag,zF,al,aE,ad,ai,seval,ah]|exact rfl|refine aa (v:=.any) ?_|(refine ac ?_ [b0+64,b0+192] (hr (b0+64) (b0+192) _ _ ?_ ?_ aj (by omega) (by omega) (by omega)) ?_ ?_)|refine ct ?_|((first|apply Ca|apply Cb)<;>intro hb)|refine Ai (by omega) ?_|(apply Ai<;>intro hb)|refine Fin.pure ?_ ?_ ?_|simp only[ap])
 ·have hq:(E != 0)=true:=by simpa using hE
  have:=hno hE
  subst this
  (repeat' first|simp only[ak,ag,zF,al,hq,aE,ad,Lo,ai,seval,ah]|exact rfl|refine aa (v:=.any) ?_|(refine ac ?_ [b0+64,b0+192] (hr (b0+64) (b0+192) _ _ ?_ ?_ aj (by omega) (by omega) (by omega)) ?_ ?_)|refine ct ?_|((first|apply Ca|apply Cb)<;>intro hb)|refine Ai (by omega) ?_|(apply Ai<;>intro hb)|refine Fin.pure ?_ ?_ ?_|simp only[ap])
set_option maxRecDepth 100000 in
set_option maxHeartbeats 4000000 in
def tp (s:List UInt8)(hs:s.length<=16384)(nm:Nat):Ev cx 16 nm [.str s] am.nil (.tup [.str (cF s).1,.int .i64 (cF s).2]) []:=by
 obtain⟨p',hw,hp⟩:=Bl (p:=⟨[],s,[],[]⟩) hs [Eh,xJ,Ei] (cF s).2 (fun p2=>(cF s).2=0->p2.t=(cF s).1) (fun h=>by simp only at h ⊢;unfold cF;rw[if_pos h]) (fun l h=>by
  simp only at h ⊢
  obtain⟨f1,f2⟩:=KW hs
  have hc:cF s=cD (dy s).1 []:=by unfold cF;rw[if_neg (by simpa using h)]
  rw[hc]
  exact w9 (p:=⟨[],s,l,(dy s).1⟩) (by simp only;unfold bc;omega) (fun n hn=>⟨jj (f2 n hn).1 (by decide),(f2 n hn).2⟩) (by simp))
 have hp:(cF s).2=0->p'.t=(cF s).1:=fun h=>hp (Ix h).1 h
 have hr:=fun q y=>yD hw (by decide) (k0:=⟨4,[[.str [],.str s,.nils,.nils]]⟩) (by unfold ve;rw[pY];simp only[gw,dZ,fj,gR,re,bL,V.le_refl,Lo,and_self,true_and,and_true]) q y
 unfold ve at hr
 simp only[Lc,Lo,List.length_cons,List.length_nil,Bs,Nb,xI,Nc,Eh,xJ,Ei]at hr
 have hno:=Iw (s:=s)
 generalize (cF s).1=x at hp hno ⊢
 generalize (cF s).2=E at hp hr hno ⊢
 refine lC rfl call16 func16 rfl mixed (by kernel_rfl) rfl ?_;intro b0 hb0;have zF:=Ai results16 ntmps16
 repeat' first|simp only[ak,ag,zF,al,ai,seval,ah]|exact rfl|refine aa (v:=.any) ?_|((first|apply Ca|apply Cb)<;>intro hb)|refine Ai (by omega) ?_|(apply Ai<;>intro hb)
 (refine ki bM (b0+16) ([(0,.str s)]) ([]) [] ?_ ?_ ?_;(focus (show b0<=_;omega));(focus (refine⟨?_,?_⟩<;>(try simp only[aX,ad,aJ,cM,bL,ai,seval,ah,ap])<;>(try omega))))
 repeat' first|simp only[ak,ag,zF,al,ad,ai,seval,ah]|exact rfl|refine aa (v:=.any) ?_|((first|apply Ca|apply Cb)<;>intro hb)|refine Ai (by omega) ?_|(apply Ai<;>intro hb)
 by_cases hE:E=0
 ·subst hE
  have hv:=hp rfl
  subst hv
  (repeat' first|simp only[ak,ag,zF,al,aE,ad,ai,seval,ah]|exact rfl|refine aa (v:=.any) ?_|(refine ac ?_ [b0+48,b0+272] (hr (b0+48) (b0+272) _ _ ?_ ?_ aj (by omega) (by omega) (by omega)) ?_ ?_)|refine ct ?_|((first|apply Ca|apply Cb)<;>intro hb)|refine Ai (by omega) ?_|(apply Ai<;>intro hb)|refine Fin.pure ?_ ?_ ?_|simp only[ap])
 ·have hq:(E != 0)=true:=by simpa using hE
  have:=hno hE
  subst this
  (repeat' first|simp only[ak,ag,zF,al,hq,aE,ad,Lo,ai,seval,ah]|exact rfl|refine aa (v:=.any) ?_|(refine ac ?_ [b0+48,b0+272] (hr (b0+48) (b0+272) _ _ ?_ ?_ aj (by omega) (by omega) (by omega)) ?_ ?_)|refine ct ?_|((first|apply Ca|apply Cb)<;>intro hb)|refine Ai (by omega) ?_|(apply Ai<;>intro hb)|refine Fin.pure ?_ ?_ ?_|simp only[ap])
end Go.Proofs.YtlnlopnpcmahgaaGreatDoor
