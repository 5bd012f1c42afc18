/-
 Texts joined: XIe,XIf,XIg.
-/
import Derived.Test.YtlnlopnpcmahgaaGreatDoorMc
import Derived.Test.YtlnlopnpcmahgaaGreatDoorR6
import Derived.Test.YtlnlopnpcmahgaaGreatDoorQv
import Derived.Test.YtlnlopnpcmahgaaGreatDoorMa
import Derived.Test.YtlnlopnpcmahgaaGreatDoorMb
set_option linter.all false
namespace Go.Proofs.YtlnlopnpcmahgaaGreatDoor
open Go Go.RowKit Vm Go.Lib Tryz
open Vm renaming aH->Ca,aL->Cb
open And renaming intro->Ai
open List renaming length_map->Lm,not_mem_nil->Ln,map_nil->Lo,map_cons->Lc,mem_cons->Lk
open Bool renaming not_false->Bf,not_true->Bt
def vf (e:Int):V:=if e=0 then .val .nilIface else .iface 25 (.int .i64 e)
def nq (e:Int)(nm:Nat):Ev cx 46 nm [.int .i64 e] am.nil (vf e) []:=by
 unfold vf
 by_cases h:e=0
 ·subst h
  rw[if_pos rfl]
  refine aV call46 func46 rfl (by kernel_rfl) rfl ?_;intro b0 hb0
  (repeat' first|simp only[aj,ag,results46,ntmps46,ap,ai,seval,ah]|exact rfl|refine aa (v:=.any) ?_|((first|apply Ca|apply Cb)<;>intro hb)|refine Ai (by omega) ?_|(apply Ai<;>intro hb)|refine Fin.pure ?_ ?_ ?_|simp only[al])
 ·rw[if_neg h]
  have q:(e==0)=false:=by simpa using h
  refine aV call46 func46 rfl (by kernel_rfl) rfl ?_;intro b0 hb0
  (repeat' first|simp only[aj,ag,results46,ntmps46,ap,q,ai,seval,ah]|exact rfl|refine aa (v:=.any) ?_|(refine nn rfl (by kernel_rfl) ?_)|((first|apply Ca|apply Cb)<;>intro hb)|refine Ai (by omega) ?_|(apply Ai<;>intro hb)|refine Fin.pure ?_ ?_ ?_|simp only[al])
def tG (e:Int):vf e = .val .nilIface\/vf e = .iface 25 (.int .i64 e):=by
 unfold vf
 split
 ·exact .inl rfl
 ·exact .inr rfl
structure Pp where
 o:List UInt8
 t:List UInt8
 l:List Tk
 v:List Nd
def x7 (p:Pp):Blk:=⟨4,[[.str p.o,.str p.t,.sl false 4 (p.l.map bv),.sl false 6 (p.v.map aG)]]⟩
def iE (f:Nat)(p:Pp)(e:Int)(p':Pp):Prop :=
 ∀(q:Nat) (M:am) (nm:Nat),M q=some (x7 p)->(∀ z,(M z).isSome=true->z∈[q])->q<nm->Ev cx f nm [.ptr q 0 0] M (vf e) [(q,some (x7 p'))]
set_option maxRecDepth 100000 in
def DX (p:Pp)(hv:p.v.length<=aS)(hok:∀ n∈p.v,n.okTo 1000000/\n.i64)(hs:p.o.length<=aS):iE 25 p (bi p.v p.o).2 { p with v:=(bi p.v p.o).1 }:=by
 intro q M nm hq ho hn
 have hl:=Cz p.v p.o hv hok hs
 unfold oI at hl
 have hf:=nq (bi p.v p.o).2
 unfold x7 at hq ⊢
 simp only at hq ⊢
 generalize (bi p.v p.o).1=L at hl ⊢
 generalize (bi p.v p.o).2=E at hl hf ⊢
 rcases tG E with hW|hW
 all_goals
  rw[hW]at hf ⊢
  refine aV call25 func25 rfl (by kernel_rfl) rfl ?_;intro b0 hb0
  have lq:=aY hb0 hq
  have z0:=aZ lq
  repeat' first|simp only[aj,ag,results25,ntmps25,ap,hq,z0,aF,ad,ai,seval,ah]|exact rfl|refine aa (v:=.any) ?_|(first|(refine ac ?_ (hl _) ?_)|(refine ab ?_ (fun _=>hl _) ?_)|(refine ac ?_ (hf _) ?_)|(refine ab ?_ (fun _=>hf _) ?_))|refine ao (by decide +kernel) ?_|((first|apply Ca|apply Cb)<;>intro hb)|refine Ai (by omega) ?_|(apply Ai<;>intro hb)
  all_goals ((refine Fin.give [(q,none)] [] ?_ ?_ ?_ ?_ ?_ (bB ho (by simp[bg,tgt]))<;>(try simp only[results25,ntmps25,ap,aF,ad,hq,z0,aI,jU,ai,seval,ah])<;>(try simp only[al])<;>(try omega)))
set_option maxRecDepth 100000 in
def A8 (p:Pp)(hv:p.v.length<=aS)(hok:∀ n∈p.v,n.okTo aS/\n.i64):iE 26 p (bU p.v).2 { p with l:=(bU p.v).1 }:=by
 intro q M nm hq ho hn
 have hl:=EM p.v hv hok
 unfold rY at hl
 have hf:=nq (bU p.v).2
 unfold x7 at hq ⊢
 simp only at hq ⊢
 generalize (bU p.v).1=L at hl ⊢
 generalize (bU p.v).2=E at hl hf ⊢
 rcases tG E with hW|hW
 all_goals
  rw[hW]at hf ⊢
  refine aV call26 func26 rfl (by kernel_rfl) rfl ?_;intro b0 hb0
  have lq:=aY hb0 hq
  have z0:=aZ lq
  repeat' first|simp only[aj,ag,results26,ntmps26,ap,hq,z0,aF,ad,ai,seval,ah]|exact rfl|refine aa (v:=.any) ?_|(first|(refine ac ?_ (hl _) ?_)|(refine ab ?_ (fun _=>hl _) ?_)|(refine ac ?_ (hf _) ?_)|(refine ab ?_ (fun _=>hf _) ?_))|((first|apply Ca|apply Cb)<;>intro hb)|refine Ai (by omega) ?_|(apply Ai<;>intro hb)
  all_goals ((refine Fin.give [(q,none)] [] ?_ ?_ ?_ ?_ ?_ (bB ho (by simp[bg,tgt]))<;>(try simp only[results26,ntmps26,ap,aF,ad,hq,z0,aI,jU,ai,seval,ah])<;>(try simp only[al])<;>(try omega)))
set_option maxRecDepth 100000 in
def DY (p:Pp)(hl:p.l.length<=600)(hs:∀ t∈p.l,t.okTo 1000000/\t.attrs.length<=30):iE 27 p (ed p.l) { p with t:=jY p.l }:=by
 intro q M nm hq ho hn
 have hl:=Gm p.l hl hs
 have hf:=nq (ed p.l)
 unfold x7 at hq ⊢
 simp only at hq ⊢
 generalize jY p.l=L at hl ⊢
 generalize ed p.l=E at hl hf ⊢
 rcases tG E with hW|hW
 all_goals
  rw[hW]at hf ⊢
  refine aV call27 func27 rfl (by kernel_rfl) rfl ?_;intro b0 hb0
  have lq:=aY hb0 hq
  have z0:=aZ lq
  repeat' first|simp only[aj,ag,results27,ntmps27,ap,hq,z0,aF,ad,ai,seval,ah]|exact rfl|refine aa (v:=.any) ?_|(first|(refine ac ?_ (hl _) ?_)|(refine ab ?_ (fun _=>hl _) ?_)|(refine ac ?_ (hf _) ?_)|(refine ab ?_ (fun _=>hf _) ?_))|((first|apply Ca|apply Cb)<;>intro hb)|refine Ai (by omega) ?_|(apply Ai<;>intro hb)
  all_goals ((refine Fin.give [(q,none)] [] ?_ ?_ ?_ ?_ ?_ (bB ho (by simp[bg,tgt]))<;>(try simp only[results27,ntmps27,ap,aF,ad,hq,z0,aI,jU,ai,seval,ah])<;>(try simp only[al])<;>(try omega)))
inductive Way12:List Nat->Pp->Int->Pp->Prop
 | done (p:Pp):Way12 [] p 0 p
 | bad {f:Nat} {fs:List Nat} {p p':Pp} {e:Int} (h:iE f p e p') (he:e≠0):Way12 (f::fs) p e p'
 | ok {f:Nat} {fs:List Nat} {p p1 p':Pp} {e:Int} (h:iE f p 0 p1) (t:Way12 fs p1 e p'):Way12 (f::fs) p e p'
def zp (q f:Nat):List V:=[.fnb f [.ptr q 0 0]]
structure RunSt where
 k:Nat
 p:Pp
def Kw {q:Nat}{l:List Nat}{k f:Nat}(h:l[k]? = some f):(l.map (zp q))[k]? = some [.fnb f [.ptr q 0 0]]:=by rw[List.getElem?_map,h];rfl
def Eu {σ:List (Nat×Nat)}{q:Nat}(h:aN σ q=some q)(f:Nat):renL σ (zp q f)=zp q f/\renOkL σ (zp q f)=true:=by
 unfold zp
 simp only[renL,V.ren,renOkL,V.renOk,h,Option.getD_some,Option.isSome_some,Bool.and_self,and_self]
def Ew {σ:List (Nat×Nat)}{q:Nat}(h:aN σ q=some q)(fs:List Nat):(fs.map (zp q)).all (renOkL σ)=true:=by
 rw[List.all_eq_true]
 intro r hr
 obtain⟨f,_,rfl⟩:=List.mem_map.1 hr
 exact(Eu h f).2
def IU {σ:List (Nat×Nat)}{q:Nat}(h:aN σ q=some q)(fs:List Nat):(if plainLL (fs.map (zp q))=true then fs.map (zp q) else (fs.map (zp q)).map (renL σ))=fs.map (zp q):=by
 split
 ·rfl
 ·rw[List.map_map]
  exact List.map_congr_left fun f _=>(Eu h f).1
set_option maxRecDepth 100000 in
set_option maxHeartbeats 4000000 in
def IR {fs:List Nat}{p p':Pp}{e:Int}(hw:Way12 fs p e p')(hl:fs.length<=6)(q y:Nat)(M:am)(nm:Nat)(hq:M q=some (x7 p))(hy:M y=some ⟨1,fs.map (zp q)⟩)(ho:∀ z,(M z).isSome=true->z∈[q,y])(hqy:q≠y)(hn:q<nm)(hny:y<nm) :
  Ev cx 24 nm [.own y 0 fs.length] M (.int .i64 e) [(y,none),(q,some (x7 p'))]:=by
 unfold x7 at hq ⊢
 have n1:=eq_false hqy
 have n2:=eq_false (Ne.symm hqy)
 refine aV call24 func24 rfl (by kernel_rfl) rfl ?_;intro b0 hb0;have zF:=Ai results24 ntmps24
 have lq:=aY hb0 hq
 have ly:=aY hb0 hy
 have z0:=Du lq;have z1:=nE lq;have z2:=xQ lq;have z3:=lG lq
 have y0:=aZ ly
 have hσ:aN [(b0,b0),(q,q),(y,y)] q=some q:=by simp only[dS,z2,if_true,if_false]
 have r1:=Ew hσ fs
 have r2:=IU hσ fs
 have l16:(q<b0+16)=True:=eq_true (by omega)
 have l17:(y<b0+16)=True:=eq_true (by omega)
 repeat' first|simp only[aj,ag,zF,ap,hq,hy,n1,n2,z0,z1,z2,z3,y0,Lm,ai,seval,ah]|exact rfl|refine aa (v:=.any) ?_|((first|apply Ca|apply Cb)<;>intro hb)|refine Ai (by omega) ?_|(apply Ai<;>intro hb)
 (refine ay bu (fun x:RunSt=>fs.length-x.k) (fun x=>x.k<=fs.length/\Way12 (fs.drop x.k) x.p e p') (b0+16) (fun x=>[(2,.ptr b0 0 0),(6,.own y 0 fs.length),(7,.int .i64 fs.length),(8,.int .i64 x.k)]) (fun x=>[(b0,⟨1,[[.int .i64 0]]⟩),(q,⟨4,[[.str x.p.o,.str x.p.t,.sl false 4 (x.p.l.map bv),.sl false 6 (x.p.v.map aG)]]⟩),(y,⟨1,fs.map (zp q)⟩)]) ((RunSt.mk 0 p)) [some b0,some q,some y] ?_ ?_ ?_ ?_;rotate_left 1;(focus (show b0<=_;omega));(focus (refine⟨?_,?_⟩<;>(try simp only[aM,r1,r2,l16,l17,aQ,Bool.or_true,hq,hy,n1,n2,z0,z1,z2,z3,y0,aF,ad,aB,Lm,ai,seval,ah,al])<;>(try omega)));rotate_left 1)
 ·exact⟨Nat.zero_le _,by simpa using hw⟩
 ·rintro ⟨k,p1⟩ ⟨hk,hw1⟩
  simp only at hk hw1 ⊢
  by_cases hlt:k<fs.length
  ·obtain⟨f,hf⟩:∃ f,fs[k]? = some f:=⟨_,List.getElem?_eq_getElem hlt⟩
   have hd:fs.drop k=f::fs.drop (k+1):=by
    rw[List.drop_eq_getElem_cons hlt]
    have:=(List.getElem?_eq_some_iff.1 hf).2
    rw[this]
   rw[hd]at hw1
   have hat:=Kw (q:=q) hf
   have d1:decide ((k:Int)<(fs.length:Int))=true:=cn
   have d2:decide (k<fs.length)=true:=decide_eq_true hlt
   have hwk:IntKind.i64.wrap ((k:Int)+1)=((k+1:Nat):Int):=aK
   cases hw1 with
   | bad h he =>
    have hs:=h
    unfold iE vf x7 at hs
    rw[if_neg he]at hs
    have hh:=vb e b0 (.int .i64 0)
    repeat' first|simp only[aj,ag,zF,ap,hat,hlt,d1,d2,hwk,n1,n2,z0,z1,z2,z3,y0,Lm,ai,seval,ah]|exact rfl|refine aa (v:=.any) ?_|(refine aJ ?_ [b0] (hh _ _ ?_) ?_ ?_)|((refine uV (fi:=?_) ?_ ?_ [q] (hs _ _ _ ?_ aP (by omega)) ?_ ?_);rotate_left 1)|(refine nn rfl (by kernel_rfl) ?_)|((first|apply Ca|apply Cb)<;>intro hb)|refine Ai (by omega) ?_|(apply Ai<;>intro hb)
    all_goals ((refine Fin.give [(q,none)] [y] ?_ ?_ ?_ ?_ ?_ (bB ho (by simp[bg,tgt]))<;>(try simp only[zF,ap,aF,ad,hq,hy,n1,n2,z0,z1,z2,z3,y0,aI,jU,ai,seval,ah])<;>(try simp only[al])<;>(try omega)))
   | ok h t =>
    rename_i p2
    have hs:=h
    unfold iE vf x7 at hs
    rw[if_pos rfl]at hs
    have hh:=fun M=>vd (.iface 75 (.ptr b0 0 0)) M
    repeat' first|simp only[aj,ag,zF,ap,hat,hlt,d1,d2,hwk,n1,n2,z0,z1,z2,z3,y0,Lm,ai,seval,ah]|exact rfl|refine aa (v:=.any) ?_|(first|(refine ac ?_ (hh _ _) ?_)|(refine ab ?_ (fun _=>hh _ _) ?_))|((refine uV (fi:=?_) ?_ ?_ [q] (hs _ _ _ ?_ aP (by omega)) ?_ ?_);rotate_left 1)|(refine nn rfl (by kernel_rfl) ?_)|((first|apply Ca|apply Cb)<;>intro hb)|refine Ai (by omega) ?_|(apply Ai<;>intro hb)
    all_goals ((refine au bu (RunSt.mk (k+1) p2) [some b0,some q,some y] ?_ ?_ ?_ ?_;rotate_left 2;(focus (show b0<=_;omega));(focus (refine⟨?_,?_⟩<;>(try simp only[aM,r1,r2,l16,l17,aQ,Bool.or_true,hwk,n1,n2,z0,z1,z2,z3,y0,aF,ad,aB,Lm,ai,seval,ah,al])<;>(try omega)))))
    all_goals (first|(show fs.length-(k+1)<fs.length-k;omega)|exact⟨hlt,t⟩|skip)
  ·have hke:k=fs.length:=by omega
   subst hke
   rw[List.drop_length]at hw1
   cases hw1
   have d1:decide ((fs.length:Int)<(fs.length:Int))=false:=aR
   have d2:decide (fs.length<fs.length)=false:=aR
   repeat' first|simp only[aj,ag,zF,ap,d1,d2,n1,n2,z0,z1,z2,z3,y0,Lm,ai,seval,ah]|exact rfl|refine aa (v:=.any) ?_|((first|apply Ca|apply Cb)<;>intro hb)|refine Ai (by omega) ?_|(apply Ai<;>intro hb)
   all_goals ((refine Fin.give [(q,none)] [y] ?_ ?_ ?_ ?_ ?_ (bB ho (by simp[bg,tgt]))<;>(try simp only[zF,ap,aF,ad,hq,hy,n1,n2,z0,z1,z2,z3,y0,aI,jU,ai,seval,ah])<;>(try simp only[al])<;>(try omega)))
def Ev.mem_le {f:FuncId}{nm:Nat}{args:List V}{M M':am}{v:V}{eff:List (Nat×Option Blk)}(h:Ev cx f nm args M' v eff)(hle:It M M')(heq:M'.app eff=M.app eff):Ev cx f nm args M v eff:=by
 have hs:∀ x,((M' x).isSome=true)=((M x).isSome=true):=fun x=>by rw[iq hle]
 refine⟨h.1,fun X w ρ cargs B hr hf hB hn hargs=>?_⟩
 have hbl:bW ρ M'=bW ρ M:=by funext b;simp only[bW,hs]
 have hD:bt X ρ M'=bt X ρ M:=by funext b;simp only[bt,hs]
 obtain⟨r1,m1⟩:=hr.weaken hle
 refine(h.2 X w ρ cargs B (by rw[hbl];exact r1) hf (fun x hx=>⟨?_,(hB x hx).2⟩) hn (fun i u cv hi hc=>by rw[hD];exact hargs i u cv hi hc)).mono ?_
 ·cases hx2:M' x with
  | none=>rfl
  | some k =>
   have:=iq hle x
   rw[hx2,(hB x hx).1]at this
   cases this
 ·rintro e w' ⟨cv,rfl,ρ',r,m,hv,hnn⟩
  rw[hbl,heq]at r
  rw[heq]at m hv
  exact⟨cv,rfl,ρ',r,m1.trans m,hv,hnn⟩
def G0 {fs:List Nat}{p p':Pp}{e:Int}(hw:Way12 fs p e p')(hl:fs.length<=6){k0:Blk}(hk:ow k0 (x7 p))(q y:Nat)(M:am)(nm:Nat)(hq:M q=some k0)(hy:M y=some ⟨1,fs.map (zp q)⟩)(ho:∀ z,(M z).isSome=true->z∈[q,y])(hqy:q≠y)(hn:q<nm)(hny:y<nm) :
  Ev cx 24 nm [.own y 0 fs.length] M (.int .i64 e) [(y,none),(q,some (x7 p'))]:=by
 refine Ev.mem_le (IR hw hl q y (M.put q (some (x7 p))) nm (am.put_same _ _ _) (by rw[am.put_ne _ _ (Ne.symm hqy)];exact hy) (fun z hz=>?_) hqy hn hny) (fun x=>?_) ?_
 ·by_cases e:z=q
  ·subst e;simp
  ·rw[am.put_ne _ _ e]at hz;exact ho z hz
 ·by_cases e:x=q
  ·subst e;rw[hq,am.put_same];exact hk
  ·rw[am.put_ne _ _ e]
   have:=vW M x
   exact this
 ·funext x
  refine am.app_congr fun hx=>?_
  have e:x≠q:=fun e=>hx (by subst e;simp[ak])
  exact am.put_ne _ _ e
def KW:Nat:=32
def Ih:Nat:=33
def KX:Nat:=34
def Hu:Nat:=25
def CN:Nat:=26
def Hv:Nat:=27
def nj {f:Nat}{p p':Pp}{e:Int}(h:iE f p e p')(he:e=0):iE f p 0 p':=by subst he;exact h
def Cc {p:Pp}(hv:p.v.length<=aS)(hok:∀ n∈p.v,n.okTo 999900/\n.i64)(hs:p.o.length<=aS):∃ p',Way12 [Hu,CN,Hv] p (dW p.v p.o).2 p'/\((dW p.v p.o).2=0->p'.t=(dW p.v p.o).1):=by
  have hok1:∀ n∈p.v,n.okTo 1000000/\n.i64:=fun n hn=>⟨eZ (hok n hn).1 (by decide),(hok n hn).2⟩
  have s1:=DX p hv hok1 hs
  have hbl:=oc p.v p.o
  have hbf:=bare_fit (v:=p.v) (sp:=p.o) (B:=999900) hok
  unfold dW
  by_cases h1:(bi p.v p.o).2=0
  · rw [if_neg (by simpa using h1)]
    have s2:=A8 { p with v:=(bi p.v p.o).1 } (by simp only;omega) (fun n hn=>⟨eZ (hbf n hn).1 (by decide),(hbf n hn).2⟩)
    simp only at s2
    by_cases h2:(bU (bi p.v p.o).1).2=0
    · rw[if_neg (by simpa using h2)]
      have s3:=DY { p with v:=(bi p.v p.o).1,l:=(bU (bi p.v p.o).1).1 } (by have:=s5 (bi p.v p.o).1;simp only;omega) (s4 (K:=1000000) (fun x hx=>eZ (hbf x hx).1 (by decide)))
      simp only at s3 ⊢
      by_cases h3:ed (bU (bi p.v p.o).1).1=0
      · rw[h3]
        exact⟨_,.ok (nj s1 h1) (.ok (nj s2 h2) (.ok (nj s3 h3) (.done _))),fun _=>rfl⟩
      · exact⟨_,.ok (nj s1 h1) (.ok (nj s2 h2) (.bad s3 h3)),fun h=>absurd h h3⟩
    · rw[if_pos h2]
      exact⟨_,.ok (nj s1 h1) (.bad s2 h2),fun h=>absurd h h2⟩
  · rw[if_pos h1]
    exact⟨_,.bad s1 h1,fun h=>absurd h h1⟩
set_option maxRecDepth 100000 in
set_option maxHeartbeats 4000000 in
def EX (v:List Nd)(o:List UInt8)(hv:v.length<=aS)(hok:∀ n∈v,n.okTo 999900/\n.i64)(ho:o.length<=aS)(nm:Nat):Ev cx 11 nm [.sl false 6 (v.map aG),.str o] am.nil (.tup [.str (dW v o).1,.int .i64 (dW v o).2]) []:=by
 obtain⟨p',hw,hp⟩:=Cc (p:=⟨o,[],[],v⟩) hv hok ho
 simp only at hw hp
 have hr:=fun q y=>G0 hw (by decide) (k0:=⟨4,[[.str o,.str [],.nils,.sl false 6 (v.map aG)]]⟩) (by unfold x7;rw[vV];simp only[eK,dj,ej,fX,nD,b8,V.le_refl,Lo,and_self,true_and,and_true]) q y
 unfold x7 at hr
 simp only[Lc,Lo,List.length_cons,List.length_nil,zp,KW,Ih,KX,Hu,CN,Hv]at hr
 have hno:=EY (v:=v) (sp:=o)
 generalize (dW v o).1=x at hp hno ⊢
 generalize (dW v o).2=E at hp hr hno ⊢
 refine nk rfl call11 func11 rfl mixed (by kernel_rfl) rfl ?_;intro b0 hb0;have zF:=Ai results11 ntmps11
 repeat' first|simp only[aj,ag,zF,ap,ai,seval,ah]|exact rfl|refine aa (v:=.any) ?_|((first|apply Ca|apply Cb)<;>intro hb)|refine Ai (by omega) ?_|(apply Ai<;>intro hb)
 (refine mu bu (b0+16) ([(0,.sl false 6 (v.map aG)),(1,.str o)]) ([]) [] ?_ ?_ ?_;(focus (show b0<=_;omega));(focus (refine⟨?_,?_⟩<;>(try simp only[aM,ad,aB,aQ,b8,ai,seval,ah,al])<;>(try omega))))
 repeat' first|simp only[aj,ag,zF,ap,ad,ai,seval,ah]|exact rfl|refine aa (v:=.any) ?_|((first|apply Ca|apply Cb)<;>intro hb)|refine Ai (by omega) ?_|(apply Ai<;>intro hb)
 by_cases hE:E=0
 ·subst hE
  have hv:=hp rfl
  subst hv
  (repeat' first|simp only[aj,ag,zF,ap,aF,ad,ai,seval,ah]|exact rfl|refine aa (v:=.any) ?_|(refine aJ ?_ [b0+64,b0+192] (hr (b0+64) (b0+192) _ _ ?_ ?_ aP (by omega) (by omega) (by omega)) ?_ ?_)|refine ee ?_|((first|apply Ca|apply Cb)<;>intro hb)|refine Ai (by omega) ?_|(apply Ai<;>intro hb)|refine Fin.pure ?_ ?_ ?_|simp only[al])
 ·have hq:(E != 0)=true:=by simpa using hE
  have:=hno hE
  subst this
  (repeat' first|simp only[aj,ag,zF,ap,hq,aF,ad,Lo,ai,seval,ah]|exact rfl|refine aa (v:=.any) ?_|(refine aJ ?_ [b0+64,b0+192] (hr (b0+64) (b0+192) _ _ ?_ ?_ aP (by omega) (by omega) (by omega)) ?_ ?_)|refine ee ?_|((first|apply Ca|apply Cb)<;>intro hb)|refine Ai (by omega) ?_|(apply Ai<;>intro hb)|refine Fin.pure ?_ ?_ ?_|simp only[al])
end Go.Proofs.YtlnlopnpcmahgaaGreatDoor
