/-
 Texts joined: XIe,XIf,XIg.
-/
import Derived.Test.YtjonibipieofcaaGreatDoorMc
import Derived.Test.YtjonibipieofcaaGreatDoorMa
import Derived.Test.YtjonibipieofcaaGreatDoorMb
set_option maxRecDepth 100000
set_option linter.all false
namespace Go.Proofs.YtjonibipieofcaaGreatDoor
open Go Go.RowKit Vm Go.Lib Tryz
open Vm renaming aI->Ca,aP->Cb
open And renaming intro->Ai
open List renaming length_map->Lm,not_mem_nil->Ln,map_nil->Lo,map_cons->Lc,mem_cons->Lk
open Bool renaming not_false->Bf,not_true->Bt
def xR (e:Int):V:=if e=0 then .val .nilIface else .iface 28 (.int .i64 e)
def pz (e:Int)(nm:Nat):Ev cx 91 nm [.int .i64 e] ao.nil (xR e) []:=by
 unfold xR
 by_cases h:e=0
 ·subst h
  rw[if_pos rfl]
  refine aX call91 func91 ?_;intro b0 hb0
  exact wP (a2 results91 ntmps91) trivial
 ·rw[if_neg h]
  have q:(e==0)=false:=by simpa using h
  refine aX call91 func91 ?_;intro b0 hb0
  (repeat' first|simp only[au,ap,results91,ntmps91,am,q,aj,ai,seval]|exact rfl|refine aa (v:=.any) ?_|(refine px rfl (by kernel_rfl) ?_)|((first|apply Ca|apply Cb)<;>intro hb)|refine Ai (by omega) ?_|(apply Ai<;>intro hb)|apply Fin.pure|simp only[aq])
def vW (e:Int):xR e = .val .nilIface\/xR e = .iface 28 (.int .i64 e):=by
 unfold xR
 split
 ·exact .inl rfl
 ·exact .inr rfl
structure Pp where
 o:List UInt8
 t:List UInt8
 l:List Tk
 v:List Nd
def A0 (p:Pp):Blk:=⟨4,[[.str p.o,.str p.t,.sl false 4 (p.l.map bQ),.sl false 6 (p.v.map aD)]]⟩
def j8 (f:Nat)(p:Pp)(e:Int)(p':Pp):Prop :=
 ∀(q:Nat) (M:ao) (nm:Nat),M q=some (A0 p)->(∀ z,(M z).isSome=true->z∈[q])->q<nm->Ev cx f nm [.ptr q 0 0] M (xR e) [(q,some (A0 p'))]
def Hc (p:Pp)(hv:p.v.length<=aT)(hok:∀ n∈p.v,n.okTo 1000000/\n.i64)(hs:p.o.length<=aT):j8 40 p (bC p.v p.o).2 { p with v:=(bC p.v p.o).1 }:=by
 intro q M nm hq ho hn
 have hl:=Fw p.v p.o hv hok hs
 unfold qD at hl
 have hf:=pz (bC p.v p.o).2
 unfold A0 at hq ⊢
 simp only at hq ⊢
 generalize (bC p.v p.o).1=L at hl ⊢
 generalize (bC p.v p.o).2=E at hl hf ⊢
 rcases vW E with hW|hW
 all_goals
  rw[hW]at hf ⊢
  refine aX call40 func40 ?_;intro b0 hb0
  have lq:=bp hb0 hq
  have z0:=qt lq;have z1:=fM lq;have z2:=lR lq;have z3:=eK lq
  refine wR (a9 (results40) (ntmps40) hq z0 z1 z2 z3 @aM @ae) (a2 hl hf) ?_
  all_goals ((refine Fin.give [(q,none)] [] ?_ ?_ ?_ ?_ ?_ (bA ho (by simp[bt,tgt]))<;>(try simp only[results40,ntmps40,am,aM,ae,hq,z0,z1,z2,z3,aA,jK,aj,ai,seval])<;>(try simp only[aq])<;>(try omega)))
def D5 (p:Pp)(hv:p.v.length<=aT)(hok:∀ n∈p.v,n.okTo aT/\n.i64):j8 41 p (cD p.v).2 { p with l:=(cD p.v).1 }:=by
 intro q M nm hq ho hn
 have hl:=H3 p.v hv hok
 unfold ur at hl
 have hf:=pz (cD p.v).2
 unfold A0 at hq ⊢
 simp only at hq ⊢
 generalize (cD p.v).1=L at hl ⊢
 generalize (cD p.v).2=E at hl hf ⊢
 rcases vW E with hW|hW
 all_goals
  rw[hW]at hf ⊢
  refine aX call41 func41 ?_;intro b0 hb0
  have lq:=bp hb0 hq
  have z0:=qt lq;have z1:=fM lq;have z2:=lR lq;have z3:=eK lq
  refine wR (a9 (results41) (ntmps41) hq z0 z1 z2 z3 @aM @ae) (a2 hl hf) ?_
  all_goals ((refine Fin.give [(q,none)] [] ?_ ?_ ?_ ?_ ?_ (bA ho (by simp[bt,tgt]))<;>(try simp only[results41,ntmps41,am,aM,ae,hq,z0,z1,z2,z3,aA,jK,aj,ai,seval])<;>(try simp only[aq])<;>(try omega)))
def Hd (p:Pp)(hl:p.l.length<=600)(hs:∀ t∈p.l,t.okTo 1000000/\t.attrs.length<=30):j8 42 p (fh p.l) { p with t:=lN p.l }:=by
 intro q M nm hq ho hn
 have hl:=Jz p.l hl hs
 have hf:=pz (fh p.l)
 unfold A0 at hq ⊢
 simp only at hq ⊢
 generalize lN p.l=L at hl ⊢
 generalize fh p.l=E at hl hf ⊢
 rcases vW E with hW|hW
 all_goals
  rw[hW]at hf ⊢
  refine aX call42 func42 ?_;intro b0 hb0
  have lq:=bp hb0 hq
  have z0:=qt lq;have z1:=fM lq;have z2:=lR lq;have z3:=eK lq
  refine wR (a9 (results42) (ntmps42) hq z0 z1 z2 z3 @aM @ae) (a2 hl hf) ?_
  all_goals ((refine Fin.give [(q,none)] [] ?_ ?_ ?_ ?_ ?_ (bA ho (by simp[bt,tgt]))<;>(try simp only[results42,ntmps42,am,aM,ae,hq,z0,z1,z2,z3,aA,jK,aj,ai,seval])<;>(try simp only[aq])<;>(try omega)))
inductive Way12:List Nat->Pp->Int->Pp->Prop
 | done (p:Pp):Way12 [] p 0 p
 | bad {f:Nat} {fs:List Nat} {p p':Pp} {e:Int} (h:j8 f p e p') (he:e≠0):Way12 (f::fs) p e p'
 | ok {f:Nat} {fs:List Nat} {p p1 p':Pp} {e:Int} (h:j8 f p 0 p1) (t:Way12 fs p1 e p'):Way12 (f::fs) p e p'
def Co (q f:Nat):List V:=[.fnb f [.ptr q 0 0]]
structure RunSt where
 k:Nat
 p:Pp
def Ow {q:Nat}{l:List Nat}{k f:Nat}(h:l[k]? = some f):(l.map (Co q))[k]? = some [.fnb f [.ptr q 0 0]]:=by rw[List.getElem?_map,h];rfl
def HM {σ:List (Nat×Nat)}{q:Nat}(h:aS σ q=some q)(f:Nat):renL σ (Co q f)=Co q f/\renOkL σ (Co q f)=true:=by
 unfold Co
 simp only[renL,V.ren,renOkL,V.renOk,h,Option.getD_some,Option.isSome_some,Bool.and_self,and_self]
def HN {σ:List (Nat×Nat)}{q:Nat}(h:aS σ q=some q)(fs:List Nat):(fs.map (Co q)).all (renOkL σ)=true:=by
 rw[List.all_eq_true]
 intro r hr
 obtain⟨f,_,rfl⟩:=List.mem_map.1 hr
 exact(HM h f).2
def M4 {σ:List (Nat×Nat)}{q:Nat}(h:aS σ q=some q)(fs:List Nat):(if plainLL (fs.map (Co q))=true then fs.map (Co q) else (fs.map (Co q)).map (renL σ))=fs.map (Co q):=by
 split
 ·rfl
 ·rw[List.map_map]
  exact List.map_congr_left fun f _=>(HM h f).1
set_option maxHeartbeats 4000000 in
def M3 {fs:List Nat}{p p':Pp}{e:Int}(hw:Way12 fs p e p')(hl:fs.length<=6)(q y:Nat)(M:ao)(nm:Nat)(hq:M q=some (A0 p))(hy:M y=some ⟨1,fs.map (Co q)⟩)(ho:∀ z,(M z).isSome=true->z∈[q,y])(hqy:q≠y)(hn:q<nm)(hny:y<nm) :
  Ev cx 39 nm [.own y 0 fs.length] M (.int .i64 e) [(y,none),(q,some (A0 p'))]:=by
 unfold A0 at hq ⊢
 have n1:=eq_false hqy
 have n2:=eq_false (Ne.symm hqy)
 refine aX call39 func39 ?_;intro b0 hb0;have zF:=Ai results39 ntmps39
 have lq:=bp hb0 hq
 have ly:=bp hb0 hy
 have z0:=qt lq;have z1:=fM lq;have z2:=lR lq;have z3:=eK lq
 have y0:=bB ly
 have hσ:aS [(b0,b0),(q,q),(y,y)] q=some q:=by simp only[eV,z2,if_true,if_false]
 have r1:=HN hσ fs
 have r2:=M4 hσ fs
 have l16:(q<b0+16)=True:=eq_true (by omega)
 have l17:(y<b0+16)=True:=eq_true (by omega)
 repeat' first|simp only[au,ap,zF,am,hq,hy,n1,n2,z0,z1,z2,z3,y0,Lm,aj,ai,seval]|exact rfl|refine aa (v:=.any) ?_|((first|apply Ca|apply Cb)<;>intro hb)|refine Ai (by omega) ?_|(apply Ai<;>intro hb)
 (refine ew (fun x:RunSt=>fs.length-x.k) (fun x=>x.k<=fs.length/\Way12 (fs.drop x.k) x.p e p') (b0+16) (fun x=>[(2,.ptr b0 0 0),(6,.own y 0 fs.length),(7,.int .i64 fs.length),(8,.int .i64 x.k)]) (fun x=>[(b0,⟨1,[[.int .i64 0]]⟩),(q,⟨4,[[.str x.p.o,.str x.p.t,.sl false 4 (x.p.l.map bQ),.sl false 6 (x.p.v.map aD)]]⟩),(y,⟨1,fs.map (Co q)⟩)]) ((RunSt.mk 0 p)) [some b0,some q,some y] ?_ ?_ ?_;(focus (refine⟨?_,?_⟩<;>(try simp only[aE,r1,r2,l16,l17,az,Bool.or_true,hq,hy,n1,n2,z0,z1,z2,z3,y0,aM,ae,al,Lm,aj,ai,aq,seval])<;>(try omega))))
 ·exact⟨Nat.zero_le _,by simpa using hw⟩
 ·rintro ⟨k,p1⟩ ⟨hk,hw1⟩
  simp only at hk hw1 ⊢
  by_cases hlt:k<fs.length
  ·obtain⟨f,hf⟩:=ic hlt
   have hd:fs.drop k=f::fs.drop (k+1):=by
    rw[List.drop_eq_getElem_cons hlt]
    have:=(List.getElem?_eq_some_iff.1 hf).2
    rw[this]
   rw[hd]at hw1
   have hat:=Ow (q:=q) hf
   have d1:=sC k fs.length
   have d2:=decide_eq_true hlt
   have hwk:=eD k
   cases hw1 with
   | bad h he =>
    have hs:=h
    unfold j8 xR A0 at hs
    rw[if_neg he]at hs
    have hh:=xO e b0 (.int .i64 0)
    repeat' first|simp only[au,ap,zF,am,hat,hlt,d1,d2,hwk,n1,n2,z0,z1,z2,z3,y0,Lm,aj,ai,seval]|exact rfl|refine aa (v:=.any) ?_|(refine aB ?_ [b0] (hh _ _ ?_) ?_ ?_)|((refine xz (fi:=?_) ?_ ?_ [q] (hs _ _ _ ?_ aN (by omega)) ?_ ?_);rotate_left 1)|(refine px rfl (by kernel_rfl) ?_)|((first|apply Ca|apply Cb)<;>intro hb)|refine Ai (by omega) ?_|(apply Ai<;>intro hb)
    all_goals ((refine Fin.give [(q,none)] [y] ?_ ?_ ?_ ?_ ?_ (bA ho (by simp[bt,tgt]))<;>(try simp only[zF,am,aM,ae,hq,hy,n1,n2,z0,z1,z2,z3,y0,aA,jK,aj,ai,seval])<;>(try simp only[aq])<;>(try omega)))
   | ok h t =>
    rename_i p2
    have hs:=h
    unfold j8 xR A0 at hs
    rw[if_pos rfl]at hs
    have hh:=fun M=>xP (.iface 110 (.ptr b0 0 0)) M
    repeat' first|simp only[au,ap,zF,am,hat,hlt,d1,d2,hwk,n1,n2,z0,z1,z2,z3,y0,Lm,aj,ai,seval]|exact rfl|refine aa (v:=.any) ?_|(first|(refine ah ?_ (hh _ _) ?_)|(refine ac ?_ (fun _=>hh _ _) ?_))|((refine xz (fi:=?_) ?_ ?_ [q] (hs _ _ _ ?_ aN (by omega)) ?_ ?_);rotate_left 1)|(refine px rfl (by kernel_rfl) ?_)|((first|apply Ca|apply Cb)<;>intro hb)|refine Ai (by omega) ?_|(apply Ai<;>intro hb)
    all_goals ((refine de (RunSt.mk (k+1) p2) [some b0,some q,some y] ?_ ?_ ?_;(focus (refine⟨?_,?_⟩<;>(try simp only[aE,r1,r2,l16,l17,az,Bool.or_true,hwk,n1,n2,z0,z1,z2,z3,y0,aM,ae,al,Lm,aj,ai,aq,seval])<;>(try omega)))))
    all_goals (first|(show fs.length-(k+1)<fs.length-k;omega)|exact⟨hlt,t⟩|skip)
  ·have hke:k=fs.length:=by omega
   subst hke
   rw[List.drop_length]at hw1
   cases hw1
   have d1:=nu fs.length fs.length
   have d2:decide (fs.length<fs.length)=false:=bi
   repeat' first|simp only[au,ap,zF,am,d1,d2,n1,n2,z0,z1,z2,z3,y0,Lm,aj,ai,seval]|exact rfl|refine aa (v:=.any) ?_|((first|apply Ca|apply Cb)<;>intro hb)|refine Ai (by omega) ?_|(apply Ai<;>intro hb)
   all_goals ((refine Fin.give [(q,none)] [y] ?_ ?_ ?_ ?_ ?_ (bA ho (by simp[bt,tgt]))<;>(try simp only[zF,am,aM,ae,hq,hy,n1,n2,z0,z1,z2,z3,y0,aA,jK,aj,ai,seval])<;>(try simp only[aq])<;>(try omega)))
def Ev.mem_le {f:FuncId}{nm:Nat}{args:List V}{M M':ao}{v:V}{eff:List (Nat×Option Blk)}(h:Ev cx f nm args M' v eff)(hle:MD M M')(heq:M'.app eff=M.app eff):Ev cx f nm args M v eff:=by
 have hs:∀ x,((M' x).isSome=true)=((M x).isSome=true):=fun x=>by rw[jP hle]
 refine⟨h.1,fun X w ρ cargs B hr hf hB hn hargs=>?_⟩
 have hbl:cG ρ M'=cG ρ M:=by funext b;simp only[cG,hs]
 have hD:bP X ρ M'=bP X ρ M:=by funext b;simp only[bP,hs]
 obtain⟨r1,m1⟩:=hr.weaken hle
 refine(h.2 X w ρ cargs B (by rw[hbl];exact r1) hf (fun x hx=>⟨?_,(hB x hx).2⟩) hn (fun i u cv hi hc=>by rw[hD];exact hargs i u cv hi hc)).mono ?_
 ·cases hx2:M' x with
  | none=>rfl
  | some k =>
   have:=jP hle x
   rw[hx2,(hB x hx).1]at this
   cases this
 ·rintro e w' ⟨cv,rfl,ρ',r,m,hv,hnn⟩
  rw[hbl,heq]at r
  rw[heq]at m hv
  exact⟨cv,rfl,ρ',r,m1.trans m,hv,hnn⟩
def KF {fs:List Nat}{p p':Pp}{e:Int}(hw:Way12 fs p e p')(hl:fs.length<=6){k0:Blk}(hk:qr k0 (A0 p))(q y:Nat)(M:ao)(nm:Nat)(hq:M q=some k0)(hy:M y=some ⟨1,fs.map (Co q)⟩)(ho:∀ z,(M z).isSome=true->z∈[q,y])(hqy:q≠y)(hn:q<nm)(hny:y<nm) :
  Ev cx 39 nm [.own y 0 fs.length] M (.int .i64 e) [(y,none),(q,some (A0 p'))]:=by
 refine Ev.mem_le (M3 hw hl q y (M.put q (some (A0 p))) nm (ao.put_same _ _ _) (by rw[ao.put_ne _ _ (Ne.symm hqy)];exact hy) (fun z hz=>?_) hqy hn hny) (fun x=>?_) ?_
 ·by_cases e:z=q
  ·subst e;simp
  ·rw[ao.put_ne _ _ e]at hz;exact ho z hz
 ·by_cases e:x=q
  ·subst e;rw[hq,ao.put_same];exact hk
  ·rw[ao.put_ne _ _ e]
   have:=yF M x
   exact this
 ·funext x
  refine ao.app_congr fun hx=>?_
  have e:x≠q:=fun e=>hx (by subst e;simp[ak])
  exact ao.put_ne _ _ e
def Ll:Nat:=40
def FN:Nat:=41
def Lp:Nat:=42
def pw {f:Nat}{p p':Pp}{e:Int}(h:j8 f p e p')(he:e=0):j8 f p 0 p':=by subst he;exact h
def E6 {p:Pp}(hv:p.v.length<=aT)(hok:∀ n∈p.v,n.okTo 999900/\n.i64)(hs:p.o.length<=aT):∃ p',Way12 [Ll,FN,Lp] p (eR p.v p.o).2 p'/\((eR p.v p.o).2=0->p'.t=(eR p.v p.o).1):=by
  have hok1:∀ n∈p.v,n.okTo 1000000/\n.i64:=fun n hn=>⟨cW (hok n hn).1 (by decide),(hok n hn).2⟩
  have s1:=Hc p hv hok1 hs
  have hbl:=qg p.v p.o
  have hbf:=bare_fit (v:=p.v) (sp:=p.o) (B:=999900) hok
  unfold eR
  by_cases h1:(bC p.v p.o).2=0
  · rw [if_neg (by simpa using h1)]
    have s2:=D5 { p with v:=(bC p.v p.o).1 } (by simp only;omega) (fun n hn=>⟨cW (hbf n hn).1 (by decide),(hbf n hn).2⟩)
    simp only at s2
    by_cases h2:(cD (bC p.v p.o).1).2=0
    · rw[if_neg (by simpa using h2)]
      have s3:=Hd { p with v:=(bC p.v p.o).1,l:=(cD (bC p.v p.o).1).1 } (by have:=vv (bC p.v p.o).1;simp only;omega) (vu (K:=1000000) (fun x hx=>cW (hbf x hx).1 (by decide)))
      simp only at s3 ⊢
      by_cases h3:fh (cD (bC p.v p.o).1).1=0
      · rw[h3]
        exact⟨_,.ok (pw s1 h1) (.ok (pw s2 h2) (.ok (pw s3 h3) (.done _))),fun _=>rfl⟩
      · exact⟨_,.ok (pw s1 h1) (.ok (pw s2 h2) (.bad s3 h3)),fun h=>absurd h h3⟩
    · rw[if_pos h2]
      exact⟨_,.ok (pw s1 h1) (.bad s2 h2),fun h=>absurd h h2⟩
  · rw[if_pos h1]
    exact⟨_,.bad s1 h1,fun h=>absurd h h1⟩
set_option maxHeartbeats 4000000 in
def Ii (v:List Nd)(o:List UInt8)(hv:v.length<=aT)(hok:∀ n∈v,n.okTo 999900/\n.i64)(ho:o.length<=aT)(nm:Nat):Ev cx 14 nm [.sl false 6 (v.map aD),.str o] ao.nil (.tup [.str (eR v o).1,.int .i64 (eR v o).2]) []:=by
 obtain⟨p',hw,hp⟩:=E6 (p:=⟨o,[],[],v⟩) hv hok ho
 simp only at hw hp
 have hr:=fun q y=>KF hw (by decide) (k0:=⟨4,[[.str o,.str [],.nils,.sl false 6 (v.map aD)]]⟩) (by unfold A0;rw[yE];simp only[fL,dO,eU,il,pH,ct,V.le_refl,Lo,and_self,true_and,and_true]) q y
 unfold A0 at hr
 simp only[Lc,Lo,List.length_cons,List.length_nil,Co,Ll,FN,Lp]at hr
 have hno:=Ij (v:=v) (sp:=o)
 generalize (eR v o).1=x at hp hno ⊢
 generalize (eR v o).2=E at hp hr hno ⊢
 refine iP rfl call14 func14 rfl mixed (by kernel_rfl) rfl ?_;intro b0 hb0
 refine wR (a2 results14 ntmps14) trivial ?_
 (refine oG jI (b0+16) ([(0,.sl false 6 (v.map aD)),(1,.str o)]) ([]) [] ?_ ?_ ?_;(focus (show b0<=_;omega));(focus (refine⟨?_,?_⟩<;>(try simp only[aE,ae,al,az,ct,aj,ai,aq,seval])<;>(try omega))))
 refine wR (a3 results14 ntmps14 @ae) trivial ?_
 by_cases hE:E=0
 ·subst hE
  have hv:=hp rfl
  subst hv
  (repeat' first|simp only[au,ap,results14,ntmps14,am,aM,ae,aj,ai,seval]|exact rfl|refine aa (v:=.any) ?_|(refine aB ?_ [b0+64,b0+192] (hr (b0+64) (b0+192) _ _ ?_ ?_ aN (by omega) (by omega) (by omega)) ?_ ?_)|refine bj ?_|((first|apply Ca|apply Cb)<;>intro hb)|refine Ai (by omega) ?_|(apply Ai<;>intro hb)|apply Fin.pure|simp only[aq])
 ·have hq:(E != 0)=true:=by simpa using hE
  have:=hno hE
  subst this
  (repeat' first|simp only[au,ap,results14,ntmps14,am,hq,aM,ae,Lo,aj,ai,seval]|exact rfl|refine aa (v:=.any) ?_|(refine aB ?_ [b0+64,b0+192] (hr (b0+64) (b0+192) _ _ ?_ ?_ aN (by omega) (by omega) (by omega)) ?_ ?_)|refine bj ?_|((first|apply Ca|apply Cb)<;>intro hb)|refine Ai (by omega) ?_|(apply Ai<;>intro hb)|apply Fin.pure|simp only[aq])
end Go.Proofs.YtjonibipieofcaaGreatDoor
