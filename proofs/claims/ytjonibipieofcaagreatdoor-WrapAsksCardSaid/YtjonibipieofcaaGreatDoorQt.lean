/-
 Texts joined: XSi,XSj,XSk.
-/
import Derived.Test.YtjonibipieofcaaGreatDoorQs
set_option linter.all false
namespace Go.Proofs.YtjonibipieofcaaGreatDoor
set_option maxRecDepth 100000
set_option maxHeartbeats 32000000
open Go Go.RowKit Vm Go.Lib Tryz
open Vm renaming aI->Ca,aP->Cb
open And renaming intro->Ai
open List renaming length_map->Lm,not_mem_nil->Ln,map_nil->Lo,map_cons->Lc,mem_cons->Lk
open Bool renaming not_false->Bf,not_true->Bt
def cT (v:List Nd):Int:=if (bm v).isNone=true then 8 else 0
def vU {v:List Nd}{en:List Nat}(h:bm v=some en):en.length=v.length/\0<v.length/\v.length<=512 /\ ∀ i e,en[i]? = some e->i<e/\e<=v.length:=by
 obtain⟨n,k,h1,h2,h3,h4,h5⟩:=gr.1 h
 have hl:v.length=k.size+1:=by rw[h2];simp[Fo.flat_length]
 have he:en=(Fo.cons n k .nil).ends 0:=by rw[h5];simp[Fo.ends]
 refine⟨by rw[h5];simp[Fo.ends_length,hl],by omega,h4,fun i e hi=>?_⟩
 rw[he]at hi
 have:=vV _ _ _ _ hi
 simp only[Fo.size]at this
 omega
def uB (v:List Nd)(hv:v.length<=aT)(hok:∀ n∈v,n.okTo aT/\n.i64)(nm:Nat):Ev cx 37 nm [.sl false 6 (v.map aD)] ao.nil (.int .i64 (cT v)) []:=by
 unfold cT
 cases h:bm v with
 | none =>
  have hb:=fT v hv hok h
  refine aX call37 func37 ?_;intro b0 hb0
  (repeat' first|simp only[au,ap,results37,ntmps37,am,Option.isNone_none,if_true,ae,aj,ai,seval]|exact rfl|refine aa (v:=.any) ?_|(first|(refine ah ?_ (hb _) ?_)|(refine ac ?_ (fun _=>hb _) ?_))|((first|apply Ca|apply Cb)<;>intro hb)|refine Ai (by omega) ?_|(apply Ai<;>intro hb)|apply Fin.pure|simp only[aq])
 | some en =>
  have hb:=fU v hv hok h
  have h0:decide (v.length=0)=false:=decide_eq_false (by have:=(vU h).2.1;omega)
  refine aX call37 func37 ?_;intro b0 hb0
  repeat' first|simp only[au,ap,results37,ntmps37,am,Option.isNone_some,Bool.false_eq_true,if_false,ae,aJ,h0,aj,ai,seval]|exact rfl|refine aa (v:=.any) ?_|(refine ay ?_ (hb _) ?_ ?_)|omega|((first|apply Ca|apply Cb)<;>intro hb)|refine Ai (by omega) ?_|(apply Ai<;>intro hb)
  all_goals (first|(cases hb;done)|((apply Fin.pure<;>simp only[Option.isNone_some,Bool.false_eq_true,if_false,ae,results37,ntmps37,aj,ai,seval])))
def mw (l:List At):((l.map bf).all fun r=>r.all V.one)=true:=by
 rw[List.all_map,List.all_eq_true];intro a _;rfl
def rj (l:List Nd):((l.map aD).all fun r=>r.all V.one)=true:=by
 rw[List.all_map,List.all_eq_true];intro a _;rfl
def zS (l:List At)(hl:l.length<=1000000)(nm:Nat):Ev cx 88 nm [.sl false 3 (l.map bf)] ao.nil (.own nm 0 l.length) [(nm,some ⟨3,l.map bf⟩)]:=by
 refine aX call88 func88 ?_;intro b0 hb0
 repeat' first|simp only[au,ap,results88,ntmps88,am,ab,mw,Lm,aj,ai,seval]|exact rfl|refine aa (v:=.any) ?_|((first|apply Ca|apply Cb)<;>intro hb)|refine Ai (by omega) ?_|(apply Ai<;>intro hb)
 ·have h0:l=[]:=by cases l with
   | nil=>rfl
   | cons a r=>cases hb
  subst h0
  ((refine Fin.zero [3] ?_ ?_ ?_ ?_ ?_<;>simp only[results88,ntmps88,qR,aj,ai,seval]))
 ·all_goals ((refine Fin.give [(b0+80,some 0)] [] ?_ ?_ ?_ ?_ ?_ (bA iC (by simp[bt,tgt]))<;>(try simp only[results88,ntmps88,am,ab,Lm,jK,aj,ai,seval])<;>(try simp only[aq])<;>(try omega)))
def zT (l:List Nd)(hl:l.length<=1000000)(nm:Nat):Ev cx 87 nm [.sl false 6 (l.map aD)] ao.nil (.own nm 0 l.length) [(nm,some ⟨6,l.map aD⟩)]:=by
 refine aX call87 func87 ?_;intro b0 hb0
 repeat' first|simp only[au,ap,results87,ntmps87,am,ae,rj,Lm,aj,ai,seval]|exact rfl|refine aa (v:=.any) ?_|((first|apply Ca|apply Cb)<;>intro hb)|refine Ai (by omega) ?_|(apply Ai<;>intro hb)
 ·have h0:l=[]:=by cases l with
   | nil=>rfl
   | cons a r=>cases hb
  subst h0
  ((refine Fin.zero [6] ?_ ?_ ?_ ?_ ?_<;>simp only[results87,ntmps87,qR,aj,ai,seval]))
 ·all_goals ((refine Fin.give [(b0+80,some 0)] [] ?_ ?_ ?_ ?_ ?_ (bA iC (by simp[bt,tgt]))<;>(try simp only[results87,ntmps87,am,ae,Lm,jK,aj,ai,seval])<;>(try simp only[aq])<;>(try omega)))
def JW {v:List Nd}{k:Nat}{x:Nd}(h:v[k]? = some x):(v.map aD).set k [.int .u8 x.kind,.str x.space,.str x.name,.sl false 3 (x.attrs.map bf),.str x.text,.int .i64 x.many]=v.map aD:=by
 obtain⟨hk,rfl⟩:=List.getElem?_eq_some_iff.1 h
 refine List.ext_getElem? fun i=>?_
 rw[List.getElem?_set]
 split
 ·rename_i e;subst e;rw[if_pos (by simpa using hk)];rw[List.getElem?_map,List.getElem?_eq_getElem hk];rfl
 ·rfl
def nB {α:Type}{l:List α}{i:Nat}{a x:α}(h:x∈l.set i a):x=a\/x∈l:=by
 obtain⟨j,hj,rfl⟩:=List.mem_iff_getElem.1 h
 rw[List.getElem_set]
 split
 ·exact .inl rfl
 ·exact .inr (List.getElem_mem _)
def tc {α:Type}{l:List α}{i:Nat}{a:α}(h:i<l.length):a∈l.set i a:=by
 refine List.mem_iff_getElem.2 ⟨i,by simpa using h,by simp⟩
def Ag (σ:List (Nat×Nat))(M:ao)(v:List Nd)(i:Nat)(r:List V):jj σ M ((v.map aD).set i r)=(v.map aD).set i (finL σ M r):=by
 unfold jj
 rw[List.map_set]
 congr 1
 exact qo σ M (ae v)
def vZ (σ:List (Nat×Nat))(M:ao){v:List Nd}{i:Nat}(r:List V)(h:i<v.length):fY σ M ((v.map aD).set i r)=finLOk σ M r:=by
 refine propext ⟨fun h2=>h2 r (tc (by simpa using h)),fun h2 x hx=>?_⟩
 rcases nB hx with rfl|hx
 ·exact h2
 ·exact(finL_plain σ M x (by have:=ae v;rw[c9,List.all_eq_true]at this;exact this x hx)).2
def AZ {v:List Nd}{i:Nat}(r:List V)(h:i<v.length):plainLL ((v.map aD).set i r)=plainL r:=by
 rw[Bool.eq_iff_iff,c9,List.all_eq_true]
 refine⟨fun h2=>h2 r (tc (by simpa using h)),fun h2 x hx=>?_⟩
 rcases nB hx with rfl|hx
 ·exact h2
 ·have:=ae v;rw[c9,List.all_eq_true]at this;exact this x hx
def Bd (σ:List (Nat×Nat)){v:List Nd}{i:Nat}(r:List V)(h:i<v.length):((v.map aD).set i r).all (renOkL σ)=renOkL σ r:=by
 rw[Bool.eq_iff_iff,List.all_eq_true]
 refine⟨fun h2=>h2 r (tc (by simpa using h)),fun h2 x hx=>?_⟩
 rcases nB hx with rfl|hx
 ·exact h2
 ·have:=En σ v;rw[List.all_eq_true]at this;exact this x hx
def KO (v:List Nd)(hl:v.length<=1000000)(ha:∀ n∈v,n.attrs.length<=1000000)(nm:Nat):Ev cx 38 nm [.sl false 6 (v.map aD)] ao.nil (.own nm 0 v.length) [(nm,some ⟨6,v.map aD⟩)]:=by
 have hc:=zT v hl
 refine aX call38 func38 ?_;intro b0 hb0;have zF:=Ai results38 ntmps38
 repeat' first|simp only[au,ap,zF,am,ae,Lm,aj,ai,seval]|exact rfl|refine aa (v:=.any) ?_|(refine ay ?_ (hc _) ?_ ?_)|omega|((first|apply Ca|apply Cb)<;>intro hb)|refine Ai (by omega) ?_|(apply Ai<;>intro hb)
 (refine Oj (fun x:Nat=>v.length-x) (fun x=>x<=v.length) (b0+16) (fun x=>[(3,.own b0 0 v.length),(8,.own b0 0 v.length),(9,.int .i64 v.length),(10,.int .i64 x)]) (fun x=>[(b0,⟨6,v.map aD⟩)]) (0) [some (b0+32)] ?_ ?_ ?_;(focus (refine⟨?_,?_⟩<;>(try simp only[aE,cL,ae,al,Lm,aj,ai,aq,seval])<;>(try omega))))
 ·exact Nat.zero_le _
 ·intro k hk
  by_cases hlt:k<v.length
  ·obtain⟨x,hx⟩:=ic hlt
   have hat:=dS hx
   have d1:=sC k v.length
   have d2:=decide_eq_true hlt
   have hki:=jB k v.length
   have hwk:=eD k
   have hca:=zS x.attrs (ha x (List.mem_of_getElem? hx))
   repeat' first|simp only[au,ap,zF,am,ae,ab,hat,aD,hlt,hki,d1,d2,hwk,Lm,aj,ai,seval]|exact rfl|refine aa (v:=.any) ?_|(refine ay ?_ (hca _) ?_ ?_)|omega|((first|apply Ca|apply Cb)<;>intro hb)|refine Ai (by omega) ?_|(apply Ai<;>intro hb)
   have hns:=JW hx
   have f1:=fun (σ:List (Nat×Nat)) (M:ao) (r:List V)=>Ag σ M v k r
   have f2:=fun (σ:List (Nat×Nat)) (M:ao) (r:List V)=>vZ σ M r hlt
   have f3:=fun (r:List V)=>AZ r hlt
   have f4:=fun (σ:List (Nat×Nat)) (r:List V)=>Bd σ r hlt
   all_goals ((refine ND (k+1) [some b0] ?_ ?_ ?_;(focus (refine⟨?_,?_⟩<;>(try simp only[aE,cL,hwk,al,ae,ab,aD,f1,f2,f3,f4,hns,az,ba,Lm,aj,ai,aq,seval])<;>(try omega)))))
   all_goals (first|(show v.length-(k+1)<v.length-k;omega)|exact hlt|skip)
  ·have hkm:k=v.length:=by omega
   subst hkm
   have d1:=nu v.length v.length
   have d2:decide (v.length<v.length)=false:=bi
   repeat' first|simp only[au,ap,zF,am,d1,d2,ae,Lm,aj,ai,seval]|exact rfl|refine aa (v:=.any) ?_|((first|apply Ca|apply Cb)<;>intro hb)|refine Ai (by omega) ?_|(apply Ai<;>intro hb)
   all_goals ((refine Fin.give [(b0,some 0)] [] ?_ ?_ ?_ ?_ ?_ (bA iC (by simp[bt,tgt]))<;>(try simp only[zF,am,ae,Lm,jK,aj,ai,seval])<;>(try simp only[aq])<;>(try omega)))
def fD {n:Nd}(h:gE n=true):n.attrs.length<=16/\n.text.length<=16384:=by
 rcases gF h with hk|hk
 ·obtain⟨h1,_,_,h4⟩:=DP h hk
  exact⟨(qX.1 h4).1,by rw[h1];simp⟩
 ·obtain⟨_,_,h3,_,_,h6⟩:=gG h hk
  exact⟨by rw[h3];simp,sT h6⟩
def xM {v:List Nd}{en:List Nat}(h:bm v=some en):∀ n∈v,gE n=true:=by
 obtain⟨n,k,h1,h2,h3,h4,h5⟩:=gr.1 h
 intro x hx
 have:v=(Fo.cons n k .nil).flat:=by rw[h2];simp[Fo.flat]
 rw[this]at hx
 exact(Fo.good_all h3 x hx).1
end Go.Proofs.YtjonibipieofcaaGreatDoor
