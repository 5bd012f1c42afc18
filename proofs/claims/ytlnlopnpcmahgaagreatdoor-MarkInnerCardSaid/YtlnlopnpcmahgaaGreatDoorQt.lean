/-
 Texts joined: XSi,XSj,XSk.
-/
import Derived.Test.YtlnlopnpcmahgaaGreatDoorQs
import Derived.Test.YtlnlopnpcmahgaaGreatDoorQh
set_option linter.all false
namespace Go.Proofs.YtlnlopnpcmahgaaGreatDoor
set_option maxRecDepth 100000
set_option maxHeartbeats 32000000
open Go Go.RowKit Vm Go.Lib Tryz
open Vm renaming aW->Ca,bf->Cb
open And renaming intro->Ai
open List renaming length_map->Lm,not_mem_nil->Ln,map_nil->Lo,map_cons->Lc,mem_cons->Lk
open Bool renaming not_false->Bf,not_true->Bt
def eF (v:List Nd):Int:=if (bu v).isNone=true then 8 else 0
def jd {v:List Nd}{en:List Nat}(h:bu v=some en):en.length=v.length/\0<v.length/\v.length<=512 /\ ∀ i e,en[i]? = some e->i<e/\e<=v.length:=by
 obtain⟨n,k,h1,h2,h3,h4,h5⟩:=jw.1 h
 have hl:v.length=k.size+1:=by rw[h2];simp[Fo.flat_length]
 have he:en=(Fo.cons n k .nil).ends 0:=by rw[h5];simp[Fo.ends]
 refine⟨by rw[h5];simp[Fo.ends_length,hl],by omega,h4,fun i e hi=>?_⟩
 rw[he]at hi
 have:=xH _ _ _ _ hi
 simp only[Fo.size]at this
 omega
def qC (v:List Nd)(hv:v.length<=bc)(hok:∀ n∈v,n.okTo bc/\n.i64)(nm:Nat):Ev cx 104 nm [.sl false 6 (v.map aV)] am.nil (.int .i64 (eF v)) []:=by
 unfold eF
 cases h:bu v with
 | none =>
  have hb:=jx v hv hok h
  refine bh call104 func104 rfl (by kernel_rfl) rfl ?_;intro b0 hb0
  (repeat' first|simp only[ak,ag,results104,ntmps104,al,Option.isNone_none,if_true,ad,ai,seval,ah]|exact rfl|refine aa (v:=.any) ?_|(first|(refine ae ?_ (hb _) ?_)|(refine ab ?_ (fun _=>hb _) ?_))|((first|apply Ca|apply Cb)<;>intro hb)|refine Ai (by omega) ?_|(apply Ai<;>intro hb)|refine Fin.pure ?_ ?_ ?_|simp only[ap])
 | some en =>
  have hb:=gD v hv hok h
  have h0:decide (v.length=0)=false:=decide_eq_false (by have:=(jd h).2.1;omega)
  refine bh call104 func104 rfl (by kernel_rfl) rfl ?_;intro b0 hb0
  repeat' first|simp only[ak,ag,results104,ntmps104,al,Option.isNone_some,Bool.false_eq_true,if_false,ad,aH,h0,ai,seval,ah]|exact rfl|refine aa (v:=.any) ?_|(refine b8 ?_ (hb _) ?_ ?_)|omega|((first|apply Ca|apply Cb)<;>intro hb)|refine Ai (by omega) ?_|(apply Ai<;>intro hb)
  all_goals (first|(cases hb;done)|((refine Fin.pure ?_ ?_ ?_<;>simp only[Option.isNone_some,Bool.false_eq_true,if_false,ad,results104,ntmps104,ai,seval,ah])))
def mo (v:List Nd)(p:Int):Int:=if (bu v).isNone=true then 8 else if p<0\/(v.length:Int)<=p then 2 else 0
def H8 (v:List Nd)(hv:v.length<=bc)(hok:∀ n∈v,n.okTo bc/\n.i64)(p:Int)(h:mo v p≠0)(nm:Nat):Ev cx 42 nm [.sl false 6 (v.map aV),.int .i64 p] am.nil (.tup [.nils,.int .i64 (mo v p)]) []:=by
 unfold mo at h ⊢
 cases hbo:bu v with
 | none =>
  have hb:=jx v hv hok hbo
  refine bh call42 func42 rfl (by kernel_rfl) rfl ?_;intro b0 hb0
  (repeat' first|simp only[ak,ag,results42,ntmps42,al,Option.isNone_none,if_true,ad,ai,seval,ah]|exact rfl|refine aa (v:=.any) ?_|(first|(refine ae ?_ (hb _) ?_)|(refine ab ?_ (fun _=>hb _) ?_))|((first|apply Ca|apply Cb)<;>intro hb)|refine Ai (by omega) ?_|(apply Ai<;>intro hb)|refine Fin.pure ?_ ?_ ?_|simp only[ap])
 | some en =>
  rw[hbo]at h
  simp only[Option.isNone_some,Bool.false_eq_true,if_false]at h ⊢
  have hp:p<0\/(v.length:Int)<=p:=by
   by_cases hp:p<0\/(v.length:Int)<=p
   ·exact hp
   ·rw[if_neg hp]at h;exact absurd rfl h
  rw[if_pos hp]
  have hb:=gD v hv hok hbo
  have h0:decide (v.length=0)=false:=decide_eq_false (by have:=(jd hbo).2.1;omega)
  by_cases hp1:p<0
  ·have q1:decide (p<0)=true:=decide_eq_true hp1
   refine bh call42 func42 rfl (by kernel_rfl) rfl ?_;intro b0 hb0
   repeat' first|simp only[ak,ag,results42,ntmps42,al,ad,aH,h0,q1,Bt,Bf,Lm,ai,seval,ah]|exact rfl|refine aa (v:=.any) ?_|(refine b8 ?_ (hb _) ?_ ?_)|omega|((first|apply Ca|apply Cb)<;>intro hb)|refine Ai (by omega) ?_|(apply Ai<;>intro hb)
   all_goals (first|(cases hb;done)|((refine Fin.pure ?_ ?_ ?_<;>simp only[ad,results42,ntmps42,ai,seval,ah])))
  ·have q1:decide (p<0)=false:=decide_eq_false hp1
   have q2:decide ((v.length:Int)<=p)=true:=bR
   refine bh call42 func42 rfl (by kernel_rfl) rfl ?_;intro b0 hb0
   repeat' first|simp only[ak,ag,results42,ntmps42,al,ad,aH,h0,q1,q2,Bt,Bf,Lm,ai,seval,ah]|exact rfl|refine aa (v:=.any) ?_|(refine b8 ?_ (hb _) ?_ ?_)|omega|((first|apply Ca|apply Cb)<;>intro hb)|refine Ai (by omega) ?_|(apply Ai<;>intro hb)
   all_goals (first|(cases hb;done)|((refine Fin.pure ?_ ?_ ?_<;>simp only[ad,results42,ntmps42,ai,seval,ah])))
def vR (v:List Nd)(hv:v.length<=bc)(hok:∀ n∈v,n.okTo bc/\n.i64){en:List Nat}(hbo:bu v=some en)(p:Nat)(hp:p<v.length)(nm:Nat):Ev cx 42 nm [.sl false 6 (v.map aV),.int .i64 p] am.nil (.tup [.own nm 0 v.length,.int .i64 0]) [(nm,some ⟨1,en.map cQ⟩)]:=by
 have hb:=gD v hv hok hbo
 obtain⟨hel,hv0,_,_⟩:=jd hbo
 have h0:decide (v.length=0)=false:=bm
 have q1:decide ((p:Int)<0)=false:=bm
 have q2:decide (v.length<=p)=false:=bm
 refine bh call42 func42 rfl (by kernel_rfl) rfl ?_;intro b0 hb0
 repeat' first|simp only[ak,ag,results42,ntmps42,al,ad,aH,h0,q1,q2,Bt,Bf,Lm,ai,seval,ah]|exact rfl|refine aa (v:=.any) ?_|(refine b8 ?_ (hb _) ?_ ?_)|omega|((first|apply Ca|apply Cb)<;>intro hb)|refine Ai (by omega) ?_|(apply Ai<;>intro hb)
 all_goals (first|(cases hb;done)|((refine Fin.give [(b0+48,some 0)] [] ?_ ?_ ?_ ?_ ?_ (aL gM (by simp[aP,tgt]))<;>(try simp only[results42,ntmps42,al,hel,aH,Lm,dx,ai,seval,ah])<;>(try simp only[ap])<;>(try omega))))
structure KSt where
 p:Nat
 acc:List Nat
def EI (l:List Nat)(p:Nat):l.map cQ++[[.int .i64 p]]=(l++[p]).map cQ:=by simp[cQ]
def QB (l:List Nat):(l.map cQ).take l.length=l.map cQ:=bz _ _
def Nx (v:List Nd)(hv:v.length<=bc)(hok:∀ n∈v,n.okTo bc/\n.i64)(p:Int)(h:mo v p≠0)(nm:Nat):Ev cx 22 nm [.sl false 6 (v.map aV),.int .i64 p] am.nil (.tup [.nils,.int .i64 (mo v p)]) []:=by
 have ha:=H8 v hv hok p h
 have q:(mo v p != 0)=true:=by simpa using h
 refine bh call22 func22 rfl (by kernel_rfl) rfl ?_;intro b0 hb0
 (repeat' first|simp only[ak,ag,results22,ntmps22,al,q,ad,Bt,Bf,Lm,ai,seval,ah]|exact rfl|refine aa (v:=.any) ?_|(first|(refine ae ?_ (ha _) ?_)|(refine ab ?_ (fun _=>ha _) ?_))|((first|apply Ca|apply Cb)<;>intro hb)|refine Ai (by omega) ?_|(apply Ai<;>intro hb)|refine Fin.pure ?_ ?_ ?_|simp only[ap])
def JF (v:List Nd)(hv:v.length<=bc)(hok:∀ n∈v,n.okTo bc/\n.i64){en:List Nat}(hbo:bu v=some en)(p e:Nat)(hp:p<v.length)(hep:en[p]? = some e)(nm:Nat):Ev cx 22 nm [.sl false 6 (v.map aV),.int .i64 p] am.nil (.tup [.own nm 0 (od en e (p+1)).length,.int .i64 0]) [(nm,some ⟨1,(od en e (p+1)).map cQ⟩)]:=by
 have ha:=vR v hv hok hbo p hp
 obtain⟨hel,hv0,h512,hup⟩:=jd hbo
 have hev:=(hup p e hep).2
 have hat:(en.map cQ)[p]? = some (cQ e):=by rw[List.getElem?_map,hep];rfl
 have w1:IntKind.i64.wrap ((p:Int)+1)=((p+1:Nat):Int):=bd
 have hpi:(p:Int)<(v.length:Int):=by omega
 refine bh call22 func22 rfl (by kernel_rfl) rfl ?_;intro b0 hb0;have zF:=Ai results22 ntmps22
 repeat' first|simp only[ak,ag,zF,al,ad,aH,w1,Lm,ai,seval,ah]|exact rfl|refine aa (v:=.any) ?_|(refine b8 ?_ (ha _) ?_ ?_)|omega|((first|apply Ca|apply Cb)<;>intro hb)|refine Ai (by omega) ?_|(apply Ai<;>intro hb)
 (refine aQ bM (fun s:KSt=>e-s.p) (fun s=>s.acc.length+e<=s.p+e/\s.acc++od en e s.p=od en e (p+1)) (b0+16) (fun s=>[(1,.int .i64 p),(4,.own b0 0 s.acc.length),(6,.own (b0+1) 0 v.length),(7,.int .i64 s.p)]) (fun s=>[(b0,⟨1,s.acc.map cQ⟩),(b0+1,⟨1,en.map cQ⟩)]) (⟨p+1,[]⟩) [none,some (b0+64)] ?_ ?_ ?_ ?_;rotate_left 1;(focus (show b0<=_;omega));(focus (refine⟨?_,?_⟩<;>(try simp only[aX,ad,aH,aJ,Lo,List.length_nil,Lm,ai,seval,ah,ap])<;>(try omega)));rotate_left 1)
 ·exact⟨by simp,rfl⟩
 ·rintro ⟨k,acc⟩ ⟨hk,hinv⟩
  dsimp only at hk hinv ⊢
  by_cases hlt:k<e
  ·obtain⟨e2,he2⟩:∃ e2,en[k]? = some e2:=⟨_,List.getElem?_eq_getElem (by omega)⟩
   have hk2:=(hup k e2 he2).1
   have hat2:(en.map cQ)[k]? = some (cQ e2):=by rw[List.getElem?_map,he2];rfl
   have d1:decide ((k:Int)<(e:Int))=true:=bR
   have d2:decide (k<e)=true:=decide_eq_true hlt
   have hkv:k<v.length:=by omega
   have hst:=Gq (fun i x _ hi=>(hup i x hi).1) (by omega) hlt he2
   rw[hst]at hinv
   have hll:(acc++[k]).length=acc.length+1:=by simp
   repeat' first|simp only[ak,ag,zF,al,hat,hat2,cQ,d1,d2,hp,hpi,hkv,QB,EI,aH,Bt,Bf,Lm,ai,seval,ah]|exact rfl|refine aa (v:=.any) ?_|((first|apply Ca|apply Cb)<;>intro hb)|refine Ai (by omega) ?_|(apply Ai<;>intro hb)
   all_goals ((refine aC bM (⟨e2,acc++[k]⟩) [some (b0+160),some (b0+1)] ?_ ?_ ?_ ?_;rotate_left 2;(focus (show b0<=_;omega));(focus (refine⟨?_,?_⟩<;>(try simp only[aX,ad,aH,EI,hll,Lm,ai,seval,ah,ap])<;>(try omega)))))
   all_goals (first|(show e-e2<e-k;omega)|exact⟨by simp;omega,by simpa using hinv⟩|skip)
  ·have d1:decide ((k:Int)<(e:Int))=false:=bm
   have d2:decide (k<e)=false:=decide_eq_false hlt
   rw[Js hlt,List.append_nil]at hinv
   rw[<- hinv]
   repeat' first|simp only[ak,ag,zF,al,hat,cQ,d1,d2,hp,hpi,aH,Bt,Bf,Lm,ai,seval,ah]|exact rfl|refine aa (v:=.any) ?_|((first|apply Ca|apply Cb)<;>intro hb)|refine Ai (by omega) ?_|(apply Ai<;>intro hb)
   all_goals ((refine Fin.give [(b0,some 0)] [] ?_ ?_ ?_ ?_ ?_ (aL gM (by simp[aP,tgt]))<;>(try simp only[zF,al,aH,Lm,dx,ai,seval,ah])<;>(try simp only[ap])<;>(try omega)))
def qe (l:List At):((l.map b9).all fun r=>r.all V.one)=true:=by
 rw[List.all_map,List.all_eq_true];intro a _;rfl
def N3 (l:List Nd):((l.map aV).all fun r=>r.all V.one)=true:=by
 rw[List.all_map,List.all_eq_true];intro a _;rfl
def BQ (l:List At)(hl:l.length<=1000000)(nm:Nat):Ev cx 68 nm [.sl false 3 (l.map b9)] am.nil (.own nm 0 l.length) [(nm,some ⟨3,l.map b9⟩)]:=by
 refine bh call68 func68 rfl (by kernel_rfl) rfl ?_;intro b0 hb0
 repeat' first|simp only[ak,ag,results68,ntmps68,al,aq,qe,Lm,ai,seval,ah]|exact rfl|refine aa (v:=.any) ?_|((first|apply Ca|apply Cb)<;>intro hb)|refine Ai (by omega) ?_|(apply Ai<;>intro hb)
 ·have h0:l=[]:=by cases l with
   | nil=>rfl
   | cons a r=>cases hb
  subst h0
  ((refine Fin.zero [3] ?_ ?_ ?_ ?_ ?_<;>simp only[results68,ntmps68,Qq,ai,seval,ah]))
 ·all_goals ((refine Fin.give [(b0+80,some 0)] [] ?_ ?_ ?_ ?_ ?_ (aL gM (by simp[aP,tgt]))<;>(try simp only[results68,ntmps68,al,aq,Lm,dx,ai,seval,ah])<;>(try simp only[ap])<;>(try omega)))
def BR (l:List Nd)(hl:l.length<=1000000)(nm:Nat):Ev cx 67 nm [.sl false 6 (l.map aV)] am.nil (.own nm 0 l.length) [(nm,some ⟨6,l.map aV⟩)]:=by
 refine bh call67 func67 rfl (by kernel_rfl) rfl ?_;intro b0 hb0
 repeat' first|simp only[ak,ag,results67,ntmps67,al,ad,N3,Lm,ai,seval,ah]|exact rfl|refine aa (v:=.any) ?_|((first|apply Ca|apply Cb)<;>intro hb)|refine Ai (by omega) ?_|(apply Ai<;>intro hb)
 ·have h0:l=[]:=by cases l with
   | nil=>rfl
   | cons a r=>cases hb
  subst h0
  ((refine Fin.zero [6] ?_ ?_ ?_ ?_ ?_<;>simp only[results67,ntmps67,Qq,ai,seval,ah]))
 ·all_goals ((refine Fin.give [(b0+80,some 0)] [] ?_ ?_ ?_ ?_ ?_ (aL gM (by simp[aP,tgt]))<;>(try simp only[results67,ntmps67,al,ad,Lm,dx,ai,seval,ah])<;>(try simp only[ap])<;>(try omega)))
def NR {v:List Nd}{k:Nat}{x:Nd}(h:v[k]? = some x):(v.map aV).set k [.int .u8 x.kind,.str x.space,.str x.name,.sl false 3 (x.attrs.map b9),.str x.text,.int .i64 x.many]=v.map aV:=by
 obtain⟨hk,rfl⟩:=List.getElem?_eq_some_iff.1 h
 refine List.ext_getElem? fun i=>?_
 rw[List.getElem?_set]
 split
 ·rename_i e;subst e;rw[if_pos (by simpa using hk)];rw[List.getElem?_map,List.getElem?_eq_getElem hk];rfl
 ·rfl
def o8 {α:Type}{l:List α}{i:Nat}{a x:α}(h:x∈l.set i a):x=a\/x∈l:=by
 obtain⟨j,hj,rfl⟩:=List.mem_iff_getElem.1 h
 rw[List.getElem_set]
 split
 ·exact .inl rfl
 ·exact .inr (List.getElem_mem _)
def uJ {α:Type}{l:List α}{i:Nat}{a:α}(h:i<l.length):a∈l.set i a:=by
 refine List.mem_iff_getElem.2 ⟨i,by simpa using h,by simp⟩
def Cj (O:List (Nat×Nat))(M:am)(v:List Nd)(i:Nat)(r:List V):gk O M ((v.map aV).set i r)=(v.map aV).set i (finL O M r):=by
 unfold gk
 rw[List.map_set]
 congr 1
 exact gn O M (ad v)
def xL (O:List (Nat×Nat))(M:am){v:List Nd}{i:Nat}(r:List V)(h:i<v.length):fh O M ((v.map aV).set i r)=finLOk O M r:=by
 refine propext ⟨fun h2=>h2 r (uJ (by simpa using h)),fun h2 x hx=>?_⟩
 rcases o8 hx with rfl|hx
 ·exact h2
 ·exact(finL_plain O M x (by have:=ad v;rw[dF,List.all_eq_true]at this;exact this x hx)).2
def Dg {v:List Nd}{i:Nat}(r:List V)(h:i<v.length):plainLL ((v.map aV).set i r)=plainL r:=by
 rw[Bool.eq_iff_iff,dF,List.all_eq_true]
 refine⟨fun h2=>h2 r (uJ (by simpa using h)),fun h2 x hx=>?_⟩
 rcases o8 hx with rfl|hx
 ·exact h2
 ·have:=ad v;rw[dF,List.all_eq_true]at this;exact this x hx
def Dq (O:List (Nat×Nat)){v:List Nd}{i:Nat}(r:List V)(h:i<v.length):((v.map aV).set i r).all (renOkL O)=renOkL O r:=by
 rw[Bool.eq_iff_iff,List.all_eq_true]
 refine⟨fun h2=>h2 r (uJ (by simpa using h)),fun h2 x hx=>?_⟩
 rcases o8 hx with rfl|hx
 ·exact h2
 ·have:=k9 O v;rw[List.all_eq_true]at this;exact this x hx
def Oz (v:List Nd)(hl:v.length<=1000000)(ha:∀ n∈v,n.attrs.length<=1000000)(nm:Nat):Ev cx 43 nm [.sl false 6 (v.map aV)] am.nil (.own nm 0 v.length) [(nm,some ⟨6,v.map aV⟩)]:=by
 have hc:=BR v hl
 refine bh call43 func43 rfl (by kernel_rfl) rfl ?_;intro b0 hb0;have zF:=Ai results43 ntmps43
 repeat' first|simp only[ak,ag,zF,al,ad,Lm,ai,seval,ah]|exact rfl|refine aa (v:=.any) ?_|(refine b8 ?_ (hc _) ?_ ?_)|omega|((first|apply Ca|apply Cb)<;>intro hb)|refine Ai (by omega) ?_|(apply Ai<;>intro hb)
 (refine ul bM (fun x:Nat=>v.length-x) (fun x=>x<=v.length) (b0+16) (fun x=>[(3,.own b0 0 v.length),(8,.own b0 0 v.length),(9,.int .i64 v.length),(10,.int .i64 x)]) (fun x=>[(b0,⟨6,v.map aV⟩)]) (0) [some (b0+32)] ?_ ?_ ?_ ?_;rotate_left 1;(focus (show b0<=_;omega));(focus (refine⟨?_,?_⟩<;>(try simp only[aX,iW,ad,aJ,Lm,ai,seval,ah,ap])<;>(try omega)));rotate_left 1)
 ·exact Nat.zero_le _
 ·intro k hk
  by_cases hlt:k<v.length
  ·obtain⟨x,hx⟩:∃ x,v[k]? = some x:=⟨_,List.getElem?_eq_getElem hlt⟩
   have hat:=iL hx
   have d1:decide ((k:Int)<(v.length:Int))=true:=bR
   have d2:decide (k<v.length)=true:=decide_eq_true hlt
   have hki:(k:Int)<(v.length:Int):=by omega
   have hwk:IntKind.i64.wrap ((k:Int)+1)=((k+1:Nat):Int):=bd
   have hca:=BQ x.attrs (ha x (List.mem_of_getElem? hx))
   repeat' first|simp only[ak,ag,zF,al,ad,aq,hat,aV,hlt,hki,d1,d2,hwk,Lm,ai,seval,ah]|exact rfl|refine aa (v:=.any) ?_|(refine b8 ?_ (hca _) ?_ ?_)|omega|((first|apply Ca|apply Cb)<;>intro hb)|refine Ai (by omega) ?_|(apply Ai<;>intro hb)
   have hns:=NR hx
   have f1:=fun (O:List (Nat×Nat)) (M:am) (r:List V)=>Cj O M v k r
   have f2:=fun (O:List (Nat×Nat)) (M:am) (r:List V)=>xL O M r hlt
   have f3:=fun (r:List V)=>Dg r hlt
   have f4:=fun (O:List (Nat×Nat)) (r:List V)=>Dq O r hlt
   all_goals ((refine eO bM (k+1) [some b0] ?_ ?_ ?_ ?_;rotate_left 2;(focus (show b0<=_;omega));(focus (refine⟨?_,?_⟩<;>(try simp only[aX,iW,hwk,aJ,ad,aq,aV,f1,f2,f3,f4,hns,cM,bz,Lm,ai,seval,ah,ap])<;>(try omega)))))
   all_goals (first|(show v.length-(k+1)<v.length-k;omega)|exact hlt|skip)
  ·have hkm:k=v.length:=by omega
   subst hkm
   have d1:decide ((v.length:Int)<(v.length:Int))=false:=bm
   have d2:decide (v.length<v.length)=false:=bm
   repeat' first|simp only[ak,ag,zF,al,d1,d2,ad,Lm,ai,seval,ah]|exact rfl|refine aa (v:=.any) ?_|((first|apply Ca|apply Cb)<;>intro hb)|refine Ai (by omega) ?_|(apply Ai<;>intro hb)
   all_goals ((refine Fin.give [(b0,some 0)] [] ?_ ?_ ?_ ?_ ?_ (aL gM (by simp[aP,tgt]))<;>(try simp only[zF,al,ad,Lm,dx,ai,seval,ah])<;>(try simp only[ap])<;>(try omega)))
def jK {n:Nd}(h:jJ n=true):n.attrs.length<=16/\n.text.length<=16384:=by
 rcases kS h with hk|hk
 ·obtain⟨h1,_,_,h4⟩:=rj h hk
  exact⟨(su.1 h4).1,by rw[h1];simp⟩
 ·obtain⟨_,_,h3,_,_,h6⟩:=kT h hk
  exact⟨by rw[h3];simp,pd h6⟩
def IM {v:List Nd}{en:List Nat}(h:bu v=some en):∀ n∈v,jJ n=true:=by
 obtain⟨n,k,h1,h2,h3,h4,h5⟩:=jw.1 h
 intro x hx
 have:v=(Fo.cons n k .nil).flat:=by rw[h2];simp[Fo.flat]
 rw[this]at hx
 exact(Fo.good_all h3 x hx).1
def Om (v:List Nd)(hv:v.length<=bc)(hok:∀ n∈v,n.okTo bc/\n.i64){en:List Nat}(hbo:bu v=some en)(p e:Nat){x:Nd}(hx:v[p]? = some x)(hk:x.kind≠2)(hep:en[p]? = some e)(nm:Nat):Ev cx 23 nm [.sl false 6 (v.map aV),.int .i64 p] am.nil (.tup [.own nm 0 ((v.drop p).take (e-p)).length,.int .i64 0]) [(nm,some ⟨6,((v.drop p).take (e-p)).map aV⟩)]:=by
 have hp:=(List.getElem?_eq_some_iff.1 hx).1
 have ha:=vR v hv hok hbo p hp
 obtain⟨hel,hv0,h512,hup⟩:=jd hbo
 obtain⟨hpe,hev⟩:=hup p e hep
 have hate:(en.map cQ)[p]? = some (cQ e):=by rw[List.getElem?_map,hep];rfl
 have hpi:(p:Int)<(v.length:Int):=by omega
 have hat:=iL hx
 have q3:((x.kind:Int)==2)=false:=beq_false_of_ne (by omega)
 have hpart:((v.map aV).drop p).take (e-p)=((v.drop p).take (e-p)).map aV:=by rw[List.map_take,List.map_drop]
 have htw:=Oz ((v.drop p).take (e-p)) (by simp;omega) (fun n hn=>by
  have:=(jK (IM hbo n (List.mem_of_mem_drop (List.mem_of_mem_take hn)))).1;omega)
 have c1:(p:Int)<=(e:Int):=by omega
 have c2:(e:Int)<=(v.length:Int):=by omega
 have c3:p<=e:=by omega
 generalize hL:(v.drop p).take (e-p)=L at hpart htw
 refine bh call23 func23 rfl (by kernel_rfl) rfl ?_;intro b0 hb0
 repeat' first|simp only[ak,ag,results23,ntmps23,al,q3,hat,hate,hpart,aV,cQ,hp,hpi,c1,c2,c3,hev,ad,aH,Bt,Bf,Lm,ai,seval,ah]|exact rfl|refine aa (v:=.any) ?_|(refine b8 ?_ (ha _) ?_ ?_)|(refine b8 ?_ (htw _) ?_ ?_)|omega|((first|apply Ca|apply Cb)<;>intro hb)|refine Ai (by omega) ?_|(apply Ai<;>intro hb)
 all_goals ((refine Fin.give [(b0+464,some 0)] [] ?_ ?_ ?_ ?_ ?_ (aL gM (by simp[aP,tgt]))<;>(try simp only[results23,ntmps23,al,ad,Lm,dx,ai,seval,ah])<;>(try simp only[ap])<;>(try omega)))
def Ah {en:List Nat}{stop:Nat} : ∀(f p:Nat),(hops en stop f p).length<=f
 | 0,_=>by simp[hops]
 | f+1,p=>by
  simp only[hops]
  split
  ·simp;exact Ah f _
  ·simp
end Go.Proofs.YtlnlopnpcmahgaaGreatDoor
