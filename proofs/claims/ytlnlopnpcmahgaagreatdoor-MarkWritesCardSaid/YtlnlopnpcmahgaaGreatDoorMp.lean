/-
 Texts joined: XJn,XJo.
-/
import Derived.Test.YtlnlopnpcmahgaaGreatDoorMo
import Derived.Test.YtlnlopnpcmahgaaGreatDoorR3
import Derived.Test.YtlnlopnpcmahgaaGreatDoorMi
import Derived.Test.YtlnlopnpcmahgaaGreatDoorR2
set_option linter.all false
namespace Go.Proofs.YtlnlopnpcmahgaaGreatDoor
open Go Go.RowKit Vm Go.Lib Tryz
open Vm renaming aH->Ca,aL->Cb
open And renaming intro->Ai
open List renaming length_map->Lm,not_mem_nil->Ln,map_nil->Lo,map_cons->Lc,mem_cons->Lk
open Bool renaming not_false->Bf,not_true->Bt
def hO (S:List (List UInt8))(s:List UInt8):Nat:=match S.findIdx? (· == s) with
 | some i=>i+1
 | none=>0
def EP {S:List (List UInt8)}{i:Nat}{x:List UInt8}(h:S[i]? = some x):(S.map mV)[i]? = some [.str x]:=by rw[List.getElem?_map,h];rfl
def yF {S:List (List UInt8)}{i:Nat}{x s:List UInt8}(h:S[i]? = some x)(hno:(S.take i).any (· == s)=false)(hx:(x==s)=true):hO S s=i+1:=by
 unfold hO
 have:S.findIdx? (· == s)=some i:=by
  rw[List.findIdx?_eq_some_iff_getElem]
  obtain⟨hi,rfl⟩:=List.getElem?_eq_some_iff.1 h
  refine⟨hi,hx,fun j hj=>?_⟩
  have hm:=List.any_eq_false.1 hno S[j] (List.mem_of_getElem? (by rw[List.getElem?_take,if_pos hj];exact List.getElem?_eq_getElem (by omega)))
  simpa using hm
 rw[this]
def yG {S:List (List UInt8)}{s:List UInt8}(hno:S.any (· == s)=false):hO S s=0:=by
 unfold hO
 rw[List.findIdx?_eq_none_iff.2 fun x hx=>by simpa using List.any_eq_false.1 hno x hx]
def yH (S:List (List UInt8))(s:List UInt8):((hO S s:Int)==0) = !S.contains s:=by
 unfold hO
 cases h:S.findIdx? (· == s) with
 | none=>rw[nc h];rfl
 | some i=>rw[sd h];simp;omega
set_option maxRecDepth 100000 in
set_option maxHeartbeats 4000000 in
def nJ (S:List (List UInt8))(s:List UInt8)(hS:S.length<=1000)(nm:Nat):Ev cx 179 nm [.sl false 1 (S.map mV),.str s] am.nil (.int .i64 (hO S s)) []:=by
 refine aV call179 func179 rfl (by kernel_rfl) rfl ?_;intro b0 hb0;have zF:=Ai results179 ntmps179
 repeat' first|simp only[aj,ag,zF,ap,ai,seval,ah]|exact rfl|refine aa (v:=.any) ?_|((first|apply Ca|apply Cb)<;>intro hb)|refine Ai (by omega) ?_|(apply Ai<;>intro hb)
 (refine ay bu (fun x:Nat=>S.length-x) (fun x=>x<=S.length/\(S.take x).any (· == s)=false) (b0+16) (fun x=>[(0,.sl false 1 (S.map mV)),(1,.str s),(5,.int .i64 x)]) (fun x=>[]) (0) [] ?_ ?_ ?_ ?_;rotate_left 1;(focus (show b0<=_;omega));(focus (refine⟨?_,?_⟩<;>(try simp only[aM,av,Lm,ai,seval,ah,al])<;>(try omega)));rotate_left 1)
 ·exact⟨Nat.zero_le _,rfl⟩
 ·rintro i ⟨hi,hno⟩
  by_cases hlt:i<S.length
  ·obtain⟨x,hx⟩:∃ x,S[i]? = some x:=⟨_,List.getElem?_eq_getElem hlt⟩
   have hat:=EP hx
   have hii:(i:Int)<(S.length:Int):=by omega
   have d1:decide ((i:Int)<(S.length:Int))=true:=decide_eq_true hii
   have d2:decide (i<S.length)=true:=decide_eq_true hlt
   have wi:IntKind.i64.wrap ((i:Int)+1)=((i+1:Nat):Int):=aK
   cases hb:(x==s) with
   | true =>
    rw[yF hx hno hb]
    (repeat' first|simp only[aj,ag,zF,ap,d1,d2,hat,hlt,hii,hb,wi,Lm,ai,seval,ah]|exact rfl|refine aa (v:=.any) ?_|((first|apply Ca|apply Cb)<;>intro hb)|refine Ai (by omega) ?_|(apply Ai<;>intro hb)|refine Fin.pure ?_ ?_ ?_|simp only[al])
   | false =>
    have hno':=fg hx hno hb
    repeat' first|simp only[aj,ag,zF,ap,d1,d2,hat,hlt,hii,hb,wi,Lm,ai,seval,ah]|exact rfl|refine aa (v:=.any) ?_|((first|apply Ca|apply Cb)<;>intro hb)|refine Ai (by omega) ?_|(apply Ai<;>intro hb)
    all_goals ((refine au bu (i+1) [] ?_ ?_ ?_ ?_;rotate_left 2;(focus (show b0<=_;omega));(focus (refine⟨?_,?_⟩<;>(try simp only[aM,av,wi,Lm,ai,seval,ah,al])<;>(try omega)))))
    all_goals (first|(show S.length-(i+1)<S.length-i;omega)|exact⟨hlt,hno'⟩|skip)
  ·have hie:i=S.length:=by omega
   subst hie
   have d1:decide ((S.length:Int)<(S.length:Int))=false:=aR
   have d2:decide (S.length<S.length)=false:=aR
   rw[List.take_length]at hno
   rw[yG hno]
   (repeat' first|simp only[aj,ag,zF,ap,d1,d2,Lm,ai,seval,ah]|exact rfl|refine aa (v:=.any) ?_|((first|apply Ca|apply Cb)<;>intro hb)|refine Ai (by omega) ?_|(apply Ai<;>intro hb)|refine Fin.pure ?_ ?_ ?_|simp only[al])
set_option maxRecDepth 100000 in
set_option maxHeartbeats 8000000 in
def wg (l:List At)(hl:l.length<=900)(nm:Nat):Ev cx 177 nm [.sl false 3 (l.map bh)] am.nil (.own nm 0 (aT l).length) [(nm,some ⟨1,(aT l).map mV⟩)]:=by
 have hz:aT []=[]:=rfl
 refine aV call177 func177 rfl (by kernel_rfl) rfl ?_;intro b0 hb0;have zF:=Ai results177 ntmps177
 repeat' first|simp only[aj,ag,zF,ap,ai,seval,ah]|exact rfl|refine aa (v:=.any) ?_|((first|apply Ca|apply Cb)<;>intro hb)|refine Ai (by omega) ?_|(apply Ai<;>intro hb)
 (refine ay bu (fun x:Nat=>l.length-x) (fun x=>x<=l.length) (b0+16) (fun x=>[(0,.sl false 3 (l.map bh)),(3,.own b0 0 (aT (l.take x)).length),(4,.int .i64 x)]) (fun x=>[(b0,⟨1,(aT (l.take x)).map mV⟩)]) (0) [none] ?_ ?_ ?_ ?_;rotate_left 1;(focus (show b0<=_;omega));(focus (refine⟨?_,?_⟩<;>(try simp only[aM,hz,ae,aB,List.take_zero,Lo,List.length_nil,Lm,ai,seval,ah,al])<;>(try omega)));rotate_left 1)
 ·exact Nat.zero_le _
 ·intro k hk
  by_cases hlt:k<l.length
  ·obtain⟨a,ha⟩:∃ a,l[k]? = some a:=⟨_,List.getElem?_eq_getElem hlt⟩
   have hat:=gN ha
   have hki:(k:Int)<(l.length:Int):=by omega
   have d1:decide ((k:Int)<(l.length:Int))=true:=decide_eq_true hki
   have d2:decide (k<l.length)=true:=decide_eq_true hlt
   have wk:IntKind.i64.wrap ((k:Int)+1)=((k+1:Nat):Int):=aK
   have hst:=qN ha
   have hsl:=kP (l.take k)
   rw[List.length_take]at hsl
   generalize aT (l.take k)=S at hst hsl
   have htk:=qU S
   have hw:=nJ S a.space (by omega)
   have hwz:=yH S a.space
   generalize (hO S a.space:Int)=W at hw hwz
   have hsn:=zz S a.space
   unfold e9 at hst
   unfold ks at hst
   cases c1:(a.space==[]) with
   | true =>
    rw[c1,if_pos rfl]at hst
    repeat' first|simp only[aj,ag,zF,ap,d1,d2,hat,bh,hlt,hki,c1,htk,bx,Bt,Bf,av,Lm,ai,seval,ah]|exact rfl|refine aa (v:=.any) ?_|(refine aa (v:=.any) ?_)|((first|apply Ca|apply Cb)<;>intro hb)|refine Ai (by omega) ?_|(apply Ai<;>intro hb)
    all_goals ((refine au bu (k+1) [some b0] ?_ ?_ ?_ ?_;rotate_left 2;(focus (show b0<=_;omega));(focus (refine⟨?_,?_⟩<;>(try simp only[aM,hst,wk,ae,av,aQ,aB,Lm,ai,seval,ah,al])<;>(try omega)))))
    all_goals (first|(show l.length-(k+1)<l.length-k;omega)|exact hlt|skip)
   | false =>
    rw[c1,if_neg (by simp)]at hst
    cases c2:(a.space==[104,116,116,112,58,47,47,119,119,119,46,119,51,46,111,114,103,47,88,77,76,47,49,57,57,56,47,110,97,109,101,115,112,97,99,101]) with
    | true =>
     rw[c2,if_pos rfl]at hst
     repeat' first|simp only[aj,ag,zF,ap,d1,d2,hat,bh,hlt,hki,c1,c2,htk,bx,Bt,Bf,av,Lm,ai,seval,ah]|exact rfl|refine aa (v:=.any) ?_|(refine aa (v:=.any) ?_)|((first|apply Ca|apply Cb)<;>intro hb)|refine Ai (by omega) ?_|(apply Ai<;>intro hb)
     all_goals ((refine au bu (k+1) [some b0] ?_ ?_ ?_ ?_;rotate_left 2;(focus (show b0<=_;omega));(focus (refine⟨?_,?_⟩<;>(try simp only[aM,hst,wk,ae,av,aQ,aB,Lm,ai,seval,ah,al])<;>(try omega)))))
     all_goals (first|(show l.length-(k+1)<l.length-k;omega)|exact hlt|skip)
    | false =>
     rw[c2,if_neg (by simp)]at hst
     cases c3:S.contains a.space with
     | true =>
      rw[c3,Bt]at hwz
      rw[c3,if_pos rfl]at hst
      repeat' first|simp only[aj,ag,zF,ap,d1,d2,hat,bh,hlt,hki,c1,c2,hwz,htk,Bt,Bf,av,Lm,ai,seval,ah]|exact rfl|refine aa (v:=.any) ?_|((refine og (xs:=?_) [b0] ?_ (fun _=>?_) (fun _=>?_) rfl ((fun _=>hw _)) ?_);rotate_left 1)|omega|((first|apply Ca|apply Cb)<;>intro hb)|refine Ai (by omega) ?_|(apply Ai<;>intro hb)
      all_goals ((refine au bu (k+1) [some b0] ?_ ?_ ?_ ?_;rotate_left 2;(focus (show b0<=_;omega));(focus (refine⟨?_,?_⟩<;>(try simp only[aM,hst,wk,ae,av,aQ,aB,Lm,ai,seval,ah,al])<;>(try omega)))))
      all_goals (first|(show l.length-(k+1)<l.length-k;omega)|exact hlt|skip)
     | false =>
      rw[c3,Bf]at hwz
      rw[c3,if_neg (by simp)]at hst
      have hstl:(S++[a.space]).length=S.length+1:=by simp
      repeat' first|simp only[aj,ag,zF,ap,d1,d2,hat,bh,hlt,hki,c1,c2,hwz,htk,hsn,Bt,Bf,av,Lm,ai,seval,ah]|exact rfl|refine aa (v:=.any) ?_|((refine og (xs:=?_) [b0] ?_ (fun _=>?_) (fun _=>?_) rfl ((fun _=>hw _)) ?_);rotate_left 1)|omega|((first|apply Ca|apply Cb)<;>intro hb)|refine Ai (by omega) ?_|(apply Ai<;>intro hb)
      all_goals ((refine au bu (k+1) [some (b0+576)] ?_ ?_ ?_ ?_;rotate_left 2;(focus (show b0<=_;omega));(focus (refine⟨?_,?_⟩<;>(try simp only[aM,hst,hstl,wk,ae,av,aQ,aB,Lm,ai,seval,ah,al])<;>(try omega)))))
      all_goals (first|(show l.length-(k+1)<l.length-k;omega)|exact hlt|skip)
  ·have hke:k=l.length:=by omega
   subst hke
   have d1:decide ((l.length:Int)<(l.length:Int))=false:=aR
   have d2:decide (l.length<l.length)=false:=aR
   have htk:=qU (aT l)
   ((repeat' first|simp only[aj,ag,zF,ap,d1,d2,htk,av,List.take_length,Lm,ai,seval,ah]|exact rfl|refine aa (v:=.any) ?_|((first|apply Ca|apply Cb)<;>intro hb)|refine Ai (by omega) ?_|(apply Ai<;>intro hb));(all_goals (first|(refine Fin.auto (r:=?_) (l:=?_) ?_ ?_ ?_ ?_ ?_ ?_ ?_;rotate_left 1;(simp only[zF,be,bA,aU,bd,d1,d2,htk,av,List.take_length,Lm,ai,seval,ah]);(exact rfl);rotate_left 1;(simp only[V.owns,ownsL,List.cons_append,List.nil_append]);(exact rfl);all_goals (try simp only[zF,be,bA,aU,bd,d1,d2,htk,av,List.take_length,Lm,rT,ai,seval,ah]);all_goals (try simp only[al]))|skip)))
def yd (l:List At)(hl:l.length<=900)(nm:Nat):Ev cx 177 nm [.sl false 3 (l.map bh)] am.nil (.sl false 1 ((aT l).map mV)) []:=by
 have hpl:=av (aT l)
 have htk:=qU (aT l)
 refine Ev.freeze (wg l hl nm) ?_ ?_
 ·simp only[aj,ag,ap,hpl,htk,Lm,ai,seval,ah]<;>omega
 ·simp only[aj,ag,ap,hpl,htk,Lm,ai,seval,ah]
def gO {n:Nat}(h:n<100):ei n=ec n:=by
 unfold ec
 by_cases h1:n<10
 ·rw[if_pos h1,gq (by omega)]
  try rfl
 ·rw[if_neg h1,jL (by omega),gq (by omega)]
  try rfl
def wI {S:List (List UInt8)}{s:List UInt8}(h:s∈S):hO S s=wM S s+1/\wM S s<S.length:=by
 obtain⟨_,h2⟩:=Ip h
 refine⟨?_,h2⟩
 unfold hO wM at *
 cases hf:S.findIdx? (· == s) with
 | none=>rw[hf]at h2;simp at h2
 | some i=>rfl
def sf {S:List (List UInt8)}{i:Nat}{s:List UInt8}(h:S[i]? = some s):(bG S).take (i+1)=(bG S).take i++[lp i s]:=by
 have hq:(bG S)[i]? = some (lp i s):=by unfold bG;rw[List.getElem?_mapIdx,h];rfl
 obtain⟨h2,h3⟩:=List.getElem?_eq_some_iff.1 hq
 rw[List.take_succ_eq_append_getElem h2,h3]
def qx {f:At->At}{l:List At}{k:Nat}{a:At}(h:l[k]? = some a):(l.take (k+1)).map f=(l.take k).map f++[f a]:=k8 h
set_option maxRecDepth 100000 in
set_option maxHeartbeats 32000000 in
def Bm (n:Nd)(sp:List UInt8)(hk:n.kind=1)(hn:n.okTo 1000000)(ha:n.attrs.length<=30)(nm:Nat) :
  Ev cx 139 nm [.agg (aG n),.str sp] am.nil (.agg [.int .u8 1,.str [],.str n.name,.own nm 0 (cD n sp).attrs.length,.str [],.int .i64 n.many]) [(nm,some ⟨3,(cD n sp).attrs.map bh⟩)]:=by
 have hspc:=yd n.attrs (by omega)
 have hSl:=kP n.attrs
 have hseen:∀ a∈n.attrs,a.space≠[]->a.space≠ks->a.space∈aT n.attrs:=fun a h1 h2 h3=>Ej h1 h2 h3
 have hat0:(cD n sp).attrs=(vK n sp++bG (aT n.attrs))++n.attrs.map (df (aT n.attrs)):=rfl
 rw[hat0]
 generalize aT n.attrs=S at hspc hSl hseen ⊢
 have hdl:(bG S).length=S.length:=u9 S
 have hhl:(vK n sp).length<=1:=by unfold vK;split<;>simp
 obtain⟨Z,hZ⟩:∃ Z,Z=(vK n sp++bG S)++n.attrs.map (df S):=⟨_,rfl⟩
 rw[<- hZ]
 have hcase:((n.space==sp)=true/\vK n sp=[])\/((n.space==sp)=false/\vK n sp=[⟨[],[120,109,108,110,115],n.space⟩]):=by
  unfold vK
  cases h:(n.space==sp) with
  | true=>exact .inl ⟨rfl,rfl⟩
  | false=>exact .inr ⟨rfl,rfl⟩
 have hx1:[[V.str [],.str [120,109,108,110,115],.str n.space]]=([⟨[],[120,109,108,110,115],n.space⟩]:List At).map bh:=rfl
 rcases hcase with ⟨hs1,hs2⟩|⟨hs1,hs2⟩
 ·generalize vK n sp=H at hs2 hZ hhl
  refine aV call139 func139 rfl (by kernel_rfl) rfl ?_;intro b0 hb0;have zF:=Ai results139 ntmps139
  repeat' first|simp only[aj,ag,zF,ap,hs1,aG,ae,Bt,Bf,Lm,ai,seval,ah]|exact rfl|refine aa (v:=.any) ?_|(first|(refine ac ?_ (hspc _) ?_)|(refine ab ?_ (fun _=>hspc _) ?_))|refine aq (ps:=[(1,4),(4,8),(4,9),(1,11)]) (by decide +kernel) (by simp only[List.forall_mem_cons,List.getD_cons_zero,List.getD_cons_succ,zF,ap,hs1,aG,ae,Bt,Bf,Lm,ai,seval,ah]<;>(try simp)<;>(try omega)) ?_|refine aq (ps:=[(1,13),(3,13),(5,13),(7,13),(9,13),(11,13)]) (by decide +kernel) (by simp only[List.forall_mem_cons,List.getD_cons_zero,List.getD_cons_succ,zF,ap,hs1,aG,ae,Bt,Bf,Lm,ai,seval,ah]<;>(try simp)<;>(try omega)) ?_|refine aq (ps:=[(7,12),(8,12)]) (by decide +kernel) (by simp only[List.forall_mem_cons,List.getD_cons_zero,List.getD_cons_succ,zF,ap,hs1,aG,ae,Bt,Bf,Lm,ai,seval,ah]<;>(try simp)<;>(try omega)) ?_|refine ao (by decide +kernel) ?_|((first|apply Ca|apply Cb)<;>intro hb)|refine Ai (by omega) ?_|(apply Ai<;>intro hb)
  (refine ay bu (fun x:Nat=>S.length-x) (fun x=>x<=S.length) (b0+16) (fun x=>[(2,.ptr b0 0 0),(4,.ptr (b0+1) 0 0),(5,.ptr (b0+2) 0 0),(6,.sl false 1 (S.map mV)),(7,.int .i64 x)]) (fun x=>[(b0,⟨6,[aG n]⟩),(b0+1,⟨6,[[.int .u8 0,.str [],.str [],.nils,.str [],.int .i64 0]]⟩),(b0+2,⟨6,[[.int .u8 1,.str [],.str n.name,.own (b0+3) 0 (H++(bG S).take x).length,.str [],.int .i64 n.many]]⟩),(b0+3,⟨3,(H++(bG S).take x).map bh⟩)]) (0) [some b0,some (b0+16),some (b0+112),none] ?_ ?_ ?_ ?_;rotate_left 1;(focus (show b0<=_;omega));(focus (refine⟨?_,?_⟩<;>(try simp only[aM,hs2,bh,aG,Lc,List.append_nil,ae,av,aB,aQ,eK,dj,ej,b8,fX,List.take_zero,List.append_nil,Lo,List.length_nil,List.length_cons,Lm,ai,seval,ah,al])<;>(try omega)));rotate_left 1)
  ·exact Nat.zero_le _
  ·intro i hi
   by_cases hlt:i<S.length
   ·obtain⟨s,hs⟩:∃ s,S[i]? = some s:=⟨_,List.getElem?_eq_getElem hlt⟩
    have hts:=EP hs
    have hii:(i:Int)<(S.length:Int):=by omega
    have d1:decide ((i:Int)<(S.length:Int))=true:=decide_eq_true hii
    have d2:decide (i<S.length)=true:=decide_eq_true hlt
    have wi:IntKind.i64.wrap ((i:Int)+1)=((i+1:Nat):Int):=aK
    have hdg:=iY (i+1) (by rw[show(10:Nat) ^ 17=100000000000000000 by decide];omega)
    rw[gO (by omega)]at hdg
    have hil:=io (i+1)
    have hdt:=sf hs
    have hsn:=iI (H++(bG S).take i) (lp i s)
    rw[List.append_assoc,<- hdt]at hsn
    have hsnl:=congrArg List.length hsn
    unfold lp at hsn
    simp only[List.length_append,Lm,List.length_cons,List.length_nil]at hsnl
    have hAl:(H++(bG S).take i).length<=100:=by rw[List.length_append,List.length_take];omega
    have htk:=dM (H++(bG S).take i)
    have hAl2:(H++(bG S).take (i+1)).length=(H++(bG S).take i).length+1:=by rw[hdt,<- List.append_assoc,List.length_append (bs:=[lp i s])];rfl
    generalize H++(bG S).take i=A at hsn hAl htk hAl2
    simp only[List.cons_append,List.nil_append]at hsn
    generalize ec (i+1)=dg at hdg hil hsn
    repeat' first|simp only[aj,ag,zF,ap,d1,d2,hts,hlt,hii,wi,htk,hsn,aG,ae,av,Lm,ai,seval,ah]|exact rfl|refine aa (v:=.any) ?_|(first|(refine ac ?_ (hdg _) ?_)|(refine ab ?_ (fun _=>hdg _) ?_))|refine aq (ps:=[(1,4),(4,8),(4,9),(1,11)]) (by decide +kernel) (by simp only[List.forall_mem_cons,List.getD_cons_zero,List.getD_cons_succ,zF,ap,d1,d2,hts,hlt,hii,wi,htk,hsn,aG,ae,av,Lm,ai,seval,ah]<;>(try simp)<;>(try omega)) ?_|refine aq (ps:=[(1,13),(3,13),(5,13),(7,13),(9,13),(11,13)]) (by decide +kernel) (by simp only[List.forall_mem_cons,List.getD_cons_zero,List.getD_cons_succ,zF,ap,d1,d2,hts,hlt,hii,wi,htk,hsn,aG,ae,av,Lm,ai,seval,ah]<;>(try simp)<;>(try omega)) ?_|refine aq (ps:=[(7,12),(8,12)]) (by decide +kernel) (by simp only[List.forall_mem_cons,List.getD_cons_zero,List.getD_cons_succ,zF,ap,d1,d2,hts,hlt,hii,wi,htk,hsn,aG,ae,av,Lm,ai,seval,ah]<;>(try simp)<;>(try omega)) ?_|refine ao (by decide +kernel) ?_|((first|apply Ca|apply Cb)<;>intro hb)|refine Ai (by omega) ?_|(apply Ai<;>intro hb)
    all_goals ((refine au bu (i+1) [some b0,some (b0+1),some (b0+2),some (b0+272)] ?_ ?_ ?_ ?_;rotate_left 2;(focus (show b0<=_;omega));(focus (refine⟨?_,?_⟩<;>(try simp only[aM,wi,hAl2,hsn,aG,ae,av,aQ,aB,Lm,ai,seval,ah,al])<;>(try omega)))))
    all_goals (first|(show S.length-(i+1)<S.length-i;omega)|exact hlt|skip)
   ·have hie:i=S.length:=by omega
    subst hie
    have d1:decide ((S.length:Int)<(S.length:Int))=false:=aR
    have d2:decide (S.length<S.length)=false:=aR
    rw[List.take_of_length_le (show(bG S).length<=S.length by omega)]
    have htk0:=dM (H++bG S)
    have hBl:(H++bG S).length<=100:=by rw[List.length_append];omega
    generalize H++bG S=B at hZ htk0 hBl
    have hz0:([]:List At).map (df S)=[]:=rfl
    repeat' first|simp only[aj,ag,zF,ap,d1,d2,htk0,aG,ae,av,Lm,ai,seval,ah]|exact rfl|refine aa (v:=.any) ?_|refine aq (ps:=[(1,4),(4,8),(4,9),(1,11)]) (by decide +kernel) (by simp only[List.forall_mem_cons,List.getD_cons_zero,List.getD_cons_succ,zF,ap,d1,d2,htk0,aG,ae,av,Lm,ai,seval,ah]<;>(try simp)<;>(try omega)) ?_|refine aq (ps:=[(1,13),(3,13),(5,13),(7,13),(9,13),(11,13)]) (by decide +kernel) (by simp only[List.forall_mem_cons,List.getD_cons_zero,List.getD_cons_succ,zF,ap,d1,d2,htk0,aG,ae,av,Lm,ai,seval,ah]<;>(try simp)<;>(try omega)) ?_|refine aq (ps:=[(7,12),(8,12)]) (by decide +kernel) (by simp only[List.forall_mem_cons,List.getD_cons_zero,List.getD_cons_succ,zF,ap,d1,d2,htk0,aG,ae,av,Lm,ai,seval,ah]<;>(try simp)<;>(try omega)) ?_|refine ao (by decide +kernel) ?_|((first|apply Ca|apply Cb)<;>intro hb)|refine Ai (by omega) ?_|(apply Ai<;>intro hb)
    (refine ay bu (fun x:Nat=>n.attrs.length-x) (fun x=>x<=n.attrs.length) (b0+16) (fun x=>[(2,.ptr b0 0 0),(4,.ptr (b0+1) 0 0),(5,.ptr (b0+2) 0 0),(6,.sl false 1 (S.map mV)),(8,.int .i64 x)]) (fun x=>[(b0,⟨6,[aG n]⟩),(b0+1,⟨6,[[.int .u8 0,.str [],.str [],.nils,.str [],.int .i64 0]]⟩),(b0+2,⟨6,[[.int .u8 1,.str [],.str n.name,.own (b0+3) 0 (B++(n.attrs.take x).map (df S)).length,.str [],.int .i64 n.many]]⟩),(b0+3,⟨3,(B++(n.attrs.take x).map (df S)).map bh⟩)]) (0) [some b0,some (b0+1),some (b0+2),some (b0+3)] ?_ ?_ ?_ ?_;rotate_left 1;(focus (show b0<=_;omega));(focus (refine⟨?_,?_⟩<;>(try simp only[aM,hz0,aG,ae,av,aB,aQ,List.take_zero,List.append_nil,Lo,List.length_nil,Lm,ai,seval,ah,al])<;>(try omega)));rotate_left 1)
    ·exact Nat.zero_le _
    ·intro k hk2
     by_cases hkl:k<n.attrs.length
     ·obtain⟨a,haa⟩:∃ a,n.attrs[k]? = some a:=⟨_,List.getElem?_eq_getElem hkl⟩
      have hata:=gN haa
      have ham:=List.mem_of_getElem? haa
      obtain⟨o1,o2,o3⟩:=hn.2.2.2.2 a ham
      have hki:(k:Int)<(n.attrs.length:Int):=by omega
      have f1:decide ((k:Int)<(n.attrs.length:Int))=true:=decide_eq_true hki
      have f2:decide (k<n.attrs.length)=true:=decide_eq_true hkl
      have wk:IntKind.i64.wrap ((k:Int)+1)=((k+1:Nat):Int):=aK
      have hmt:=qx (f:=df S) haa
      have hsn:=iI (B++(n.attrs.take k).map (df S)) (df S a)
      rw[List.append_assoc,<- hmt]at hsn
      have hAl:(B++(n.attrs.take k).map (df S)).length<=200:=by rw[List.length_append,Lm,List.length_take];omega
      have htk:=dM (B++(n.attrs.take k).map (df S))
      have hAl2:(B++(n.attrs.take (k+1)).map (df S)).length=(B++(n.attrs.take k).map (df S)).length+1:=by rw[hmt,<- List.append_assoc,List.length_append (bs:=[df S a])];rfl
      generalize B++(n.attrs.take k).map (df S)=A at hsn hAl htk hAl2
      have hsee:=hseen a ham
      generalize hA':(B++(n.attrs.take (k+1)).map (df S)).map bh=R' at hsn
      unfold df rU at hsn
      unfold ks at hsn hsee
      simp only at hsn
      cases c1:(a.space==[104,116,116,112,58,47,47,119,119,119,46,119,51,46,111,114,103,47,88,77,76,47,49,57,57,56,47,110,97,109,101,115,112,97,99,101]) with
      | true =>
       have c0:(a.space==[])=false:=by rw[eq_of_beq c1];rfl
       rw[c0,c1]at hsn
       simp only[Bool.false_eq_true,if_false,if_true,List.cons_append,List.nil_append]at hsn
       subst hA'
       repeat' first|simp only[aj,ag,zF,ap,f1,f2,hata,bh,hkl,hki,c1,wk,htk,hsn,aG,List.cons_append,List.nil_append,List.append_eq,ae,av,Lm,ai,seval,ah]|exact rfl|refine aa (v:=.any) ?_|refine aq (ps:=[(1,4),(4,8),(4,9),(1,11)]) (by decide +kernel) (by simp only[List.forall_mem_cons,List.getD_cons_zero,List.getD_cons_succ,zF,ap,f1,f2,hata,bh,hkl,hki,c1,wk,htk,hsn,aG,List.cons_append,List.nil_append,List.append_eq,ae,av,Lm,ai,seval,ah]<;>(try simp)<;>(try omega)) ?_|refine aq (ps:=[(1,13),(3,13),(5,13),(7,13),(9,13),(11,13)]) (by decide +kernel) (by simp only[List.forall_mem_cons,List.getD_cons_zero,List.getD_cons_succ,zF,ap,f1,f2,hata,bh,hkl,hki,c1,wk,htk,hsn,aG,List.cons_append,List.nil_append,List.append_eq,ae,av,Lm,ai,seval,ah]<;>(try simp)<;>(try omega)) ?_|refine aq (ps:=[(7,12),(8,12)]) (by decide +kernel) (by simp only[List.forall_mem_cons,List.getD_cons_zero,List.getD_cons_succ,zF,ap,f1,f2,hata,bh,hkl,hki,c1,wk,htk,hsn,aG,List.cons_append,List.nil_append,List.append_eq,ae,av,Lm,ai,seval,ah]<;>(try simp)<;>(try omega)) ?_|refine ao (by decide +kernel) ?_|((first|apply Ca|apply Cb)<;>intro hb)|refine Ai (by omega) ?_|(apply Ai<;>intro hb)
       all_goals ((refine au bu (k+1) [some b0,some (b0+1),some (b0+2),some (b0+592)] ?_ ?_ ?_ ?_;rotate_left 2;(focus (show b0<=_;omega));(focus (refine⟨?_,?_⟩<;>(try simp only[aM,wk,hAl2,hsn,aG,ae,av,aQ,aB,Lm,ai,seval,ah,al])<;>(try omega)))))
       all_goals (first|(show n.attrs.length-(k+1)<n.attrs.length-k;omega)|exact hkl|skip)
      | false =>
       cases c0:(a.space==[]) with
       | true =>
        rw[c0]at hsn
        simp only[if_true]at hsn
        subst hA'
        repeat' first|simp only[aj,ag,zF,ap,f1,f2,hata,bh,hkl,hki,c0,c1,wk,htk,hsn,aG,Bt,Bf,ae,av,Lm,ai,seval,ah]|exact rfl|refine aa (v:=.any) ?_|refine aq (ps:=[(1,4),(4,8),(4,9),(1,11)]) (by decide +kernel) (by simp only[List.forall_mem_cons,List.getD_cons_zero,List.getD_cons_succ,zF,ap,f1,f2,hata,bh,hkl,hki,c0,c1,wk,htk,hsn,aG,Bt,Bf,ae,av,Lm,ai,seval,ah]<;>(try simp)<;>(try omega)) ?_|refine aq (ps:=[(1,13),(3,13),(5,13),(7,13),(9,13),(11,13)]) (by decide +kernel) (by simp only[List.forall_mem_cons,List.getD_cons_zero,List.getD_cons_succ,zF,ap,f1,f2,hata,bh,hkl,hki,c0,c1,wk,htk,hsn,aG,Bt,Bf,ae,av,Lm,ai,seval,ah]<;>(try simp)<;>(try omega)) ?_|refine aq (ps:=[(7,12),(8,12)]) (by decide +kernel) (by simp only[List.forall_mem_cons,List.getD_cons_zero,List.getD_cons_succ,zF,ap,f1,f2,hata,bh,hkl,hki,c0,c1,wk,htk,hsn,aG,Bt,Bf,ae,av,Lm,ai,seval,ah]<;>(try simp)<;>(try omega)) ?_|refine ao (by decide +kernel) ?_|((first|apply Ca|apply Cb)<;>intro hb)|refine Ai (by omega) ?_|(apply Ai<;>intro hb)
        all_goals ((refine au bu (k+1) [some b0,some (b0+1),some (b0+2),some (b0+624)] ?_ ?_ ?_ ?_;rotate_left 2;(focus (show b0<=_;omega));(focus (refine⟨?_,?_⟩<;>(try simp only[aM,wk,hAl2,hsn,aG,ae,av,aQ,aB,Lm,ai,seval,ah,al])<;>(try omega)))))
        all_goals (first|(show n.attrs.length-(k+1)<n.attrs.length-k;omega)|exact hkl|skip)
       | false =>
        rw[c0,c1]at hsn
        simp only[Bool.false_eq_true,if_false]at hsn
        obtain⟨w1,w2⟩:=wI (hsee (by simpa using c0) (by simpa using c1))
        have hw:=nJ S a.space (by omega)
        rw[w1]at hw
        have hdg:=iY (wM S a.space+1) (by rw[show(10:Nat) ^ 17=100000000000000000 by decide];omega)
        rw[gO (by omega)]at hdg
        have hil:=io (wM S a.space+1)
        generalize ec (wM S a.space+1)=dg at hdg hil hsn
        have hcat:(([110]++dg)++[58])++a.name=(110::dg)++58::a.name:=by simp
        rw[<- hcat]at hsn
        have hl1:([110]++dg).length=dg.length+1:=by simp
        have hl2:(dg++[58]).length=dg.length+1:=by simp
        simp only[List.cons_append,List.nil_append]at hsn
        subst hA'
        repeat' first|simp only[aj,ag,zF,ap,f1,f2,hata,bh,hkl,hki,c0,c1,wk,htk,hsn,aG,Bt,Bf,ae,av,Lm,ai,seval,ah]|exact rfl|refine aa (v:=.any) ?_|(first|(refine ac ?_ (hw _) ?_)|(refine ab ?_ (fun _=>hw _) ?_)|(refine ac ?_ (hdg _) ?_)|(refine ab ?_ (fun _=>hdg _) ?_))|refine aq (ps:=[(1,4),(4,8),(4,9),(1,11)]) (by decide +kernel) (by simp only[List.forall_mem_cons,List.getD_cons_zero,List.getD_cons_succ,zF,ap,f1,f2,hata,bh,hkl,hki,c0,c1,wk,htk,hsn,aG,Bt,Bf,ae,av,Lm,ai,seval,ah]<;>(try simp)<;>(try omega)) ?_|refine aq (ps:=[(1,13),(3,13),(5,13),(7,13),(9,13),(11,13)]) (by decide +kernel) (by simp only[List.forall_mem_cons,List.getD_cons_zero,List.getD_cons_succ,zF,ap,f1,f2,hata,bh,hkl,hki,c0,c1,wk,htk,hsn,aG,Bt,Bf,ae,av,Lm,ai,seval,ah]<;>(try simp)<;>(try omega)) ?_|refine aq (ps:=[(7,12),(8,12)]) (by decide +kernel) (by simp only[List.forall_mem_cons,List.getD_cons_zero,List.getD_cons_succ,zF,ap,f1,f2,hata,bh,hkl,hki,c0,c1,wk,htk,hsn,aG,Bt,Bf,ae,av,Lm,ai,seval,ah]<;>(try simp)<;>(try omega)) ?_|refine ao (by decide +kernel) ?_|((first|apply Ca|apply Cb)<;>intro hb)|refine Ai (by omega) ?_|(apply Ai<;>intro hb)
        all_goals ((refine au bu (k+1) [some b0,some (b0+1),some (b0+2),some (b0+880)] ?_ ?_ ?_ ?_;rotate_left 2;(focus (show b0<=_;omega));(focus (refine⟨?_,?_⟩<;>(try simp only[aM,wk,hAl2,hsn,aG,ae,av,aQ,aB,Lm,ai,seval,ah,al])<;>(try omega)))))
        all_goals (first|(show n.attrs.length-(k+1)<n.attrs.length-k;omega)|exact hkl|skip)
     ·have hke:k=n.attrs.length:=by omega
      subst hke
      have f1:decide ((n.attrs.length:Int)<(n.attrs.length:Int))=false:=aR
      have f2:decide (n.attrs.length<n.attrs.length)=false:=aR
      rw[List.take_length,<- hZ]
      have htk:=dM Z
      repeat' first|simp only[aj,ag,zF,ap,f1,f2,htk,aG,ae,av,Lm,ai,seval,ah]|exact rfl|refine aa (v:=.any) ?_|refine aq (ps:=[(1,4),(4,8),(4,9),(1,11)]) (by decide +kernel) (by simp only[List.forall_mem_cons,List.getD_cons_zero,List.getD_cons_succ,zF,ap,f1,f2,htk,aG,ae,av,Lm,ai,seval,ah]<;>(try simp)<;>(try omega)) ?_|refine aq (ps:=[(1,13),(3,13),(5,13),(7,13),(9,13),(11,13)]) (by decide +kernel) (by simp only[List.forall_mem_cons,List.getD_cons_zero,List.getD_cons_succ,zF,ap,f1,f2,htk,aG,ae,av,Lm,ai,seval,ah]<;>(try simp)<;>(try omega)) ?_|refine aq (ps:=[(7,12),(8,12)]) (by decide +kernel) (by simp only[List.forall_mem_cons,List.getD_cons_zero,List.getD_cons_succ,zF,ap,f1,f2,htk,aG,ae,av,Lm,ai,seval,ah]<;>(try simp)<;>(try omega)) ?_|refine ao (by decide +kernel) ?_|((first|apply Ca|apply Cb)<;>intro hb)|refine Ai (by omega) ?_|(apply Ai<;>intro hb)
      all_goals ((refine Fin.give [(b0+3,some 0)] [] ?_ ?_ ?_ ?_ ?_ (bB mF (by simp[bg,tgt]))<;>(try simp only[zF,ap,jb,fy,ae,av,Lm,jU,ai,seval,ah])<;>(try simp only[al])<;>(try omega)))
 ·generalize vK n sp=H at hs2 hZ hhl
  refine aV call139 func139 rfl (by kernel_rfl) rfl ?_;intro b0 hb0;have zF:=Ai results139 ntmps139
  repeat' first|simp only[aj,ag,zF,ap,hs1,aG,ae,Bt,Bf,Lm,ai,seval,ah]|exact rfl|refine aa (v:=.any) ?_|(first|(refine ac ?_ (hspc _) ?_)|(refine ab ?_ (fun _=>hspc _) ?_))|refine aq (ps:=[(1,4),(4,8),(4,9),(1,11)]) (by decide +kernel) (by simp only[List.forall_mem_cons,List.getD_cons_zero,List.getD_cons_succ,zF,ap,hs1,aG,ae,Bt,Bf,Lm,ai,seval,ah]<;>(try simp)<;>(try omega)) ?_|refine aq (ps:=[(1,13),(3,13),(5,13),(7,13),(9,13),(11,13)]) (by decide +kernel) (by simp only[List.forall_mem_cons,List.getD_cons_zero,List.getD_cons_succ,zF,ap,hs1,aG,ae,Bt,Bf,Lm,ai,seval,ah]<;>(try simp)<;>(try omega)) ?_|refine aq (ps:=[(7,12),(8,12)]) (by decide +kernel) (by simp only[List.forall_mem_cons,List.getD_cons_zero,List.getD_cons_succ,zF,ap,hs1,aG,ae,Bt,Bf,Lm,ai,seval,ah]<;>(try simp)<;>(try omega)) ?_|refine ao (by decide +kernel) ?_|((first|apply Ca|apply Cb)<;>intro hb)|refine Ai (by omega) ?_|(apply Ai<;>intro hb)
  (refine ay bu (fun x:Nat=>S.length-x) (fun x=>x<=S.length) (b0+16) (fun x=>[(2,.ptr b0 0 0),(4,.ptr (b0+1) 0 0),(5,.ptr (b0+2) 0 0),(6,.sl false 1 (S.map mV)),(7,.int .i64 x)]) (fun x=>[(b0,⟨6,[aG n]⟩),(b0+1,⟨6,[[.int .u8 0,.str [],.str [],.nils,.str [],.int .i64 0]]⟩),(b0+2,⟨6,[[.int .u8 1,.str [],.str n.name,.own (b0+3) 0 (H++(bG S).take x).length,.str [],.int .i64 n.many]]⟩),(b0+3,⟨3,(H++(bG S).take x).map bh⟩)]) (0) [some b0,some (b0+16),some (b0+112),some (b0+304)] ?_ ?_ ?_ ?_;rotate_left 1;(focus (show b0<=_;omega));(focus (refine⟨?_,?_⟩<;>(try simp only[aM,hs2,bh,aG,Lc,List.append_nil,ae,av,aB,aQ,eK,dj,ej,b8,fX,List.take_zero,List.append_nil,Lo,List.length_nil,List.length_cons,Lm,ai,seval,ah,al])<;>(try omega)));rotate_left 1)
  ·exact Nat.zero_le _
  ·intro i hi
   by_cases hlt:i<S.length
   ·obtain⟨s,hs⟩:∃ s,S[i]? = some s:=⟨_,List.getElem?_eq_getElem hlt⟩
    have hts:=EP hs
    have hii:(i:Int)<(S.length:Int):=by omega
    have d1:decide ((i:Int)<(S.length:Int))=true:=decide_eq_true hii
    have d2:decide (i<S.length)=true:=decide_eq_true hlt
    have wi:IntKind.i64.wrap ((i:Int)+1)=((i+1:Nat):Int):=aK
    have hdg:=iY (i+1) (by rw[show(10:Nat) ^ 17=100000000000000000 by decide];omega)
    rw[gO (by omega)]at hdg
    have hil:=io (i+1)
    have hdt:=sf hs
    have hsn:=iI (H++(bG S).take i) (lp i s)
    rw[List.append_assoc,<- hdt]at hsn
    have hsnl:=congrArg List.length hsn
    unfold lp at hsn
    simp only[List.length_append,Lm,List.length_cons,List.length_nil]at hsnl
    have hAl:(H++(bG S).take i).length<=100:=by rw[List.length_append,List.length_take];omega
    have htk:=dM (H++(bG S).take i)
    have hAl2:(H++(bG S).take (i+1)).length=(H++(bG S).take i).length+1:=by rw[hdt,<- List.append_assoc,List.length_append (bs:=[lp i s])];rfl
    generalize H++(bG S).take i=A at hsn hAl htk hAl2
    simp only[List.cons_append,List.nil_append]at hsn
    generalize ec (i+1)=dg at hdg hil hsn
    repeat' first|simp only[aj,ag,zF,ap,d1,d2,hts,hlt,hii,wi,htk,hsn,aG,ae,av,Lm,ai,seval,ah]|exact rfl|refine aa (v:=.any) ?_|(first|(refine ac ?_ (hdg _) ?_)|(refine ab ?_ (fun _=>hdg _) ?_))|refine aq (ps:=[(1,4),(4,8),(4,9),(1,11)]) (by decide +kernel) (by simp only[List.forall_mem_cons,List.getD_cons_zero,List.getD_cons_succ,zF,ap,d1,d2,hts,hlt,hii,wi,htk,hsn,aG,ae,av,Lm,ai,seval,ah]<;>(try simp)<;>(try omega)) ?_|refine aq (ps:=[(1,13),(3,13),(5,13),(7,13),(9,13),(11,13)]) (by decide +kernel) (by simp only[List.forall_mem_cons,List.getD_cons_zero,List.getD_cons_succ,zF,ap,d1,d2,hts,hlt,hii,wi,htk,hsn,aG,ae,av,Lm,ai,seval,ah]<;>(try simp)<;>(try omega)) ?_|refine aq (ps:=[(7,12),(8,12)]) (by decide +kernel) (by simp only[List.forall_mem_cons,List.getD_cons_zero,List.getD_cons_succ,zF,ap,d1,d2,hts,hlt,hii,wi,htk,hsn,aG,ae,av,Lm,ai,seval,ah]<;>(try simp)<;>(try omega)) ?_|refine ao (by decide +kernel) ?_|((first|apply Ca|apply Cb)<;>intro hb)|refine Ai (by omega) ?_|(apply Ai<;>intro hb)
    all_goals ((refine au bu (i+1) [some b0,some (b0+1),some (b0+2),some (b0+272)] ?_ ?_ ?_ ?_;rotate_left 2;(focus (show b0<=_;omega));(focus (refine⟨?_,?_⟩<;>(try simp only[aM,wi,hAl2,hsn,aG,ae,av,aQ,aB,Lm,ai,seval,ah,al])<;>(try omega)))))
    all_goals (first|(show S.length-(i+1)<S.length-i;omega)|exact hlt|skip)
   ·have hie:i=S.length:=by omega
    subst hie
    have d1:decide ((S.length:Int)<(S.length:Int))=false:=aR
    have d2:decide (S.length<S.length)=false:=aR
    rw[List.take_of_length_le (show(bG S).length<=S.length by omega)]
    have htk0:=dM (H++bG S)
    have hBl:(H++bG S).length<=100:=by rw[List.length_append];omega
    generalize H++bG S=B at hZ htk0 hBl
    have hz0:([]:List At).map (df S)=[]:=rfl
    repeat' first|simp only[aj,ag,zF,ap,d1,d2,htk0,aG,ae,av,Lm,ai,seval,ah]|exact rfl|refine aa (v:=.any) ?_|refine aq (ps:=[(1,4),(4,8),(4,9),(1,11)]) (by decide +kernel) (by simp only[List.forall_mem_cons,List.getD_cons_zero,List.getD_cons_succ,zF,ap,d1,d2,htk0,aG,ae,av,Lm,ai,seval,ah]<;>(try simp)<;>(try omega)) ?_|refine aq (ps:=[(1,13),(3,13),(5,13),(7,13),(9,13),(11,13)]) (by decide +kernel) (by simp only[List.forall_mem_cons,List.getD_cons_zero,List.getD_cons_succ,zF,ap,d1,d2,htk0,aG,ae,av,Lm,ai,seval,ah]<;>(try simp)<;>(try omega)) ?_|refine aq (ps:=[(7,12),(8,12)]) (by decide +kernel) (by simp only[List.forall_mem_cons,List.getD_cons_zero,List.getD_cons_succ,zF,ap,d1,d2,htk0,aG,ae,av,Lm,ai,seval,ah]<;>(try simp)<;>(try omega)) ?_|refine ao (by decide +kernel) ?_|((first|apply Ca|apply Cb)<;>intro hb)|refine Ai (by omega) ?_|(apply Ai<;>intro hb)
    (refine ay bu (fun x:Nat=>n.attrs.length-x) (fun x=>x<=n.attrs.length) (b0+16) (fun x=>[(2,.ptr b0 0 0),(4,.ptr (b0+1) 0 0),(5,.ptr (b0+2) 0 0),(6,.sl false 1 (S.map mV)),(8,.int .i64 x)]) (fun x=>[(b0,⟨6,[aG n]⟩),(b0+1,⟨6,[[.int .u8 0,.str [],.str [],.nils,.str [],.int .i64 0]]⟩),(b0+2,⟨6,[[.int .u8 1,.str [],.str n.name,.own (b0+3) 0 (B++(n.attrs.take x).map (df S)).length,.str [],.int .i64 n.many]]⟩),(b0+3,⟨3,(B++(n.attrs.take x).map (df S)).map bh⟩)]) (0) [some b0,some (b0+1),some (b0+2),some (b0+3)] ?_ ?_ ?_ ?_;rotate_left 1;(focus (show b0<=_;omega));(focus (refine⟨?_,?_⟩<;>(try simp only[aM,hz0,aG,ae,av,aB,aQ,List.take_zero,List.append_nil,Lo,List.length_nil,Lm,ai,seval,ah,al])<;>(try omega)));rotate_left 1)
    ·exact Nat.zero_le _
    ·intro k hk2
     by_cases hkl:k<n.attrs.length
     ·obtain⟨a,haa⟩:∃ a,n.attrs[k]? = some a:=⟨_,List.getElem?_eq_getElem hkl⟩
      have hata:=gN haa
      have ham:=List.mem_of_getElem? haa
      obtain⟨o1,o2,o3⟩:=hn.2.2.2.2 a ham
      have hki:(k:Int)<(n.attrs.length:Int):=by omega
      have f1:decide ((k:Int)<(n.attrs.length:Int))=true:=decide_eq_true hki
      have f2:decide (k<n.attrs.length)=true:=decide_eq_true hkl
      have wk:IntKind.i64.wrap ((k:Int)+1)=((k+1:Nat):Int):=aK
      have hmt:=qx (f:=df S) haa
      have hsn:=iI (B++(n.attrs.take k).map (df S)) (df S a)
      rw[List.append_assoc,<- hmt]at hsn
      have hAl:(B++(n.attrs.take k).map (df S)).length<=200:=by rw[List.length_append,Lm,List.length_take];omega
      have htk:=dM (B++(n.attrs.take k).map (df S))
      have hAl2:(B++(n.attrs.take (k+1)).map (df S)).length=(B++(n.attrs.take k).map (df S)).length+1:=by rw[hmt,<- List.append_assoc,List.length_append (bs:=[df S a])];rfl
      generalize B++(n.attrs.take k).map (df S)=A at hsn hAl htk hAl2
      have hsee:=hseen a ham
      generalize hA':(B++(n.attrs.take (k+1)).map (df S)).map bh=R' at hsn
      unfold df rU at hsn
      unfold ks at hsn hsee
      simp only at hsn
      cases c1:(a.space==[104,116,116,112,58,47,47,119,119,119,46,119,51,46,111,114,103,47,88,77,76,47,49,57,57,56,47,110,97,109,101,115,112,97,99,101]) with
      | true =>
       have c0:(a.space==[])=false:=by rw[eq_of_beq c1];rfl
       rw[c0,c1]at hsn
       simp only[Bool.false_eq_true,if_false,if_true,List.cons_append,List.nil_append]at hsn
       subst hA'
       repeat' first|simp only[aj,ag,zF,ap,f1,f2,hata,bh,hkl,hki,c1,wk,htk,hsn,aG,List.cons_append,List.nil_append,List.append_eq,ae,av,Lm,ai,seval,ah]|exact rfl|refine aa (v:=.any) ?_|refine aq (ps:=[(1,4),(4,8),(4,9),(1,11)]) (by decide +kernel) (by simp only[List.forall_mem_cons,List.getD_cons_zero,List.getD_cons_succ,zF,ap,f1,f2,hata,bh,hkl,hki,c1,wk,htk,hsn,aG,List.cons_append,List.nil_append,List.append_eq,ae,av,Lm,ai,seval,ah]<;>(try simp)<;>(try omega)) ?_|refine aq (ps:=[(1,13),(3,13),(5,13),(7,13),(9,13),(11,13)]) (by decide +kernel) (by simp only[List.forall_mem_cons,List.getD_cons_zero,List.getD_cons_succ,zF,ap,f1,f2,hata,bh,hkl,hki,c1,wk,htk,hsn,aG,List.cons_append,List.nil_append,List.append_eq,ae,av,Lm,ai,seval,ah]<;>(try simp)<;>(try omega)) ?_|refine aq (ps:=[(7,12),(8,12)]) (by decide +kernel) (by simp only[List.forall_mem_cons,List.getD_cons_zero,List.getD_cons_succ,zF,ap,f1,f2,hata,bh,hkl,hki,c1,wk,htk,hsn,aG,List.cons_append,List.nil_append,List.append_eq,ae,av,Lm,ai,seval,ah]<;>(try simp)<;>(try omega)) ?_|refine ao (by decide +kernel) ?_|((first|apply Ca|apply Cb)<;>intro hb)|refine Ai (by omega) ?_|(apply Ai<;>intro hb)
       all_goals ((refine au bu (k+1) [some b0,some (b0+1),some (b0+2),some (b0+592)] ?_ ?_ ?_ ?_;rotate_left 2;(focus (show b0<=_;omega));(focus (refine⟨?_,?_⟩<;>(try simp only[aM,wk,hAl2,hsn,aG,ae,av,aQ,aB,Lm,ai,seval,ah,al])<;>(try omega)))))
       all_goals (first|(show n.attrs.length-(k+1)<n.attrs.length-k;omega)|exact hkl|skip)
      | false =>
       cases c0:(a.space==[]) with
       | true =>
        rw[c0]at hsn
        simp only[if_true]at hsn
        subst hA'
        repeat' first|simp only[aj,ag,zF,ap,f1,f2,hata,bh,hkl,hki,c0,c1,wk,htk,hsn,aG,Bt,Bf,ae,av,Lm,ai,seval,ah]|exact rfl|refine aa (v:=.any) ?_|refine aq (ps:=[(1,4),(4,8),(4,9),(1,11)]) (by decide +kernel) (by simp only[List.forall_mem_cons,List.getD_cons_zero,List.getD_cons_succ,zF,ap,f1,f2,hata,bh,hkl,hki,c0,c1,wk,htk,hsn,aG,Bt,Bf,ae,av,Lm,ai,seval,ah]<;>(try simp)<;>(try omega)) ?_|refine aq (ps:=[(1,13),(3,13),(5,13),(7,13),(9,13),(11,13)]) (by decide +kernel) (by simp only[List.forall_mem_cons,List.getD_cons_zero,List.getD_cons_succ,zF,ap,f1,f2,hata,bh,hkl,hki,c0,c1,wk,htk,hsn,aG,Bt,Bf,ae,av,Lm,ai,seval,ah]<;>(try simp)<;>(try omega)) ?_|refine aq (ps:=[(7,12),(8,12)]) (by decide +kernel) (by simp only[List.forall_mem_cons,List.getD_cons_zero,List.getD_cons_succ,zF,ap,f1,f2,hata,bh,hkl,hki,c0,c1,wk,htk,hsn,aG,Bt,Bf,ae,av,Lm,ai,seval,ah]<;>(try simp)<;>(try omega)) ?_|refine ao (by decide +kernel) ?_|((first|apply Ca|apply Cb)<;>intro hb)|refine Ai (by omega) ?_|(apply Ai<;>intro hb)
        all_goals ((refine au bu (k+1) [some b0,some (b0+1),some (b0+2),some (b0+624)] ?_ ?_ ?_ ?_;rotate_left 2;(focus (show b0<=_;omega));(focus (refine⟨?_,?_⟩<;>(try simp only[aM,wk,hAl2,hsn,aG,ae,av,aQ,aB,Lm,ai,seval,ah,al])<;>(try omega)))))
        all_goals (first|(show n.attrs.length-(k+1)<n.attrs.length-k;omega)|exact hkl|skip)
       | false =>
        rw[c0,c1]at hsn
        simp only[Bool.false_eq_true,if_false]at hsn
        obtain⟨w1,w2⟩:=wI (hsee (by simpa using c0) (by simpa using c1))
        have hw:=nJ S a.space (by omega)
        rw[w1]at hw
        have hdg:=iY (wM S a.space+1) (by rw[show(10:Nat) ^ 17=100000000000000000 by decide];omega)
        rw[gO (by omega)]at hdg
        have hil:=io (wM S a.space+1)
        generalize ec (wM S a.space+1)=dg at hdg hil hsn
        have hcat:(([110]++dg)++[58])++a.name=(110::dg)++58::a.name:=by simp
        rw[<- hcat]at hsn
        have hl1:([110]++dg).length=dg.length+1:=by simp
        have hl2:(dg++[58]).length=dg.length+1:=by simp
        simp only[List.cons_append,List.nil_append]at hsn
        subst hA'
        repeat' first|simp only[aj,ag,zF,ap,f1,f2,hata,bh,hkl,hki,c0,c1,wk,htk,hsn,aG,Bt,Bf,ae,av,Lm,ai,seval,ah]|exact rfl|refine aa (v:=.any) ?_|(first|(refine ac ?_ (hw _) ?_)|(refine ab ?_ (fun _=>hw _) ?_)|(refine ac ?_ (hdg _) ?_)|(refine ab ?_ (fun _=>hdg _) ?_))|refine aq (ps:=[(1,4),(4,8),(4,9),(1,11)]) (by decide +kernel) (by simp only[List.forall_mem_cons,List.getD_cons_zero,List.getD_cons_succ,zF,ap,f1,f2,hata,bh,hkl,hki,c0,c1,wk,htk,hsn,aG,Bt,Bf,ae,av,Lm,ai,seval,ah]<;>(try simp)<;>(try omega)) ?_|refine aq (ps:=[(1,13),(3,13),(5,13),(7,13),(9,13),(11,13)]) (by decide +kernel) (by simp only[List.forall_mem_cons,List.getD_cons_zero,List.getD_cons_succ,zF,ap,f1,f2,hata,bh,hkl,hki,c0,c1,wk,htk,hsn,aG,Bt,Bf,ae,av,Lm,ai,seval,ah]<;>(try simp)<;>(try omega)) ?_|refine aq (ps:=[(7,12),(8,12)]) (by decide +kernel) (by simp only[List.forall_mem_cons,List.getD_cons_zero,List.getD_cons_succ,zF,ap,f1,f2,hata,bh,hkl,hki,c0,c1,wk,htk,hsn,aG,Bt,Bf,ae,av,Lm,ai,seval,ah]<;>(try simp)<;>(try omega)) ?_|refine ao (by decide +kernel) ?_|((first|apply Ca|apply Cb)<;>intro hb)|refine Ai (by omega) ?_|(apply Ai<;>intro hb)
        all_goals ((refine au bu (k+1) [some b0,some (b0+1),some (b0+2),some (b0+880)] ?_ ?_ ?_ ?_;rotate_left 2;(focus (show b0<=_;omega));(focus (refine⟨?_,?_⟩<;>(try simp only[aM,wk,hAl2,hsn,aG,ae,av,aQ,aB,Lm,ai,seval,ah,al])<;>(try omega)))))
        all_goals (first|(show n.attrs.length-(k+1)<n.attrs.length-k;omega)|exact hkl|skip)
     ·have hke:k=n.attrs.length:=by omega
      subst hke
      have f1:decide ((n.attrs.length:Int)<(n.attrs.length:Int))=false:=aR
      have f2:decide (n.attrs.length<n.attrs.length)=false:=aR
      rw[List.take_length,<- hZ]
      have htk:=dM Z
      repeat' first|simp only[aj,ag,zF,ap,f1,f2,htk,aG,ae,av,Lm,ai,seval,ah]|exact rfl|refine aa (v:=.any) ?_|refine aq (ps:=[(1,4),(4,8),(4,9),(1,11)]) (by decide +kernel) (by simp only[List.forall_mem_cons,List.getD_cons_zero,List.getD_cons_succ,zF,ap,f1,f2,htk,aG,ae,av,Lm,ai,seval,ah]<;>(try simp)<;>(try omega)) ?_|refine aq (ps:=[(1,13),(3,13),(5,13),(7,13),(9,13),(11,13)]) (by decide +kernel) (by simp only[List.forall_mem_cons,List.getD_cons_zero,List.getD_cons_succ,zF,ap,f1,f2,htk,aG,ae,av,Lm,ai,seval,ah]<;>(try simp)<;>(try omega)) ?_|refine aq (ps:=[(7,12),(8,12)]) (by decide +kernel) (by simp only[List.forall_mem_cons,List.getD_cons_zero,List.getD_cons_succ,zF,ap,f1,f2,htk,aG,ae,av,Lm,ai,seval,ah]<;>(try simp)<;>(try omega)) ?_|refine ao (by decide +kernel) ?_|((first|apply Ca|apply Cb)<;>intro hb)|refine Ai (by omega) ?_|(apply Ai<;>intro hb)
      all_goals ((refine Fin.give [(b0+3,some 0)] [] ?_ ?_ ?_ ?_ ?_ (bB mF (by simp[bg,tgt]))<;>(try simp only[zF,ap,jb,fy,ae,av,Lm,jU,ai,seval,ah])<;>(try simp only[al])<;>(try omega)))
end Go.Proofs.YtlnlopnpcmahgaaGreatDoor
