/-
 Texts joined: XJn,XJo.
-/
import Derived.Test.YtjonibipieofcaaGreatDoorMo
import Derived.Test.YtjonibipieofcaaGreatDoorMi
set_option maxHeartbeats 32000000
set_option maxRecDepth 100000
set_option linter.all false
namespace Go.Proofs.YtjonibipieofcaaGreatDoor
open Go Go.RowKit Vm Go.Lib Tryz
open Vm renaming aI->Ca,aP->Cb
open And renaming intro->Ai
open List renaming length_map->Lm,not_mem_nil->Ln,map_nil->Lo,map_cons->Lc,mem_cons->Lk
open Bool renaming not_false->Bf,not_true->Bt
def jA (S:List (List UInt8))(s:List UInt8):Nat:=match S.findIdx? (· == s) with
 | some i=>i+1
 | none=>0
def H7 {S:List (List UInt8)}{i:Nat}{x:List UInt8}(h:S[i]? = some x):(S.map gS)[i]? = some [.str x]:=by rw[List.getElem?_map,h];rfl
def BA {S:List (List UInt8)}{i:Nat}{x s:List UInt8}(h:S[i]? = some x)(hno:(S.take i).any (· == s)=false)(hx:(x==s)=true):jA S s=i+1:=by
 unfold jA
 have:S.findIdx? (· == s)=some i:=by
  rw[List.findIdx?_eq_some_iff_getElem]
  obtain⟨hi,rfl⟩:=List.getElem?_eq_some_iff.1 h
  refine⟨hi,hx,fun j hj=>?_⟩
  have hm:=List.any_eq_false.1 hno S[j] (List.mem_of_getElem? (by rw[List.getElem?_take,if_pos hj];exact List.getElem?_eq_getElem (by omega)))
  simpa using hm
 rw[this]
def BB {S:List (List UInt8)}{s:List UInt8}(hno:S.any (· == s)=false):jA S s=0:=by
 unfold jA
 rw[List.findIdx?_eq_none_iff.2 fun x hx=>by simpa using List.any_eq_false.1 hno x hx]
def BC (S:List (List UInt8))(s:List UInt8):((jA S s:Int)==0) = !S.contains s:=by
 unfold jA
 cases h:S.findIdx? (· == s) with
 | none=>rw[pn h];rfl
 | some i=>rw[uD h];simp;omega
def pN (S:List (List UInt8))(s:List UInt8)(hS:S.length<=1000)(nm:Nat):Ev cx 176 nm [.sl false 1 (S.map gS),.str s] ao.nil (.int .i64 (jA S s)) []:=by
 refine aX call176 func176 ?_;intro b0 hb0
 refine wR (a2 results176 ntmps176) trivial ?_
 (refine ew (fun x:Nat=>S.length-x) (fun x=>x<=S.length/\(S.take x).any (· == s)=false) (b0+16) (fun x=>[(0,.sl false 1 (S.map gS)),(1,.str s),(5,.int .i64 x)]) (fun x=>[]) (0) [] ?_ ?_ ?_;(focus (refine⟨?_,?_⟩<;>(try simp only[aE,aw,Lm,aj,ai,aq,seval])<;>(try omega))))
 ·exact⟨Nat.zero_le _,rfl⟩
 ·rintro i ⟨hi,hno⟩
  by_cases hlt:i<S.length
  ·obtain⟨x,hx⟩:=ic hlt
   have hat:=H7 hx
   have hii:=jB i S.length
   have d1:decide ((i:Int)<(S.length:Int))=true:=decide_eq_true hii
   have d2:=decide_eq_true hlt
   have wi:=eD i
   cases hb:(x==s) with
   | true =>
    rw[BA hx hno hb]
    exact wP (a9 results176 ntmps176 d1 d2 hat hlt hii hb wi) trivial
   | false =>
    have hno':=gq hx hno hb
    refine wR (a9 results176 ntmps176 d1 d2 hat hlt hii hb wi) trivial ?_
    all_goals ((refine de (i+1) [] ?_ ?_ ?_;(focus (refine⟨?_,?_⟩<;>(try simp only[aE,aw,wi,Lm,aj,ai,aq,seval])<;>(try omega)))))
    all_goals (first|(show S.length-(i+1)<S.length-i;omega)|exact⟨hlt,hno'⟩|skip)
  ·have hie:i=S.length:=by omega
   subst hie
   have d1:=nu S.length S.length
   have d2:decide (S.length<S.length)=false:=bi
   rw[List.take_length]at hno
   rw[BB hno]
   exact wP (a4 results176 ntmps176 d1 d2) trivial
def yZ (l:List At)(hl:l.length<=900)(nm:Nat):Ev cx 175 nm [.sl false 3 (l.map bf)] ao.nil (.own nm 0 (bl l).length) [(nm,some ⟨1,(bl l).map gS⟩)]:=by
 have hz:bl []=[]:=rfl
 refine aX call175 func175 ?_;intro b0 hb0
 refine wR (a2 results175 ntmps175) trivial ?_
 (refine ew (fun x:Nat=>l.length-x) (fun x=>x<=l.length) (b0+16) (fun x=>[(0,.sl false 3 (l.map bf)),(3,.own b0 0 (bl (l.take x)).length),(4,.int .i64 x)]) (fun x=>[(b0,⟨1,(bl (l.take x)).map gS⟩)]) (0) [none] ?_ ?_ ?_;(focus (refine⟨?_,?_⟩<;>(try simp only[aE,hz,ab,al,List.take_zero,Lo,List.length_nil,Lm,aj,ai,aq,seval])<;>(try omega))))
 ·exact Nat.zero_le _
 ·intro k hk
  by_cases hlt:k<l.length
  ·obtain⟨a,ha⟩:=ic hlt
   have hat:=iu ha
   have hki:=jB k l.length
   have d1:decide ((k:Int)<(l.length:Int))=true:=decide_eq_true hki
   have d2:=decide_eq_true hlt
   have wk:=eD k
   have hst:=s9 ha
   have hsl:=mF (l.take k)
   rw[List.length_take]at hsl
   generalize bl (l.take k)=S at hst hsl
   have htk:=tp S
   have hw:=pN S a.space (by omega)
   have hwz:=BC S a.space
   generalize (jA S a.space:Int)=W at hw hwz
   have hsn:=Cu S a.space
   unfold gi at hst
   unfold me at hst
   cases c1:(a.space==[]) with
   | true =>
    rw[c1,if_pos rfl]at hst
    repeat' first|simp only[au,ap,results175,ntmps175,am,d1,d2,hat,bf,hlt,hki,c1,htk,bF,Bt,Bf,aw,Lm,aj,ai,seval]|exact rfl|refine aa (v:=.any) ?_|(refine aa (v:=.any) ?_)|((first|apply Ca|apply Cb)<;>intro hb)|refine Ai (by omega) ?_|(apply Ai<;>intro hb)
    all_goals ((refine de (k+1) [some b0] ?_ ?_ ?_;(focus (refine⟨?_,?_⟩<;>(try simp only[aE,hst,wk,ab,aw,az,al,Lm,aj,ai,aq,seval])<;>(try omega)))))
    all_goals (first|(show l.length-(k+1)<l.length-k;omega)|exact hlt|skip)
   | false =>
    rw[c1,if_neg (by simp)]at hst
    cases c2:(a.space==[104,116,116,112,58,47,47,119,119,119,46,119,51,46,111,114,103,47,88,77,76,47,49,57,57,56,47,110,97,109,101,115,112,97,99,101]) with
    | true =>
     rw[c2,if_pos rfl]at hst
     repeat' first|simp only[au,ap,results175,ntmps175,am,d1,d2,hat,bf,hlt,hki,c1,c2,htk,bF,Bt,Bf,aw,Lm,aj,ai,seval]|exact rfl|refine aa (v:=.any) ?_|(refine aa (v:=.any) ?_)|((first|apply Ca|apply Cb)<;>intro hb)|refine Ai (by omega) ?_|(apply Ai<;>intro hb)
     all_goals ((refine de (k+1) [some b0] ?_ ?_ ?_;(focus (refine⟨?_,?_⟩<;>(try simp only[aE,hst,wk,ab,aw,az,al,Lm,aj,ai,aq,seval])<;>(try omega)))))
     all_goals (first|(show l.length-(k+1)<l.length-k;omega)|exact hlt|skip)
    | false =>
     rw[c2,if_neg (by simp)]at hst
     cases c3:S.contains a.space with
     | true =>
      rw[c3,Bt]at hwz
      rw[c3,if_pos rfl]at hst
      repeat' first|simp only[au,ap,results175,ntmps175,am,d1,d2,hat,bf,hlt,hki,c1,c2,hwz,htk,Bt,Bf,aw,Lm,aj,ai,seval]|exact rfl|refine aa (v:=.any) ?_|((refine cX (xs:=?_) [b0] ?_ (fun _=>?_) (fun _=>?_) rfl ((fun _=>hw _)) ?_);rotate_left 1)|omega|((first|apply Ca|apply Cb)<;>intro hb)|refine Ai (by omega) ?_|(apply Ai<;>intro hb)
      all_goals ((refine de (k+1) [some b0] ?_ ?_ ?_;(focus (refine⟨?_,?_⟩<;>(try simp only[aE,hst,wk,ab,aw,az,al,Lm,aj,ai,aq,seval])<;>(try omega)))))
      all_goals (first|(show l.length-(k+1)<l.length-k;omega)|exact hlt|skip)
     | false =>
      rw[c3,Bf]at hwz
      rw[c3,if_neg (by simp)]at hst
      have hstl:(S++[a.space]).length=S.length+1:=by simp
      repeat' first|simp only[au,ap,results175,ntmps175,am,d1,d2,hat,bf,hlt,hki,c1,c2,hwz,htk,hsn,Bt,Bf,aw,Lm,aj,ai,seval]|exact rfl|refine aa (v:=.any) ?_|((refine cX (xs:=?_) [b0] ?_ (fun _=>?_) (fun _=>?_) rfl ((fun _=>hw _)) ?_);rotate_left 1)|omega|((first|apply Ca|apply Cb)<;>intro hb)|refine Ai (by omega) ?_|(apply Ai<;>intro hb)
      all_goals ((refine de (k+1) [some (b0+576)] ?_ ?_ ?_;(focus (refine⟨?_,?_⟩<;>(try simp only[aE,hst,hstl,wk,ab,aw,az,al,Lm,aj,ai,aq,seval])<;>(try omega)))))
      all_goals (first|(show l.length-(k+1)<l.length-k;omega)|exact hlt|skip)
  ·have hke:k=l.length:=by omega
   subst hke
   have d1:=nu l.length l.length
   have d2:decide (l.length<l.length)=false:=bi
   have htk:=tp (bl l)
   exact wO (a6 results175 ntmps175 d1 d2 htk @aw) trivial
def A6 (l:List At)(hl:l.length<=900)(nm:Nat):Ev cx 175 nm [.sl false 3 (l.map bf)] ao.nil (.sl false 1 ((bl l).map gS)) []:=by
 have hpl:=aw (bl l)
 have htk:=tp (bl l)
 refine Ev.freeze (yZ l hl nm) ?_ ?_
 ·simp only[au,ap,am,hpl,htk,Lm,aj,ai,seval]<;>omega
 ·simp only[au,ap,am,hpl,htk,Lm,aj,ai,seval]
def jh {n:Nat}(h:n<100):dC n=eB n:=by
 unfold eB
 by_cases h1:n<10
 ·rw[if_pos h1,dY (by omega)]
  try rfl
 ·rw[if_neg h1,fG (by omega),dY (by omega)]
  try rfl
def zt {S:List (List UInt8)}{s:List UInt8}(h:s∈S):jA S s=zz S s+1/\zz S s<S.length:=by
 obtain⟨_,h2⟩:=MB h
 refine⟨?_,h2⟩
 unfold jA zz at *
 cases hf:S.findIdx? (· == s) with
 | none=>rw[hf]at h2;simp at h2
 | some i=>rfl
def uF {S:List (List UInt8)}{i:Nat}{s:List UInt8}(h:S[i]? = some s):(bZ S).take (i+1)=(bZ S).take i++[ng i s]:=by
 have hq:(bZ S)[i]? = some (ng i s):=by unfold bZ;rw[List.getElem?_mapIdx,h];rfl
 obtain⟨h2,h3⟩:=List.getElem?_eq_some_iff.1 hq
 rw[List.take_succ_eq_append_getElem h2,h3]
def sL {f:At->At}{l:List At}{k:Nat}{a:At}(h:l[k]? = some a):(l.take (k+1)).map f=(l.take k).map f++[f a]:=mV h
def El (n:Nd)(sp:List UInt8)(hk:n.kind=1)(hn:n.okTo 1000000)(ha:n.attrs.length<=30)(nm:Nat) :
  Ev cx 163 nm [.agg (aD n),.str sp] ao.nil (.agg [.int .u8 1,.str [],.str n.name,.own nm 0 (dn n sp).attrs.length,.str [],.int .i64 n.many]) [(nm,some ⟨3,(dn n sp).attrs.map bf⟩)]:=by
 have hspc:=A6 n.attrs (by omega)
 have hSl:=mF n.attrs
 have hseen:∀ a∈n.attrs,a.space≠[]->a.space≠me->a.space∈bl n.attrs:=fun a h1 h2 h3=>HB h1 h2 h3
 have hat0:(dn n sp).attrs=(yp n sp++bZ (bl n.attrs))++n.attrs.map (ec (bl n.attrs)):=rfl
 rw[hat0]
 generalize bl n.attrs=S at hspc hSl hseen ⊢
 have hdl:(bZ S).length=S.length:=xJ S
 have hhl:(yp n sp).length<=1:=by unfold yp;split<;>simp
 obtain⟨Z,hZ⟩:∃ Z,Z=(yp n sp++bZ S)++n.attrs.map (ec S):=⟨_,rfl⟩
 rw[<- hZ]
 have hcase:((n.space==sp)=true/\yp n sp=[])\/((n.space==sp)=false/\yp n sp=[⟨[],[120,109,108,110,115],n.space⟩]):=by
  unfold yp
  cases h:(n.space==sp) with
  | true=>exact .inl ⟨rfl,rfl⟩
  | false=>exact .inr ⟨rfl,rfl⟩
 have hx1:[[V.str [],.str [120,109,108,110,115],.str n.space]]=([⟨[],[120,109,108,110,115],n.space⟩]:List At).map bf:=rfl
 rcases hcase with ⟨hs1,hs2⟩|⟨hs1,hs2⟩
 ·generalize yp n sp=H at hs2 hZ hhl
  refine aX call163 func163 ?_;intro b0 hb0;have zF:=Ai results163 ntmps163
  repeat' first|simp only[au,ap,zF,am,hs1,aD,ab,Bt,Bf,Lm,aj,ai,seval]|exact rfl|refine aa (v:=.any) ?_|(first|(refine ah ?_ (hspc _) ?_)|(refine ac ?_ (fun _=>hspc _) ?_))|refine ag (ps:=[(1,4),(4,8),(4,9),(1,11)]) (by decide +kernel) (by simp only[List.forall_mem_cons,List.getD_cons_zero,List.getD_cons_succ,zF,am,hs1,aD,ab,Bt,Bf,Lm,aj,ai,seval]<;>(try simp)<;>(try omega)) ?_|refine ag (ps:=[(1,13),(3,13),(5,13),(7,13),(9,13),(11,13)]) (by decide +kernel) (by simp only[List.forall_mem_cons,List.getD_cons_zero,List.getD_cons_succ,zF,am,hs1,aD,ab,Bt,Bf,Lm,aj,ai,seval]<;>(try simp)<;>(try omega)) ?_|refine ag (ps:=[(7,12),(8,12)]) (by decide +kernel) (by simp only[List.forall_mem_cons,List.getD_cons_zero,List.getD_cons_succ,zF,am,hs1,aD,ab,Bt,Bf,Lm,aj,ai,seval]<;>(try simp)<;>(try omega)) ?_|refine av (by decide +kernel) ?_|((first|apply Ca|apply Cb)<;>intro hb)|refine Ai (by omega) ?_|(apply Ai<;>intro hb)
  (refine ew (fun x:Nat=>S.length-x) (fun x=>x<=S.length) (b0+16) (fun x=>[(2,.ptr b0 0 0),(4,.ptr (b0+1) 0 0),(5,.ptr (b0+2) 0 0),(6,.sl false 1 (S.map gS)),(7,.int .i64 x)]) (fun x=>[(b0,⟨6,[aD n]⟩),(b0+1,⟨6,[[.int .u8 0,.str [],.str [],.nils,.str [],.int .i64 0]]⟩),(b0+2,⟨6,[[.int .u8 1,.str [],.str n.name,.own (b0+3) 0 (H++(bZ S).take x).length,.str [],.int .i64 n.many]]⟩),(b0+3,⟨3,(H++(bZ S).take x).map bf⟩)]) (0) [some b0,some (b0+16),some (b0+112),none] ?_ ?_ ?_;(focus (refine⟨?_,?_⟩<;>(try simp only[aE,hs2,bf,aD,Lc,List.append_nil,ab,aw,al,az,fL,dO,eU,ct,il,List.take_zero,List.append_nil,Lo,List.length_nil,List.length_cons,Lm,aj,ai,aq,seval])<;>(try omega))))
  ·exact Nat.zero_le _
  ·intro i hi
   by_cases hlt:i<S.length
   ·obtain⟨s,hs⟩:=ic hlt
    have hts:=H7 hs
    have hii:=jB i S.length
    have d1:decide ((i:Int)<(S.length:Int))=true:=decide_eq_true hii
    have d2:=decide_eq_true hlt
    have wi:=eD i
    have hdg:=iZ (i+1) (by rw[show(10:Nat) ^ 17=100000000000000000 by decide];omega)
    rw[jh (by omega)]at hdg
    have hil:=jO (i+1)
    have hdt:=uF hs
    have hsn:=kf (H++(bZ S).take i) (ng i s)
    rw[List.append_assoc,<- hdt]at hsn
    have hsnl:=congrArg List.length hsn
    unfold ng at hsn
    simp only[List.length_append,Lm,List.length_cons,List.length_nil]at hsnl
    have hAl:(H++(bZ S).take i).length<=100:=by rw[List.length_append,List.length_take];omega
    have htk:=fb (H++(bZ S).take i)
    have hAl2:(H++(bZ S).take (i+1)).length=(H++(bZ S).take i).length+1:=by rw[hdt,<- List.append_assoc,List.length_append (bs:=[ng i s])];rfl
    generalize H++(bZ S).take i=A at hsn hAl htk hAl2
    simp only[List.cons_append,List.nil_append]at hsn
    generalize eB (i+1)=dg at hdg hil hsn
    repeat' first|simp only[au,ap,zF,am,d1,d2,hts,hlt,hii,wi,htk,hsn,aD,ab,aw,Lm,aj,ai,seval]|exact rfl|refine aa (v:=.any) ?_|(first|(refine ah ?_ (hdg _) ?_)|(refine ac ?_ (fun _=>hdg _) ?_))|refine ag (ps:=[(1,4),(4,8),(4,9),(1,11)]) (by decide +kernel) (by simp only[List.forall_mem_cons,List.getD_cons_zero,List.getD_cons_succ,zF,am,d1,d2,hts,hlt,hii,wi,htk,hsn,aD,ab,aw,Lm,aj,ai,seval]<;>(try simp)<;>(try omega)) ?_|refine ag (ps:=[(1,13),(3,13),(5,13),(7,13),(9,13),(11,13)]) (by decide +kernel) (by simp only[List.forall_mem_cons,List.getD_cons_zero,List.getD_cons_succ,zF,am,d1,d2,hts,hlt,hii,wi,htk,hsn,aD,ab,aw,Lm,aj,ai,seval]<;>(try simp)<;>(try omega)) ?_|refine ag (ps:=[(7,12),(8,12)]) (by decide +kernel) (by simp only[List.forall_mem_cons,List.getD_cons_zero,List.getD_cons_succ,zF,am,d1,d2,hts,hlt,hii,wi,htk,hsn,aD,ab,aw,Lm,aj,ai,seval]<;>(try simp)<;>(try omega)) ?_|refine av (by decide +kernel) ?_|((first|apply Ca|apply Cb)<;>intro hb)|refine Ai (by omega) ?_|(apply Ai<;>intro hb)
    all_goals ((refine de (i+1) [some b0,some (b0+1),some (b0+2),some (b0+272)] ?_ ?_ ?_;(focus (refine⟨?_,?_⟩<;>(try simp only[aE,wi,hAl2,hsn,aD,ab,aw,az,al,Lm,aj,ai,aq,seval])<;>(try omega)))))
    all_goals (first|(show S.length-(i+1)<S.length-i;omega)|exact hlt|skip)
   ·have hie:i=S.length:=by omega
    subst hie
    have d1:=nu S.length S.length
    have d2:decide (S.length<S.length)=false:=bi
    rw[List.take_of_length_le (show(bZ S).length<=S.length by omega)]
    have htk0:=fb (H++bZ S)
    have hBl:(H++bZ S).length<=100:=by rw[List.length_append];omega
    generalize H++bZ S=B at hZ htk0 hBl
    have hz0:([]:List At).map (ec S)=[]:=rfl
    repeat' first|simp only[au,ap,zF,am,d1,d2,htk0,aD,ab,aw,Lm,aj,ai,seval]|exact rfl|refine aa (v:=.any) ?_|refine ag (ps:=[(1,4),(4,8),(4,9),(1,11)]) (by decide +kernel) (by simp only[List.forall_mem_cons,List.getD_cons_zero,List.getD_cons_succ,zF,am,d1,d2,htk0,aD,ab,aw,Lm,aj,ai,seval]<;>(try simp)<;>(try omega)) ?_|refine ag (ps:=[(1,13),(3,13),(5,13),(7,13),(9,13),(11,13)]) (by decide +kernel) (by simp only[List.forall_mem_cons,List.getD_cons_zero,List.getD_cons_succ,zF,am,d1,d2,htk0,aD,ab,aw,Lm,aj,ai,seval]<;>(try simp)<;>(try omega)) ?_|refine ag (ps:=[(7,12),(8,12)]) (by decide +kernel) (by simp only[List.forall_mem_cons,List.getD_cons_zero,List.getD_cons_succ,zF,am,d1,d2,htk0,aD,ab,aw,Lm,aj,ai,seval]<;>(try simp)<;>(try omega)) ?_|refine av (by decide +kernel) ?_|((first|apply Ca|apply Cb)<;>intro hb)|refine Ai (by omega) ?_|(apply Ai<;>intro hb)
    (refine ew (fun x:Nat=>n.attrs.length-x) (fun x=>x<=n.attrs.length) (b0+16) (fun x=>[(2,.ptr b0 0 0),(4,.ptr (b0+1) 0 0),(5,.ptr (b0+2) 0 0),(6,.sl false 1 (S.map gS)),(8,.int .i64 x)]) (fun x=>[(b0,⟨6,[aD n]⟩),(b0+1,⟨6,[[.int .u8 0,.str [],.str [],.nils,.str [],.int .i64 0]]⟩),(b0+2,⟨6,[[.int .u8 1,.str [],.str n.name,.own (b0+3) 0 (B++(n.attrs.take x).map (ec S)).length,.str [],.int .i64 n.many]]⟩),(b0+3,⟨3,(B++(n.attrs.take x).map (ec S)).map bf⟩)]) (0) [some b0,some (b0+1),some (b0+2),some (b0+3)] ?_ ?_ ?_;(focus (refine⟨?_,?_⟩<;>(try simp only[aE,hz0,aD,ab,aw,al,az,List.take_zero,List.append_nil,Lo,List.length_nil,Lm,aj,ai,aq,seval])<;>(try omega))))
    ·exact Nat.zero_le _
    ·intro k hk2
     by_cases hkl:k<n.attrs.length
     ·obtain⟨a,haa⟩:=ic hkl
      have hata:=iu haa
      have ham:=List.mem_of_getElem? haa
      obtain⟨o1,o2,o3⟩:=hn.2.2.2.2 a ham
      have hki:=jB k n.attrs.length
      have f1:decide ((k:Int)<(n.attrs.length:Int))=true:=decide_eq_true hki
      have f2:=decide_eq_true hkl
      have wk:=eD k
      have hmt:=sL (f:=ec S) haa
      have hsn:=kf (B++(n.attrs.take k).map (ec S)) (ec S a)
      rw[List.append_assoc,<- hmt]at hsn
      have hAl:(B++(n.attrs.take k).map (ec S)).length<=200:=by rw[List.length_append,Lm,List.length_take];omega
      have htk:=fb (B++(n.attrs.take k).map (ec S))
      have hAl2:(B++(n.attrs.take (k+1)).map (ec S)).length=(B++(n.attrs.take k).map (ec S)).length+1:=by rw[hmt,<- List.append_assoc,List.length_append (bs:=[ec S a])];rfl
      generalize B++(n.attrs.take k).map (ec S)=A at hsn hAl htk hAl2
      have hsee:=hseen a ham
      generalize hA':(B++(n.attrs.take (k+1)).map (ec S)).map bf=R' at hsn
      unfold ec um at hsn
      unfold me at hsn hsee
      simp only at hsn
      cases c1:(a.space==[104,116,116,112,58,47,47,119,119,119,46,119,51,46,111,114,103,47,88,77,76,47,49,57,57,56,47,110,97,109,101,115,112,97,99,101]) with
      | true =>
       have c0:(a.space==[])=false:=by rw[eq_of_beq c1];rfl
       rw[c0,c1]at hsn
       simp only[Bool.false_eq_true,if_false,if_true,List.cons_append,List.nil_append]at hsn
       subst hA'
       repeat' first|simp only[au,ap,zF,am,f1,f2,hata,bf,hkl,hki,c1,wk,htk,hsn,aD,List.cons_append,List.nil_append,List.append_eq,ab,aw,Lm,aj,ai,seval]|exact rfl|refine aa (v:=.any) ?_|refine ag (ps:=[(1,4),(4,8),(4,9),(1,11)]) (by decide +kernel) (by simp only[List.forall_mem_cons,List.getD_cons_zero,List.getD_cons_succ,zF,am,f1,f2,hata,bf,hkl,hki,c1,wk,htk,hsn,aD,List.cons_append,List.nil_append,List.append_eq,ab,aw,Lm,aj,ai,seval]<;>(try simp)<;>(try omega)) ?_|refine ag (ps:=[(1,13),(3,13),(5,13),(7,13),(9,13),(11,13)]) (by decide +kernel) (by simp only[List.forall_mem_cons,List.getD_cons_zero,List.getD_cons_succ,zF,am,f1,f2,hata,bf,hkl,hki,c1,wk,htk,hsn,aD,List.cons_append,List.nil_append,List.append_eq,ab,aw,Lm,aj,ai,seval]<;>(try simp)<;>(try omega)) ?_|refine ag (ps:=[(7,12),(8,12)]) (by decide +kernel) (by simp only[List.forall_mem_cons,List.getD_cons_zero,List.getD_cons_succ,zF,am,f1,f2,hata,bf,hkl,hki,c1,wk,htk,hsn,aD,List.cons_append,List.nil_append,List.append_eq,ab,aw,Lm,aj,ai,seval]<;>(try simp)<;>(try omega)) ?_|refine av (by decide +kernel) ?_|((first|apply Ca|apply Cb)<;>intro hb)|refine Ai (by omega) ?_|(apply Ai<;>intro hb)
       all_goals ((refine de (k+1) [some b0,some (b0+1),some (b0+2),some (b0+592)] ?_ ?_ ?_;(focus (refine⟨?_,?_⟩<;>(try simp only[aE,wk,hAl2,hsn,aD,ab,aw,az,al,Lm,aj,ai,aq,seval])<;>(try omega)))))
       all_goals (first|(show n.attrs.length-(k+1)<n.attrs.length-k;omega)|exact hkl|skip)
      | false =>
       cases c0:(a.space==[]) with
       | true =>
        rw[c0]at hsn
        simp only[if_true]at hsn
        subst hA'
        repeat' first|simp only[au,ap,zF,am,f1,f2,hata,bf,hkl,hki,c0,c1,wk,htk,hsn,aD,Bt,Bf,ab,aw,Lm,aj,ai,seval]|exact rfl|refine aa (v:=.any) ?_|refine ag (ps:=[(1,4),(4,8),(4,9),(1,11)]) (by decide +kernel) (by simp only[List.forall_mem_cons,List.getD_cons_zero,List.getD_cons_succ,zF,am,f1,f2,hata,bf,hkl,hki,c0,c1,wk,htk,hsn,aD,Bt,Bf,ab,aw,Lm,aj,ai,seval]<;>(try simp)<;>(try omega)) ?_|refine ag (ps:=[(1,13),(3,13),(5,13),(7,13),(9,13),(11,13)]) (by decide +kernel) (by simp only[List.forall_mem_cons,List.getD_cons_zero,List.getD_cons_succ,zF,am,f1,f2,hata,bf,hkl,hki,c0,c1,wk,htk,hsn,aD,Bt,Bf,ab,aw,Lm,aj,ai,seval]<;>(try simp)<;>(try omega)) ?_|refine ag (ps:=[(7,12),(8,12)]) (by decide +kernel) (by simp only[List.forall_mem_cons,List.getD_cons_zero,List.getD_cons_succ,zF,am,f1,f2,hata,bf,hkl,hki,c0,c1,wk,htk,hsn,aD,Bt,Bf,ab,aw,Lm,aj,ai,seval]<;>(try simp)<;>(try omega)) ?_|refine av (by decide +kernel) ?_|((first|apply Ca|apply Cb)<;>intro hb)|refine Ai (by omega) ?_|(apply Ai<;>intro hb)
        all_goals ((refine de (k+1) [some b0,some (b0+1),some (b0+2),some (b0+624)] ?_ ?_ ?_;(focus (refine⟨?_,?_⟩<;>(try simp only[aE,wk,hAl2,hsn,aD,ab,aw,az,al,Lm,aj,ai,aq,seval])<;>(try omega)))))
        all_goals (first|(show n.attrs.length-(k+1)<n.attrs.length-k;omega)|exact hkl|skip)
       | false =>
        rw[c0,c1]at hsn
        simp only[Bool.false_eq_true,if_false]at hsn
        obtain⟨w1,w2⟩:=zt (hsee (by simpa using c0) (by simpa using c1))
        have hw:=pN S a.space (by omega)
        rw[w1]at hw
        have hdg:=iZ (zz S a.space+1) (by rw[show(10:Nat) ^ 17=100000000000000000 by decide];omega)
        rw[jh (by omega)]at hdg
        have hil:=jO (zz S a.space+1)
        generalize eB (zz S a.space+1)=dg at hdg hil hsn
        have hcat:(([110]++dg)++[58])++a.name=(110::dg)++58::a.name:=by simp
        rw[<- hcat]at hsn
        have hl1:([110]++dg).length=dg.length+1:=by simp
        have hl2:(dg++[58]).length=dg.length+1:=by simp
        simp only[List.cons_append,List.nil_append]at hsn
        subst hA'
        repeat' first|simp only[au,ap,zF,am,f1,f2,hata,bf,hkl,hki,c0,c1,wk,htk,hsn,aD,Bt,Bf,ab,aw,Lm,aj,ai,seval]|exact rfl|refine aa (v:=.any) ?_|(first|(refine ah ?_ (hw _) ?_)|(refine ac ?_ (fun _=>hw _) ?_)|(refine ah ?_ (hdg _) ?_)|(refine ac ?_ (fun _=>hdg _) ?_))|refine ag (ps:=[(1,4),(4,8),(4,9),(1,11)]) (by decide +kernel) (by simp only[List.forall_mem_cons,List.getD_cons_zero,List.getD_cons_succ,zF,am,f1,f2,hata,bf,hkl,hki,c0,c1,wk,htk,hsn,aD,Bt,Bf,ab,aw,Lm,aj,ai,seval]<;>(try simp)<;>(try omega)) ?_|refine ag (ps:=[(1,13),(3,13),(5,13),(7,13),(9,13),(11,13)]) (by decide +kernel) (by simp only[List.forall_mem_cons,List.getD_cons_zero,List.getD_cons_succ,zF,am,f1,f2,hata,bf,hkl,hki,c0,c1,wk,htk,hsn,aD,Bt,Bf,ab,aw,Lm,aj,ai,seval]<;>(try simp)<;>(try omega)) ?_|refine ag (ps:=[(7,12),(8,12)]) (by decide +kernel) (by simp only[List.forall_mem_cons,List.getD_cons_zero,List.getD_cons_succ,zF,am,f1,f2,hata,bf,hkl,hki,c0,c1,wk,htk,hsn,aD,Bt,Bf,ab,aw,Lm,aj,ai,seval]<;>(try simp)<;>(try omega)) ?_|refine av (by decide +kernel) ?_|((first|apply Ca|apply Cb)<;>intro hb)|refine Ai (by omega) ?_|(apply Ai<;>intro hb)
        all_goals ((refine de (k+1) [some b0,some (b0+1),some (b0+2),some (b0+880)] ?_ ?_ ?_;(focus (refine⟨?_,?_⟩<;>(try simp only[aE,wk,hAl2,hsn,aD,ab,aw,az,al,Lm,aj,ai,aq,seval])<;>(try omega)))))
        all_goals (first|(show n.attrs.length-(k+1)<n.attrs.length-k;omega)|exact hkl|skip)
     ·have hke:k=n.attrs.length:=by omega
      subst hke
      have f1:=nu n.attrs.length n.attrs.length
      have f2:decide (n.attrs.length<n.attrs.length)=false:=bi
      rw[List.take_length,<- hZ]
      have htk:=fb Z
      repeat' first|simp only[au,ap,zF,am,f1,f2,htk,aD,ab,aw,Lm,aj,ai,seval]|exact rfl|refine aa (v:=.any) ?_|refine ag (ps:=[(1,4),(4,8),(4,9),(1,11)]) (by decide +kernel) (by simp only[List.forall_mem_cons,List.getD_cons_zero,List.getD_cons_succ,zF,am,f1,f2,htk,aD,ab,aw,Lm,aj,ai,seval]<;>(try simp)<;>(try omega)) ?_|refine ag (ps:=[(1,13),(3,13),(5,13),(7,13),(9,13),(11,13)]) (by decide +kernel) (by simp only[List.forall_mem_cons,List.getD_cons_zero,List.getD_cons_succ,zF,am,f1,f2,htk,aD,ab,aw,Lm,aj,ai,seval]<;>(try simp)<;>(try omega)) ?_|refine ag (ps:=[(7,12),(8,12)]) (by decide +kernel) (by simp only[List.forall_mem_cons,List.getD_cons_zero,List.getD_cons_succ,zF,am,f1,f2,htk,aD,ab,aw,Lm,aj,ai,seval]<;>(try simp)<;>(try omega)) ?_|refine av (by decide +kernel) ?_|((first|apply Ca|apply Cb)<;>intro hb)|refine Ai (by omega) ?_|(apply Ai<;>intro hb)
      all_goals ((refine Fin.give [(b0+3,some 0)] [] ?_ ?_ ?_ ?_ ?_ (bA iC (by simp[bt,tgt]))<;>(try simp only[zF,am,kG,gI,ab,aw,Lm,jK,aj,ai,seval])<;>(try simp only[aq])<;>(try omega)))
 ·generalize yp n sp=H at hs2 hZ hhl
  refine aX call163 func163 ?_;intro b0 hb0;have zF:=Ai results163 ntmps163
  repeat' first|simp only[au,ap,zF,am,hs1,aD,ab,Bt,Bf,Lm,aj,ai,seval]|exact rfl|refine aa (v:=.any) ?_|(first|(refine ah ?_ (hspc _) ?_)|(refine ac ?_ (fun _=>hspc _) ?_))|refine ag (ps:=[(1,4),(4,8),(4,9),(1,11)]) (by decide +kernel) (by simp only[List.forall_mem_cons,List.getD_cons_zero,List.getD_cons_succ,zF,am,hs1,aD,ab,Bt,Bf,Lm,aj,ai,seval]<;>(try simp)<;>(try omega)) ?_|refine ag (ps:=[(1,13),(3,13),(5,13),(7,13),(9,13),(11,13)]) (by decide +kernel) (by simp only[List.forall_mem_cons,List.getD_cons_zero,List.getD_cons_succ,zF,am,hs1,aD,ab,Bt,Bf,Lm,aj,ai,seval]<;>(try simp)<;>(try omega)) ?_|refine ag (ps:=[(7,12),(8,12)]) (by decide +kernel) (by simp only[List.forall_mem_cons,List.getD_cons_zero,List.getD_cons_succ,zF,am,hs1,aD,ab,Bt,Bf,Lm,aj,ai,seval]<;>(try simp)<;>(try omega)) ?_|refine av (by decide +kernel) ?_|((first|apply Ca|apply Cb)<;>intro hb)|refine Ai (by omega) ?_|(apply Ai<;>intro hb)
  (refine ew (fun x:Nat=>S.length-x) (fun x=>x<=S.length) (b0+16) (fun x=>[(2,.ptr b0 0 0),(4,.ptr (b0+1) 0 0),(5,.ptr (b0+2) 0 0),(6,.sl false 1 (S.map gS)),(7,.int .i64 x)]) (fun x=>[(b0,⟨6,[aD n]⟩),(b0+1,⟨6,[[.int .u8 0,.str [],.str [],.nils,.str [],.int .i64 0]]⟩),(b0+2,⟨6,[[.int .u8 1,.str [],.str n.name,.own (b0+3) 0 (H++(bZ S).take x).length,.str [],.int .i64 n.many]]⟩),(b0+3,⟨3,(H++(bZ S).take x).map bf⟩)]) (0) [some b0,some (b0+16),some (b0+112),some (b0+304)] ?_ ?_ ?_;(focus (refine⟨?_,?_⟩<;>(try simp only[aE,hs2,bf,aD,Lc,List.append_nil,ab,aw,al,az,fL,dO,eU,ct,il,List.take_zero,List.append_nil,Lo,List.length_nil,List.length_cons,Lm,aj,ai,aq,seval])<;>(try omega))))
  ·exact Nat.zero_le _
  ·intro i hi
   by_cases hlt:i<S.length
   ·obtain⟨s,hs⟩:=ic hlt
    have hts:=H7 hs
    have hii:=jB i S.length
    have d1:decide ((i:Int)<(S.length:Int))=true:=decide_eq_true hii
    have d2:=decide_eq_true hlt
    have wi:=eD i
    have hdg:=iZ (i+1) (by rw[show(10:Nat) ^ 17=100000000000000000 by decide];omega)
    rw[jh (by omega)]at hdg
    have hil:=jO (i+1)
    have hdt:=uF hs
    have hsn:=kf (H++(bZ S).take i) (ng i s)
    rw[List.append_assoc,<- hdt]at hsn
    have hsnl:=congrArg List.length hsn
    unfold ng at hsn
    simp only[List.length_append,Lm,List.length_cons,List.length_nil]at hsnl
    have hAl:(H++(bZ S).take i).length<=100:=by rw[List.length_append,List.length_take];omega
    have htk:=fb (H++(bZ S).take i)
    have hAl2:(H++(bZ S).take (i+1)).length=(H++(bZ S).take i).length+1:=by rw[hdt,<- List.append_assoc,List.length_append (bs:=[ng i s])];rfl
    generalize H++(bZ S).take i=A at hsn hAl htk hAl2
    simp only[List.cons_append,List.nil_append]at hsn
    generalize eB (i+1)=dg at hdg hil hsn
    repeat' first|simp only[au,ap,zF,am,d1,d2,hts,hlt,hii,wi,htk,hsn,aD,ab,aw,Lm,aj,ai,seval]|exact rfl|refine aa (v:=.any) ?_|(first|(refine ah ?_ (hdg _) ?_)|(refine ac ?_ (fun _=>hdg _) ?_))|refine ag (ps:=[(1,4),(4,8),(4,9),(1,11)]) (by decide +kernel) (by simp only[List.forall_mem_cons,List.getD_cons_zero,List.getD_cons_succ,zF,am,d1,d2,hts,hlt,hii,wi,htk,hsn,aD,ab,aw,Lm,aj,ai,seval]<;>(try simp)<;>(try omega)) ?_|refine ag (ps:=[(1,13),(3,13),(5,13),(7,13),(9,13),(11,13)]) (by decide +kernel) (by simp only[List.forall_mem_cons,List.getD_cons_zero,List.getD_cons_succ,zF,am,d1,d2,hts,hlt,hii,wi,htk,hsn,aD,ab,aw,Lm,aj,ai,seval]<;>(try simp)<;>(try omega)) ?_|refine ag (ps:=[(7,12),(8,12)]) (by decide +kernel) (by simp only[List.forall_mem_cons,List.getD_cons_zero,List.getD_cons_succ,zF,am,d1,d2,hts,hlt,hii,wi,htk,hsn,aD,ab,aw,Lm,aj,ai,seval]<;>(try simp)<;>(try omega)) ?_|refine av (by decide +kernel) ?_|((first|apply Ca|apply Cb)<;>intro hb)|refine Ai (by omega) ?_|(apply Ai<;>intro hb)
    all_goals ((refine de (i+1) [some b0,some (b0+1),some (b0+2),some (b0+272)] ?_ ?_ ?_;(focus (refine⟨?_,?_⟩<;>(try simp only[aE,wi,hAl2,hsn,aD,ab,aw,az,al,Lm,aj,ai,aq,seval])<;>(try omega)))))
    all_goals (first|(show S.length-(i+1)<S.length-i;omega)|exact hlt|skip)
   ·have hie:i=S.length:=by omega
    subst hie
    have d1:=nu S.length S.length
    have d2:decide (S.length<S.length)=false:=bi
    rw[List.take_of_length_le (show(bZ S).length<=S.length by omega)]
    have htk0:=fb (H++bZ S)
    have hBl:(H++bZ S).length<=100:=by rw[List.length_append];omega
    generalize H++bZ S=B at hZ htk0 hBl
    have hz0:([]:List At).map (ec S)=[]:=rfl
    repeat' first|simp only[au,ap,zF,am,d1,d2,htk0,aD,ab,aw,Lm,aj,ai,seval]|exact rfl|refine aa (v:=.any) ?_|refine ag (ps:=[(1,4),(4,8),(4,9),(1,11)]) (by decide +kernel) (by simp only[List.forall_mem_cons,List.getD_cons_zero,List.getD_cons_succ,zF,am,d1,d2,htk0,aD,ab,aw,Lm,aj,ai,seval]<;>(try simp)<;>(try omega)) ?_|refine ag (ps:=[(1,13),(3,13),(5,13),(7,13),(9,13),(11,13)]) (by decide +kernel) (by simp only[List.forall_mem_cons,List.getD_cons_zero,List.getD_cons_succ,zF,am,d1,d2,htk0,aD,ab,aw,Lm,aj,ai,seval]<;>(try simp)<;>(try omega)) ?_|refine ag (ps:=[(7,12),(8,12)]) (by decide +kernel) (by simp only[List.forall_mem_cons,List.getD_cons_zero,List.getD_cons_succ,zF,am,d1,d2,htk0,aD,ab,aw,Lm,aj,ai,seval]<;>(try simp)<;>(try omega)) ?_|refine av (by decide +kernel) ?_|((first|apply Ca|apply Cb)<;>intro hb)|refine Ai (by omega) ?_|(apply Ai<;>intro hb)
    (refine ew (fun x:Nat=>n.attrs.length-x) (fun x=>x<=n.attrs.length) (b0+16) (fun x=>[(2,.ptr b0 0 0),(4,.ptr (b0+1) 0 0),(5,.ptr (b0+2) 0 0),(6,.sl false 1 (S.map gS)),(8,.int .i64 x)]) (fun x=>[(b0,⟨6,[aD n]⟩),(b0+1,⟨6,[[.int .u8 0,.str [],.str [],.nils,.str [],.int .i64 0]]⟩),(b0+2,⟨6,[[.int .u8 1,.str [],.str n.name,.own (b0+3) 0 (B++(n.attrs.take x).map (ec S)).length,.str [],.int .i64 n.many]]⟩),(b0+3,⟨3,(B++(n.attrs.take x).map (ec S)).map bf⟩)]) (0) [some b0,some (b0+1),some (b0+2),some (b0+3)] ?_ ?_ ?_;(focus (refine⟨?_,?_⟩<;>(try simp only[aE,hz0,aD,ab,aw,al,az,List.take_zero,List.append_nil,Lo,List.length_nil,Lm,aj,ai,aq,seval])<;>(try omega))))
    ·exact Nat.zero_le _
    ·intro k hk2
     by_cases hkl:k<n.attrs.length
     ·obtain⟨a,haa⟩:=ic hkl
      have hata:=iu haa
      have ham:=List.mem_of_getElem? haa
      obtain⟨o1,o2,o3⟩:=hn.2.2.2.2 a ham
      have hki:=jB k n.attrs.length
      have f1:decide ((k:Int)<(n.attrs.length:Int))=true:=decide_eq_true hki
      have f2:=decide_eq_true hkl
      have wk:=eD k
      have hmt:=sL (f:=ec S) haa
      have hsn:=kf (B++(n.attrs.take k).map (ec S)) (ec S a)
      rw[List.append_assoc,<- hmt]at hsn
      have hAl:(B++(n.attrs.take k).map (ec S)).length<=200:=by rw[List.length_append,Lm,List.length_take];omega
      have htk:=fb (B++(n.attrs.take k).map (ec S))
      have hAl2:(B++(n.attrs.take (k+1)).map (ec S)).length=(B++(n.attrs.take k).map (ec S)).length+1:=by rw[hmt,<- List.append_assoc,List.length_append (bs:=[ec S a])];rfl
      generalize B++(n.attrs.take k).map (ec S)=A at hsn hAl htk hAl2
      have hsee:=hseen a ham
      generalize hA':(B++(n.attrs.take (k+1)).map (ec S)).map bf=R' at hsn
      unfold ec um at hsn
      unfold me at hsn hsee
      simp only at hsn
      cases c1:(a.space==[104,116,116,112,58,47,47,119,119,119,46,119,51,46,111,114,103,47,88,77,76,47,49,57,57,56,47,110,97,109,101,115,112,97,99,101]) with
      | true =>
       have c0:(a.space==[])=false:=by rw[eq_of_beq c1];rfl
       rw[c0,c1]at hsn
       simp only[Bool.false_eq_true,if_false,if_true,List.cons_append,List.nil_append]at hsn
       subst hA'
       repeat' first|simp only[au,ap,zF,am,f1,f2,hata,bf,hkl,hki,c1,wk,htk,hsn,aD,List.cons_append,List.nil_append,List.append_eq,ab,aw,Lm,aj,ai,seval]|exact rfl|refine aa (v:=.any) ?_|refine ag (ps:=[(1,4),(4,8),(4,9),(1,11)]) (by decide +kernel) (by simp only[List.forall_mem_cons,List.getD_cons_zero,List.getD_cons_succ,zF,am,f1,f2,hata,bf,hkl,hki,c1,wk,htk,hsn,aD,List.cons_append,List.nil_append,List.append_eq,ab,aw,Lm,aj,ai,seval]<;>(try simp)<;>(try omega)) ?_|refine ag (ps:=[(1,13),(3,13),(5,13),(7,13),(9,13),(11,13)]) (by decide +kernel) (by simp only[List.forall_mem_cons,List.getD_cons_zero,List.getD_cons_succ,zF,am,f1,f2,hata,bf,hkl,hki,c1,wk,htk,hsn,aD,List.cons_append,List.nil_append,List.append_eq,ab,aw,Lm,aj,ai,seval]<;>(try simp)<;>(try omega)) ?_|refine ag (ps:=[(7,12),(8,12)]) (by decide +kernel) (by simp only[List.forall_mem_cons,List.getD_cons_zero,List.getD_cons_succ,zF,am,f1,f2,hata,bf,hkl,hki,c1,wk,htk,hsn,aD,List.cons_append,List.nil_append,List.append_eq,ab,aw,Lm,aj,ai,seval]<;>(try simp)<;>(try omega)) ?_|refine av (by decide +kernel) ?_|((first|apply Ca|apply Cb)<;>intro hb)|refine Ai (by omega) ?_|(apply Ai<;>intro hb)
       all_goals ((refine de (k+1) [some b0,some (b0+1),some (b0+2),some (b0+592)] ?_ ?_ ?_;(focus (refine⟨?_,?_⟩<;>(try simp only[aE,wk,hAl2,hsn,aD,ab,aw,az,al,Lm,aj,ai,aq,seval])<;>(try omega)))))
       all_goals (first|(show n.attrs.length-(k+1)<n.attrs.length-k;omega)|exact hkl|skip)
      | false =>
       cases c0:(a.space==[]) with
       | true =>
        rw[c0]at hsn
        simp only[if_true]at hsn
        subst hA'
        repeat' first|simp only[au,ap,zF,am,f1,f2,hata,bf,hkl,hki,c0,c1,wk,htk,hsn,aD,Bt,Bf,ab,aw,Lm,aj,ai,seval]|exact rfl|refine aa (v:=.any) ?_|refine ag (ps:=[(1,4),(4,8),(4,9),(1,11)]) (by decide +kernel) (by simp only[List.forall_mem_cons,List.getD_cons_zero,List.getD_cons_succ,zF,am,f1,f2,hata,bf,hkl,hki,c0,c1,wk,htk,hsn,aD,Bt,Bf,ab,aw,Lm,aj,ai,seval]<;>(try simp)<;>(try omega)) ?_|refine ag (ps:=[(1,13),(3,13),(5,13),(7,13),(9,13),(11,13)]) (by decide +kernel) (by simp only[List.forall_mem_cons,List.getD_cons_zero,List.getD_cons_succ,zF,am,f1,f2,hata,bf,hkl,hki,c0,c1,wk,htk,hsn,aD,Bt,Bf,ab,aw,Lm,aj,ai,seval]<;>(try simp)<;>(try omega)) ?_|refine ag (ps:=[(7,12),(8,12)]) (by decide +kernel) (by simp only[List.forall_mem_cons,List.getD_cons_zero,List.getD_cons_succ,zF,am,f1,f2,hata,bf,hkl,hki,c0,c1,wk,htk,hsn,aD,Bt,Bf,ab,aw,Lm,aj,ai,seval]<;>(try simp)<;>(try omega)) ?_|refine av (by decide +kernel) ?_|((first|apply Ca|apply Cb)<;>intro hb)|refine Ai (by omega) ?_|(apply Ai<;>intro hb)
        all_goals ((refine de (k+1) [some b0,some (b0+1),some (b0+2),some (b0+624)] ?_ ?_ ?_;(focus (refine⟨?_,?_⟩<;>(try simp only[aE,wk,hAl2,hsn,aD,ab,aw,az,al,Lm,aj,ai,aq,seval])<;>(try omega)))))
        all_goals (first|(show n.attrs.length-(k+1)<n.attrs.length-k;omega)|exact hkl|skip)
       | false =>
        rw[c0,c1]at hsn
        simp only[Bool.false_eq_true,if_false]at hsn
        obtain⟨w1,w2⟩:=zt (hsee (by simpa using c0) (by simpa using c1))
        have hw:=pN S a.space (by omega)
        rw[w1]at hw
        have hdg:=iZ (zz S a.space+1) (by rw[show(10:Nat) ^ 17=100000000000000000 by decide];omega)
        rw[jh (by omega)]at hdg
        have hil:=jO (zz S a.space+1)
        generalize eB (zz S a.space+1)=dg at hdg hil hsn
        have hcat:(([110]++dg)++[58])++a.name=(110::dg)++58::a.name:=by simp
        rw[<- hcat]at hsn
        have hl1:([110]++dg).length=dg.length+1:=by simp
        have hl2:(dg++[58]).length=dg.length+1:=by simp
        simp only[List.cons_append,List.nil_append]at hsn
        subst hA'
        repeat' first|simp only[au,ap,zF,am,f1,f2,hata,bf,hkl,hki,c0,c1,wk,htk,hsn,aD,Bt,Bf,ab,aw,Lm,aj,ai,seval]|exact rfl|refine aa (v:=.any) ?_|(first|(refine ah ?_ (hw _) ?_)|(refine ac ?_ (fun _=>hw _) ?_)|(refine ah ?_ (hdg _) ?_)|(refine ac ?_ (fun _=>hdg _) ?_))|refine ag (ps:=[(1,4),(4,8),(4,9),(1,11)]) (by decide +kernel) (by simp only[List.forall_mem_cons,List.getD_cons_zero,List.getD_cons_succ,zF,am,f1,f2,hata,bf,hkl,hki,c0,c1,wk,htk,hsn,aD,Bt,Bf,ab,aw,Lm,aj,ai,seval]<;>(try simp)<;>(try omega)) ?_|refine ag (ps:=[(1,13),(3,13),(5,13),(7,13),(9,13),(11,13)]) (by decide +kernel) (by simp only[List.forall_mem_cons,List.getD_cons_zero,List.getD_cons_succ,zF,am,f1,f2,hata,bf,hkl,hki,c0,c1,wk,htk,hsn,aD,Bt,Bf,ab,aw,Lm,aj,ai,seval]<;>(try simp)<;>(try omega)) ?_|refine ag (ps:=[(7,12),(8,12)]) (by decide +kernel) (by simp only[List.forall_mem_cons,List.getD_cons_zero,List.getD_cons_succ,zF,am,f1,f2,hata,bf,hkl,hki,c0,c1,wk,htk,hsn,aD,Bt,Bf,ab,aw,Lm,aj,ai,seval]<;>(try simp)<;>(try omega)) ?_|refine av (by decide +kernel) ?_|((first|apply Ca|apply Cb)<;>intro hb)|refine Ai (by omega) ?_|(apply Ai<;>intro hb)
        all_goals ((refine de (k+1) [some b0,some (b0+1),some (b0+2),some (b0+880)] ?_ ?_ ?_;(focus (refine⟨?_,?_⟩<;>(try simp only[aE,wk,hAl2,hsn,aD,ab,aw,az,al,Lm,aj,ai,aq,seval])<;>(try omega)))))
        all_goals (first|(show n.attrs.length-(k+1)<n.attrs.length-k;omega)|exact hkl|skip)
     ·have hke:k=n.attrs.length:=by omega
      subst hke
      have f1:=nu n.attrs.length n.attrs.length
      have f2:decide (n.attrs.length<n.attrs.length)=false:=bi
      rw[List.take_length,<- hZ]
      have htk:=fb Z
      repeat' first|simp only[au,ap,zF,am,f1,f2,htk,aD,ab,aw,Lm,aj,ai,seval]|exact rfl|refine aa (v:=.any) ?_|refine ag (ps:=[(1,4),(4,8),(4,9),(1,11)]) (by decide +kernel) (by simp only[List.forall_mem_cons,List.getD_cons_zero,List.getD_cons_succ,zF,am,f1,f2,htk,aD,ab,aw,Lm,aj,ai,seval]<;>(try simp)<;>(try omega)) ?_|refine ag (ps:=[(1,13),(3,13),(5,13),(7,13),(9,13),(11,13)]) (by decide +kernel) (by simp only[List.forall_mem_cons,List.getD_cons_zero,List.getD_cons_succ,zF,am,f1,f2,htk,aD,ab,aw,Lm,aj,ai,seval]<;>(try simp)<;>(try omega)) ?_|refine ag (ps:=[(7,12),(8,12)]) (by decide +kernel) (by simp only[List.forall_mem_cons,List.getD_cons_zero,List.getD_cons_succ,zF,am,f1,f2,htk,aD,ab,aw,Lm,aj,ai,seval]<;>(try simp)<;>(try omega)) ?_|refine av (by decide +kernel) ?_|((first|apply Ca|apply Cb)<;>intro hb)|refine Ai (by omega) ?_|(apply Ai<;>intro hb)
      all_goals ((refine Fin.give [(b0+3,some 0)] [] ?_ ?_ ?_ ?_ ?_ (bA iC (by simp[bt,tgt]))<;>(try simp only[zF,am,kG,gI,ab,aw,Lm,jK,aj,ai,seval])<;>(try simp only[aq])<;>(try omega)))
end Go.Proofs.YtjonibipieofcaaGreatDoor
