/-
 Texts joined: XOe,XOf.
-/
import Derived.Test.YtcllbjanalhjgaaGreatDoorR1
import Derived.Test.YtcllbjanalhjgaaGreatDoorQe
import Derived.Test.YtcllbjanalhjgaaGreatDoorQh
import Derived.Test.YtcllbjanalhjgaaGreatDoorQt
namespace Go.Proofs.YtcllbjanalhjgaaGreatDoor
set_option maxRecDepth 100000
set_option maxHeartbeats 32000000
set_option linter.unusedSimpArgs false
set_option linter.unusedVariables false
open Go Go.RowKit Vm Go.Lib Tryz
open Vm renaming be→Ca,bo→Cb
open And renaming intro→Ai
open List renaming length_map→Lm,not_mem_nil→Ln,map_nil→Lo,map_cons→Lc,mem_cons→Lk
open Bool renaming not_false→Bf,not_true→Bt
def Bm:List UInt8:=[48,49,50,51,52,53,54,55,56,57,97,98,99,100,101,102,103,104,105,106,107,108,109,110,111,112,113,114,115,116,117,118,119,120,121,122]
def BX:List UInt8:=[48,48,48,49,48,50,48,51,48,52,48,53,48,54,48,55,48,56,48,57,49,48,49,49,49,50,49,51,49,52,49,53,49,54,49,55,49,56,49,57,50,48,50,49,50,50,50,51,50,52,50,53,50,54,50,55,50,56,50,57,51,48,51,49,51,50,51,51,51,52,51,53,51,54,51,55,51,56,51,57,52,48,52,49,52,50,52,51,52,52,52,53,52,54,52,55,52,56,52,57,53,48,53,49,53,50,53,51,53,52,53,53,53,54,53,55,53,56,53,57,54,48,54,49,54,50,54,51,54,52,54,53,54,54,54,55,54,56,54,57,55,48,55,49,55,50,55,51,55,52,55,53,55,54,55,55,55,56,55,57,56,48,56,49,56,50,56,51,56,52,56,53,56,54,56,55,56,56,56,57,57,48,57,49,57,50,57,51,57,52,57,53,57,54,57,55,57,56,57,57]
theorem G6:∀ i,i<10→(Bm.drop i).take (i+1-i)=iE i:=by decide +kernel
theorem G5:∀ i,i<100 → ¬ i<10→(BX.drop (i*2)).take (i*2+2-i*2)=iE i:=by decide +kernel
theorem yD (i:Nat)(hi:i<100)(nm:Nat):Ev cx 113 nm [.int .i64 i] ao.nil (.str (iE i)) []:=by
 by_cases h:i<10
 ·have d1:decide ((i:Int)<10)=true:=decide_eq_true (by omega)
  have d2:IntKind.i64.wrap ((i:Int)+1)=((i+1:Nat):Int):=aR (by omega) (by omega)
  have d3:(i:Int)≤((i+1:Nat):Int):=by omega
  have hz:=G6 i h
  unfold Bm at hz
  refine ay rfl (fun cargs w=>call113 cargs w) func113 rfl mixed (by kernel_rfl) rfl ?_;intro b0 hb0
  (repeat' first|simp only[am,ah,results113,ntmps113,ap,d1,d2,hz,List.length_cons,List.length_nil,ag,seval,ae]|exact rfl|refine aa (v:=.any) ?_|((first|apply Ca|apply Cb)<;>intro hb)|refine Ai (by omega) ?_|(apply Ai<;>intro hb)|refine Fin.pure ?_ ?_ ?_|simp only[au])
 ·have d1:decide ((i:Int)<10)=false:=decide_eq_false (by omega)
  have d2:IntKind.i64.wrap ((i:Int)*2)=((i*2:Nat):Int):=aR (by omega) (by omega)
  have d3:IntKind.i64.wrap (((i*2:Nat):Int)+2)=((i*2+2:Nat):Int):=aR (by omega) (by omega)
  have hz:=G5 i hi h
  unfold BX at hz
  refine ay rfl (fun cargs w=>call113 cargs w) func113 rfl mixed (by kernel_rfl) rfl ?_;intro b0 hb0
  (repeat' first|simp only[am,ah,results113,ntmps113,ap,d1,d2,d3,hz,List.append_eq,List.cons_append,List.nil_append,List.length_cons,List.length_nil,ag,seval,ae]|exact rfl|refine aa (v:=.any) ?_|((first|apply Ca|apply Cb)<;>intro hb)|refine Ai (by omega) ?_|(apply Ai<;>intro hb)|refine Fin.pure ?_ ?_ ?_|simp only[au])
theorem FF (i:Nat)(hi:i<100)(nm:Nat):Ev cx 96 nm [.int .i64 i,.int .i64 10] ao.nil (.str (iE i)) []:=by
 have d1:decide ((0:Int)≤(i:Int))=true:=decide_eq_true (by omega)
 have d2:decide ((i:Int)<100)=true:=decide_eq_true (by omega)
 refine ay rfl (fun cargs w=>call96 cargs w) func96 rfl mixed (by kernel_rfl) rfl ?_;intro b0 hb0
 (repeat' first|simp only[am,ah,results96,ntmps96,ap,d1,d2,ag,seval,ae]|exact rfl|refine aa (v:=.any) ?_|(first|(refine ac ?_ (yD i hi _) ?_)|(refine ab ?_ (fun _=>yD i hi _) ?_))|((first|apply Ca|apply Cb)<;>intro hb)|refine Ai (by omega) ?_|(apply Ai<;>intro hb)|refine Fin.pure ?_ ?_ ?_|simp only[au])
theorem xY (i:Nat)(hi:i<100)(nm:Nat):Ev cx 82 nm [.int .i64 i] ao.nil (.str (iE i)) []:=by
 refine ay rfl (fun cargs w=>call82 cargs w) func82 rfl mixed (by kernel_rfl) rfl ?_;intro b0 hb0
 (repeat' first|simp only[am,ah,results82,ntmps82,ap,ag,seval,ae]|exact rfl|refine aa (v:=.any) ?_|(first|(refine ac ?_ (FF i hi _) ?_)|(refine ab ?_ (fun _=>FF i hi _) ?_))|((first|apply Ca|apply Cb)<;>intro hb)|refine Ai (by omega) ?_|(apply Ai<;>intro hb)|refine Fin.pure ?_ ?_ ?_|simp only[au])
theorem BD (i:Nat)(hi:i<100)(nm:Nat):Ev cx 61 nm [.int .i64 i] ao.nil (.str (iE i)) []:=by
 refine ay rfl (fun cargs w=>call61 cargs w) func61 rfl mixed (by kernel_rfl) rfl ?_;intro b0 hb0
 (repeat' first|simp only[am,ah,results61,ntmps61,ap,ag,seval,ae]|exact rfl|refine aa (v:=.any) ?_|(first|(refine ac ?_ (xY i hi _) ?_)|(refine ab ?_ (fun _=>xY i hi _) ?_))|((first|apply Ca|apply Cb)<;>intro hb)|refine Ai (by omega) ?_|(apply Ai<;>intro hb)|refine Fin.pure ?_ ?_ ?_|simp only[au])
def wD (s:List UInt8):List V:=[.str s]
theorem b6 (l:List (List UInt8)):plainLL (l.map wD)=true:=cn _ (fun _=>rfl) l
theorem Af (l:List (List UInt8))(s:List UInt8)(hn:l.length≤bk)(nm:Nat):Ev cx 60 nm [.sl false 1 (l.map wD),.str s] ao.nil (.int .i64 (Dn (l.findIdx? (· == s)))) []:=by
 unfold bk at hn
 refine ay rfl (fun cargs w=>call60 cargs w) func60 rfl mixed (by kernel_rfl) rfl ?_;intro b0 hb0
 repeat' first|simp only[am,ah,results60,ntmps60,ap,ag,seval,ae]|exact rfl|refine aa (v:=.any) ?_|((first|apply Ca|apply Cb)<;>intro hb)|refine Ai (by omega) ?_|(apply Ai<;>intro hb)
 (refine aV cm (fun x:Nat=>l.length-x) (fun x=>x≤l.length∧(l.take x).any (· == s)=false) (b0+16) (fun x=>[(0,.sl false 1 (l.map wD)),(1,.str s),(7,.int .i64 l.length),(8,.int .i64 x)]) (fun x=>[]) (0) [] ?_ ?_ ?_ ?_;rotate_left 1;(focus (show b0≤_;omega));(focus (refine⟨?_,?_⟩<;>(try simp only[bj,Lm,b6,ag,seval,ae,au])<;>(try omega)));rotate_left 1)
 ·exact⟨Nat.zero_le _,by simp⟩
 ·rintro k ⟨hk,hno⟩
  by_cases hlt:k<l.length
  ·obtain⟨h,hh⟩:∃ h,l[k]? = some h:=⟨_,List.getElem?_eq_getElem hlt⟩
   have hat:(l.map wD)[k]? = some (wD h):=by rw[List.getElem?_map,hh];rfl
   have hd:decide (k<l.length)=true:=decide_eq_true hlt
   have hwk:IntKind.i64.wrap ((k:Int)+1)=((k+1:Nat):Int):=aR (by omega) (by omega)
   have hc:(s==h)=(h==s):=by rw[Bool.eq_iff_iff];simp;exact⟨Eq.symm,Eq.symm⟩
   cases hp:(h==s) with
   | true =>
    have hfd:=ll (p:=(· == s)) hno hh hp
    rw[hp]at hc
    (repeat' first|simp only[am,ah,results60,ntmps60,ap,hat,wD,hlt,hd,hwk,hfd,hc,bZ,Lm,ag,seval,ae]|exact rfl|refine aa (v:=.any) ?_|((first|apply Ca|apply Cb)<;>intro hb)|refine Ai (by omega) ?_|(apply Ai<;>intro hb)|refine Fin.pure ?_ ?_ ?_|simp only[au])
   | false =>
    have hn':=fF (p:=(· == s)) hno hh hp
    rw[hp]at hc
    repeat' first|simp only[am,ah,results60,ntmps60,ap,hat,wD,hlt,hd,hwk,hc,Lm,ag,seval,ae]|exact rfl|refine aa (v:=.any) ?_|((first|apply Ca|apply Cb)<;>intro hb)|refine Ai (by omega) ?_|(apply Ai<;>intro hb)
    all_goals ((refine aJ cm (k+1) [] ?_ ?_ ?_ ?_;rotate_left 2;(focus (show b0≤_;omega));(focus (refine⟨?_,?_⟩<;>(try simp only[bj,b6,hwk,ag,seval,ae,au])<;>(try omega)))))
    all_goals (first|(show l.length-(k+1)<l.length-k;omega)|exact⟨hlt,hn'⟩|skip)
  ·have hke:k=l.length:=by omega
   subst hke
   rw[List.take_length]at hno
   have hfd:=iB hno
   have hd:decide (l.length<l.length)=false:=decide_eq_false (by omega)
   (repeat' first|simp only[am,ah,results60,ntmps60,ap,hd,hfd,dP,Lm,ag,seval,ae]|exact rfl|refine aa (v:=.any) ?_|((first|apply Ca|apply Cb)<;>intro hb)|refine Ai (by omega) ?_|(apply Ai<;>intro hb)|refine Fin.pure ?_ ?_ ?_|simp only[au])
theorem ID (s:List UInt8)(d:UInt8):decide ((0:Int)≤indexByte s d)=s.contains d:=by
 cases h:dH d s with
 | none =>
  rw[gP.2 h]
  cases hc:s.contains d with
  | false=>rfl
  | true=>exact absurd (List.contains_iff_mem.1 hc) (il.1 h)
 | some p =>
  obtain⟨a,b⟩:=p
  have:=(jg h).1
  rw[this,decide_eq_true (by omega),List.contains_iff_mem.2 (by rw[(ek h).1];simp)]
theorem BW (s:List UInt8)(d:UInt8)(nm:Nat):Ev cx 73 nm [.str s,.str [d]] ao.nil (.int .i64 (indexByte s d)) []:=by
 refine ay rfl (fun cargs w=>call73 cargs w) func73 rfl mixed (by kernel_rfl) rfl ?_;intro b0 hb0
 (repeat' first|simp only[am,ah,results73,ntmps73,ap,ag,seval,ae]|exact rfl|refine aa (v:=.any) ?_|(first|(refine ac ?_ (io s d _) ?_)|(refine ab ?_ (fun _=>io s d _) ?_))|((first|apply Ca|apply Cb)<;>intro hb)|refine Ai (by omega) ?_|(apply Ai<;>intro hb)|refine Fin.pure ?_ ?_ ?_|simp only[au])
theorem wT (s:List UInt8)(d:UInt8)(nm:Nat):Ev cx 54 nm [.str s,.str [d]] ao.nil (.bool (s.contains d)) []:=by
 rw[← ID]
 refine ay rfl (fun cargs w=>call54 cargs w) func54 rfl mixed (by kernel_rfl) rfl ?_;intro b0 hb0
 (repeat' first|simp only[am,ah,results54,ntmps54,ap,ag,seval,ae]|exact rfl|refine aa (v:=.any) ?_|(first|(refine ac ?_ (BW s d _) ?_)|(refine ab ?_ (fun _=>BW s d _) ?_))|((first|apply Ca|apply Cb)<;>intro hb)|refine Ai (by omega) ?_|(apply Ai<;>intro hb)|refine Fin.pure ?_ ?_ ?_|simp only[au])
def pN (K:kS):List (V×V):=K.map fun p=>(.str p.1,.agg [.str p.2])
theorem Nk:ye cx.P 49=some (9,52):=by kernel_rfl
theorem NW:LA cx.P 49=true:=by kernel_rfl
theorem NX:AY cx.P 49=true:=by kernel_rfl
theorem vu (p:List UInt8):∀(K:kS),dT (.str p) (pN K)=some ((fx p K).map fun v=>.agg [.str v])
 | []=>rfl
 | q::r=>by
  have ih:=vu p r
  simp only[pN,Lc]at ih ⊢
  simp only[dT,kM,fx]
  cases h:(p==q.1) with
  | true=>simp
  | false=>simpa using ih
theorem GN (p v:List UInt8):∀(K:kS),nh (.str p) (.agg [.str v]) (pN K)=pN (we p v K)
 | []=>rfl
 | q::r=>by
  have ih:=GN p v r
  simp only[pN,Lc]at ih ⊢
  simp only[nh,kM,we]
  cases h:(p==q.1) with
  | true=>simp
  | false=>simpa using ih
theorem Dv (y:Nat)(K:kS)(M:ao)(nm:Nat)(hM:M y=some (eK (pN K)))(ho:∀ z,(M z).isSome=true→z∈[y])(hlt:y<nm):Ev cx 23 nm [.mp y] M (.mp nm) [(y,some (eK (pN K))),(nm,some (eK (pN K)))]:=by
 have hc:=fun (M':ao) (m:Nat) (h1:M' y=some (eK (pN K))) h2 h3=>Ev.clone (cx:=cx) func51 (by kernel_rfl) (by kernel_rfl) (by kernel_rfl) (by kernel_rfl) 49 y (pN K) M' m h1 h2 h3
 refine ay rfl (fun cargs w=>call23 cargs w) func23 rfl mixed (by kernel_rfl) rfl ?_;intro b0 hb0
 have k1:y<b0:=av hb0 (by rw[hM];rfl)
 have z0:=aS k1;have z1:=aq k1;have z2:=aI k1;have z3:=aj k1
 have g1:(nm=y)=False:=eq_false (by omega)
 repeat' first|simp only[am,ah,results23,ntmps23,ap,NW,hM,z0,z1,z2,z3,aP,ag,seval,ae]|exact rfl|refine aa (v:=.any) ?_|(refine ad ?_ [y] (hc _ _ ?_ ak (by omega)) ?_ ?_)|(refine ug rfl (by kernel_rfl) ?_)|(refine iA (u:=?_) ?_ NX ?_)|((first|apply Ca|apply Cb)<;>intro hb)|refine Ai (by omega) ?_|(apply Ai<;>intro hb)
 all_goals ((refine Fin.give [(y,none),(b0+80,some 0)] [] ?_ ?_ ?_ ?_ ?_ (fun q hq=>by have hqq:=ho q hq;first|(simp only[aD,tgt,Lc,Lo,Lk,Ln,or_false]at hqq ⊢;omega)|(simp only[aD,tgt,Lc,Lo,Lk,Ln,or_false]at hqq))<;>(try simp only[results23,ntmps23,ap,hM,z0,z1,z2,z3,g1,cW,bN,ec,ag,seval,ae])<;>(try simp only[au])<;>(try omega)))
theorem nz (l:List At)(a:At):l.map bG++[[.str a.space,.str a.name,.str a.value]]=(l++[a]).map bG:=by simp[bG]
theorem Jy (l:List (List UInt8))(a:List UInt8):l.map wD++[[.str a]]=(l++[a]).map wD:=by simp[wD]
theorem jx (l:List At):(l.map bG).take l.length=l.map bG:=cY _ _
theorem Hf (l:List (List UInt8)):(l.map wD).take l.length=l.map wD:=cY _ _
theorem tK {f:At→At}{l:List At}{k:Nat}{a:At}(h:l[k]? = some a):(l.take (k+1)).map f=(l.take k).map f++[f a]:=by
 obtain⟨hk,rfl⟩:=List.getElem?_eq_some_iff.1 h
 rw[List.take_succ_eq_append_getElem hk,List.map_append];rfl
theorem uT:bz []=[]:=rfl
def cQ (n:Nd)(sp:List UInt8)(k:Nat):List At:=JV n sp++lb (bz (n.attrs.take k))
def ef (n:Nd)(k:Nat):List At:=(n.attrs.take k).map (wh (bz n.attrs))
theorem uY (n:Nd)(sp:List UInt8)(k:Nat):(cQ n sp k).length≤1+n.attrs.length:=by
 have h1:=uS (n.attrs.take k)
 have h2:(JV n sp).length≤1:=by unfold JV;split<;>simp
 unfold cQ
 rw[List.length_append,Fa]
 simp only[List.length_take]at h1
 omega
theorem pB (n:Nd){k:Nat}(hk:k≤n.attrs.length):(ef n k).length=k:=by unfold ef;rw[Lm,List.length_take];omega
theorem Jx (n:Nd)(sp:List UInt8)(hn:n.attrs.length≤16)(hl:∀ a∈n.attrs,a.name.length≤1000000)(nm:Nat):Ev cx 33 nm [.agg (bc n),.str sp] ao.nil (.agg (bc (fl n sp))) []:=by
  refine Ev.freeze (v:=.agg [.int .u8 n.kind,.str [],.str n.name,.own nm 0 (fl n sp).attrs.length,.str [],.int .i64 n.many]) (eff:=[(nm,some ⟨3,(fl n sp).attrs.map bG⟩)]) ?_ ?_ ?_
  rotate_left 1
  · have hpl:=aw (fl n sp).attrs
    have htk:=jx (fl n sp).attrs
    simp only[am,ah,ap,hpl,htk,Lm,ag,seval,ae]<;>omega
  · have hpl:=aw (fl n sp).attrs
    have htk:=jx (fl n sp).attrs
    simp only[am,ah,ap,bc,hpl,htk,Lm,ag,seval,ae]
    rfl
  have hall:(fl n sp).attrs=cQ n sp n.attrs.length++ef n n.attrs.length:=by unfold fl cQ ef;rw[List.take_length]
  rw[hall]
  have hS0:bz (n.attrs.take 0)=[]:=by simp[bz]
  have hR0:ef n 0=[]:=by simp[ef]
  rcases Bool.eq_false_or_eq_true (n.space==sp) with he|he
  focus
    have hA0:cQ n sp 0=[]:=by unfold cQ JV;simp[he,bz,lb]
    refine ay rfl (fun cargs w=>call33 cargs w) func33 rfl mixed (by kernel_rfl) rfl ?_;intro b0 hb0
    repeat' first|simp only[am,ah,results33,ntmps33,ap,bc,he,Bt,Bf,aw,Lm,ag,seval,ae]|exact rfl|refine aa (v:=.any) ?_|refine bg (ps:=[(1,4),(4,7),(1,9)]) (by decide +kernel) (by simp only[List.forall_mem_cons,List.getD_cons_zero,List.getD_cons_succ,results33,ntmps33,ap,bc,he,Bt,Bf,aw,Lm,ag,seval,ae]<;>(try simp)<;>(try omega)) ?_|refine aG (by decide +kernel) ?_|((first|apply Ca|apply Cb)<;>intro hb)|refine Ai (by omega) ?_|(apply Ai<;>intro hb)
    (refine aV cm (fun x:Nat=>n.attrs.length-x) (fun x=>x≤n.attrs.length) (b0+16) (fun x=>[(4,.ptr b0 0 0),(5,.ptr (b0+1) 0 0),(6,.own (b0+3) 0 (bz (n.attrs.take x)).length),(7,.own (b0+4) 0 (ef n x).length),(33,.sl false 3 (n.attrs.map bG)),(34,.int .i64 n.attrs.length),(35,.int .i64 x)]) (fun x=>[(b0,⟨6,[[.int .u8 0,.str [],.str [],.nils,.str [],.int .i64 0]]⟩),(b0+1,⟨6,[[.int .u8 n.kind,.str [],.str n.name,.own (b0+2) 0 (cQ n sp x).length,.str [],.int .i64 n.many]]⟩),(b0+2,⟨3,(cQ n sp x).map bG⟩),(b0+3,⟨1,(bz (n.attrs.take x)).map wD⟩),(b0+4,⟨3,(ef n x).map bG⟩)]) (0) [some (b0+16),some (b0+144),none,none,none] ?_ ?_ ?_ ?_;rotate_left 1;(focus (show b0≤_;omega));(focus (refine⟨?_,?_⟩<;>(try simp only[bj,hA0,hS0,hR0,uT,List.take_zero,aU,bG,aw,b6,Lc,Lo,List.length_cons,List.length_nil,Lm,ag,seval,ae,au])<;>(try omega)));rotate_left 1)
  rotate_left 2
  focus
    have hA0:cQ n sp 0=[⟨[],[120,109,108,110,115],n.space⟩]:=by unfold cQ JV;simp[he,bz,lb]
    refine ay rfl (fun cargs w=>call33 cargs w) func33 rfl mixed (by kernel_rfl) rfl ?_;intro b0 hb0
    repeat' first|simp only[am,ah,results33,ntmps33,ap,bc,he,Bt,Bf,aw,Lm,ag,seval,ae]|exact rfl|refine aa (v:=.any) ?_|refine bg (ps:=[(1,4),(4,7),(1,9)]) (by decide +kernel) (by simp only[List.forall_mem_cons,List.getD_cons_zero,List.getD_cons_succ,results33,ntmps33,ap,bc,he,Bt,Bf,aw,Lm,ag,seval,ae]<;>(try simp)<;>(try omega)) ?_|refine aG (by decide +kernel) ?_|((first|apply Ca|apply Cb)<;>intro hb)|refine Ai (by omega) ?_|(apply Ai<;>intro hb)
    (refine aV cm (fun x:Nat=>n.attrs.length-x) (fun x=>x≤n.attrs.length) (b0+16) (fun x=>[(4,.ptr b0 0 0),(5,.ptr (b0+1) 0 0),(6,.own (b0+3) 0 (bz (n.attrs.take x)).length),(7,.own (b0+4) 0 (ef n x).length),(33,.sl false 3 (n.attrs.map bG)),(34,.int .i64 n.attrs.length),(35,.int .i64 x)]) (fun x=>[(b0,⟨6,[[.int .u8 0,.str [],.str [],.nils,.str [],.int .i64 0]]⟩),(b0+1,⟨6,[[.int .u8 n.kind,.str [],.str n.name,.own (b0+2) 0 (cQ n sp x).length,.str [],.int .i64 n.many]]⟩),(b0+2,⟨3,(cQ n sp x).map bG⟩),(b0+3,⟨1,(bz (n.attrs.take x)).map wD⟩),(b0+4,⟨3,(ef n x).map bG⟩)]) (0) [some (b0+16),some (b0+144),some (b0+336),none,none] ?_ ?_ ?_ ?_;rotate_left 1;(focus (show b0≤_;omega));(focus (refine⟨?_,?_⟩<;>(try simp only[bj,hA0,hS0,hR0,uT,List.take_zero,aU,bG,aw,b6,Lc,Lo,List.length_cons,List.length_nil,Lm,ag,seval,ae,au])<;>(try omega)));rotate_left 1)
  all_goals (first|exact Nat.zero_le _|skip)
  all_goals
    intro k hk
    by_cases hlt:k<n.attrs.length
    · obtain ⟨a,ha⟩:∃ a,n.attrs[k]? = some a:=⟨_,List.getElem?_eq_getElem hlt⟩
      have hat:=pE ha
      have d1:decide ((k:Int)<(n.attrs.length:Int))=true:=decide_eq_true (by omega)
      have d2:decide (k<n.attrs.length)=true:=decide_eq_true hlt
      have hwk:IntKind.i64.wrap ((k:Int)+1)=((k+1:Nat):Int):=aR (by omega) (by omega)
      have hAl:=uY n sp k
      have hRl:=pB n hk
      have hRl1:=pB n (k:=k+1) hlt
      have hSl:=uS (n.attrs.take k)
      rw[List.length_take]at hSl
      have hS1:=AU ha
      have hR1:ef n (k+1)=ef n k++[wh (bz n.attrs) a]:=tK ha
      have hA1:cQ n sp (k+1)=JV n sp++lb (bz (n.attrs.take (k+1))):=rfl
      have htk:((ef n k).map bG).take k=(ef n k).map bG:=List.take_of_length_le (by rw[Lm];omega)
      have hna:=hl a (List.mem_of_getElem? ha)
      have hpre:=pv n.attrs (k+1)
      cases h0:(a.space==[]) with
      | true =>
        have hrel:wh (bz n.attrs) a=⟨[],a.name,a.value⟩:=by unfold wh;rw[h0];rfl
        have hS2:bz (n.attrs.take (k+1))=bz (n.attrs.take k):=by rw[hS1];unfold iP;rw[if_pos h0]
        have hA2:cQ n sp (k+1)=cQ n sp k:=by unfold cQ;rw[hS2]
        have hsn:(ef n k).map bG++[[.str [],.str a.name,.str a.value]]=(ef n (k+1)).map bG:=by rw[hR1,hrel];exact nz (ef n k) ⟨[],a.name,a.value⟩
        repeat' first|simp only[am,ah,results33,ntmps33,ap,hat,bG,hlt,d1,d2,h0,hwk,hRl,htk,hsn,Bt,Bf,aw,b6,Lm,ag,seval,ae]|exact rfl|refine aa (v:=.any) ?_|refine bg (ps:=[(1,4),(4,7),(1,9)]) (by decide +kernel) (by simp only[List.forall_mem_cons,List.getD_cons_zero,List.getD_cons_succ,results33,ntmps33,ap,hat,bG,hlt,d1,d2,h0,hwk,hRl,htk,hsn,Bt,Bf,aw,b6,Lm,ag,seval,ae]<;>(try simp)<;>(try omega)) ?_|refine aG (by decide +kernel) ?_|((first|apply Ca|apply Cb)<;>intro hb)|refine Ai (by omega) ?_|(apply Ai<;>intro hb)
        all_goals ((refine aJ cm (k+1) [some b0,some (b0+1),some (b0+2),some (b0+3),some (b0+304)] ?_ ?_ ?_ ?_;rotate_left 2;(focus (show b0≤_;omega));(focus (refine⟨?_,?_⟩<;>(try simp only[bj,hS2,hA2,hRl1,hwk,aw,b6,Lm,ag,seval,ae,au])<;>(try omega)))))
        all_goals (first|(show n.attrs.length-(k+1)<n.attrs.length-k;omega)|exact hlt|skip)
      | false =>
        have hxl:(a.space==sW)=(a.space==[104,116,116,112,58,47,47,119,119,119,46,119,51,46,111,114,103,47,88,77,76,47,49,57,57,56,47,110,97,109,101,115,112,97,99,101]):=rfl
        have h0':¬(a.space==[])=true:=by rw[h0];decide
        have hrel:wh (bz n.attrs) a=⟨[],ym (bz n.attrs) a.space++58::a.name,a.value⟩:=by unfold wh;rw[if_neg h0']
        have hsn0:∀ p:List UInt8,ym (bz n.attrs) a.space=p→(ef n k).map bG++[[.str [],.str (p++[58]++a.name),.str a.value]]=(ef n (k+1)).map bG:=fun p hp=>by
          rw[hR1,hrel,hp,show p++[58]++a.name=p++58::a.name by simp];exact nz (ef n k) ⟨[],p++58::a.name,a.value⟩
        cases hx:(a.space==sW) with
        | true =>
          have hS2:bz (n.attrs.take (k+1))=bz (n.attrs.take k):=by rw[hS1];unfold iP;rw[if_neg h0',if_pos hx]
          have hA2:cQ n sp (k+1)=cQ n sp k:=by unfold cQ;rw[hS2]
          have hsn:=hsn0 [120,109,108] (by unfold ym;rw[if_pos hx])
          simp only[List.cons_append,List.nil_append]at hsn
          rw[hx]at hxl
          repeat' first|simp only[am,ah,results33,ntmps33,ap,hat,bG,hlt,d1,d2,h0,hxl.symm,hwk,hRl,htk,hsn,Bt,Bf,aw,b6,List.length_append,List.length_cons,List.length_nil,Lm,ag,seval,ae]|exact rfl|refine aa (v:=.any) ?_|refine bg (ps:=[(1,4),(4,7),(1,9)]) (by decide +kernel) (by simp only[List.forall_mem_cons,List.getD_cons_zero,List.getD_cons_succ,results33,ntmps33,ap,hat,bG,hlt,d1,d2,h0,hxl.symm,hwk,hRl,htk,hsn,Bt,Bf,aw,b6,List.length_append,List.length_cons,List.length_nil,Lm,ag,seval,ae]<;>(try simp)<;>(try omega)) ?_|refine aG (by decide +kernel) ?_|((first|apply Ca|apply Cb)<;>intro hb)|refine Ai (by omega) ?_|(apply Ai<;>intro hb)
          all_goals ((refine aJ cm (k+1) [some b0,some (b0+1),some (b0+2),some (b0+3),some (b0+480)] ?_ ?_ ?_ ?_;rotate_left 2;(focus (show b0≤_;omega));(focus (refine⟨?_,?_⟩<;>(try simp only[bj,hS2,hA2,hRl1,hwk,aw,b6,Lm,ag,seval,ae,au])<;>(try omega)))))
          all_goals (first|(show n.attrs.length-(k+1)<n.attrs.length-k;omega)|exact hlt|skip)
        | false =>
          rw[hx]at hxl
          have hx':¬(a.space==sW)=true:=by rw[hx];decide
          have hix:=fun nm=>Af (bz (n.attrs.take k)) a.space (by unfold bk;omega) nm
          have hSF:=pv n.attrs k
          cases hf:(bz (n.attrs.take k)).findIdx? (· == a.space) with
          | some j =>
            have hj:j<(bz (n.attrs.take k)).length:=(List.findIdx?_eq_some_iff_getElem.1 hf).1
            have hS2:bz (n.attrs.take (k+1))=bz (n.attrs.take k):=by rw[hS1];unfold iP;rw[if_neg h0',if_neg hx',if_pos (CF hf)]
            have hA2:cQ n sp (k+1)=cQ n sp k:=by unfold cQ;rw[hS2]
            have hsn:=hsn0 (110::iE (j+1)) (by unfold ym;rw[if_neg hx',JW hSF hf])
            simp only[List.cons_append,List.append_assoc,List.nil_append]at hsn
            have hil:=r6 (j+1) (by omega)
            have hit:=fun nm=>BD (j+1) (by omega) nm
            have e1:decide ((j:Int)<0)=false:=decide_eq_false (by omega)
            have e2:IntKind.i64.wrap ((j:Int)+1)=((j+1:Nat):Int):=aR (by omega) (by omega)
            rw[hf,bZ]at hix
            repeat' first|simp only[am,ah,results33,ntmps33,ap,hat,bG,hlt,d1,d2,h0,hxl.symm,hwk,hRl,htk,hsn,e1,e2,Hf,Bt,Bf,aw,b6,List.append_assoc,List.length_append,List.length_cons,List.length_nil,Lm,ag,seval,ae]|exact rfl|refine aa (v:=.any) ?_|(first|(refine ac ?_ (hit _) ?_)|(refine ab ?_ (fun _=>hit _) ?_))|((refine bn (xs:=?_) [b0+3] ?_ ?_ ?_ rfl (hix _) ?_);rotate_left 1)|omega|refine bg (ps:=[(1,4),(4,7),(1,9)]) (by decide +kernel) (by simp only[List.forall_mem_cons,List.getD_cons_zero,List.getD_cons_succ,results33,ntmps33,ap,hat,bG,hlt,d1,d2,h0,hxl.symm,hwk,hRl,htk,hsn,e1,e2,Hf,Bt,Bf,aw,b6,List.append_assoc,List.length_append,List.length_cons,List.length_nil,Lm,ag,seval,ae]<;>(try simp)<;>(try omega)) ?_|refine aG (by decide +kernel) ?_|((first|apply Ca|apply Cb)<;>intro hb)|refine Ai (by omega) ?_|(apply Ai<;>intro hb)
            all_goals ((refine aJ cm (k+1) [some b0,some (b0+1),some (b0+2),some (b0+3),some (b0+672)] ?_ ?_ ?_ ?_;rotate_left 2;(focus (show b0≤_;omega));(focus (refine⟨?_,?_⟩<;>(try simp only[bj,hS2,hA2,hRl1,hwk,aw,b6,Lm,ag,seval,ae,au])<;>(try omega)))))
            all_goals (first|(show n.attrs.length-(k+1)<n.attrs.length-k;omega)|exact hlt|skip)
          | none =>
            have hS2:bz (n.attrs.take (k+1))=bz (n.attrs.take k)++[a.space]:=by rw[hS1];unfold iP;rw[if_neg h0',if_neg hx',if_neg (by rw[CE hf];decide)]
            have hpre:=pv n.attrs (k+1)
            have hsn:=hsn0 (110::iE ((bz (n.attrs.take k)).length+1)) (by
              rw[hS2]at hpre
              unfold ym;rw[if_neg hx',JW hpre (CQ hf)])
            have hA2:cQ n sp (k+1)=cQ n sp k++[zp (bz (n.attrs.take k)).length a.space]:=by unfold cQ;rw[hS2,CH,List.append_assoc]
            have hAs:(cQ n sp k).map bG++[[.str [],.str ([120,109,108,110,115,58,110]++iE ((bz (n.attrs.take k)).length+1)),.str a.space]]=(cQ n sp (k+1)).map bG:=by rw[hA2];exact nz (cQ n sp k) (zp _ _)
            have hA3:(cQ n sp k).length+1=(cQ n sp (k+1)).length:=by rw[hA2,List.length_append];rfl
            have hSs:(bz (n.attrs.take k)).map wD++[[.str a.space]]=(bz (n.attrs.take (k+1))).map wD:=by rw[hS2];exact Jy _ _
            have hS3:(bz (n.attrs.take k)).length+1=(bz (n.attrs.take (k+1))).length:=by rw[hS2,List.length_append];rfl
            simp only[List.cons_append,List.append_assoc,List.nil_append]at hsn hAs
            generalize hJ:(bz (n.attrs.take k)).length=j at hsn hAs hS3 hSl hA2
            have hil:=r6 (j+1) (by omega)
            have hit:=fun nm=>BD (j+1) (by omega) nm
            have e1:decide ((-1:Int)<0)=true:=rfl
            have e2:IntKind.i64.wrap ((j:Int)+1)=((j+1:Nat):Int):=aR (by omega) (by omega)
            have htj:((bz (n.attrs.take k)).map wD).take j=(bz (n.attrs.take k)).map wD:=List.take_of_length_le (by rw[Lm];omega)
            rw[hf,dP]at hix
            repeat' first|simp only[am,ah,results33,ntmps33,ap,hat,bG,hlt,d1,d2,h0,hxl.symm,hwk,hRl,htk,hsn,hAs,hSs,hJ,e1,e2,htj,jx,Bt,Bf,aw,b6,List.append_assoc,List.length_append,List.length_cons,List.length_nil,Lm,ag,seval,ae]|exact rfl|refine aa (v:=.any) ?_|(first|(refine ac ?_ (hit _) ?_)|(refine ab ?_ (fun _=>hit _) ?_))|((refine bn (xs:=?_) [b0+3] ?_ ?_ ?_ rfl (hix _) ?_);rotate_left 1)|omega|refine bg (ps:=[(1,4),(4,7),(1,9)]) (by decide +kernel) (by simp only[List.forall_mem_cons,List.getD_cons_zero,List.getD_cons_succ,results33,ntmps33,ap,hat,bG,hlt,d1,d2,h0,hxl.symm,hwk,hRl,htk,hsn,hAs,hSs,hJ,e1,e2,htj,jx,Bt,Bf,aw,b6,List.append_assoc,List.length_append,List.length_cons,List.length_nil,Lm,ag,seval,ae]<;>(try simp)<;>(try omega)) ?_|refine aG (by decide +kernel) ?_|((first|apply Ca|apply Cb)<;>intro hb)|refine Ai (by omega) ?_|(apply Ai<;>intro hb)
            all_goals ((refine aJ cm (k+1) [some b0,some (b0+1),some (b0+736),some (b0+544),some (b0+1024)] ?_ ?_ ?_ ?_;rotate_left 2;(focus (show b0≤_;omega));(focus (refine⟨?_,?_⟩<;>(try simp only[bj,hS3,hA3,hRl1,hwk,aw,b6,Lm,ag,seval,ae,au])<;>(try omega)))))
            all_goals (first|(show n.attrs.length-(k+1)<n.attrs.length-k;omega)|exact hlt|skip)
    · have hke:k=n.attrs.length:=by omega
      subst hke
      have d1:decide ((n.attrs.length:Int)<(n.attrs.length:Int))=false:=decide_eq_false (by omega)
      have d2:decide (n.attrs.length<n.attrs.length)=false:=decide_eq_false (by omega)
      have hAl:=uY n sp n.attrs.length
      have hRl:=pB n (Nat.le_refl n.attrs.length)
      have htk:((ef n n.attrs.length).map bG).take n.attrs.length=(ef n n.attrs.length).map bG:=List.take_of_length_le (by rw[Lm];omega)
      have hsn:(cQ n sp n.attrs.length).map bG++(ef n n.attrs.length).map bG=(cQ n sp n.attrs.length++ef n n.attrs.length).map bG:=by rw[List.map_append]
      have hlen:(cQ n sp n.attrs.length++ef n n.attrs.length).length=(cQ n sp n.attrs.length).length+n.attrs.length:=by rw[List.length_append,hRl]
      ((repeat' first|simp only[am,ah,results33,ntmps33,ap,d1,d2,hRl,htk,hsn,hlen,qE,jx,aw,b6,Lm,ag,seval,ae]|exact rfl|refine aa (v:=.any) ?_|refine bg (ps:=[(1,4),(4,7),(1,9)]) (by decide +kernel) (by simp only[List.forall_mem_cons,List.getD_cons_zero,List.getD_cons_succ,results33,ntmps33,ap,d1,d2,hRl,htk,hsn,hlen,qE,jx,aw,b6,Lm,ag,seval,ae]<;>(try simp)<;>(try omega)) ?_|refine aG (by decide +kernel) ?_|((first|apply Ca|apply Cb)<;>intro hb)|refine Ai (by omega) ?_|(apply Ai<;>intro hb));(all_goals (first|(refine Fin.auto (r:=?_) (l:=?_) ?_ ?_ ?_ ?_ ?_ ?_ ?_;rotate_left 1;(simp only[results33,ntmps33,lV,nI,gg,iH,d1,d2,hRl,htk,hsn,hlen,qE,jx,aw,b6,Lm,ag,seval,ae]);(exact rfl);rotate_left 1;(simp only[V.owns,ownsL,List.cons_append,List.nil_append]);(exact rfl);all_goals (try simp only[results33,ntmps33,lV,nI,gg,iH,d1,d2,hRl,htk,hsn,hlen,qE,jx,aw,b6,Lm,Nv,ag,seval,ae]);all_goals (try simp only[au]))|skip)))
end Go.Proofs.YtcllbjanalhjgaaGreatDoor
