/-
 Texts joined: XOe,XOf.
-/
import Derived.Test.YtidmkaalhmeflaaGreatDoorR1
import Derived.Test.YtidmkaalhmeflaaGreatDoorQe
import Derived.Test.YtidmkaalhmeflaaGreatDoorQh
import Derived.Test.YtidmkaalhmeflaaGreatDoorQt
namespace Go.Proofs.YtidmkaalhmeflaaGreatDoor
set_option maxRecDepth 100000
set_option maxHeartbeats 32000000
set_option linter.unusedSimpArgs false
set_option linter.unusedVariables false
open Go Go.RowKit Vm Go.Lib Tryz
open Vm renaming aZ→Ca,bj→Cb
open And renaming intro→Ai
open List renaming length_map→Lm,not_mem_nil→Ln,map_nil→Lo,map_cons→Lc,mem_cons→Lk
open Bool renaming not_false→Bf,not_true→Bt
def P6:List UInt8:=[48,49,50,51,52,53,54,55,56,57,97,98,99,100,101,102,103,104,105,106,107,108,109,110,111,112,113,114,115,116,117,118,119,120,121,122]
def P9:List UInt8:=[48,48,48,49,48,50,48,51,48,52,48,53,48,54,48,55,48,56,48,57,49,48,49,49,49,50,49,51,49,52,49,53,49,54,49,55,49,56,49,57,50,48,50,49,50,50,50,51,50,52,50,53,50,54,50,55,50,56,50,57,51,48,51,49,51,50,51,51,51,52,51,53,51,54,51,55,51,56,51,57,52,48,52,49,52,50,52,51,52,52,52,53,52,54,52,55,52,56,52,57,53,48,53,49,53,50,53,51,53,52,53,53,53,54,53,55,53,56,53,57,54,48,54,49,54,50,54,51,54,52,54,53,54,54,54,55,54,56,54,57,55,48,55,49,55,50,55,51,55,52,55,53,55,54,55,55,55,56,55,57,56,48,56,49,56,50,56,51,56,52,56,53,56,54,56,55,56,56,56,57,57,48,57,49,57,50,57,51,57,52,57,53,57,54,57,55,57,56,57,57]
theorem QE:∀ i,i<10→(P6.drop i).take (i+1-i)=dR i:=by decide +kernel
theorem Gh:∀ i,i<100 → ¬ i<10→(P9.drop (i*2)).take (i*2+2-i*2)=dR i:=by decide +kernel
theorem SO (i:Nat)(hi:i<100)(nm:Nat):Ev cx 203 nm [.int .i64 i] aq.nil (.str (dR i)) []:=by
 by_cases h:i<10
 ·have d1:decide ((i:Int)<10)=true:=decide_eq_true (by omega)
  have d2:IntKind.i64.wrap ((i:Int)+1)=((i+1:Nat):Int):=aN (by omega) (by omega)
  have d3:(i:Int)≤((i+1:Nat):Int):=by omega
  have hz:=QE i h
  unfold P6 at hz
  refine ay rfl (fun cargs w=>call203 cargs w) func203 rfl mixed (by kernel_rfl) rfl ?_;intro b0 hb0
  (repeat' first|simp only[al,aj,results203,ntmps203,am,d1,d2,hz,List.length_cons,List.length_nil,ai,seval,ah]|exact rfl|refine aa (v:=.any) ?_|((first|apply Ca|apply Cb)<;>intro hb)|refine Ai (by omega) ?_|(apply Ai<;>intro hb)|refine Fin.pure ?_ ?_ ?_|simp only[au])
 ·have d1:decide ((i:Int)<10)=false:=decide_eq_false (by omega)
  have d2:IntKind.i64.wrap ((i:Int)*2)=((i*2:Nat):Int):=aN (by omega) (by omega)
  have d3:IntKind.i64.wrap (((i*2:Nat):Int)+2)=((i*2+2:Nat):Int):=aN (by omega) (by omega)
  have hz:=Gh i hi h
  unfold P9 at hz
  refine ay rfl (fun cargs w=>call203 cargs w) func203 rfl mixed (by kernel_rfl) rfl ?_;intro b0 hb0
  (repeat' first|simp only[al,aj,results203,ntmps203,am,d1,d2,d3,hz,List.append_eq,List.cons_append,List.nil_append,List.length_cons,List.length_nil,ai,seval,ah]|exact rfl|refine aa (v:=.any) ?_|((first|apply Ca|apply Cb)<;>intro hb)|refine Ai (by omega) ?_|(apply Ai<;>intro hb)|refine Fin.pure ?_ ?_ ?_|simp only[au])
theorem Qs (i:Nat)(hi:i<100)(nm:Nat):Ev cx 169 nm [.int .i64 i,.int .i64 10] aq.nil (.str (dR i)) []:=by
 have d1:decide ((0:Int)≤(i:Int))=true:=decide_eq_true (by omega)
 have d2:decide ((i:Int)<100)=true:=decide_eq_true (by omega)
 refine ay rfl (fun cargs w=>call169 cargs w) func169 rfl mixed (by kernel_rfl) rfl ?_;intro b0 hb0
 (repeat' first|simp only[al,aj,results169,ntmps169,am,d1,d2,ai,seval,ah]|exact rfl|refine aa (v:=.any) ?_|(first|(refine ac ?_ (SO i hi _) ?_)|(refine ab ?_ (fun _=>SO i hi _) ?_))|((first|apply Ca|apply Cb)<;>intro hb)|refine Ai (by omega) ?_|(apply Ai<;>intro hb)|refine Fin.pure ?_ ?_ ?_|simp only[au])
theorem SS (i:Nat)(hi:i<100)(nm:Nat):Ev cx 131 nm [.int .i64 i] aq.nil (.str (dR i)) []:=by
 refine ay rfl (fun cargs w=>call131 cargs w) func131 rfl mixed (by kernel_rfl) rfl ?_;intro b0 hb0
 (repeat' first|simp only[al,aj,results131,ntmps131,am,ai,seval,ah]|exact rfl|refine aa (v:=.any) ?_|(first|(refine ac ?_ (Qs i hi _) ?_)|(refine ab ?_ (fun _=>Qs i hi _) ?_))|((first|apply Ca|apply Cb)<;>intro hb)|refine Ai (by omega) ?_|(apply Ai<;>intro hb)|refine Fin.pure ?_ ?_ ?_|simp only[au])
theorem OF (i:Nat)(hi:i<100)(nm:Nat):Ev cx 97 nm [.int .i64 i] aq.nil (.str (dR i)) []:=by
 refine ay rfl (fun cargs w=>call97 cargs w) func97 rfl mixed (by kernel_rfl) rfl ?_;intro b0 hb0
 (repeat' first|simp only[al,aj,results97,ntmps97,am,ai,seval,ah]|exact rfl|refine aa (v:=.any) ?_|(first|(refine ac ?_ (SS i hi _) ?_)|(refine ab ?_ (fun _=>SS i hi _) ?_))|((first|apply Ca|apply Cb)<;>intro hb)|refine Ai (by omega) ?_|(apply Ai<;>intro hb)|refine Fin.pure ?_ ?_ ?_|simp only[au])
def xJ (s:List UInt8):List V:=[.str s]
theorem Ru (l:List (List UInt8)):plainLL (l.map xJ)=true:=cB _ (fun _=>rfl) l
theorem No (l:List (List UInt8))(s:List UInt8)(hn:l.length≤bh)(nm:Nat):Ev cx 96 nm [.sl false 1 (l.map xJ),.str s] aq.nil (.int .i64 (ES (l.findIdx? (· == s)))) []:=by
 unfold bh at hn
 refine ay rfl (fun cargs w=>call96 cargs w) func96 rfl mixed (by kernel_rfl) rfl ?_;intro b0 hb0
 repeat' first|simp only[al,aj,results96,ntmps96,am,ai,seval,ah]|exact rfl|refine aa (v:=.any) ?_|((first|apply Ca|apply Cb)<;>intro hb)|refine Ai (by omega) ?_|(apply Ai<;>intro hb)
 (refine aU co (fun x:Nat=>l.length-x) (fun x=>x≤l.length∧(l.take x).any (· == s)=false) (b0+16) (fun x=>[(0,.sl false 1 (l.map xJ)),(1,.str s),(7,.int .i64 l.length),(8,.int .i64 x)]) (fun x=>[]) (0) [] ?_ ?_ ?_ ?_;rotate_left 1;(focus (show b0≤_;omega));(focus (refine⟨?_,?_⟩<;>(try simp only[bk,Lm,Ru,ai,seval,ah,au])<;>(try omega)));rotate_left 1)
 ·exact⟨Nat.zero_le _,by simp⟩
 ·rintro k ⟨hk,hno⟩
  by_cases hlt:k<l.length
  ·obtain⟨h,hh⟩:∃ h,l[k]? = some h:=⟨_,List.getElem?_eq_getElem hlt⟩
   have hat:(l.map xJ)[k]? = some (xJ h):=by rw[List.getElem?_map,hh];rfl
   have hd:decide (k<l.length)=true:=decide_eq_true hlt
   have hwk:IntKind.i64.wrap ((k:Int)+1)=((k+1:Nat):Int):=aN (by omega) (by omega)
   have hc:(s==h)=(h==s):=by rw[Bool.eq_iff_iff];simp;exact⟨Eq.symm,Eq.symm⟩
   cases hp:(h==s) with
   | true =>
    have hfd:=lG (p:=(· == s)) hno hh hp
    rw[hp]at hc
    (repeat' first|simp only[al,aj,results96,ntmps96,am,hat,xJ,hlt,hd,hwk,hfd,hc,b9,Lm,ai,seval,ah]|exact rfl|refine aa (v:=.any) ?_|((first|apply Ca|apply Cb)<;>intro hb)|refine Ai (by omega) ?_|(apply Ai<;>intro hb)|refine Fin.pure ?_ ?_ ?_|simp only[au])
   | false =>
    have hn':=fR (p:=(· == s)) hno hh hp
    rw[hp]at hc
    repeat' first|simp only[al,aj,results96,ntmps96,am,hat,xJ,hlt,hd,hwk,hc,Lm,ai,seval,ah]|exact rfl|refine aa (v:=.any) ?_|((first|apply Ca|apply Cb)<;>intro hb)|refine Ai (by omega) ?_|(apply Ai<;>intro hb)
    all_goals ((refine aJ co (k+1) [] ?_ ?_ ?_ ?_;rotate_left 2;(focus (show b0≤_;omega));(focus (refine⟨?_,?_⟩<;>(try simp only[bk,Ru,hwk,ai,seval,ah,au])<;>(try omega)))))
    all_goals (first|(show l.length-(k+1)<l.length-k;omega)|exact⟨hlt,hn'⟩|skip)
  ·have hke:k=l.length:=by omega
   subst hke
   rw[List.take_length]at hno
   have hfd:=jd hno
   have hd:decide (l.length<l.length)=false:=decide_eq_false (by omega)
   (repeat' first|simp only[al,aj,results96,ntmps96,am,hd,hfd,ec,Lm,ai,seval,ah]|exact rfl|refine aa (v:=.any) ?_|((first|apply Ca|apply Cb)<;>intro hb)|refine Ai (by omega) ?_|(apply Ai<;>intro hb)|refine Fin.pure ?_ ?_ ?_|simp only[au])
theorem QV (s:List UInt8)(d:UInt8):decide ((0:Int)≤indexByte s d)=s.contains d:=by
 cases h:dP d s with
 | none =>
  rw[ii.2 h]
  cases hc:s.contains d with
  | false=>rfl
  | true=>exact absurd (List.contains_iff_mem.1 hc) (fQ.1 h)
 | some p =>
  obtain⟨a,b⟩:=p
  have:=(jw h).1
  rw[this,decide_eq_true (by omega),List.contains_iff_mem.2 (by rw[(eG h).1];simp)]
theorem P2 (s:List UInt8)(d:UInt8)(nm:Nat):Ev cx 122 nm [.str s,.str [d]] aq.nil (.int .i64 (indexByte s d)) []:=by
 refine ay rfl (fun cargs w=>call122 cargs w) func122 rfl mixed (by kernel_rfl) rfl ?_;intro b0 hb0
 (repeat' first|simp only[al,aj,results122,ntmps122,am,ai,seval,ah]|exact rfl|refine aa (v:=.any) ?_|(first|(refine ac ?_ (iK s d _) ?_)|(refine ab ?_ (fun _=>iK s d _) ?_))|((first|apply Ca|apply Cb)<;>intro hb)|refine Ai (by omega) ?_|(apply Ai<;>intro hb)|refine Fin.pure ?_ ?_ ?_|simp only[au])
theorem SP (s:List UInt8)(d:UInt8)(nm:Nat):Ev cx 90 nm [.str s,.str [d]] aq.nil (.bool (s.contains d)) []:=by
 rw[← QV]
 refine ay rfl (fun cargs w=>call90 cargs w) func90 rfl mixed (by kernel_rfl) rfl ?_;intro b0 hb0
 (repeat' first|simp only[al,aj,results90,ntmps90,am,ai,seval,ah]|exact rfl|refine aa (v:=.any) ?_|(first|(refine ac ?_ (P2 s d _) ?_)|(refine ab ?_ (fun _=>P2 s d _) ?_))|((first|apply Ca|apply Cb)<;>intro hb)|refine Ai (by omega) ?_|(apply Ai<;>intro hb)|refine Fin.pure ?_ ?_ ?_|simp only[au])
def Sf (K:KnT):List (V×V):=K.map fun p=>(.str p.1,.agg [.str p.2])
theorem Rb:yZ cx.P 67=some (9,70):=by kernel_rfl
theorem P1:NG cx.P 67=true:=by kernel_rfl
theorem P0:AA cx.P 67=true:=by kernel_rfl
theorem SJ (p:List UInt8):∀(K:KnT),eh (.str p) (Sf K)=some ((dS p K).map fun v=>.agg [.str v])
 | []=>rfl
 | q::r=>by
  have ih:=SJ p r
  simp only[Sf,Lc]at ih ⊢
  simp only[eh,lh,dS]
  cases h:(p==q.1) with
  | true=>simp
  | false=>simpa using ih
theorem Qp (p v:List UInt8):∀(K:KnT),nO (.str p) (.agg [.str v]) (Sf K)=Sf (qY p v K)
 | []=>rfl
 | q::r=>by
  have ih:=Qp p v r
  simp only[Sf,Lc]at ih ⊢
  simp only[nO,lh,qY]
  cases h:(p==q.1) with
  | true=>simp
  | false=>simpa using ih
theorem Qo (y:Nat)(K:KnT)(M:aq)(nm:Nat)(hM:M y=some (eV (Sf K)))(ho:∀ z,(M z).isSome=true→z∈[y])(hlt:y<nm):Ev cx 47 nm [.mp y] M (.mp nm) [(y,some (eV (Sf K))),(nm,some (eV (Sf K)))]:=by
 have hc:=fun (M':aq) (m:Nat) (h1:M' y=some (eV (Sf K))) h2 h3=>Ev.clone (cx:=cx) func87 (by kernel_rfl) (by kernel_rfl) (by kernel_rfl) (by kernel_rfl) 67 y (Sf K) M' m h1 h2 h3
 refine ay rfl (fun cargs w=>call47 cargs w) func47 rfl mixed (by kernel_rfl) rfl ?_;intro b0 hb0
 have k1:y<b0:=ax hb0 (by rw[hM];rfl)
 have z0:=aT k1;have z1:=aw k1;have z2:=aK k1;have z3:=ao k1
 have g1:(nm=y)=False:=eq_false (by omega)
 repeat' first|simp only[al,aj,results47,ntmps47,am,P1,hM,z0,z1,z2,z3,aR,ai,seval,ah]|exact rfl|refine aa (v:=.any) ?_|(refine ag ?_ [y] (hc _ _ ?_ ap (by omega)) ?_ ?_)|(refine vq rfl (by kernel_rfl) ?_)|(refine iZ (u:=?_) ?_ P0 ?_)|((first|apply Ca|apply Cb)<;>intro hb)|refine Ai (by omega) ?_|(apply Ai<;>intro hb)
 all_goals ((refine Fin.give [(y,none),(b0+80,some 0)] [] ?_ ?_ ?_ ?_ ?_ (fun q hq=>by have hqq:=ho q hq;first|(simp only[aF,tgt,Lc,Lo,Lk,Ln,or_false]at hqq ⊢;omega)|(simp only[aF,tgt,Lc,Lo,Lk,Ln,or_false]at hqq))<;>(try simp only[results47,ntmps47,am,hM,z0,z1,z2,z3,g1,c6,bR,eH,ai,seval,ah])<;>(try simp only[au])<;>(try omega)))
theorem RW (l:List At)(a:At):l.map bG++[[.str a.space,.str a.name,.str a.value]]=(l++[a]).map bG:=by simp[bG]
theorem QN (l:List (List UInt8))(a:List UInt8):l.map xJ++[[.str a]]=(l++[a]).map xJ:=by simp[xJ]
theorem RH (l:List At):(l.map bG).take l.length=l.map bG:=c7 _ _
theorem QH (l:List (List UInt8)):(l.map xJ).take l.length=l.map xJ:=c7 _ _
theorem Sx {f:At→At}{l:List At}{k:Nat}{a:At}(h:l[k]? = some a):(l.take (k+1)).map f=(l.take k).map f++[f a]:=by
 obtain⟨hk,rfl⟩:=List.getElem?_eq_some_iff.1 h
 rw[List.take_succ_eq_append_getElem hk,List.map_append];rfl
theorem SB:Rr []=[]:=rfl
def Rt (n:Nd)(sp:List UInt8)(k:Nat):List At:=SI n sp++Rx (Rr (n.attrs.take k))
def eu (n:Nd)(k:Nat):List At:=(n.attrs.take k).map (RC (Rr n.attrs))
theorem vp (n:Nd)(sp:List UInt8)(k:Nat):(Rt n sp k).length≤1+n.attrs.length:=by
 have h1:=mF (n.attrs.take k)
 have h2:(SI n sp).length≤1:=by unfold SI;split<;>simp
 unfold Rt
 rw[List.length_append,SR]
 simp only[List.length_take]at h1
 omega
theorem Se (n:Nd){k:Nat}(hk:k≤n.attrs.length):(eu n k).length=k:=by unfold eu;rw[Lm,List.length_take];omega
theorem QL (n:Nd)(sp:List UInt8)(hn:n.attrs.length≤16)(hl:∀ a∈n.attrs,a.name.length≤1000000)(nm:Nat):Ev cx 57 nm [.agg (ba n),.str sp] aq.nil (.agg (ba (bE n sp))) []:=by
  refine Ev.freeze (v:=.agg [.int .u8 n.kind,.str [],.str n.name,.own nm 0 (bE n sp).attrs.length,.str [],.int .i64 n.many]) (eff:=[(nm,some ⟨3,(bE n sp).attrs.map bG⟩)]) ?_ ?_ ?_
  rotate_left 1
  · have hpl:=av (bE n sp).attrs
    have htk:=RH (bE n sp).attrs
    simp only[al,aj,am,hpl,htk,Lm,ai,seval,ah]<;>omega
  · have hpl:=av (bE n sp).attrs
    have htk:=RH (bE n sp).attrs
    simp only[al,aj,am,ba,hpl,htk,Lm,ai,seval,ah]
    rfl
  have hall:(bE n sp).attrs=Rt n sp n.attrs.length++eu n n.attrs.length:=by unfold bE Rt eu;rw[List.take_length]
  rw[hall]
  have hS0:Rr (n.attrs.take 0)=[]:=by simp[Rr]
  have hR0:eu n 0=[]:=by simp[eu]
  rcases Bool.eq_false_or_eq_true (n.space==sp) with he|he
  focus
    have hA0:Rt n sp 0=[]:=by unfold Rt SI;simp[he,Rr,Rx]
    refine ay rfl (fun cargs w=>call57 cargs w) func57 rfl mixed (by kernel_rfl) rfl ?_;intro b0 hb0
    repeat' first|simp only[al,aj,results57,ntmps57,am,ba,he,Bt,Bf,av,Lm,ai,seval,ah]|exact rfl|refine aa (v:=.any) ?_|refine bn (ps:=[(1,4),(4,7),(1,9)]) (by decide +kernel) (by simp only[List.forall_mem_cons,List.getD_cons_zero,List.getD_cons_succ,results57,ntmps57,am,ba,he,Bt,Bf,av,Lm,ai,seval,ah]<;>(try simp)<;>(try omega)) ?_|refine aC (by decide +kernel) ?_|((first|apply Ca|apply Cb)<;>intro hb)|refine Ai (by omega) ?_|(apply Ai<;>intro hb)
    (refine aU co (fun x:Nat=>n.attrs.length-x) (fun x=>x≤n.attrs.length) (b0+16) (fun x=>[(4,.ptr b0 0 0),(5,.ptr (b0+1) 0 0),(6,.own (b0+3) 0 (Rr (n.attrs.take x)).length),(7,.own (b0+4) 0 (eu n x).length),(33,.sl false 3 (n.attrs.map bG)),(34,.int .i64 n.attrs.length),(35,.int .i64 x)]) (fun x=>[(b0,⟨6,[[.int .u8 0,.str [],.str [],.nils,.str [],.int .i64 0]]⟩),(b0+1,⟨6,[[.int .u8 n.kind,.str [],.str n.name,.own (b0+2) 0 (Rt n sp x).length,.str [],.int .i64 n.many]]⟩),(b0+2,⟨3,(Rt n sp x).map bG⟩),(b0+3,⟨1,(Rr (n.attrs.take x)).map xJ⟩),(b0+4,⟨3,(eu n x).map bG⟩)]) (0) [some (b0+16),some (b0+144),none,none,none] ?_ ?_ ?_ ?_;rotate_left 1;(focus (show b0≤_;omega));(focus (refine⟨?_,?_⟩<;>(try simp only[bk,hA0,hS0,hR0,SB,List.take_zero,aV,bG,av,Ru,Lc,Lo,List.length_cons,List.length_nil,Lm,ai,seval,ah,au])<;>(try omega)));rotate_left 1)
  rotate_left 2
  focus
    have hA0:Rt n sp 0=[⟨[],[120,109,108,110,115],n.space⟩]:=by unfold Rt SI;simp[he,Rr,Rx]
    refine ay rfl (fun cargs w=>call57 cargs w) func57 rfl mixed (by kernel_rfl) rfl ?_;intro b0 hb0
    repeat' first|simp only[al,aj,results57,ntmps57,am,ba,he,Bt,Bf,av,Lm,ai,seval,ah]|exact rfl|refine aa (v:=.any) ?_|refine bn (ps:=[(1,4),(4,7),(1,9)]) (by decide +kernel) (by simp only[List.forall_mem_cons,List.getD_cons_zero,List.getD_cons_succ,results57,ntmps57,am,ba,he,Bt,Bf,av,Lm,ai,seval,ah]<;>(try simp)<;>(try omega)) ?_|refine aC (by decide +kernel) ?_|((first|apply Ca|apply Cb)<;>intro hb)|refine Ai (by omega) ?_|(apply Ai<;>intro hb)
    (refine aU co (fun x:Nat=>n.attrs.length-x) (fun x=>x≤n.attrs.length) (b0+16) (fun x=>[(4,.ptr b0 0 0),(5,.ptr (b0+1) 0 0),(6,.own (b0+3) 0 (Rr (n.attrs.take x)).length),(7,.own (b0+4) 0 (eu n x).length),(33,.sl false 3 (n.attrs.map bG)),(34,.int .i64 n.attrs.length),(35,.int .i64 x)]) (fun x=>[(b0,⟨6,[[.int .u8 0,.str [],.str [],.nils,.str [],.int .i64 0]]⟩),(b0+1,⟨6,[[.int .u8 n.kind,.str [],.str n.name,.own (b0+2) 0 (Rt n sp x).length,.str [],.int .i64 n.many]]⟩),(b0+2,⟨3,(Rt n sp x).map bG⟩),(b0+3,⟨1,(Rr (n.attrs.take x)).map xJ⟩),(b0+4,⟨3,(eu n x).map bG⟩)]) (0) [some (b0+16),some (b0+144),some (b0+336),none,none] ?_ ?_ ?_ ?_;rotate_left 1;(focus (show b0≤_;omega));(focus (refine⟨?_,?_⟩<;>(try simp only[bk,hA0,hS0,hR0,SB,List.take_zero,aV,bG,av,Ru,Lc,Lo,List.length_cons,List.length_nil,Lm,ai,seval,ah,au])<;>(try omega)));rotate_left 1)
  all_goals (first|exact Nat.zero_le _|skip)
  all_goals
    intro k hk
    by_cases hlt:k<n.attrs.length
    · obtain ⟨a,ha⟩:∃ a,n.attrs[k]? = some a:=⟨_,List.getElem?_eq_getElem hlt⟩
      have hat:=oD ha
      have d1:decide ((k:Int)<(n.attrs.length:Int))=true:=decide_eq_true (by omega)
      have d2:decide (k<n.attrs.length)=true:=decide_eq_true hlt
      have hwk:IntKind.i64.wrap ((k:Int)+1)=((k+1:Nat):Int):=aN (by omega) (by omega)
      have hAl:=vp n sp k
      have hRl:=Se n hk
      have hRl1:=Se n (k:=k+1) hlt
      have hSl:=mF (n.attrs.take k)
      rw[List.length_take]at hSl
      have hS1:=AT ha
      have hR1:eu n (k+1)=eu n k++[RC (Rr n.attrs) a]:=Sx ha
      have hA1:Rt n sp (k+1)=SI n sp++Rx (Rr (n.attrs.take (k+1))):=rfl
      have htk:((eu n k).map bG).take k=(eu n k).map bG:=List.take_of_length_le (by rw[Lm];omega)
      have hna:=hl a (List.mem_of_getElem? ha)
      have hpre:=R3 n.attrs (k+1)
      cases h0:(a.space==[]) with
      | true =>
        have hrel:RC (Rr n.attrs) a=⟨[],a.name,a.value⟩:=by unfold RC;rw[h0];rfl
        have hS2:Rr (n.attrs.take (k+1))=Rr (n.attrs.take k):=by rw[hS1];unfold gr;rw[if_pos h0]
        have hA2:Rt n sp (k+1)=Rt n sp k:=by unfold Rt;rw[hS2]
        have hsn:(eu n k).map bG++[[.str [],.str a.name,.str a.value]]=(eu n (k+1)).map bG:=by rw[hR1,hrel];exact RW (eu n k) ⟨[],a.name,a.value⟩
        repeat' first|simp only[al,aj,results57,ntmps57,am,hat,bG,hlt,d1,d2,h0,hwk,hRl,htk,hsn,Bt,Bf,av,Ru,Lm,ai,seval,ah]|exact rfl|refine aa (v:=.any) ?_|refine bn (ps:=[(1,4),(4,7),(1,9)]) (by decide +kernel) (by simp only[List.forall_mem_cons,List.getD_cons_zero,List.getD_cons_succ,results57,ntmps57,am,hat,bG,hlt,d1,d2,h0,hwk,hRl,htk,hsn,Bt,Bf,av,Ru,Lm,ai,seval,ah]<;>(try simp)<;>(try omega)) ?_|refine aC (by decide +kernel) ?_|((first|apply Ca|apply Cb)<;>intro hb)|refine Ai (by omega) ?_|(apply Ai<;>intro hb)
        all_goals ((refine aJ co (k+1) [some b0,some (b0+1),some (b0+2),some (b0+3),some (b0+304)] ?_ ?_ ?_ ?_;rotate_left 2;(focus (show b0≤_;omega));(focus (refine⟨?_,?_⟩<;>(try simp only[bk,hS2,hA2,hRl1,hwk,av,Ru,Lm,ai,seval,ah,au])<;>(try omega)))))
        all_goals (first|(show n.attrs.length-(k+1)<n.attrs.length-k;omega)|exact hlt|skip)
      | false =>
        have hxl:(a.space==RE)=(a.space==[104,116,116,112,58,47,47,119,119,119,46,119,51,46,111,114,103,47,88,77,76,47,49,57,57,56,47,110,97,109,101,115,112,97,99,101]):=rfl
        have h0':¬(a.space==[])=true:=by rw[h0];decide
        have hrel:RC (Rr n.attrs) a=⟨[],RP (Rr n.attrs) a.space++58::a.name,a.value⟩:=by unfold RC;rw[if_neg h0']
        have hsn0:∀ p:List UInt8,RP (Rr n.attrs) a.space=p→(eu n k).map bG++[[.str [],.str (p++[58]++a.name),.str a.value]]=(eu n (k+1)).map bG:=fun p hp=>by
          rw[hR1,hrel,hp,show p++[58]++a.name=p++58::a.name by simp];exact RW (eu n k) ⟨[],p++58::a.name,a.value⟩
        cases hx:(a.space==RE) with
        | true =>
          have hS2:Rr (n.attrs.take (k+1))=Rr (n.attrs.take k):=by rw[hS1];unfold gr;rw[if_neg h0',if_pos hx]
          have hA2:Rt n sp (k+1)=Rt n sp k:=by unfold Rt;rw[hS2]
          have hsn:=hsn0 [120,109,108] (by unfold RP;rw[if_pos hx])
          simp only[List.cons_append,List.nil_append]at hsn
          rw[hx]at hxl
          repeat' first|simp only[al,aj,results57,ntmps57,am,hat,bG,hlt,d1,d2,h0,hxl.symm,hwk,hRl,htk,hsn,Bt,Bf,av,Ru,List.length_append,List.length_cons,List.length_nil,Lm,ai,seval,ah]|exact rfl|refine aa (v:=.any) ?_|refine bn (ps:=[(1,4),(4,7),(1,9)]) (by decide +kernel) (by simp only[List.forall_mem_cons,List.getD_cons_zero,List.getD_cons_succ,results57,ntmps57,am,hat,bG,hlt,d1,d2,h0,hxl.symm,hwk,hRl,htk,hsn,Bt,Bf,av,Ru,List.length_append,List.length_cons,List.length_nil,Lm,ai,seval,ah]<;>(try simp)<;>(try omega)) ?_|refine aC (by decide +kernel) ?_|((first|apply Ca|apply Cb)<;>intro hb)|refine Ai (by omega) ?_|(apply Ai<;>intro hb)
          all_goals ((refine aJ co (k+1) [some b0,some (b0+1),some (b0+2),some (b0+3),some (b0+480)] ?_ ?_ ?_ ?_;rotate_left 2;(focus (show b0≤_;omega));(focus (refine⟨?_,?_⟩<;>(try simp only[bk,hS2,hA2,hRl1,hwk,av,Ru,Lm,ai,seval,ah,au])<;>(try omega)))))
          all_goals (first|(show n.attrs.length-(k+1)<n.attrs.length-k;omega)|exact hlt|skip)
        | false =>
          rw[hx]at hxl
          have hx':¬(a.space==RE)=true:=by rw[hx];decide
          have hix:=fun nm=>No (Rr (n.attrs.take k)) a.space (by unfold bh;omega) nm
          have hSF:=R3 n.attrs k
          cases hf:(Rr (n.attrs.take k)).findIdx? (· == a.space) with
          | some j =>
            have hj:j<(Rr (n.attrs.take k)).length:=(List.findIdx?_eq_some_iff_getElem.1 hf).1
            have hS2:Rr (n.attrs.take (k+1))=Rr (n.attrs.take k):=by rw[hS1];unfold gr;rw[if_neg h0',if_neg hx',if_pos (Qm hf)]
            have hA2:Rt n sp (k+1)=Rt n sp k:=by unfold Rt;rw[hS2]
            have hsn:=hsn0 (110::dR (j+1)) (by unfold RP;rw[if_neg hx',LP hSF hf])
            simp only[List.cons_append,List.append_assoc,List.nil_append]at hsn
            have hil:=Sq (j+1) (by omega)
            have hit:=fun nm=>OF (j+1) (by omega) nm
            have e1:decide ((j:Int)<0)=false:=decide_eq_false (by omega)
            have e2:IntKind.i64.wrap ((j:Int)+1)=((j+1:Nat):Int):=aN (by omega) (by omega)
            rw[hf,b9]at hix
            repeat' first|simp only[al,aj,results57,ntmps57,am,hat,bG,hlt,d1,d2,h0,hxl.symm,hwk,hRl,htk,hsn,e1,e2,QH,Bt,Bf,av,Ru,List.append_assoc,List.length_append,List.length_cons,List.length_nil,Lm,ai,seval,ah]|exact rfl|refine aa (v:=.any) ?_|(first|(refine ac ?_ (hit _) ?_)|(refine ab ?_ (fun _=>hit _) ?_))|((refine bq (xs:=?_) [b0+3] ?_ ?_ ?_ rfl (hix _) ?_);rotate_left 1)|omega|refine bn (ps:=[(1,4),(4,7),(1,9)]) (by decide +kernel) (by simp only[List.forall_mem_cons,List.getD_cons_zero,List.getD_cons_succ,results57,ntmps57,am,hat,bG,hlt,d1,d2,h0,hxl.symm,hwk,hRl,htk,hsn,e1,e2,QH,Bt,Bf,av,Ru,List.append_assoc,List.length_append,List.length_cons,List.length_nil,Lm,ai,seval,ah]<;>(try simp)<;>(try omega)) ?_|refine aC (by decide +kernel) ?_|((first|apply Ca|apply Cb)<;>intro hb)|refine Ai (by omega) ?_|(apply Ai<;>intro hb)
            all_goals ((refine aJ co (k+1) [some b0,some (b0+1),some (b0+2),some (b0+3),some (b0+672)] ?_ ?_ ?_ ?_;rotate_left 2;(focus (show b0≤_;omega));(focus (refine⟨?_,?_⟩<;>(try simp only[bk,hS2,hA2,hRl1,hwk,av,Ru,Lm,ai,seval,ah,au])<;>(try omega)))))
            all_goals (first|(show n.attrs.length-(k+1)<n.attrs.length-k;omega)|exact hlt|skip)
          | none =>
            have hS2:Rr (n.attrs.take (k+1))=Rr (n.attrs.take k)++[a.space]:=by rw[hS1];unfold gr;rw[if_neg h0',if_neg hx',if_neg (by rw[Sw hf];decide)]
            have hpre:=R3 n.attrs (k+1)
            have hsn:=hsn0 (110::dR ((Rr (n.attrs.take k)).length+1)) (by
              rw[hS2]at hpre
              unfold RP;rw[if_neg hx',LP hpre (Qb hf)])
            have hA2:Rt n sp (k+1)=Rt n sp k++[Sd (Rr (n.attrs.take k)).length a.space]:=by unfold Rt;rw[hS2,Qi,List.append_assoc]
            have hAs:(Rt n sp k).map bG++[[.str [],.str ([120,109,108,110,115,58,110]++dR ((Rr (n.attrs.take k)).length+1)),.str a.space]]=(Rt n sp (k+1)).map bG:=by rw[hA2];exact RW (Rt n sp k) (Sd _ _)
            have hA3:(Rt n sp k).length+1=(Rt n sp (k+1)).length:=by rw[hA2,List.length_append];rfl
            have hSs:(Rr (n.attrs.take k)).map xJ++[[.str a.space]]=(Rr (n.attrs.take (k+1))).map xJ:=by rw[hS2];exact QN _ _
            have hS3:(Rr (n.attrs.take k)).length+1=(Rr (n.attrs.take (k+1))).length:=by rw[hS2,List.length_append];rfl
            simp only[List.cons_append,List.append_assoc,List.nil_append]at hsn hAs
            generalize hJ:(Rr (n.attrs.take k)).length=j at hsn hAs hS3 hSl hA2
            have hil:=Sq (j+1) (by omega)
            have hit:=fun nm=>OF (j+1) (by omega) nm
            have e1:decide ((-1:Int)<0)=true:=rfl
            have e2:IntKind.i64.wrap ((j:Int)+1)=((j+1:Nat):Int):=aN (by omega) (by omega)
            have htj:((Rr (n.attrs.take k)).map xJ).take j=(Rr (n.attrs.take k)).map xJ:=List.take_of_length_le (by rw[Lm];omega)
            rw[hf,ec]at hix
            repeat' first|simp only[al,aj,results57,ntmps57,am,hat,bG,hlt,d1,d2,h0,hxl.symm,hwk,hRl,htk,hsn,hAs,hSs,hJ,e1,e2,htj,RH,Bt,Bf,av,Ru,List.append_assoc,List.length_append,List.length_cons,List.length_nil,Lm,ai,seval,ah]|exact rfl|refine aa (v:=.any) ?_|(first|(refine ac ?_ (hit _) ?_)|(refine ab ?_ (fun _=>hit _) ?_))|((refine bq (xs:=?_) [b0+3] ?_ ?_ ?_ rfl (hix _) ?_);rotate_left 1)|omega|refine bn (ps:=[(1,4),(4,7),(1,9)]) (by decide +kernel) (by simp only[List.forall_mem_cons,List.getD_cons_zero,List.getD_cons_succ,results57,ntmps57,am,hat,bG,hlt,d1,d2,h0,hxl.symm,hwk,hRl,htk,hsn,hAs,hSs,hJ,e1,e2,htj,RH,Bt,Bf,av,Ru,List.append_assoc,List.length_append,List.length_cons,List.length_nil,Lm,ai,seval,ah]<;>(try simp)<;>(try omega)) ?_|refine aC (by decide +kernel) ?_|((first|apply Ca|apply Cb)<;>intro hb)|refine Ai (by omega) ?_|(apply Ai<;>intro hb)
            all_goals ((refine aJ co (k+1) [some b0,some (b0+1),some (b0+736),some (b0+544),some (b0+1024)] ?_ ?_ ?_ ?_;rotate_left 2;(focus (show b0≤_;omega));(focus (refine⟨?_,?_⟩<;>(try simp only[bk,hS3,hA3,hRl1,hwk,av,Ru,Lm,ai,seval,ah,au])<;>(try omega)))))
            all_goals (first|(show n.attrs.length-(k+1)<n.attrs.length-k;omega)|exact hlt|skip)
    · have hke:k=n.attrs.length:=by omega
      subst hke
      have d1:decide ((n.attrs.length:Int)<(n.attrs.length:Int))=false:=decide_eq_false (by omega)
      have d2:decide (n.attrs.length<n.attrs.length)=false:=decide_eq_false (by omega)
      have hAl:=vp n sp n.attrs.length
      have hRl:=Se n (Nat.le_refl n.attrs.length)
      have htk:((eu n n.attrs.length).map bG).take n.attrs.length=(eu n n.attrs.length).map bG:=List.take_of_length_le (by rw[Lm];omega)
      have hsn:(Rt n sp n.attrs.length).map bG++(eu n n.attrs.length).map bG=(Rt n sp n.attrs.length++eu n n.attrs.length).map bG:=by rw[List.map_append]
      have hlen:(Rt n sp n.attrs.length++eu n n.attrs.length).length=(Rt n sp n.attrs.length).length+n.attrs.length:=by rw[List.length_append,hRl]
      ((repeat' first|simp only[al,aj,results57,ntmps57,am,d1,d2,hRl,htk,hsn,hlen,rB,RH,av,Ru,Lm,ai,seval,ah]|exact rfl|refine aa (v:=.any) ?_|refine bn (ps:=[(1,4),(4,7),(1,9)]) (by decide +kernel) (by simp only[List.forall_mem_cons,List.getD_cons_zero,List.getD_cons_succ,results57,ntmps57,am,d1,d2,hRl,htk,hsn,hlen,rB,RH,av,Ru,Lm,ai,seval,ah]<;>(try simp)<;>(try omega)) ?_|refine aC (by decide +kernel) ?_|((first|apply Ca|apply Cb)<;>intro hb)|refine Ai (by omega) ?_|(apply Ai<;>intro hb));(all_goals (first|(refine Fin.auto (r:=?_) (l:=?_) ?_ ?_ ?_ ?_ ?_ ?_ ?_;rotate_left 1;(simp only[results57,ntmps57,mA,oX,gP,ja,d1,d2,hRl,htk,hsn,hlen,rB,RH,av,Ru,Lm,ai,seval,ah]);(exact rfl);rotate_left 1;(simp only[V.owns,ownsL,List.cons_append,List.nil_append]);(exact rfl);all_goals (try simp only[results57,ntmps57,mA,oX,gP,ja,d1,d2,hRl,htk,hsn,hlen,rB,RH,av,Ru,Lm,Pw,ai,seval,ah]);all_goals (try simp only[au]))|skip)))
end Go.Proofs.YtidmkaalhmeflaaGreatDoor
