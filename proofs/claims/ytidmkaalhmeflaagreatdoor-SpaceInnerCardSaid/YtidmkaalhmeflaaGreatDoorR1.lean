/-
 Texts joined: XTa,XTb,XTc,XOa.
-/
import Derived.Test.YtidmkaalhmeflaaGreatDoorQi
import Derived.Test.YtidmkaalhmeflaaGreatDoorQs
import Derived.Test.YtidmkaalhmeflaaGreatDoorQj
import Derived.Test.YtidmkaalhmeflaaGreatDoorQt
import Derived.Test.YtidmkaalhmeflaaGreatDoorQk
namespace Go.Proofs.YtidmkaalhmeflaaGreatDoor
set_option maxRecDepth 100000
set_option maxHeartbeats 32000000
set_option linter.unusedSimpArgs false
set_option linter.unusedVariables false
open Go Go.RowKit Vm Go.Lib Tryz
open Vm renaming aZ→Ca,bj→Cb
open And renaming intro→Ai
open List renaming length_map→Lm,not_mem_nil→Ln,map_nil→Lo,map_cons→Lc,mem_cons→Lk
open Bool renaming not_false→Bf,not_true→Bt
def RE:List UInt8:=[104,116,116,112,58,47,47,119,119,119,46,119,51,46,111,114,103,47,88,77,76,47,49,57,57,56,47,110,97,109,101,115,112,97,99,101]
def R1:List UInt8:=[104,116,116,112,58,47,47,119,119,119,46,119,51,46,111,114,103,47,50,48,48,48,47,120,109,108,110,115,47]
def Rw (s:List UInt8):Bool:=(s==RE)||(s==R1)
theorem R7 (s:List UInt8)(nm:Nat):Ev cx 55 nm [.str s] aq.nil (.bool (Rw s)) []:=by
 unfold Rw RE R1
 refine ay rfl (fun cargs w=>call55 cargs w) func55 rfl mixed (by kernel_rfl) rfl ?_;intro b0 hb0
 (repeat' first|simp only[al,aj,results55,ntmps55,am,ai,seval,ah]|exact rfl|refine aa (v:=.any) ?_|((first|apply Ca|apply Cb)<;>intro hb)|refine Ai (by omega) ?_|(apply Ai<;>intro hb)|refine Fin.pure ?_ ?_ ?_|simp only[au])
def SL (p v:List UInt8):Bool:=if (p==[120,109,108,110,115])=true then false else if (p==[120,109,108])=true then v==RE else !Rw v&&((p==[])||(v != []))
theorem QZ (p v:List UInt8)(nm:Nat):Ev cx 49 nm [.str p,.str v] aq.nil (.bool (SL p v)) []:=by
 have hg:=R7 v
 have hx:(v==RE)=(v==[104,116,116,112,58,47,47,119,119,119,46,119,51,46,111,114,103,47,88,77,76,47,49,57,57,56,47,110,97,109,101,115,112,97,99,101]):=rfl
 unfold SL
 rw[hx]
 cases h1:(p==[120,109,108,110,115]) with
 | true =>
  refine ay rfl (fun cargs w=>call49 cargs w) func49 rfl mixed (by kernel_rfl) rfl ?_;intro b0 hb0
  (repeat' first|simp only[al,aj,results49,ntmps49,am,h1,ai,seval,ah]|exact rfl|refine aa (v:=.any) ?_|(first|(refine ac ?_ (hg _) ?_)|(refine ab ?_ (fun _=>hg _) ?_))|((first|apply Ca|apply Cb)<;>intro hb)|refine Ai (by omega) ?_|(apply Ai<;>intro hb)|refine Fin.pure ?_ ?_ ?_|simp only[au])
 | false =>
  cases h2:(p==[120,109,108]) with
  | true =>
   refine ay rfl (fun cargs w=>call49 cargs w) func49 rfl mixed (by kernel_rfl) rfl ?_;intro b0 hb0
   (repeat' first|simp only[al,aj,results49,ntmps49,am,h1,h2,ai,seval,ah]|exact rfl|refine aa (v:=.any) ?_|(first|(refine ac ?_ (hg _) ?_)|(refine ab ?_ (fun _=>hg _) ?_))|((first|apply Ca|apply Cb)<;>intro hb)|refine Ai (by omega) ?_|(apply Ai<;>intro hb)|refine Fin.pure ?_ ?_ ?_|simp only[au])
  | false =>
   cases h3:Rw v with
   | true =>
    rw[h3]at hg
    refine ay rfl (fun cargs w=>call49 cargs w) func49 rfl mixed (by kernel_rfl) rfl ?_;intro b0 hb0
    (repeat' first|simp only[al,aj,results49,ntmps49,am,h1,h2,Bt,ai,seval,ah]|exact rfl|refine aa (v:=.any) ?_|(first|(refine ac ?_ (hg _) ?_)|(refine ab ?_ (fun _=>hg _) ?_))|((first|apply Ca|apply Cb)<;>intro hb)|refine Ai (by omega) ?_|(apply Ai<;>intro hb)|refine Fin.pure ?_ ?_ ?_|simp only[au])
   | false =>
    rw[h3]at hg
    refine ay rfl (fun cargs w=>call49 cargs w) func49 rfl mixed (by kernel_rfl) rfl ?_;intro b0 hb0
    (repeat' first|simp only[al,aj,results49,ntmps49,am,h1,h2,Bf,ai,seval,ah]|exact rfl|refine aa (v:=.any) ?_|(first|(refine ac ?_ (hg _) ?_)|(refine ab ?_ (fun _=>hg _) ?_))|((first|apply Ca|apply Cb)<;>intro hb)|refine Ai (by omega) ?_|(apply Ai<;>intro hb)|refine Fin.pure ?_ ?_ ?_|simp only[au])
def Rs (s:List UInt8):List UInt8×List UInt8:=match dP 58 s with
 | none=>([],s)
 | some (a,b)=>(a,b)
theorem SY (s:List UInt8)(hs:s.length≤bh)(nm:Nat):Ev cx 89 nm [.str s] aq.nil (.tup [.str (Rs s).1,.str (Rs s).2]) []:=by
 have hc:=nP s 58 hs
 unfold gO at hc
 unfold Rs
 cases h:dP 58 s with
 | none =>
  rw[h]at hc
  refine ay rfl (fun cargs w=>call89 cargs w) func89 rfl mixed (by kernel_rfl) rfl ?_;intro b0 hb0
  (repeat' first|simp only[al,aj,results89,ntmps89,am,Bf,ai,seval,ah]|exact rfl|refine aa (v:=.any) ?_|(first|(refine ac ?_ (hc _) ?_)|(refine ab ?_ (fun _=>hc _) ?_))|((first|apply Ca|apply Cb)<;>intro hb)|refine Ai (by omega) ?_|(apply Ai<;>intro hb)|refine Fin.pure ?_ ?_ ?_|simp only[au])
 | some p =>
  obtain⟨a,b⟩:=p
  rw[h]at hc
  refine ay rfl (fun cargs w=>call89 cargs w) func89 rfl mixed (by kernel_rfl) rfl ?_;intro b0 hb0
  (repeat' first|simp only[al,aj,results89,ntmps89,am,Bt,ai,seval,ah]|exact rfl|refine aa (v:=.any) ?_|(first|(refine ac ?_ (hc _) ?_)|(refine ab ?_ (fun _=>hc _) ?_))|((first|apply Ca|apply Cb)<;>intro hb)|refine Ai (by omega) ?_|(apply Ai<;>intro hb)|refine Fin.pure ?_ ?_ ?_|simp only[au])
def P8 (s:List UInt8):V:=if (s==[120,109,108,110,115])=true then .tup [.str [],.bool true] else xu s [120,109,108,110,115,58]
theorem Sa (a:At)(hs:a.name.length≤bh)(nm:Nat):Ev cx 48 nm [.agg (bG a)] aq.nil (P8 a.name) []:=by
 have hc:=mD a.name [120,109,108,110,115,58] hs (by decide)
 unfold P8
 cases h:(a.name==[120,109,108,110,115]) with
 | true =>
  refine ay rfl (fun cargs w=>call48 cargs w) func48 rfl mixed (by kernel_rfl) rfl ?_;intro b0 hb0
  (repeat' first|simp only[al,aj,results48,ntmps48,am,bG,h,ai,seval,ah]|exact rfl|refine aa (v:=.any) ?_|((first|apply Ca|apply Cb)<;>intro hb)|refine Ai (by omega) ?_|(apply Ai<;>intro hb)|refine Fin.pure ?_ ?_ ?_|simp only[au])
 | false =>
  unfold xu at hc ⊢
  cases hb:preB a.name [120,109,108,110,115,58] with
  | true =>
   rw[hb]at hc
   refine ay rfl (fun cargs w=>call48 cargs w) func48 rfl mixed (by kernel_rfl) rfl ?_;intro b0 hb0
   (repeat' first|simp only[al,aj,results48,ntmps48,am,bG,h,ai,seval,ah]|exact rfl|refine aa (v:=.any) ?_|(first|(refine ac ?_ (hc _) ?_)|(refine ab ?_ (fun _=>hc _) ?_))|((first|apply Ca|apply Cb)<;>intro hb)|refine Ai (by omega) ?_|(apply Ai<;>intro hb)|refine Fin.pure ?_ ?_ ?_|simp only[au])
  | false =>
   rw[hb]at hc
   refine ay rfl (fun cargs w=>call48 cargs w) func48 rfl mixed (by kernel_rfl) rfl ?_;intro b0 hb0
   (repeat' first|simp only[al,aj,results48,ntmps48,am,bG,h,ai,seval,ah]|exact rfl|refine aa (v:=.any) ?_|(first|(refine ac ?_ (hc _) ?_)|(refine ab ?_ (fun _=>hc _) ?_))|((first|apply Ca|apply Cb)<;>intro hb)|refine Ai (by omega) ?_|(apply Ai<;>intro hb)|refine Fin.pure ?_ ?_ ?_|simp only[au])
def qq (a:At):Bool:=(!dc a.name||((a.space==[])&&(a.name==[120,109,108,110,115])))||(a.space==R1)
theorem QP (a:At)(h1:a.name.length≤bh)(nm:Nat):Ev cx 62 nm [.agg (bG a)] aq.nil (.bool (qq a)) []:=by
 have hn:=og a.name h1
 unfold qq R1
 cases h:dc a.name with
 | true =>
  rw[h]at hn
  cases h2:(a.space==[]) with
  | true =>
   refine ay rfl (fun cargs w=>call62 cargs w) func62 rfl mixed (by kernel_rfl) rfl ?_;intro b0 hb0
   (repeat' first|simp only[al,aj,results62,ntmps62,am,bG,h2,Bt,Bool.false_or,Bool.true_and,ai,seval,ah]|exact rfl|refine aa (v:=.any) ?_|(first|(refine ac ?_ (hn _) ?_)|(refine ab ?_ (fun _=>hn _) ?_))|((first|apply Ca|apply Cb)<;>intro hb)|refine Ai (by omega) ?_|(apply Ai<;>intro hb)|refine Fin.pure ?_ ?_ ?_|simp only[au])
  | false =>
   refine ay rfl (fun cargs w=>call62 cargs w) func62 rfl mixed (by kernel_rfl) rfl ?_;intro b0 hb0
   (repeat' first|simp only[al,aj,results62,ntmps62,am,bG,h2,Bt,Bool.false_or,Bool.false_and,ai,seval,ah]|exact rfl|refine aa (v:=.any) ?_|(first|(refine ac ?_ (hn _) ?_)|(refine ab ?_ (fun _=>hn _) ?_))|((first|apply Ca|apply Cb)<;>intro hb)|refine Ai (by omega) ?_|(apply Ai<;>intro hb)|refine Fin.pure ?_ ?_ ?_|simp only[au])
 | false =>
  rw[h]at hn
  refine ay rfl (fun cargs w=>call62 cargs w) func62 rfl mixed (by kernel_rfl) rfl ?_;intro b0 hb0
  (repeat' first|simp only[al,aj,results62,ntmps62,am,bG,Bf,Bool.true_or,ai,seval,ah]|exact rfl|refine aa (v:=.any) ?_|(first|(refine ac ?_ (hn _) ?_)|(refine ab ?_ (fun _=>hn _) ?_))|((first|apply Ca|apply Cb)<;>intro hb)|refine Ai (by omega) ?_|(apply Ai<;>intro hb)|refine Fin.pure ?_ ?_ ?_|simp only[au])
def RG (n:Nd):Bool:=((decide (n.kind=1) && !dc n.name)||Rw n.space)||n.attrs.any qq
def Sv (a:At):Bool:=a.space != []
theorem QS (a:At)(nm:Nat):Ev cx 86 nm [.agg (bG a)] aq.nil (.bool (Sv a)) []:=by
 unfold Sv
 refine ay rfl (fun cargs w=>call86 cargs w) func86 rfl mixed (by kernel_rfl) rfl ?_;intro b0 hb0
 (repeat' first|simp only[al,aj,results86,ntmps86,am,bG,ai,seval,ah]|exact rfl|refine aa (v:=.any) ?_|((first|apply Ca|apply Cb)<;>intro hb)|refine Ai (by omega) ?_|(apply Ai<;>intro hb)|refine Fin.pure ?_ ?_ ?_|simp only[au])
def RJ (n:Nd):Bool:=(!(n.space==[]))||n.attrs.any Sv
theorem SA (n:Nd)(hn:n.attrs.length≤bh)(nm:Nat):Ev cx 45 nm [.agg (ba n)] aq.nil (.bool (RJ n)) []:=by
 have hc:=fG n.attrs 86 [] Sv (fun a _ nm=>QS a nm) hn rfl
 unfold RJ
 cases h:(n.space==[]) with
 | false =>
  refine ay rfl (fun cargs w=>call45 cargs w) func45 rfl mixed (by kernel_rfl) rfl ?_;intro b0 hb0
  (repeat' first|simp only[al,aj,results45,ntmps45,am,ba,h,av,Bf,Bt,Bool.true_or,ai,seval,ah]|exact rfl|refine aa (v:=.any) ?_|((first|apply Ca|apply Cb)<;>intro hb)|refine Ai (by omega) ?_|(apply Ai<;>intro hb)|refine Fin.pure ?_ ?_ ?_|simp only[au])
 | true =>
  refine ay rfl (fun cargs w=>call45 cargs w) func45 rfl mixed (by kernel_rfl) rfl ?_;intro b0 hb0
  (repeat' first|simp only[al,aj,results45,ntmps45,am,ba,h,av,Bt,Bf,Bool.false_or,ai,seval,ah]|exact rfl|refine aa (v:=.any) ?_|(first|(refine ac ?_ (hc _) ?_)|(refine ab ?_ (fun _=>hc _) ?_))|((first|apply Ca|apply Cb)<;>intro hb)|refine Ai (by omega) ?_|(apply Ai<;>intro hb)|refine Fin.pure ?_ ?_ ?_|simp only[au])
theorem QR (n:Nd)(hn:n.okTo bh)(nm:Nat):Ev cx 63 nm [.agg (ba n),.rp [.fn 62 []]] aq.nil (.bool (RG n)) []:=by
 have hg:=R7 n.space
 have hm:=og n.name hn.2.2.1
 have hc:=fG n.attrs 62 [] qq (fun a ha nm=>QP a (hn.2.2.2.2 a ha).2.1 nm) hn.1 rfl
 unfold RG
 by_cases hk:n.kind=1
 ·have q:((n.kind:Int)==1)=true:=by rw[hk];rfl
  rw[decide_eq_true hk]
  cases h1:dc n.name with
  | false =>
   rw[h1]at hm
   refine ay rfl (fun cargs w=>call63 cargs w) func63 rfl mixed (by kernel_rfl) rfl ?_;intro b0 hb0
   (repeat' first|simp only[al,aj,results63,ntmps63,am,ba,q,av,Bt,Bf,Bool.true_or,Bool.true_and,ai,seval,ah]|exact rfl|refine aa (v:=.any) ?_|(first|(refine ac ?_ (hm _) ?_)|(refine ab ?_ (fun _=>hm _) ?_))|((first|apply Ca|apply Cb)<;>intro hb)|refine Ai (by omega) ?_|(apply Ai<;>intro hb)|refine Fin.pure ?_ ?_ ?_|simp only[au])
  | true =>
   rw[h1]at hm
   cases h2:Rw n.space with
   | true =>
    rw[h2]at hg
    refine ay rfl (fun cargs w=>call63 cargs w) func63 rfl mixed (by kernel_rfl) rfl ?_;intro b0 hb0
    (repeat' first|simp only[al,aj,results63,ntmps63,am,ba,q,av,Bt,Bf,Bool.true_or,Bool.or_true,Bool.and_false,Bool.true_and,ai,seval,ah]|exact rfl|refine aa (v:=.any) ?_|(first|(refine ac ?_ (hm _) ?_)|(refine ab ?_ (fun _=>hm _) ?_)|(refine ac ?_ (hg _) ?_)|(refine ab ?_ (fun _=>hg _) ?_))|((first|apply Ca|apply Cb)<;>intro hb)|refine Ai (by omega) ?_|(apply Ai<;>intro hb)|refine Fin.pure ?_ ?_ ?_|simp only[au])
   | false =>
    rw[h2]at hg
    refine ay rfl (fun cargs w=>call63 cargs w) func63 rfl mixed (by kernel_rfl) rfl ?_;intro b0 hb0
    (repeat' first|simp only[al,aj,results63,ntmps63,am,ba,q,av,Bt,Bf,Bool.false_or,Bool.and_false,Bool.true_and,ai,seval,ah]|exact rfl|refine aa (v:=.any) ?_|(first|(refine ac ?_ (hm _) ?_)|(refine ab ?_ (fun _=>hm _) ?_)|(refine ac ?_ (hg _) ?_)|(refine ab ?_ (fun _=>hg _) ?_)|(refine ac ?_ (hc _) ?_)|(refine ab ?_ (fun _=>hc _) ?_))|((first|apply Ca|apply Cb)<;>intro hb)|refine Ai (by omega) ?_|(apply Ai<;>intro hb)|refine Fin.pure ?_ ?_ ?_|simp only[au])
 ·have q:((n.kind:Int)==1)=false:=beq_false_of_ne (by omega)
  rw[decide_eq_false hk]
  cases h2:Rw n.space with
  | true =>
   rw[h2]at hg
   refine ay rfl (fun cargs w=>call63 cargs w) func63 rfl mixed (by kernel_rfl) rfl ?_;intro b0 hb0
   (repeat' first|simp only[al,aj,results63,ntmps63,am,ba,q,av,Bool.false_and,Bool.false_or,Bool.true_or,ai,seval,ah]|exact rfl|refine aa (v:=.any) ?_|(first|(refine ac ?_ (hg _) ?_)|(refine ab ?_ (fun _=>hg _) ?_))|((first|apply Ca|apply Cb)<;>intro hb)|refine Ai (by omega) ?_|(apply Ai<;>intro hb)|refine Fin.pure ?_ ?_ ?_|simp only[au])
  | false =>
   rw[h2]at hg
   refine ay rfl (fun cargs w=>call63 cargs w) func63 rfl mixed (by kernel_rfl) rfl ?_;intro b0 hb0
   (repeat' first|simp only[al,aj,results63,ntmps63,am,ba,q,av,Bool.false_and,Bool.false_or,ai,seval,ah]|exact rfl|refine aa (v:=.any) ?_|(first|(refine ac ?_ (hg _) ?_)|(refine ab ?_ (fun _=>hg _) ?_)|(refine ac ?_ (hc _) ?_)|(refine ab ?_ (fun _=>hc _) ?_))|((first|apply Ca|apply Cb)<;>intro hb)|refine Ai (by omega) ?_|(apply Ai<;>intro hb)|refine Fin.pure ?_ ?_ ?_|simp only[au])
def cn (v:List Nd):Int:=if (v.any RG)=true then 8 else fA v
theorem pS (v:List Nd)(hv:v.length≤bh)(hok:∀ n∈v,n.okTo bh∧n.i64)(nm:Nat):Ev cx 21 nm [.sl false 6 (v.map ba)] aq.nil (.int .i64 (cn v)) []:=by
 have hc:=gW v 63 [.rp [.fn 62 []]] RG (fun n hn nm=>QR n (hok n hn).1 nm) hv rfl
 have hk:=pu v hv hok
 unfold cn
 cases h:v.any RG with
 | true =>
  rw[h]at hc
  refine ay rfl (fun cargs w=>call21 cargs w) func21 rfl mixed (by kernel_rfl) rfl ?_;intro b0 hb0
  (repeat' first|simp only[al,aj,results21,ntmps21,am,ad,ai,seval,ah]|exact rfl|refine aa (v:=.any) ?_|(first|(refine ac ?_ (hk _) ?_)|(refine ab ?_ (fun _=>hk _) ?_))|((refine bq (xs:=?_) [b0+16] ?_ ?_ ?_ rfl (hc _) ?_);rotate_left 1)|omega|((first|apply Ca|apply Cb)<;>intro hb)|refine Ai (by omega) ?_|(apply Ai<;>intro hb)|refine Fin.pure ?_ ?_ ?_|simp only[au])
 | false =>
  rw[h]at hc
  rw[if_neg (by decide)]
  refine ay rfl (fun cargs w=>call21 cargs w) func21 rfl mixed (by kernel_rfl) rfl ?_;intro b0 hb0
  (repeat' first|simp only[al,aj,results21,ntmps21,am,ad,ai,seval,ah]|exact rfl|refine aa (v:=.any) ?_|(first|(refine ac ?_ (hk _) ?_)|(refine ab ?_ (fun _=>hk _) ?_))|((refine bq (xs:=?_) [b0+16] ?_ ?_ ?_ rfl (hc _) ?_);rotate_left 1)|omega|((first|apply Ca|apply Cb)<;>intro hb)|refine Ai (by omega) ?_|(apply Ai<;>intro hb)|refine Fin.pure ?_ ?_ ?_|simp only[au])
theorem QC (n:Nd)(nm:Nat):Ev cx 58 nm [.agg (ba n)] aq.nil (.bool (decide (16<n.attrs.length))) []:=by
 have h:decide ((16:Int)<(n.attrs.length:Int))=decide (16<n.attrs.length):=by
  by_cases h:16<n.attrs.length
  ·rw[decide_eq_true h,decide_eq_true (by omega)]
  ·rw[decide_eq_false h,decide_eq_false (by omega)]
 rw[← h]
 refine ay rfl (fun cargs w=>call58 cargs w) func58 rfl mixed (by kernel_rfl) rfl ?_;intro b0 hb0
 (repeat' first|simp only[al,aj,results58,ntmps58,am,ba,av,Lm,h,ai,seval,ah]|exact rfl|refine aa (v:=.any) ?_|((first|apply Ca|apply Cb)<;>intro hb)|refine Ai (by omega) ?_|(apply Ai<;>intro hb)|refine Fin.pure ?_ ?_ ?_|simp only[au])
def jN (a b:At):Bool:=(a.space==b.space)&&(a.name==b.name)
theorem SD (a b:At)(nm:Nat):Ev cx 91 nm [.agg (bG a),.rp (bG b)] aq.nil (.bool (jN a b)) []:=by
 unfold jN
 refine ay rfl (fun cargs w=>call91 cargs w) func91 rfl mixed (by kernel_rfl) rfl ?_;intro b0 hb0
 (repeat' first|simp only[al,aj,results91,ntmps91,am,bG,ai,seval,ah]|exact rfl|refine aa (v:=.any) ?_|((first|apply Ca|apply Cb)<;>intro hb)|refine Ai (by omega) ?_|(apply Ai<;>intro hb)|refine Fin.pure ?_ ?_ ?_|simp only[au])
def dR (n:Nat):List UInt8:=if n<10 then [(48+n).toUInt8] else [(48+n / 10).toUInt8,(48+n % 10).toUInt8]
def gr (S:List (List UInt8))(a:At):List (List UInt8):=if (a.space==[])=true then S else if (a.space==RE)=true then S else if S.contains a.space=true then S else S++[a.space]
def Rr (l:List At):List (List UInt8):=l.foldl gr []
def Q0 (S:List (List UInt8))(s:List UInt8):Nat:=(S.findIdx? (· == s)).getD S.length
def RP (S:List (List UInt8))(s:List UInt8):List UInt8:=if (s==RE)=true then [120,109,108] else 110::dR (Q0 S s+1)
def RC (S:List (List UInt8))(a:At):At:=⟨[],if (a.space==[])=true then a.name else RP S a.space++58::a.name,a.value⟩
def Sd (k:Nat)(s:List UInt8):At:=⟨[],[120,109,108,110,115,58,110]++dR (k+1),s⟩
def Rx (S:List (List UInt8)):List At:=S.mapIdx Sd
def SI (n:Nd)(sp:List UInt8):List At:=if (n.space==sp)=true then [] else [⟨[],[120,109,108,110,115],n.space⟩]
def bE (n:Nd)(sp:List UInt8):Nd:=⟨n.kind,[],n.name,SI n sp++Rx (Rr n.attrs)++n.attrs.map (RC (Rr n.attrs)),[],n.many⟩
theorem AT {l:List At}{k:Nat}{a:At}(h:l[k]? = some a):Rr (l.take (k+1))=gr (Rr (l.take k)) a:=by
 obtain⟨hk,rfl⟩:=List.getElem?_eq_some_iff.1 h
 unfold Rr
 rw[List.take_succ_eq_append_getElem hk,List.foldl_append];rfl
theorem Qg (S:List (List UInt8))(a:At):S <+: gr S a:=by
 unfold gr
 split
 ·exact List.prefix_refl _
 ·split
  ·exact List.prefix_refl _
  ·split
   ·exact List.prefix_refl _
   ·exact List.prefix_append _ _
theorem RM:∀(l:List At) (S:List (List UInt8)),S <+: l.foldl gr S
 | [],_=>List.prefix_refl _
 | a::l,S=>(Qg S a).trans (RM l _)
theorem R3 (l:List At)(k:Nat):Rr (l.take k) <+: Rr l:=by
 have h:=RM (l.drop k) (Rr (l.take k))
 unfold Rr at h ⊢
 rwa[← List.foldl_append,List.take_append_drop]at h
theorem Qh (S:List (List UInt8))(a:At):(gr S a).length≤S.length+1:=by
 unfold gr
 split
 ·omega
 ·split
  ·omega
  ·split
   ·omega
   ·simp
theorem RX:∀(l:List At) (S:List (List UInt8)),(l.foldl gr S).length≤S.length+l.length
 | [],S=>by simp
 | a::l,S=>by
  have h1:=RX l (gr S a)
  have h2:=Qh S a
  simp only[List.foldl_cons,List.length_cons]
  omega
theorem mF (l:List At):(Rr l).length≤l.length:=by
 have:=RX l []
 unfold Rr;simpa using this
theorem QD {S T:List (List UInt8)}{s:List UInt8}{k:Nat}(h:S <+: T)(hk:S.findIdx? (· == s)=some k):T.findIdx? (· == s)=some k:=by
 obtain⟨r,rfl⟩:=h
 rw[List.findIdx?_append,hk];rfl
theorem LP {S T:List (List UInt8)}{s:List UInt8}{k:Nat}(h:S <+: T)(hk:S.findIdx? (· == s)=some k):Q0 T s=k:=by
 unfold Q0;rw[QD h hk];rfl
theorem Qb {S:List (List UInt8)}{s:List UInt8}(h:S.findIdx? (· == s)=none):(S++[s]).findIdx? (· == s)=some S.length:=by
 rw[List.findIdx?_append,h];simp
theorem Sw {S:List (List UInt8)}{s:List UInt8}(h:S.findIdx? (· == s)=none):S.contains s=false:=by
 have:=List.findIdx?_eq_none_iff.1 h
 cases hc:S.contains s with
 | false=>rfl
 | true =>
  rw[List.contains_iff_mem]at hc
  have:=this s hc
  simp at this
theorem Qm {S:List (List UInt8)}{s:List UInt8}{k:Nat}(h:S.findIdx? (· == s)=some k):S.contains s=true:=by
 cases hc:S.contains s with
 | true=>rfl
 | false =>
  have:S.findIdx? (· == s)=none:=List.findIdx?_eq_none_iff.2 fun x hx=>by
   cases hb:(x==s) with
   | false=>rfl
   | true =>
    have:=eq_of_beq hb;subst this
    rw[← List.contains_iff_mem]at hx;rw[hc]at hx;cases hx
  rw[this]at h;cases h
theorem Qi (S:List (List UInt8))(s:List UInt8):Rx (S++[s])=Rx S++[Sd S.length s]:=by
 unfold Rx;simp[List.mapIdx_append]
theorem SR (S:List (List UInt8)):(Rx S).length=S.length:=by simp[Rx]
theorem Sq:∀ n,n<100→(dR n).length≤2:=by
 intro n _;unfold dR;split<;>simp
def Fo.bare:Fo→List UInt8→List Nd
 | .nil,_=>[]
 | .cons n k r,sp=>(if n.kind=2 then [n] else bE n sp::k.bare n.space)++r.bare sp
abbrev KnT:=List (List UInt8×List UInt8)
def dS (p:List UInt8):KnT→Option (List UInt8)
 | []=>none
 | q::r=>if (p==q.1)=true then some q.2 else dS p r
def qY (p v:List UInt8):KnT→KnT
 | []=>[(p,v)]
 | q::r=>if (p==q.1)=true then (p,v)::r else q::qY p v r
theorem get_put (p v q:List UInt8):∀(K:KnT),dS q (qY p v K)=if q=p then some v else dS q K
 | []=>by
  simp only[qY,dS]
  by_cases h:q=p<;>simp[h]
 | x::r=>by
  simp only[qY]
  by_cases h1:p=x.1
  ·rw[if_pos (by simpa using h1)]
   simp only[dS]
   by_cases h:q=p
   ·simp[h]
   ·simp[h,← h1]
  ·rw[if_neg (by simpa using h1)]
   simp only[dS]
   by_cases h:q=x.1
   ·subst h;simp[Ne.symm h1]
   ·simp[h,get_put p v q r]
def Rv (s:List UInt8):Option (List UInt8):=if (s==[120,109,108,110,115])=true then some [] else if preB s [120,109,108,110,115,58]=true then some (s.drop 6) else none
theorem SK (s:List UInt8):P8 s = .tup [.str ((Rv s).getD s),.bool (Rv s).isSome]:=by
 unfold P8 Rv
 split
 ·rfl
 ·unfold xu
  split<;>rfl
def ug (K:KnT×Bool)(a:At):KnT×Bool:=match Rv a.name with
 | none=>K
 | some p=>(qY p a.value K.1,K.2&&SL p a.value)
def Ry (K:KnT)(r:Bool)(l:List At):KnT×Bool:=l.foldl ug (K,r)
def RK (K:KnT)(a:At):At:=if a.name.contains 58=true then ⟨(dS (Rs a.name).1 K).getD [],(Rs a.name).2,a.value⟩ else ⟨[],a.name,a.value⟩
def RQ (K:KnT)(a:At):Bool:=!a.name.contains 58||(dS (Rs a.name).1 K).isSome
def Sy (K:KnT)(s:List At×Bool)(a:At):List At×Bool:=match Rv a.name with
 | some _=>s
 | none=>(s.1++[RK K a],(s.2&&RQ K a) && !(s.1.any fun b=>jN b (RK K a)))
def S0 (K:KnT)(r:Bool)(l:List At):List At×Bool:=l.foldl (Sy K) ([],r)
def RA (K:KnT)(n:Nd):Nd×Bool:=(⟨n.kind,(dS (Rs n.name).1 K).getD [],(Rs n.name).2,(S0 K (dS (Rs n.name).1 K).isSome n.attrs).1,[],n.many⟩,(S0 K (dS (Rs n.name).1 K).isSome n.attrs).2)
def Fo.res:Fo→KnT→List Nd×Bool
 | .nil,_=>([],true)
 | .cons n k r,K=>if n.kind=2 then (n::(r.res K).1,(r.res K).2)
  else ((RA (Ry K true n.attrs).1 n).1::((k.res (Ry K true n.attrs).1).1++(r.res K).1),(((Ry K true n.attrs).2&&(RA (Ry K true n.attrs).1 n).2)&&(k.res (Ry K true n.attrs).1).2)&&(r.res K).2)
def R4:KnT:=[([],[]),([120,109,108],RE)]
def R8:Nat→Nat→List Nd→Fo×List Nd
 | 0,_,v=>(.nil,v)
 | _+1,0,v=>(.nil,v)
 | _+1,_+1,[]=>(.nil,[])
 | f+1,c+1,n::v=>(.cons n (R8 f n.many.toNat v).1 (R8 f c (R8 f n.many.toNat v).2).1,(R8 f c (R8 f n.many.toNat v).2).2)
theorem IT:∀(F:Fo) (d last f:Nat) (r:List Nd),F.good d last=true→F.size<f→R8 f F.count (F.flat++r)=(F,r)
 | .nil,_,_,f+1,r,_,_=>by simp[Fo.count,Fo.flat,R8]
 | .cons n k r,d,last,f+1,rest,h,hf=>by
  obtain⟨h1,h2,h3,h4,h5,h6⟩:=Fo.good_cons.1 h
  simp only[Fo.size]at hf
  have hk:=IT k (d-1) 1 f (r.flat++rest) h5 (by omega)
  have hr:=IT r d n.kind f rest h6 (by omega)
  have hm:n.many.toNat=k.count:=by omega
  simp only[Fo.count,Fo.flat,List.cons_append,List.append_assoc,R8,hm,hk,hr]
 | F,_,_,0,_,_,hf=>by omega
def RT (v:List Nd):Fo:=(R8 (v.length+1) 1 v).1
theorem RS {n:Nd}{k:Fo}{d:Nat}(h:(Fo.cons n k .nil).good d 0=true):RT (n::k.flat) = .cons n k .nil:=by
 have:=IT (.cons n k .nil) d 0 ((n::k.flat).length+1) [] h (by simp[Fo.size,Fo.flat_length])
 unfold RT
 simp only[Fo.count,Fo.flat,List.append_nil]at this
 rw[this]
def Rq (v:List Nd):List Nd×Int:=if fA v≠0 then ([],8) else if v.any RJ=true then ([],8) else if ((RT v).res R4).2=true then (((RT v).res R4).1,0) else ([],110)
def RZ (v:List Nd):Bool:=v.any fun n=>decide (16<n.attrs.length)
def Rp (v:List Nd)(sp:List UInt8):List Nd×Int:=if cn v≠0 then ([],cn v) else if aQ sp≠0∨Rw sp=true then ([],8) else if RZ ((RT v).bare sp)=true then ([],4) else ((RT v).bare sp,0)
end Go.Proofs.YtidmkaalhmeflaaGreatDoor
