/-
 Texts joined: XTa,XTb,XTc,XOa.
-/
import Derived.Test.YtcllbjanalhjgaaGreatDoorQi
import Derived.Test.YtcllbjanalhjgaaGreatDoorQs
import Derived.Test.YtcllbjanalhjgaaGreatDoorQj
import Derived.Test.YtcllbjanalhjgaaGreatDoorQt
import Derived.Test.YtcllbjanalhjgaaGreatDoorQk
namespace Go.Proofs.YtcllbjanalhjgaaGreatDoor
set_option maxRecDepth 100000
set_option maxHeartbeats 32000000
set_option linter.unusedSimpArgs false
set_option linter.unusedVariables false
open Go Go.RowKit Vm Go.Lib Tryz
open Vm renaming be→Ca,bo→Cb
open And renaming intro→Ai
open List renaming length_map→Lm,not_mem_nil→Ln,map_nil→Lo,map_cons→Lc,mem_cons→Lk
open Bool renaming not_false→Bf,not_true→Bt
def sW:List UInt8:=[104,116,116,112,58,47,47,119,119,119,46,119,51,46,111,114,103,47,88,77,76,47,49,57,57,56,47,110,97,109,101,115,112,97,99,101]
def wz:List UInt8:=[104,116,116,112,58,47,47,119,119,119,46,119,51,46,111,114,103,47,50,48,48,48,47,120,109,108,110,115,47]
def dO (s:List UInt8):Bool:=(s==sW)||(s==wz)
theorem nO (s:List UInt8)(nm:Nat):Ev cx 31 nm [.str s] ao.nil (.bool (dO s)) []:=by
 unfold dO sW wz
 refine ay rfl (fun cargs w=>call31 cargs w) func31 rfl mixed (by kernel_rfl) rfl ?_;intro b0 hb0
 (repeat' first|simp only[am,ah,results31,ntmps31,ap,ag,seval,ae]|exact rfl|refine aa (v:=.any) ?_|((first|apply Ca|apply Cb)<;>intro hb)|refine Ai (by omega) ?_|(apply Ai<;>intro hb)|refine Fin.pure ?_ ?_ ?_|simp only[au])
def Du (p v:List UInt8):Bool:=if (p==[120,109,108,110,115])=true then false else if (p==[120,109,108])=true then v==sW else !dO v&&((p==[])||(v != []))
theorem IX (p v:List UInt8)(nm:Nat):Ev cx 25 nm [.str p,.str v] ao.nil (.bool (Du p v)) []:=by
 have hg:=nO v
 have hx:(v==sW)=(v==[104,116,116,112,58,47,47,119,119,119,46,119,51,46,111,114,103,47,88,77,76,47,49,57,57,56,47,110,97,109,101,115,112,97,99,101]):=rfl
 unfold Du
 rw[hx]
 cases h1:(p==[120,109,108,110,115]) with
 | true =>
  refine ay rfl (fun cargs w=>call25 cargs w) func25 rfl mixed (by kernel_rfl) rfl ?_;intro b0 hb0
  (repeat' first|simp only[am,ah,results25,ntmps25,ap,h1,ag,seval,ae]|exact rfl|refine aa (v:=.any) ?_|(first|(refine ac ?_ (hg _) ?_)|(refine ab ?_ (fun _=>hg _) ?_))|((first|apply Ca|apply Cb)<;>intro hb)|refine Ai (by omega) ?_|(apply Ai<;>intro hb)|refine Fin.pure ?_ ?_ ?_|simp only[au])
 | false =>
  cases h2:(p==[120,109,108]) with
  | true =>
   refine ay rfl (fun cargs w=>call25 cargs w) func25 rfl mixed (by kernel_rfl) rfl ?_;intro b0 hb0
   (repeat' first|simp only[am,ah,results25,ntmps25,ap,h1,h2,ag,seval,ae]|exact rfl|refine aa (v:=.any) ?_|(first|(refine ac ?_ (hg _) ?_)|(refine ab ?_ (fun _=>hg _) ?_))|((first|apply Ca|apply Cb)<;>intro hb)|refine Ai (by omega) ?_|(apply Ai<;>intro hb)|refine Fin.pure ?_ ?_ ?_|simp only[au])
  | false =>
   cases h3:dO v with
   | true =>
    rw[h3]at hg
    refine ay rfl (fun cargs w=>call25 cargs w) func25 rfl mixed (by kernel_rfl) rfl ?_;intro b0 hb0
    (repeat' first|simp only[am,ah,results25,ntmps25,ap,h1,h2,Bt,ag,seval,ae]|exact rfl|refine aa (v:=.any) ?_|(first|(refine ac ?_ (hg _) ?_)|(refine ab ?_ (fun _=>hg _) ?_))|((first|apply Ca|apply Cb)<;>intro hb)|refine Ai (by omega) ?_|(apply Ai<;>intro hb)|refine Fin.pure ?_ ?_ ?_|simp only[au])
   | false =>
    rw[h3]at hg
    refine ay rfl (fun cargs w=>call25 cargs w) func25 rfl mixed (by kernel_rfl) rfl ?_;intro b0 hb0
    (repeat' first|simp only[am,ah,results25,ntmps25,ap,h1,h2,Bf,ag,seval,ae]|exact rfl|refine aa (v:=.any) ?_|(first|(refine ac ?_ (hg _) ?_)|(refine ab ?_ (fun _=>hg _) ?_))|((first|apply Ca|apply Cb)<;>intro hb)|refine Ai (by omega) ?_|(apply Ai<;>intro hb)|refine Fin.pure ?_ ?_ ?_|simp only[au])
def dA (s:List UInt8):List UInt8×List UInt8:=match dH 58 s with
 | none=>([],s)
 | some (a,b)=>(a,b)
theorem yF (s:List UInt8)(hs:s.length≤bk)(nm:Nat):Ev cx 53 nm [.str s] ao.nil (.tup [.str (dA s).1,.str (dA s).2]) []:=by
 have hc:=mN s 58 hs
 unfold fY at hc
 unfold dA
 cases h:dH 58 s with
 | none =>
  rw[h]at hc
  refine ay rfl (fun cargs w=>call53 cargs w) func53 rfl mixed (by kernel_rfl) rfl ?_;intro b0 hb0
  (repeat' first|simp only[am,ah,results53,ntmps53,ap,Bf,ag,seval,ae]|exact rfl|refine aa (v:=.any) ?_|(first|(refine ac ?_ (hc _) ?_)|(refine ab ?_ (fun _=>hc _) ?_))|((first|apply Ca|apply Cb)<;>intro hb)|refine Ai (by omega) ?_|(apply Ai<;>intro hb)|refine Fin.pure ?_ ?_ ?_|simp only[au])
 | some p =>
  obtain⟨a,b⟩:=p
  rw[h]at hc
  refine ay rfl (fun cargs w=>call53 cargs w) func53 rfl mixed (by kernel_rfl) rfl ?_;intro b0 hb0
  (repeat' first|simp only[am,ah,results53,ntmps53,ap,Bt,ag,seval,ae]|exact rfl|refine aa (v:=.any) ?_|(first|(refine ac ?_ (hc _) ?_)|(refine ab ?_ (fun _=>hc _) ?_))|((first|apply Ca|apply Cb)<;>intro hb)|refine Ai (by omega) ?_|(apply Ai<;>intro hb)|refine Fin.pure ?_ ?_ ?_|simp only[au])
def Bl (s:List UInt8):V:=if (s==[120,109,108,110,115])=true then .tup [.str [],.bool true] else wb s [120,109,108,110,115,58]
theorem pH (a:At)(hs:a.name.length≤bk)(nm:Nat):Ev cx 24 nm [.agg (bG a)] ao.nil (Bl a.name) []:=by
 have hc:=lT a.name [120,109,108,110,115,58] hs (by decide)
 unfold Bl
 cases h:(a.name==[120,109,108,110,115]) with
 | true =>
  refine ay rfl (fun cargs w=>call24 cargs w) func24 rfl mixed (by kernel_rfl) rfl ?_;intro b0 hb0
  (repeat' first|simp only[am,ah,results24,ntmps24,ap,bG,h,ag,seval,ae]|exact rfl|refine aa (v:=.any) ?_|((first|apply Ca|apply Cb)<;>intro hb)|refine Ai (by omega) ?_|(apply Ai<;>intro hb)|refine Fin.pure ?_ ?_ ?_|simp only[au])
 | false =>
  unfold wb at hc ⊢
  cases hb:preB a.name [120,109,108,110,115,58] with
  | true =>
   rw[hb]at hc
   refine ay rfl (fun cargs w=>call24 cargs w) func24 rfl mixed (by kernel_rfl) rfl ?_;intro b0 hb0
   (repeat' first|simp only[am,ah,results24,ntmps24,ap,bG,h,ag,seval,ae]|exact rfl|refine aa (v:=.any) ?_|(first|(refine ac ?_ (hc _) ?_)|(refine ab ?_ (fun _=>hc _) ?_))|((first|apply Ca|apply Cb)<;>intro hb)|refine Ai (by omega) ?_|(apply Ai<;>intro hb)|refine Fin.pure ?_ ?_ ?_|simp only[au])
  | false =>
   rw[hb]at hc
   refine ay rfl (fun cargs w=>call24 cargs w) func24 rfl mixed (by kernel_rfl) rfl ?_;intro b0 hb0
   (repeat' first|simp only[am,ah,results24,ntmps24,ap,bG,h,ag,seval,ae]|exact rfl|refine aa (v:=.any) ?_|(first|(refine ac ?_ (hc _) ?_)|(refine ab ?_ (fun _=>hc _) ?_))|((first|apply Ca|apply Cb)<;>intro hb)|refine Ai (by omega) ?_|(apply Ai<;>intro hb)|refine Fin.pure ?_ ?_ ?_|simp only[au])
def Bg (a:At):Bool:=(!cU a.name||((a.space==[])&&(a.name==[120,109,108,110,115])))||(a.space==wz)
theorem H0 (a:At)(h1:a.name.length≤bk)(nm:Nat):Ev cx 39 nm [.agg (bG a)] ao.nil (.bool (Bg a)) []:=by
 have hn:=ig a.name h1
 unfold Bg wz
 cases h:cU a.name with
 | true =>
  rw[h]at hn
  cases h2:(a.space==[]) with
  | true =>
   refine ay rfl (fun cargs w=>call39 cargs w) func39 rfl mixed (by kernel_rfl) rfl ?_;intro b0 hb0
   (repeat' first|simp only[am,ah,results39,ntmps39,ap,bG,h2,Bt,Bool.false_or,Bool.true_and,ag,seval,ae]|exact rfl|refine aa (v:=.any) ?_|(first|(refine ac ?_ (hn _) ?_)|(refine ab ?_ (fun _=>hn _) ?_))|((first|apply Ca|apply Cb)<;>intro hb)|refine Ai (by omega) ?_|(apply Ai<;>intro hb)|refine Fin.pure ?_ ?_ ?_|simp only[au])
  | false =>
   refine ay rfl (fun cargs w=>call39 cargs w) func39 rfl mixed (by kernel_rfl) rfl ?_;intro b0 hb0
   (repeat' first|simp only[am,ah,results39,ntmps39,ap,bG,h2,Bt,Bool.false_or,Bool.false_and,ag,seval,ae]|exact rfl|refine aa (v:=.any) ?_|(first|(refine ac ?_ (hn _) ?_)|(refine ab ?_ (fun _=>hn _) ?_))|((first|apply Ca|apply Cb)<;>intro hb)|refine Ai (by omega) ?_|(apply Ai<;>intro hb)|refine Fin.pure ?_ ?_ ?_|simp only[au])
 | false =>
  rw[h]at hn
  refine ay rfl (fun cargs w=>call39 cargs w) func39 rfl mixed (by kernel_rfl) rfl ?_;intro b0 hb0
  (repeat' first|simp only[am,ah,results39,ntmps39,ap,bG,Bf,Bool.true_or,ag,seval,ae]|exact rfl|refine aa (v:=.any) ?_|(first|(refine ac ?_ (hn _) ?_)|(refine ab ?_ (fun _=>hn _) ?_))|((first|apply Ca|apply Cb)<;>intro hb)|refine Ai (by omega) ?_|(apply Ai<;>intro hb)|refine Fin.pure ?_ ?_ ?_|simp only[au])
def qX (n:Nd):Bool:=((decide (n.kind=1) && !cU n.name)||dO n.space)||n.attrs.any Bg
def yE (a:At):Bool:=a.space != []
theorem Jr (a:At)(nm:Nat):Ev cx 50 nm [.agg (bG a)] ao.nil (.bool (yE a)) []:=by
 unfold yE
 refine ay rfl (fun cargs w=>call50 cargs w) func50 rfl mixed (by kernel_rfl) rfl ?_;intro b0 hb0
 (repeat' first|simp only[am,ah,results50,ntmps50,ap,bG,ag,seval,ae]|exact rfl|refine aa (v:=.any) ?_|((first|apply Ca|apply Cb)<;>intro hb)|refine Ai (by omega) ?_|(apply Ai<;>intro hb)|refine Fin.pure ?_ ?_ ?_|simp only[au])
def kN (n:Nd):Bool:=(!(n.space==[]))||n.attrs.any yE
theorem uU (n:Nd)(hn:n.attrs.length≤bk)(nm:Nat):Ev cx 21 nm [.agg (bc n)] ao.nil (.bool (kN n)) []:=by
 have hc:=fe n.attrs 50 [] yE (fun a _ nm=>Jr a nm) hn rfl
 unfold kN
 cases h:(n.space==[]) with
 | false =>
  refine ay rfl (fun cargs w=>call21 cargs w) func21 rfl mixed (by kernel_rfl) rfl ?_;intro b0 hb0
  (repeat' first|simp only[am,ah,results21,ntmps21,ap,bc,h,aw,Bf,Bt,Bool.true_or,ag,seval,ae]|exact rfl|refine aa (v:=.any) ?_|((first|apply Ca|apply Cb)<;>intro hb)|refine Ai (by omega) ?_|(apply Ai<;>intro hb)|refine Fin.pure ?_ ?_ ?_|simp only[au])
 | true =>
  refine ay rfl (fun cargs w=>call21 cargs w) func21 rfl mixed (by kernel_rfl) rfl ?_;intro b0 hb0
  (repeat' first|simp only[am,ah,results21,ntmps21,ap,bc,h,aw,Bt,Bf,Bool.false_or,ag,seval,ae]|exact rfl|refine aa (v:=.any) ?_|(first|(refine ac ?_ (hc _) ?_)|(refine ab ?_ (fun _=>hc _) ?_))|((first|apply Ca|apply Cb)<;>intro hb)|refine Ai (by omega) ?_|(apply Ai<;>intro hb)|refine Fin.pure ?_ ?_ ?_|simp only[au])
theorem H1 (n:Nd)(hn:n.okTo bk)(nm:Nat):Ev cx 40 nm [.agg (bc n),.rp [.fn 39 []]] ao.nil (.bool (qX n)) []:=by
 have hg:=nO n.space
 have hm:=ig n.name hn.2.2.1
 have hc:=fe n.attrs 39 [] Bg (fun a ha nm=>H0 a (hn.2.2.2.2 a ha).2.1 nm) hn.1 rfl
 unfold qX
 by_cases hk:n.kind=1
 ·have q:((n.kind:Int)==1)=true:=by rw[hk];rfl
  rw[decide_eq_true hk]
  cases h1:cU n.name with
  | false =>
   rw[h1]at hm
   refine ay rfl (fun cargs w=>call40 cargs w) func40 rfl mixed (by kernel_rfl) rfl ?_;intro b0 hb0
   (repeat' first|simp only[am,ah,results40,ntmps40,ap,bc,q,aw,Bt,Bf,Bool.true_or,Bool.true_and,ag,seval,ae]|exact rfl|refine aa (v:=.any) ?_|(first|(refine ac ?_ (hm _) ?_)|(refine ab ?_ (fun _=>hm _) ?_))|((first|apply Ca|apply Cb)<;>intro hb)|refine Ai (by omega) ?_|(apply Ai<;>intro hb)|refine Fin.pure ?_ ?_ ?_|simp only[au])
  | true =>
   rw[h1]at hm
   cases h2:dO n.space with
   | true =>
    rw[h2]at hg
    refine ay rfl (fun cargs w=>call40 cargs w) func40 rfl mixed (by kernel_rfl) rfl ?_;intro b0 hb0
    (repeat' first|simp only[am,ah,results40,ntmps40,ap,bc,q,aw,Bt,Bf,Bool.true_or,Bool.or_true,Bool.and_false,Bool.true_and,ag,seval,ae]|exact rfl|refine aa (v:=.any) ?_|(first|(refine ac ?_ (hm _) ?_)|(refine ab ?_ (fun _=>hm _) ?_)|(refine ac ?_ (hg _) ?_)|(refine ab ?_ (fun _=>hg _) ?_))|((first|apply Ca|apply Cb)<;>intro hb)|refine Ai (by omega) ?_|(apply Ai<;>intro hb)|refine Fin.pure ?_ ?_ ?_|simp only[au])
   | false =>
    rw[h2]at hg
    refine ay rfl (fun cargs w=>call40 cargs w) func40 rfl mixed (by kernel_rfl) rfl ?_;intro b0 hb0
    (repeat' first|simp only[am,ah,results40,ntmps40,ap,bc,q,aw,Bt,Bf,Bool.false_or,Bool.and_false,Bool.true_and,ag,seval,ae]|exact rfl|refine aa (v:=.any) ?_|(first|(refine ac ?_ (hm _) ?_)|(refine ab ?_ (fun _=>hm _) ?_)|(refine ac ?_ (hg _) ?_)|(refine ab ?_ (fun _=>hg _) ?_)|(refine ac ?_ (hc _) ?_)|(refine ab ?_ (fun _=>hc _) ?_))|((first|apply Ca|apply Cb)<;>intro hb)|refine Ai (by omega) ?_|(apply Ai<;>intro hb)|refine Fin.pure ?_ ?_ ?_|simp only[au])
 ·have q:((n.kind:Int)==1)=false:=beq_false_of_ne (by omega)
  rw[decide_eq_false hk]
  cases h2:dO n.space with
  | true =>
   rw[h2]at hg
   refine ay rfl (fun cargs w=>call40 cargs w) func40 rfl mixed (by kernel_rfl) rfl ?_;intro b0 hb0
   (repeat' first|simp only[am,ah,results40,ntmps40,ap,bc,q,aw,Bool.false_and,Bool.false_or,Bool.true_or,ag,seval,ae]|exact rfl|refine aa (v:=.any) ?_|(first|(refine ac ?_ (hg _) ?_)|(refine ab ?_ (fun _=>hg _) ?_))|((first|apply Ca|apply Cb)<;>intro hb)|refine Ai (by omega) ?_|(apply Ai<;>intro hb)|refine Fin.pure ?_ ?_ ?_|simp only[au])
  | false =>
   rw[h2]at hg
   refine ay rfl (fun cargs w=>call40 cargs w) func40 rfl mixed (by kernel_rfl) rfl ?_;intro b0 hb0
   (repeat' first|simp only[am,ah,results40,ntmps40,ap,bc,q,aw,Bool.false_and,Bool.false_or,ag,seval,ae]|exact rfl|refine aa (v:=.any) ?_|(first|(refine ac ?_ (hg _) ?_)|(refine ab ?_ (fun _=>hg _) ?_)|(refine ac ?_ (hc _) ?_)|(refine ab ?_ (fun _=>hc _) ?_))|((first|apply Ca|apply Cb)<;>intro hb)|refine Ai (by omega) ?_|(apply Ai<;>intro hb)|refine Fin.pure ?_ ?_ ?_|simp only[au])
def er (v:List Nd):Int:=if (v.any qX)=true then 8 else eG v
theorem tV (v:List Nd)(hv:v.length≤bk)(hok:∀ n∈v,n.okTo bk∧n.i64)(nm:Nat):Ev cx 12 nm [.sl false 6 (v.map bc)] ao.nil (.int .i64 (er v)) []:=by
 have hc:=gq v 40 [.rp [.fn 39 []]] qX (fun n hn nm=>H1 n (hok n hn).1 nm) hv rfl
 have hk:=oD v hv hok
 unfold er
 cases h:v.any qX with
 | true =>
  rw[h]at hc
  refine ay rfl (fun cargs w=>call12 cargs w) func12 rfl mixed (by kernel_rfl) rfl ?_;intro b0 hb0
  (repeat' first|simp only[am,ah,results12,ntmps12,ap,ai,ag,seval,ae]|exact rfl|refine aa (v:=.any) ?_|(first|(refine ac ?_ (hk _) ?_)|(refine ab ?_ (fun _=>hk _) ?_))|((refine bn (xs:=?_) [b0+16] ?_ ?_ ?_ rfl (hc _) ?_);rotate_left 1)|omega|((first|apply Ca|apply Cb)<;>intro hb)|refine Ai (by omega) ?_|(apply Ai<;>intro hb)|refine Fin.pure ?_ ?_ ?_|simp only[au])
 | false =>
  rw[h]at hc
  rw[if_neg (by decide)]
  refine ay rfl (fun cargs w=>call12 cargs w) func12 rfl mixed (by kernel_rfl) rfl ?_;intro b0 hb0
  (repeat' first|simp only[am,ah,results12,ntmps12,ap,ai,ag,seval,ae]|exact rfl|refine aa (v:=.any) ?_|(first|(refine ac ?_ (hk _) ?_)|(refine ab ?_ (fun _=>hk _) ?_))|((refine bn (xs:=?_) [b0+16] ?_ ?_ ?_ rfl (hc _) ?_);rotate_left 1)|omega|((first|apply Ca|apply Cb)<;>intro hb)|refine Ai (by omega) ?_|(apply Ai<;>intro hb)|refine Fin.pure ?_ ?_ ?_|simp only[au])
theorem E2 (n:Nd)(nm:Nat):Ev cx 34 nm [.agg (bc n)] ao.nil (.bool (decide (16<n.attrs.length))) []:=by
 have h:decide ((16:Int)<(n.attrs.length:Int))=decide (16<n.attrs.length):=by
  by_cases h:16<n.attrs.length
  ·rw[decide_eq_true h,decide_eq_true (by omega)]
  ·rw[decide_eq_false h,decide_eq_false (by omega)]
 rw[← h]
 refine ay rfl (fun cargs w=>call34 cargs w) func34 rfl mixed (by kernel_rfl) rfl ?_;intro b0 hb0
 (repeat' first|simp only[am,ah,results34,ntmps34,ap,bc,aw,Lm,h,ag,seval,ae]|exact rfl|refine aa (v:=.any) ?_|((first|apply Ca|apply Cb)<;>intro hb)|refine Ai (by omega) ?_|(apply Ai<;>intro hb)|refine Fin.pure ?_ ?_ ?_|simp only[au])
def lN (a b:At):Bool:=(a.space==b.space)&&(a.name==b.name)
theorem uF (a b:At)(nm:Nat):Ev cx 55 nm [.agg (bG a),.rp (bG b)] ao.nil (.bool (lN a b)) []:=by
 unfold lN
 refine ay rfl (fun cargs w=>call55 cargs w) func55 rfl mixed (by kernel_rfl) rfl ?_;intro b0 hb0
 (repeat' first|simp only[am,ah,results55,ntmps55,ap,bG,ag,seval,ae]|exact rfl|refine aa (v:=.any) ?_|((first|apply Ca|apply Cb)<;>intro hb)|refine Ai (by omega) ?_|(apply Ai<;>intro hb)|refine Fin.pure ?_ ?_ ?_|simp only[au])
def iE (n:Nat):List UInt8:=if n<10 then [(48+n).toUInt8] else [(48+n / 10).toUInt8,(48+n % 10).toUInt8]
def iP (S:List (List UInt8))(a:At):List (List UInt8):=if (a.space==[])=true then S else if (a.space==sW)=true then S else if S.contains a.space=true then S else S++[a.space]
def bz (l:List At):List (List UInt8):=l.foldl iP []
def Nj (S:List (List UInt8))(s:List UInt8):Nat:=(S.findIdx? (· == s)).getD S.length
def ym (S:List (List UInt8))(s:List UInt8):List UInt8:=if (s==sW)=true then [120,109,108] else 110::iE (Nj S s+1)
def wh (S:List (List UInt8))(a:At):At:=⟨[],if (a.space==[])=true then a.name else ym S a.space++58::a.name,a.value⟩
def zp (k:Nat)(s:List UInt8):At:=⟨[],[120,109,108,110,115,58,110]++iE (k+1),s⟩
def lb (S:List (List UInt8)):List At:=S.mapIdx zp
def JV (n:Nd)(sp:List UInt8):List At:=if (n.space==sp)=true then [] else [⟨[],[120,109,108,110,115],n.space⟩]
def fl (n:Nd)(sp:List UInt8):Nd:=⟨n.kind,[],n.name,JV n sp++lb (bz n.attrs)++n.attrs.map (wh (bz n.attrs)),[],n.many⟩
theorem AU {l:List At}{k:Nat}{a:At}(h:l[k]? = some a):bz (l.take (k+1))=iP (bz (l.take k)) a:=by
 obtain⟨hk,rfl⟩:=List.getElem?_eq_some_iff.1 h
 unfold bz
 rw[List.take_succ_eq_append_getElem hk,List.foldl_append];rfl
theorem Ea (S:List (List UInt8))(a:At):S <+: iP S a:=by
 unfold iP
 split
 ·exact List.prefix_refl _
 ·split
  ·exact List.prefix_refl _
  ·split
   ·exact List.prefix_refl _
   ·exact List.prefix_append _ _
theorem ou:∀(l:List At) (S:List (List UInt8)),S <+: l.foldl iP S
 | [],_=>List.prefix_refl _
 | a::l,S=>(Ea S a).trans (ou l _)
theorem pv (l:List At)(k:Nat):bz (l.take k) <+: bz l:=by
 have h:=ou (l.drop k) (bz (l.take k))
 unfold bz at h ⊢
 rwa[← List.foldl_append,List.take_append_drop]at h
theorem D9 (S:List (List UInt8))(a:At):(iP S a).length≤S.length+1:=by
 unfold iP
 split
 ·omega
 ·split
  ·omega
  ·split
   ·omega
   ·simp
theorem ot:∀(l:List At) (S:List (List UInt8)),(l.foldl iP S).length≤S.length+l.length
 | [],S=>by simp
 | a::l,S=>by
  have h1:=ot l (iP S a)
  have h2:=D9 S a
  simp only[List.foldl_cons,List.length_cons]
  omega
theorem uS (l:List At):(bz l).length≤l.length:=by
 have:=ot l []
 unfold bz;simpa using this
theorem Fr {S T:List (List UInt8)}{s:List UInt8}{k:Nat}(h:S <+: T)(hk:S.findIdx? (· == s)=some k):T.findIdx? (· == s)=some k:=by
 obtain⟨r,rfl⟩:=h
 rw[List.findIdx?_append,hk];rfl
theorem JW {S T:List (List UInt8)}{s:List UInt8}{k:Nat}(h:S <+: T)(hk:S.findIdx? (· == s)=some k):Nj T s=k:=by
 unfold Nj;rw[Fr h hk];rfl
theorem CQ {S:List (List UInt8)}{s:List UInt8}(h:S.findIdx? (· == s)=none):(S++[s]).findIdx? (· == s)=some S.length:=by
 rw[List.findIdx?_append,h];simp
theorem CE {S:List (List UInt8)}{s:List UInt8}(h:S.findIdx? (· == s)=none):S.contains s=false:=by
 have:=List.findIdx?_eq_none_iff.1 h
 cases hc:S.contains s with
 | false=>rfl
 | true =>
  rw[List.contains_iff_mem]at hc
  have:=this s hc
  simp at this
theorem CF {S:List (List UInt8)}{s:List UInt8}{k:Nat}(h:S.findIdx? (· == s)=some k):S.contains s=true:=by
 cases hc:S.contains s with
 | true=>rfl
 | false =>
  have:S.findIdx? (· == s)=none:=List.findIdx?_eq_none_iff.2 fun x hx=>by
   cases hb:(x==s) with
   | false=>rfl
   | true =>
    have:=eq_of_beq hb;subst this
    rw[← List.contains_iff_mem]at hx;rw[hc]at hx;cases hx
  rw[this]at h;cases h
theorem CH (S:List (List UInt8))(s:List UInt8):lb (S++[s])=lb S++[zp S.length s]:=by
 unfold lb;simp[List.mapIdx_append]
theorem Fa (S:List (List UInt8)):(lb S).length=S.length:=by simp[lb]
theorem r6:∀ n,n<100→(iE n).length≤2:=by
 intro n _;unfold iE;split<;>simp
def Fo.bare:Fo→List UInt8→List Nd
 | .nil,_=>[]
 | .cons n k r,sp=>(if n.kind=2 then [n] else fl n sp::k.bare n.space)++r.bare sp
abbrev kS:=List (List UInt8×List UInt8)
def fx (p:List UInt8):kS→Option (List UInt8)
 | []=>none
 | q::r=>if (p==q.1)=true then some q.2 else fx p r
def we (p v:List UInt8):kS→kS
 | []=>[(p,v)]
 | q::r=>if (p==q.1)=true then (p,v)::r else q::we p v r
theorem get_put (p v q:List UInt8):∀(K:kS),fx q (we p v K)=if q=p then some v else fx q K
 | []=>by
  simp only[we,fx]
  by_cases h:q=p<;>simp[h]
 | x::r=>by
  simp only[we]
  by_cases h1:p=x.1
  ·rw[if_pos (by simpa using h1)]
   simp only[fx]
   by_cases h:q=p
   ·simp[h]
   ·simp[h,← h1]
  ·rw[if_neg (by simpa using h1)]
   simp only[fx]
   by_cases h:q=x.1
   ·subst h;simp[Ne.symm h1]
   ·simp[h,get_put p v q r]
def fV (s:List UInt8):Option (List UInt8):=if (s==[120,109,108,110,115])=true then some [] else if preB s [120,109,108,110,115,58]=true then some (s.drop 6) else none
theorem wX (s:List UInt8):Bl s = .tup [.str ((fV s).getD s),.bool (fV s).isSome]:=by
 unfold Bl fV
 split
 ·rfl
 ·unfold wb
  split<;>rfl
def FY (K:kS×Bool)(a:At):kS×Bool:=match fV a.name with
 | none=>K
 | some p=>(we p a.value K.1,K.2&&Du p a.value)
def o5 (K:kS)(r:Bool)(l:List At):kS×Bool:=l.foldl FY (K,r)
def pS (K:kS)(a:At):At:=if a.name.contains 58=true then ⟨(fx (dA a.name).1 K).getD [],(dA a.name).2,a.value⟩ else ⟨[],a.name,a.value⟩
def uk (K:kS)(a:At):Bool:=!a.name.contains 58||(fx (dA a.name).1 K).isSome
def HC (K:kS)(s:List At×Bool)(a:At):List At×Bool:=match fV a.name with
 | some _=>s
 | none=>(s.1++[pS K a],(s.2&&uk K a) && !(s.1.any fun b=>lN b (pS K a)))
def As (K:kS)(r:Bool)(l:List At):List At×Bool:=l.foldl (HC K) ([],r)
def ko (K:kS)(n:Nd):Nd×Bool:=(⟨n.kind,(fx (dA n.name).1 K).getD [],(dA n.name).2,(As K (fx (dA n.name).1 K).isSome n.attrs).1,[],n.many⟩,(As K (fx (dA n.name).1 K).isSome n.attrs).2)
def Fo.res:Fo→kS→List Nd×Bool
 | .nil,_=>([],true)
 | .cons n k r,K=>if n.kind=2 then (n::(r.res K).1,(r.res K).2)
  else ((ko (o5 K true n.attrs).1 n).1::((k.res (o5 K true n.attrs).1).1++(r.res K).1),(((o5 K true n.attrs).2&&(ko (o5 K true n.attrs).1 n).2)&&(k.res (o5 K true n.attrs).1).2)&&(r.res K).2)
def wC:kS:=[([],[]),([120,109,108],sW)]
def pM:Nat→Nat→List Nd→Fo×List Nd
 | 0,_,v=>(.nil,v)
 | _+1,0,v=>(.nil,v)
 | _+1,_+1,[]=>(.nil,[])
 | f+1,c+1,n::v=>(.cons n (pM f n.many.toNat v).1 (pM f c (pM f n.many.toNat v).2).1,(pM f c (pM f n.many.toNat v).2).2)
theorem zN:∀(F:Fo) (d last f:Nat) (r:List Nd),F.good d last=true→F.size<f→pM f F.count (F.flat++r)=(F,r)
 | .nil,_,_,f+1,r,_,_=>by simp[Fo.count,Fo.flat,pM]
 | .cons n k r,d,last,f+1,rest,h,hf=>by
  obtain⟨h1,h2,h3,h4,h5,h6⟩:=Fo.good_cons.1 h
  simp only[Fo.size]at hf
  have hk:=zN k (d-1) 1 f (r.flat++rest) h5 (by omega)
  have hr:=zN r d n.kind f rest h6 (by omega)
  have hm:n.many.toNat=k.count:=by omega
  simp only[Fo.count,Fo.flat,List.cons_append,List.append_assoc,pM,hm,hk,hr]
 | F,_,_,0,_,_,hf=>by omega
def p0 (v:List Nd):Fo:=(pM (v.length+1) 1 v).1
theorem vv {n:Nd}{k:Fo}{d:Nat}(h:(Fo.cons n k .nil).good d 0=true):p0 (n::k.flat) = .cons n k .nil:=by
 have:=zN (.cons n k .nil) d 0 ((n::k.flat).length+1) [] h (by simp[Fo.size,Fo.flat_length])
 unfold p0
 simp only[Fo.count,Fo.flat,List.append_nil]at this
 rw[this]
def bq (v:List Nd):List Nd×Int:=if eG v≠0 then ([],8) else if v.any kN=true then ([],8) else if ((p0 v).res wC).2=true then (((p0 v).res wC).1,0) else ([],110)
def pV (v:List Nd):Bool:=v.any fun n=>decide (16<n.attrs.length)
def g8 (v:List Nd)(sp:List UInt8):List Nd×Int:=if er v≠0 then ([],er v) else if aO sp≠0∨dO sp=true then ([],8) else if pV ((p0 v).bare sp)=true then ([],4) else ((p0 v).bare sp,0)
end Go.Proofs.YtcllbjanalhjgaaGreatDoor
