/-
 Texts joined: XTa,XTb,XTc,XOa.
-/
import Derived.Test.YtlnlopnpcmahgaaGreatDoorQi
import Derived.Test.YtlnlopnpcmahgaaGreatDoorQs
import Derived.Test.YtlnlopnpcmahgaaGreatDoorQj
import Derived.Test.YtlnlopnpcmahgaaGreatDoorQt
import Derived.Test.YtlnlopnpcmahgaaGreatDoorQk
set_option linter.all false
namespace Go.Proofs.YtlnlopnpcmahgaaGreatDoor
set_option maxRecDepth 100000
set_option maxHeartbeats 32000000
open Go Go.RowKit Vm Go.Lib Tryz
open Vm renaming ba->Ca,bh->Cb
open And renaming intro->Ai
open List renaming length_map->Lm,not_mem_nil->Ln,map_nil->Lo,map_cons->Lc,mem_cons->Lk
open Bool renaming not_false->Bf,not_true->Bt
def l7:List UInt8:=[104,116,116,112,58,47,47,119,119,119,46,119,51,46,111,114,103,47,88,77,76,47,49,57,57,56,47,110,97,109,101,115,112,97,99,101]
def vk:List UInt8:=[104,116,116,112,58,47,47,119,119,119,46,119,51,46,111,114,103,47,50,48,48,48,47,120,109,108,110,115,47]
def fD (s:List UInt8):Bool:=(s==l7)||(s==vk)
def pL (s:List UInt8)(nm:Nat):Ev cx 75 nm [.str s] ap.nil (.bool (fD s)) []:=by
 unfold fD l7 vk
 refine bi call75 func75 rfl (by kernel_rfl) rfl ?_;intro b0 hb0
 (repeat' first|simp only[ak,aj,results75,ntmps75,al,ai,seval,ah]|exact rfl|refine aa (v:=.any) ?_|((first|apply Ca|apply Cb)<;>intro hb)|refine Ai (by omega) ?_|(apply Ai<;>intro hb)|refine Fin.pure ?_ ?_ ?_|simp only[ao])
def AW (p v:List UInt8):Bool:=if (p==[120,109,108,110,115])=true then false else if (p==[120,109,108])=true then v==l7 else !fD v&&((p==[])||(v != []))
def N0 (p v:List UInt8)(nm:Nat):Ev cx 109 nm [.str p,.str v] ap.nil (.bool (AW p v)) []:=by
 have hg:=pL v
 have hx:(v==l7)=(v==[104,116,116,112,58,47,47,119,119,119,46,119,51,46,111,114,103,47,88,77,76,47,49,57,57,56,47,110,97,109,101,115,112,97,99,101]):=rfl
 unfold AW
 rw[hx]
 cases h1:(p==[120,109,108,110,115]) with
 | true =>
  refine bi call109 func109 rfl (by kernel_rfl) rfl ?_;intro b0 hb0
  (repeat' first|simp only[ak,aj,results109,ntmps109,al,h1,ai,seval,ah]|exact rfl|refine aa (v:=.any) ?_|(first|(refine ad ?_ (hg _) ?_)|(refine ab ?_ (fun _=>hg _) ?_))|((first|apply Ca|apply Cb)<;>intro hb)|refine Ai (by omega) ?_|(apply Ai<;>intro hb)|refine Fin.pure ?_ ?_ ?_|simp only[ao])
 | false =>
  cases h2:(p==[120,109,108]) with
  | true =>
   refine bi call109 func109 rfl (by kernel_rfl) rfl ?_;intro b0 hb0
   (repeat' first|simp only[ak,aj,results109,ntmps109,al,h1,h2,ai,seval,ah]|exact rfl|refine aa (v:=.any) ?_|(first|(refine ad ?_ (hg _) ?_)|(refine ab ?_ (fun _=>hg _) ?_))|((first|apply Ca|apply Cb)<;>intro hb)|refine Ai (by omega) ?_|(apply Ai<;>intro hb)|refine Fin.pure ?_ ?_ ?_|simp only[ao])
  | false =>
   cases h3:fD v with
   | true =>
    rw[h3]at hg
    refine bi call109 func109 rfl (by kernel_rfl) rfl ?_;intro b0 hb0
    (repeat' first|simp only[ak,aj,results109,ntmps109,al,h1,h2,Bt,ai,seval,ah]|exact rfl|refine aa (v:=.any) ?_|(first|(refine ad ?_ (hg _) ?_)|(refine ab ?_ (fun _=>hg _) ?_))|((first|apply Ca|apply Cb)<;>intro hb)|refine Ai (by omega) ?_|(apply Ai<;>intro hb)|refine Fin.pure ?_ ?_ ?_|simp only[ao])
   | false =>
    rw[h3]at hg
    refine bi call109 func109 rfl (by kernel_rfl) rfl ?_;intro b0 hb0
    (repeat' first|simp only[ak,aj,results109,ntmps109,al,h1,h2,Bf,ai,seval,ah]|exact rfl|refine aa (v:=.any) ?_|(first|(refine ad ?_ (hg _) ?_)|(refine ab ?_ (fun _=>hg _) ?_))|((first|apply Ca|apply Cb)<;>intro hb)|refine Ai (by omega) ?_|(apply Ai<;>intro hb)|refine Fin.pure ?_ ?_ ?_|simp only[ao])
def dS (s:List UInt8):List UInt8×List UInt8:=match eg 58 s with
 | none=>([],s)
 | some (a,b)=>(a,b)
def Bm (s:List UInt8)(hs:s.length<=be)(nm:Nat):Ev cx 155 nm [.str s] ap.nil (.tup [.str (dS s).1,.str (dS s).2]) []:=by
 have hc:=oD s 58 hs
 unfold hU at hc
 unfold dS
 cases h:eg 58 s with
 | none =>
  rw[h]at hc
  refine bi call155 func155 rfl (by kernel_rfl) rfl ?_;intro b0 hb0
  (repeat' first|simp only[ak,aj,results155,ntmps155,al,Bf,ai,seval,ah]|exact rfl|refine aa (v:=.any) ?_|(first|(refine ad ?_ (hc _) ?_)|(refine ab ?_ (fun _=>hc _) ?_))|((first|apply Ca|apply Cb)<;>intro hb)|refine Ai (by omega) ?_|(apply Ai<;>intro hb)|refine Fin.pure ?_ ?_ ?_|simp only[ao])
 | some p =>
  obtain⟨a,b⟩:=p
  rw[h]at hc
  refine bi call155 func155 rfl (by kernel_rfl) rfl ?_;intro b0 hb0
  (repeat' first|simp only[ak,aj,results155,ntmps155,al,Bt,ai,seval,ah]|exact rfl|refine aa (v:=.any) ?_|(first|(refine ad ?_ (hc _) ?_)|(refine ab ?_ (fun _=>hc _) ?_))|((first|apply Ca|apply Cb)<;>intro hb)|refine Ai (by omega) ?_|(apply Ai<;>intro hb)|refine Fin.pure ?_ ?_ ?_|simp only[ao])
def En (s:List UInt8):V:=if (s==[120,109,108,110,115])=true then .tup [.str [],.bool true] else yC s [120,109,108,110,115,58]
def rR (a:At)(hs:a.name.length<=be)(nm:Nat):Ev cx 108 nm [.agg (bN a)] ap.nil (En a.name) []:=by
 have hc:=ny a.name [120,109,108,110,115,58] hs (by decide)
 unfold En
 cases h:(a.name==[120,109,108,110,115]) with
 | true =>
  refine bi call108 func108 rfl (by kernel_rfl) rfl ?_;intro b0 hb0
  (repeat' first|simp only[ak,aj,results108,ntmps108,al,bN,h,ai,seval,ah]|exact rfl|refine aa (v:=.any) ?_|((first|apply Ca|apply Cb)<;>intro hb)|refine Ai (by omega) ?_|(apply Ai<;>intro hb)|refine Fin.pure ?_ ?_ ?_|simp only[ao])
 | false =>
  unfold yC at hc ⊢
  cases hb:preB a.name [120,109,108,110,115,58] with
  | true =>
   rw[hb]at hc
   refine bi call108 func108 rfl (by kernel_rfl) rfl ?_;intro b0 hb0
   (repeat' first|simp only[ak,aj,results108,ntmps108,al,bN,h,ai,seval,ah]|exact rfl|refine aa (v:=.any) ?_|(first|(refine ad ?_ (hc _) ?_)|(refine ab ?_ (fun _=>hc _) ?_))|((first|apply Ca|apply Cb)<;>intro hb)|refine Ai (by omega) ?_|(apply Ai<;>intro hb)|refine Fin.pure ?_ ?_ ?_|simp only[ao])
  | false =>
   rw[hb]at hc
   refine bi call108 func108 rfl (by kernel_rfl) rfl ?_;intro b0 hb0
   (repeat' first|simp only[ak,aj,results108,ntmps108,al,bN,h,ai,seval,ah]|exact rfl|refine aa (v:=.any) ?_|(first|(refine ad ?_ (hc _) ?_)|(refine ab ?_ (fun _=>hc _) ?_))|((first|apply Ca|apply Cb)<;>intro hb)|refine Ai (by omega) ?_|(apply Ai<;>intro hb)|refine Fin.pure ?_ ?_ ?_|simp only[ao])
def zq (a:At):Bool:=(!ec a.name||((a.space==[])&&(a.name==[120,109,108,110,115])))||(a.space==vk)
def MY (a:At)(h1:a.name.length<=be)(nm:Nat):Ev cx 122 nm [.agg (bN a)] ap.nil (.bool (zq a)) []:=by
 have hn:=p0 a.name h1
 unfold zq vk
 cases h:ec a.name with
 | true =>
  rw[h]at hn
  cases h2:(a.space==[]) with
  | true =>
   refine bi call122 func122 rfl (by kernel_rfl) rfl ?_;intro b0 hb0
   (repeat' first|simp only[ak,aj,results122,ntmps122,al,bN,h2,Bt,Bool.false_or,Bool.true_and,ai,seval,ah]|exact rfl|refine aa (v:=.any) ?_|(first|(refine ad ?_ (hn _) ?_)|(refine ab ?_ (fun _=>hn _) ?_))|((first|apply Ca|apply Cb)<;>intro hb)|refine Ai (by omega) ?_|(apply Ai<;>intro hb)|refine Fin.pure ?_ ?_ ?_|simp only[ao])
  | false =>
   refine bi call122 func122 rfl (by kernel_rfl) rfl ?_;intro b0 hb0
   (repeat' first|simp only[ak,aj,results122,ntmps122,al,bN,h2,Bt,Bool.false_or,Bool.false_and,ai,seval,ah]|exact rfl|refine aa (v:=.any) ?_|(first|(refine ad ?_ (hn _) ?_)|(refine ab ?_ (fun _=>hn _) ?_))|((first|apply Ca|apply Cb)<;>intro hb)|refine Ai (by omega) ?_|(apply Ai<;>intro hb)|refine Fin.pure ?_ ?_ ?_|simp only[ao])
 | false =>
  rw[h]at hn
  refine bi call122 func122 rfl (by kernel_rfl) rfl ?_;intro b0 hb0
  (repeat' first|simp only[ak,aj,results122,ntmps122,al,bN,Bf,Bool.true_or,ai,seval,ah]|exact rfl|refine aa (v:=.any) ?_|(first|(refine ad ?_ (hn _) ?_)|(refine ab ?_ (fun _=>hn _) ?_))|((first|apply Ca|apply Cb)<;>intro hb)|refine Ai (by omega) ?_|(apply Ai<;>intro hb)|refine Fin.pure ?_ ?_ ?_|simp only[ao])
def nY (n:Nd):Bool:=((decide (n.kind=1) && !ec n.name)||fD n.space)||n.attrs.any zq
def uU (a:At):Bool:=a.space != []
def OA (a:At)(nm:Nat):Ev cx 152 nm [.agg (bN a)] ap.nil (.bool (uU a)) []:=by
 unfold uU
 refine bi call152 func152 rfl (by kernel_rfl) rfl ?_;intro b0 hb0
 (repeat' first|simp only[ak,aj,results152,ntmps152,al,bN,ai,seval,ah]|exact rfl|refine aa (v:=.any) ?_|((first|apply Ca|apply Cb)<;>intro hb)|refine Ai (by omega) ?_|(apply Ai<;>intro hb)|refine Fin.pure ?_ ?_ ?_|simp only[ao])
def lh (n:Nd):Bool:=(!(n.space==[]))||n.attrs.any uU
def xa (n:Nd)(hn:n.attrs.length<=be)(nm:Nat):Ev cx 105 nm [.agg (aZ n)] ap.nil (.bool (lh n)) []:=by
 have hc:=ef n.attrs 152 [] uU (fun a _ nm=>OA a nm) hn rfl
 unfold lh
 cases h:(n.space==[]) with
 | false =>
  refine bi call105 func105 rfl (by kernel_rfl) rfl ?_;intro b0 hb0
  (repeat' first|simp only[ak,aj,results105,ntmps105,al,aZ,h,aq,Bf,Bt,Bool.true_or,ai,seval,ah]|exact rfl|refine aa (v:=.any) ?_|((first|apply Ca|apply Cb)<;>intro hb)|refine Ai (by omega) ?_|(apply Ai<;>intro hb)|refine Fin.pure ?_ ?_ ?_|simp only[ao])
 | true =>
  refine bi call105 func105 rfl (by kernel_rfl) rfl ?_;intro b0 hb0
  (repeat' first|simp only[ak,aj,results105,ntmps105,al,aZ,h,aq,Bt,Bf,Bool.false_or,ai,seval,ah]|exact rfl|refine aa (v:=.any) ?_|(first|(refine ad ?_ (hc _) ?_)|(refine ab ?_ (fun _=>hc _) ?_))|((first|apply Ca|apply Cb)<;>intro hb)|refine Ai (by omega) ?_|(apply Ai<;>intro hb)|refine Fin.pure ?_ ?_ ?_|simp only[ao])
def MZ (n:Nd)(hn:n.okTo be)(nm:Nat):Ev cx 124 nm [.agg (aZ n),.rp [.fn 122 []]] ap.nil (.bool (nY n)) []:=by
 have hg:=pL n.space
 have hm:=p0 n.name hn.2.2.1
 have hc:=ef n.attrs 122 [] zq (fun a ha nm=>MY a (hn.2.2.2.2 a ha).2.1 nm) hn.1 rfl
 unfold nY
 by_cases hk:n.kind=1
 ·have q:((n.kind:Int)==1)=true:=by rw[hk];rfl
  rw[decide_eq_true hk]
  cases h1:ec n.name with
  | false =>
   rw[h1]at hm
   refine bi call124 func124 rfl (by kernel_rfl) rfl ?_;intro b0 hb0
   (repeat' first|simp only[ak,aj,results124,ntmps124,al,aZ,q,aq,Bt,Bf,Bool.true_or,Bool.true_and,ai,seval,ah]|exact rfl|refine aa (v:=.any) ?_|(first|(refine ad ?_ (hm _) ?_)|(refine ab ?_ (fun _=>hm _) ?_))|((first|apply Ca|apply Cb)<;>intro hb)|refine Ai (by omega) ?_|(apply Ai<;>intro hb)|refine Fin.pure ?_ ?_ ?_|simp only[ao])
  | true =>
   rw[h1]at hm
   cases h2:fD n.space with
   | true =>
    rw[h2]at hg
    refine bi call124 func124 rfl (by kernel_rfl) rfl ?_;intro b0 hb0
    (repeat' first|simp only[ak,aj,results124,ntmps124,al,aZ,q,aq,Bt,Bf,Bool.true_or,Bool.or_true,Bool.and_false,Bool.true_and,ai,seval,ah]|exact rfl|refine aa (v:=.any) ?_|(first|(refine ad ?_ (hm _) ?_)|(refine ab ?_ (fun _=>hm _) ?_)|(refine ad ?_ (hg _) ?_)|(refine ab ?_ (fun _=>hg _) ?_))|((first|apply Ca|apply Cb)<;>intro hb)|refine Ai (by omega) ?_|(apply Ai<;>intro hb)|refine Fin.pure ?_ ?_ ?_|simp only[ao])
   | false =>
    rw[h2]at hg
    refine bi call124 func124 rfl (by kernel_rfl) rfl ?_;intro b0 hb0
    (repeat' first|simp only[ak,aj,results124,ntmps124,al,aZ,q,aq,Bt,Bf,Bool.false_or,Bool.and_false,Bool.true_and,ai,seval,ah]|exact rfl|refine aa (v:=.any) ?_|(first|(refine ad ?_ (hm _) ?_)|(refine ab ?_ (fun _=>hm _) ?_)|(refine ad ?_ (hg _) ?_)|(refine ab ?_ (fun _=>hg _) ?_)|(refine ad ?_ (hc _) ?_)|(refine ab ?_ (fun _=>hc _) ?_))|((first|apply Ca|apply Cb)<;>intro hb)|refine Ai (by omega) ?_|(apply Ai<;>intro hb)|refine Fin.pure ?_ ?_ ?_|simp only[ao])
 ·have q:((n.kind:Int)==1)=false:=beq_false_of_ne (by omega)
  rw[decide_eq_false hk]
  cases h2:fD n.space with
  | true =>
   rw[h2]at hg
   refine bi call124 func124 rfl (by kernel_rfl) rfl ?_;intro b0 hb0
   (repeat' first|simp only[ak,aj,results124,ntmps124,al,aZ,q,aq,Bool.false_and,Bool.false_or,Bool.true_or,ai,seval,ah]|exact rfl|refine aa (v:=.any) ?_|(first|(refine ad ?_ (hg _) ?_)|(refine ab ?_ (fun _=>hg _) ?_))|((first|apply Ca|apply Cb)<;>intro hb)|refine Ai (by omega) ?_|(apply Ai<;>intro hb)|refine Fin.pure ?_ ?_ ?_|simp only[ao])
  | false =>
   rw[h2]at hg
   refine bi call124 func124 rfl (by kernel_rfl) rfl ?_;intro b0 hb0
   (repeat' first|simp only[ak,aj,results124,ntmps124,al,aZ,q,aq,Bool.false_and,Bool.false_or,ai,seval,ah]|exact rfl|refine aa (v:=.any) ?_|(first|(refine ad ?_ (hg _) ?_)|(refine ab ?_ (fun _=>hg _) ?_)|(refine ad ?_ (hc _) ?_)|(refine ab ?_ (fun _=>hc _) ?_))|((first|apply Ca|apply Cb)<;>intro hb)|refine Ai (by omega) ?_|(apply Ai<;>intro hb)|refine Fin.pure ?_ ?_ ?_|simp only[ao])
def fk (v:List Nd):Int:=if (v.any nY)=true then 8 else eG v
def wa (v:List Nd)(hv:v.length<=be)(hok:∀ n∈v,n.okTo be/\n.i64)(nm:Nat):Ev cx 73 nm [.sl false 6 (v.map aZ)] ap.nil (.int .i64 (fk v)) []:=by
 have hc:=iw v 124 [.rp [.fn 122 []]] nY (fun n hn nm=>MZ n (hok n hn).1 nm) hv rfl
 have hk:=qB v hv hok
 unfold fk
 cases h:v.any nY with
 | true =>
  rw[h]at hc
  refine bi call73 func73 rfl (by kernel_rfl) rfl ?_;intro b0 hb0
  (repeat' first|simp only[ak,aj,results73,ntmps73,al,ae,ai,seval,ah]|exact rfl|refine aa (v:=.any) ?_|(first|(refine ad ?_ (hk _) ?_)|(refine ab ?_ (fun _=>hk _) ?_))|((refine bm (xs:=?_) [b0+16] ?_ ?_ ?_ rfl (hc _) ?_);rotate_left 1)|omega|((first|apply Ca|apply Cb)<;>intro hb)|refine Ai (by omega) ?_|(apply Ai<;>intro hb)|refine Fin.pure ?_ ?_ ?_|simp only[ao])
 | false =>
  rw[h]at hc
  rw[if_neg (by decide)]
  refine bi call73 func73 rfl (by kernel_rfl) rfl ?_;intro b0 hb0
  (repeat' first|simp only[ak,aj,results73,ntmps73,al,ae,ai,seval,ah]|exact rfl|refine aa (v:=.any) ?_|(first|(refine ad ?_ (hk _) ?_)|(refine ab ?_ (fun _=>hk _) ?_))|((refine bm (xs:=?_) [b0+16] ?_ ?_ ?_ rfl (hc _) ?_);rotate_left 1)|omega|((first|apply Ca|apply Cb)<;>intro hb)|refine Ai (by omega) ?_|(apply Ai<;>intro hb)|refine Fin.pure ?_ ?_ ?_|simp only[ao])
def IJ (n:Nd)(nm:Nat):Ev cx 79 nm [.agg (aZ n)] ap.nil (.bool (decide (16<n.attrs.length))) []:=by
 have h:decide ((16:Int)<(n.attrs.length:Int))=decide (16<n.attrs.length):=by
  by_cases h:16<n.attrs.length
  ·rw[decide_eq_true h,cn]
  ·rw[decide_eq_false h,bo]
 rw[<- h]
 refine bi call79 func79 rfl (by kernel_rfl) rfl ?_;intro b0 hb0
 (repeat' first|simp only[ak,aj,results79,ntmps79,al,aZ,aq,Lm,h,ai,seval,ah]|exact rfl|refine aa (v:=.any) ?_|((first|apply Ca|apply Cb)<;>intro hb)|refine Ai (by omega) ?_|(apply Ai<;>intro hb)|refine Fin.pure ?_ ?_ ?_|simp only[ao])
def lX (a b:At):Bool:=(a.space==b.space)&&(a.name==b.name)
def wK (a b:At)(nm:Nat):Ev cx 157 nm [.agg (bN a),.rp (bN b)] ap.nil (.bool (lX a b)) []:=by
 unfold lX
 refine bi call157 func157 rfl (by kernel_rfl) rfl ?_;intro b0 hb0
 (repeat' first|simp only[ak,aj,results157,ntmps157,al,bN,ai,seval,ah]|exact rfl|refine aa (v:=.any) ?_|((first|apply Ca|apply Cb)<;>intro hb)|refine Ai (by omega) ?_|(apply Ai<;>intro hb)|refine Fin.pure ?_ ?_ ?_|simp only[ao])
def ep (n:Nat):List UInt8:=if n<10 then [(48+n).toUInt8] else [(48+n / 10).toUInt8,(48+n % 10).toUInt8]
def gZ (S:List (List UInt8))(a:At):List (List UInt8):=if (a.space==[])=true then S else if (a.space==l7)=true then S else if S.contains a.space=true then S else S++[a.space]
def bF (l:List At):List (List UInt8):=l.foldl gZ []
def P6 (S:List (List UInt8))(s:List UInt8):Nat:=(S.findIdx? (· == s)).getD S.length
def nW (S:List (List UInt8))(s:List UInt8):List UInt8:=if (s==l7)=true then [120,109,108] else 110::ep (P6 S s+1)
def jZ (S:List (List UInt8))(a:At):At:=⟨[],if (a.space==[])=true then a.name else nW S a.space++58::a.name,a.value⟩
def qC (k:Nat)(s:List UInt8):At:=⟨[],[120,109,108,110,115,58,110]++ep (k+1),s⟩
def fO (S:List (List UInt8)):List At:=S.mapIdx qC
def Ax (n:Nd)(sp:List UInt8):List At:=if (n.space==sp)=true then [] else [⟨[],[120,109,108,110,115],n.space⟩]
def b7 (n:Nd)(sp:List UInt8):Nd:=⟨n.kind,[],n.name,Ax n sp++fO (bF n.attrs)++n.attrs.map (jZ (bF n.attrs)),[],n.many⟩
def DO {l:List At}{k:Nat}{a:At}(h:l[k]? = some a):bF (l.take (k+1))=gZ (bF (l.take k)) a:=by
 obtain⟨hk,rfl⟩:=List.getElem?_eq_some_iff.1 h
 unfold bF
 rw[List.take_succ_eq_append_getElem hk,List.foldl_append];rfl
def Hw (S:List (List UInt8))(a:At):S <+: gZ S a:=by
 unfold gZ
 split
 ·exact List.prefix_refl _
 ·split
  ·exact List.prefix_refl _
  ·split
   ·exact List.prefix_refl _
   ·exact List.prefix_append _ _
def lT:∀(l:List At) (S:List (List UInt8)),S <+: l.foldl gZ S
 | [],_=>List.prefix_refl _
 | a::l,S=>(Hw S a).trans (lT l _)
def rD (l:List At)(k:Nat):bF (l.take k) <+: bF l:=by
 have h:=lT (l.drop k) (bF (l.take k))
 unfold bF at h ⊢
 rwa[<- List.foldl_append,List.take_append_drop]at h
def Hv (S:List (List UInt8))(a:At):(gZ S a).length<=S.length+1:=by
 unfold gZ
 split
 ·omega
 ·split
  ·omega
  ·split
   ·omega
   ·simp
def qj:∀(l:List At) (S:List (List UInt8)),(l.foldl gZ S).length<=S.length+l.length
 | [],S=>by simp
 | a::l,S=>by
  have h1:=qj l (gZ S a)
  have h2:=Hv S a
  simp only[List.foldl_cons,List.length_cons]
  omega
def rC (l:List At):(bF l).length<=l.length:=by
 have:=qj l []
 unfold bF;simpa using this
def Jb {S T:List (List UInt8)}{s:List UInt8}{k:Nat}(h:S <+: T)(hk:S.findIdx? (· == s)=some k):T.findIdx? (· == s)=some k:=by
 obtain⟨r,rfl⟩:=h
 rw[List.findIdx?_append,hk];rfl
def O8 {S T:List (List UInt8)}{s:List UInt8}{k:Nat}(h:S <+: T)(hk:S.findIdx? (· == s)=some k):P6 T s=k:=by
 unfold P6;rw[Jb h hk];rfl
def Gf {S:List (List UInt8)}{s:List UInt8}(h:S.findIdx? (· == s)=none):(S++[s]).findIdx? (· == s)=some S.length:=by
 rw[List.findIdx?_append,h];simp
def wc {S:List (List UInt8)}{s:List UInt8}(h:S.findIdx? (· == s)=none):S.contains s=false:=by
 have:=List.findIdx?_eq_none_iff.1 h
 cases hc:S.contains s with
 | false=>rfl
 | true =>
  rw[List.contains_iff_mem]at hc
  have:=this s hc
  simp at this
def F1 {S:List (List UInt8)}{s:List UInt8}{k:Nat}(h:S.findIdx? (· == s)=some k):S.contains s=true:=by
 cases hc:S.contains s with
 | true=>rfl
 | false =>
  have:S.findIdx? (· == s)=none:=List.findIdx?_eq_none_iff.2 fun x hx=>by
   cases hb:(x==s) with
   | false=>rfl
   | true =>
    have:=eq_of_beq hb;subst this
    rw[<- List.contains_iff_mem]at hx;rw[hc]at hx;cases hx
  rw[this]at h;cases h
def F3 (S:List (List UInt8))(s:List UInt8):fO (S++[s])=fO S++[qC S.length s]:=by
 unfold fO;simp[List.mapIdx_append]
def IW (S:List (List UInt8)):(fO S).length=S.length:=by simp[fO]
def ul:∀ n,n<100->(ep n).length<=2:=by
 intro n _;unfold ep;split<;>simp
def Fo.bare:Fo->List UInt8->List Nd
 | .nil,_=>[]
 | .cons n k r,sp=>(if n.kind=2 then [n] else b7 n sp::k.bare n.space)++r.bare sp
abbrev kF:=List (List UInt8×List UInt8)
def eO (p:List UInt8):kF->Option (List UInt8)
 | []=>none
 | q::r=>if (p==q.1)=true then some q.2 else eO p r
def sv (p v:List UInt8):kF->kF
 | []=>[(p,v)]
 | q::r=>if (p==q.1)=true then (p,v)::r else q::sv p v r
def get_put (p v q:List UInt8):∀(K:kF),eO q (sv p v K)=if q=p then some v else eO q K
 | []=>by
  simp only[sv,eO]
  by_cases h:q=p<;>simp[h]
 | x::r=>by
  simp only[sv]
  by_cases h1:p=x.1
  ·rw[if_pos (by simpa using h1)]
   simp only[eO]
   by_cases h:q=p
   ·simp[h]
   ·simp[h,<- h1]
  ·rw[if_neg (by simpa using h1)]
   simp only[eO]
   by_cases h:q=x.1
   ·subst h;simp[Ne.symm h1]
   ·simp[h,get_put p v q r]
def fB (s:List UInt8):Option (List UInt8):=if (s==[120,109,108,110,115])=true then some [] else if preB s [120,109,108,110,115,58]=true then some (s.drop 6) else none
def zO (s:List UInt8):En s = .tup [.str ((fB s).getD s),.bool (fB s).isSome]:=by
 unfold En fB
 split
 ·rfl
 ·unfold yC
  split<;>rfl
def C4 (K:kF×Bool)(a:At):kF×Bool:=match fB a.name with
 | none=>K
 | some p=>(sv p a.value K.1,K.2&&AW p a.value)
def jq (K:kF)(r:Bool)(l:List At):kF×Bool:=l.foldl C4 (K,r)
def ng (K:kF)(a:At):At:=if a.name.contains 58=true then ⟨(eO (dS a.name).1 K).getD [],(dS a.name).2,a.value⟩ else ⟨[],a.name,a.value⟩
def rW (K:kF)(a:At):Bool:=!a.name.contains 58||(eO (dS a.name).1 K).isSome
def Df (K:kF)(s:List At×Bool)(a:At):List At×Bool:=match fB a.name with
 | some _=>s
 | none=>(s.1++[ng K a],(s.2&&rW K a) && !(s.1.any fun b=>lX b (ng K a)))
def BM (K:kF)(r:Bool)(l:List At):List At×Bool:=l.foldl (Df K) ([],r)
def kZ (K:kF)(n:Nd):Nd×Bool:=(⟨n.kind,(eO (dS n.name).1 K).getD [],(dS n.name).2,(BM K (eO (dS n.name).1 K).isSome n.attrs).1,[],n.many⟩,(BM K (eO (dS n.name).1 K).isSome n.attrs).2)
def Fo.res:Fo->kF->List Nd×Bool
 | .nil,_=>([],true)
 | .cons n k r,K=>if n.kind=2 then (n::(r.res K).1,(r.res K).2)
  else ((kZ (jq K true n.attrs).1 n).1::((k.res (jq K true n.attrs).1).1++(r.res K).1),(((jq K true n.attrs).2&&(kZ (jq K true n.attrs).1 n).2)&&(k.res (jq K true n.attrs).1).2)&&(r.res K).2)
def AJ:kF:=[([],[]),([120,109,108],l7)]
def rV:Nat->Nat->List Nd->Fo×List Nd
 | 0,_,v=>(.nil,v)
 | _+1,0,v=>(.nil,v)
 | _+1,_+1,[]=>(.nil,[])
 | f+1,c+1,n::v=>(.cons n (rV f n.many.toNat v).1 (rV f c (rV f n.many.toNat v).2).1,(rV f c (rV f n.many.toNat v).2).2)
def CD:∀(F:Fo) (d last f:Nat) (r:List Nd),F.good d last=true->F.size<f->rV f F.count (F.flat++r)=(F,r)
 | .nil,_,_,f+1,r,_,_=>by simp[Fo.count,Fo.flat,rV]
 | .cons n k r,d,last,f+1,rest,h,hf=>by
  obtain⟨h1,h2,h3,h4,h5,h6⟩:=Fo.good_cons.1 h
  simp only[Fo.size]at hf
  have hk:=CD k (d-1) 1 f (r.flat++rest) h5 (by omega)
  have hr:=CD r d n.kind f rest h6 (by omega)
  have hm:n.many.toNat=k.count:=by omega
  simp only[Fo.count,Fo.flat,List.cons_append,List.append_assoc,rV,hm,hk,hr]
 | F,_,_,0,_,_,hf=>by omega
def oM (v:List Nd):Fo:=(rV (v.length+1) 1 v).1
def pK {n:Nd}{k:Fo}{d:Nat}(h:(Fo.cons n k .nil).good d 0=true):oM (n::k.flat) = .cons n k .nil:=by
 have:=CD (.cons n k .nil) d 0 ((n::k.flat).length+1) [] h (by simp[Fo.size,Fo.flat_length])
 unfold oM
 simp only[Fo.count,Fo.flat,List.append_nil]at this
 rw[this]
def cp (v:List Nd):List Nd×Int:=if eG v≠0 then ([],8) else if v.any lh=true then ([],8) else if ((oM v).res AJ).2=true then (((oM v).res AJ).1,0) else ([],110)
def qr (v:List Nd):Bool:=v.any fun n=>decide (16<n.attrs.length)
def cN (v:List Nd)(sp:List UInt8):List Nd×Int:=if fk v≠0 then ([],fk v) else if aN sp≠0\/fD sp=true then ([],8) else if qr ((oM v).bare sp)=true then ([],4) else ((oM v).bare sp,0)
end Go.Proofs.YtlnlopnpcmahgaaGreatDoor
