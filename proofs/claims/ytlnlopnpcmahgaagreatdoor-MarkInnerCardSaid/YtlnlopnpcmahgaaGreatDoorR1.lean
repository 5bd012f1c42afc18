/-
 Texts joined: XTa,XTb,XTc,XOa.
-/
import Derived.Test.YtlnlopnpcmahgaaGreatDoorQi
import Derived.Test.YtlnlopnpcmahgaaGreatDoorQs
import Derived.Test.YtlnlopnpcmahgaaGreatDoorQj
import Derived.Test.YtlnlopnpcmahgaaGreatDoorQt
import Derived.Test.YtlnlopnpcmahgaaGreatDoorQk
set_option linter.all false
namespace Go.Proofs.YtlnlopnpcmahgaaGreatDoor
set_option maxRecDepth 100000
set_option maxHeartbeats 32000000
open Go Go.RowKit Vm Go.Lib Tryz
open Vm renaming aW->Ca,bf->Cb
open And renaming intro->Ai
open List renaming length_map->Lm,not_mem_nil->Ln,map_nil->Lo,map_cons->Lc,mem_cons->Lk
open Bool renaming not_false->Bf,not_true->Bt
def lj:List UInt8:=[104,116,116,112,58,47,47,119,119,119,46,119,51,46,111,114,103,47,88,77,76,47,49,57,57,56,47,110,97,109,101,115,112,97,99,101]
def u7:List UInt8:=[104,116,116,112,58,47,47,119,119,119,46,119,51,46,111,114,103,47,50,48,48,48,47,120,109,108,110,115,47]
def eG (s:List UInt8):Bool:=(s==lj)||(s==u7)
def pP (s:List UInt8)(nm:Nat):Ev cx 75 nm [.str s] am.nil (.bool (eG s)) []:=by
 unfold eG lj u7
 refine bh call75 func75 rfl (by kernel_rfl) rfl ?_;intro b0 hb0
 (repeat' first|simp only[ak,ag,results75,ntmps75,al,ai,seval,ah]|exact rfl|refine aa (v:=.any) ?_|((first|apply Ca|apply Cb)<;>intro hb)|refine Ai (by omega) ?_|(apply Ai<;>intro hb)|refine Fin.pure ?_ ?_ ?_|simp only[ap])
def AD (p v:List UInt8):Bool:=if (p==[120,109,108,110,115])=true then false else if (p==[120,109,108])=true then v==lj else !eG v&&((p==[])||(v != []))
def NN (p v:List UInt8)(nm:Nat):Ev cx 109 nm [.str p,.str v] am.nil (.bool (AD p v)) []:=by
 have hg:=pP v
 have hx:(v==lj)=(v==[104,116,116,112,58,47,47,119,119,119,46,119,51,46,111,114,103,47,88,77,76,47,49,57,57,56,47,110,97,109,101,115,112,97,99,101]):=rfl
 unfold AD
 rw[hx]
 cases h1:(p==[120,109,108,110,115]) with
 | true =>
  refine bh call109 func109 rfl (by kernel_rfl) rfl ?_;intro b0 hb0
  (repeat' first|simp only[ak,ag,results109,ntmps109,al,h1,ai,seval,ah]|exact rfl|refine aa (v:=.any) ?_|(first|(refine ae ?_ (hg _) ?_)|(refine ab ?_ (fun _=>hg _) ?_))|((first|apply Ca|apply Cb)<;>intro hb)|refine Ai (by omega) ?_|(apply Ai<;>intro hb)|refine Fin.pure ?_ ?_ ?_|simp only[ap])
 | false =>
  cases h2:(p==[120,109,108]) with
  | true =>
   refine bh call109 func109 rfl (by kernel_rfl) rfl ?_;intro b0 hb0
   (repeat' first|simp only[ak,ag,results109,ntmps109,al,h1,h2,ai,seval,ah]|exact rfl|refine aa (v:=.any) ?_|(first|(refine ae ?_ (hg _) ?_)|(refine ab ?_ (fun _=>hg _) ?_))|((first|apply Ca|apply Cb)<;>intro hb)|refine Ai (by omega) ?_|(apply Ai<;>intro hb)|refine Fin.pure ?_ ?_ ?_|simp only[ap])
  | false =>
   cases h3:eG v with
   | true =>
    rw[h3]at hg
    refine bh call109 func109 rfl (by kernel_rfl) rfl ?_;intro b0 hb0
    (repeat' first|simp only[ak,ag,results109,ntmps109,al,h1,h2,Bt,ai,seval,ah]|exact rfl|refine aa (v:=.any) ?_|(first|(refine ae ?_ (hg _) ?_)|(refine ab ?_ (fun _=>hg _) ?_))|((first|apply Ca|apply Cb)<;>intro hb)|refine Ai (by omega) ?_|(apply Ai<;>intro hb)|refine Fin.pure ?_ ?_ ?_|simp only[ap])
   | false =>
    rw[h3]at hg
    refine bh call109 func109 rfl (by kernel_rfl) rfl ?_;intro b0 hb0
    (repeat' first|simp only[ak,ag,results109,ntmps109,al,h1,h2,Bf,ai,seval,ah]|exact rfl|refine aa (v:=.any) ?_|(first|(refine ae ?_ (hg _) ?_)|(refine ab ?_ (fun _=>hg _) ?_))|((first|apply Ca|apply Cb)<;>intro hb)|refine Ai (by omega) ?_|(apply Ai<;>intro hb)|refine Fin.pure ?_ ?_ ?_|simp only[ap])
def dO (s:List UInt8):List UInt8×List UInt8:=match ep 58 s with
 | none=>([],s)
 | some (a,b)=>(a,b)
def A0 (s:List UInt8)(hs:s.length<=bc)(nm:Nat):Ev cx 155 nm [.str s] am.nil (.tup [.str (dO s).1,.str (dO s).2]) []:=by
 have hc:=oL s 58 hs
 unfold gZ at hc
 unfold dO
 cases h:ep 58 s with
 | none =>
  rw[h]at hc
  refine bh call155 func155 rfl (by kernel_rfl) rfl ?_;intro b0 hb0
  (repeat' first|simp only[ak,ag,results155,ntmps155,al,Bf,ai,seval,ah]|exact rfl|refine aa (v:=.any) ?_|(first|(refine ae ?_ (hc _) ?_)|(refine ab ?_ (fun _=>hc _) ?_))|((first|apply Ca|apply Cb)<;>intro hb)|refine Ai (by omega) ?_|(apply Ai<;>intro hb)|refine Fin.pure ?_ ?_ ?_|simp only[ap])
 | some p =>
  obtain⟨a,b⟩:=p
  rw[h]at hc
  refine bh call155 func155 rfl (by kernel_rfl) rfl ?_;intro b0 hb0
  (repeat' first|simp only[ak,ag,results155,ntmps155,al,Bt,ai,seval,ah]|exact rfl|refine aa (v:=.any) ?_|(first|(refine ae ?_ (hc _) ?_)|(refine ab ?_ (fun _=>hc _) ?_))|((first|apply Ca|apply Cb)<;>intro hb)|refine Ai (by omega) ?_|(apply Ai<;>intro hb)|refine Fin.pure ?_ ?_ ?_|simp only[ap])
def D8 (s:List UInt8):V:=if (s==[120,109,108,110,115])=true then .tup [.str [],.bool true] else yr s [120,109,108,110,115,58]
def rN (a:At)(hs:a.name.length<=bc)(nm:Nat):Ev cx 108 nm [.agg (b9 a)] am.nil (D8 a.name) []:=by
 have hc:=nE a.name [120,109,108,110,115,58] hs (by decide)
 unfold D8
 cases h:(a.name==[120,109,108,110,115]) with
 | true =>
  refine bh call108 func108 rfl (by kernel_rfl) rfl ?_;intro b0 hb0
  (repeat' first|simp only[ak,ag,results108,ntmps108,al,b9,h,ai,seval,ah]|exact rfl|refine aa (v:=.any) ?_|((first|apply Ca|apply Cb)<;>intro hb)|refine Ai (by omega) ?_|(apply Ai<;>intro hb)|refine Fin.pure ?_ ?_ ?_|simp only[ap])
 | false =>
  unfold yr at hc ⊢
  cases hb:preB a.name [120,109,108,110,115,58] with
  | true =>
   rw[hb]at hc
   refine bh call108 func108 rfl (by kernel_rfl) rfl ?_;intro b0 hb0
   (repeat' first|simp only[ak,ag,results108,ntmps108,al,b9,h,ai,seval,ah]|exact rfl|refine aa (v:=.any) ?_|(first|(refine ae ?_ (hc _) ?_)|(refine ab ?_ (fun _=>hc _) ?_))|((first|apply Ca|apply Cb)<;>intro hb)|refine Ai (by omega) ?_|(apply Ai<;>intro hb)|refine Fin.pure ?_ ?_ ?_|simp only[ap])
  | false =>
   rw[hb]at hc
   refine bh call108 func108 rfl (by kernel_rfl) rfl ?_;intro b0 hb0
   (repeat' first|simp only[ak,ag,results108,ntmps108,al,b9,h,ai,seval,ah]|exact rfl|refine aa (v:=.any) ?_|(first|(refine ae ?_ (hc _) ?_)|(refine ab ?_ (fun _=>hc _) ?_))|((first|apply Ca|apply Cb)<;>intro hb)|refine Ai (by omega) ?_|(apply Ai<;>intro hb)|refine Fin.pure ?_ ?_ ?_|simp only[ap])
def zg (a:At):Bool:=(!eI a.name||((a.space==[])&&(a.name==[120,109,108,110,115])))||(a.space==u7)
def MK (a:At)(h1:a.name.length<=bc)(nm:Nat):Ev cx 122 nm [.agg (b9 a)] am.nil (.bool (zg a)) []:=by
 have hn:=qa a.name h1
 unfold zg u7
 cases h:eI a.name with
 | true =>
  rw[h]at hn
  cases h2:(a.space==[]) with
  | true =>
   refine bh call122 func122 rfl (by kernel_rfl) rfl ?_;intro b0 hb0
   (repeat' first|simp only[ak,ag,results122,ntmps122,al,b9,h2,Bt,Bool.false_or,Bool.true_and,ai,seval,ah]|exact rfl|refine aa (v:=.any) ?_|(first|(refine ae ?_ (hn _) ?_)|(refine ab ?_ (fun _=>hn _) ?_))|((first|apply Ca|apply Cb)<;>intro hb)|refine Ai (by omega) ?_|(apply Ai<;>intro hb)|refine Fin.pure ?_ ?_ ?_|simp only[ap])
  | false =>
   refine bh call122 func122 rfl (by kernel_rfl) rfl ?_;intro b0 hb0
   (repeat' first|simp only[ak,ag,results122,ntmps122,al,b9,h2,Bt,Bool.false_or,Bool.false_and,ai,seval,ah]|exact rfl|refine aa (v:=.any) ?_|(first|(refine ae ?_ (hn _) ?_)|(refine ab ?_ (fun _=>hn _) ?_))|((first|apply Ca|apply Cb)<;>intro hb)|refine Ai (by omega) ?_|(apply Ai<;>intro hb)|refine Fin.pure ?_ ?_ ?_|simp only[ap])
 | false =>
  rw[h]at hn
  refine bh call122 func122 rfl (by kernel_rfl) rfl ?_;intro b0 hb0
  (repeat' first|simp only[ak,ag,results122,ntmps122,al,b9,Bf,Bool.true_or,ai,seval,ah]|exact rfl|refine aa (v:=.any) ?_|(first|(refine ae ?_ (hn _) ?_)|(refine ab ?_ (fun _=>hn _) ?_))|((first|apply Ca|apply Cb)<;>intro hb)|refine Ai (by omega) ?_|(apply Ai<;>intro hb)|refine Fin.pure ?_ ?_ ?_|simp only[ap])
def mu (n:Nd):Bool:=((decide (n.kind=1) && !eI n.name)||eG n.space)||n.attrs.any zg
def EW (a:At):Bool:=a.space != []
def Ol (a:At)(nm:Nat):Ev cx 152 nm [.agg (b9 a)] am.nil (.bool (EW a)) []:=by
 unfold EW
 refine bh call152 func152 rfl (by kernel_rfl) rfl ?_;intro b0 hb0
 (repeat' first|simp only[ak,ag,results152,ntmps152,al,b9,ai,seval,ah]|exact rfl|refine aa (v:=.any) ?_|((first|apply Ca|apply Cb)<;>intro hb)|refine Ai (by omega) ?_|(apply Ai<;>intro hb)|refine Fin.pure ?_ ?_ ?_|simp only[ap])
def oA (n:Nd):Bool:=(!(n.space==[]))||n.attrs.any EW
def wS (n:Nd)(hn:n.attrs.length<=bc)(nm:Nat):Ev cx 105 nm [.agg (aV n)] am.nil (.bool (oA n)) []:=by
 have hc:=eg n.attrs 152 [] EW (fun a _ nm=>Ol a nm) hn rfl
 unfold oA
 cases h:(n.space==[]) with
 | false =>
  refine bh call105 func105 rfl (by kernel_rfl) rfl ?_;intro b0 hb0
  (repeat' first|simp only[ak,ag,results105,ntmps105,al,aV,h,aq,Bf,Bt,Bool.true_or,ai,seval,ah]|exact rfl|refine aa (v:=.any) ?_|((first|apply Ca|apply Cb)<;>intro hb)|refine Ai (by omega) ?_|(apply Ai<;>intro hb)|refine Fin.pure ?_ ?_ ?_|simp only[ap])
 | true =>
  refine bh call105 func105 rfl (by kernel_rfl) rfl ?_;intro b0 hb0
  (repeat' first|simp only[ak,ag,results105,ntmps105,al,aV,h,aq,Bt,Bf,Bool.false_or,ai,seval,ah]|exact rfl|refine aa (v:=.any) ?_|(first|(refine ae ?_ (hc _) ?_)|(refine ab ?_ (fun _=>hc _) ?_))|((first|apply Ca|apply Cb)<;>intro hb)|refine Ai (by omega) ?_|(apply Ai<;>intro hb)|refine Fin.pure ?_ ?_ ?_|simp only[ap])
def ML (n:Nd)(hn:n.okTo bc)(nm:Nat):Ev cx 124 nm [.agg (aV n),.rp [.fn 122 []]] am.nil (.bool (mu n)) []:=by
 have hg:=pP n.space
 have hm:=qa n.name hn.2.2.1
 have hc:=eg n.attrs 122 [] zg (fun a ha nm=>MK a (hn.2.2.2.2 a ha).2.1 nm) hn.1 rfl
 unfold mu
 by_cases hk:n.kind=1
 ·have q:((n.kind:Int)==1)=true:=by rw[hk];rfl
  rw[decide_eq_true hk]
  cases h1:eI n.name with
  | false =>
   rw[h1]at hm
   refine bh call124 func124 rfl (by kernel_rfl) rfl ?_;intro b0 hb0
   (repeat' first|simp only[ak,ag,results124,ntmps124,al,aV,q,aq,Bt,Bf,Bool.true_or,Bool.true_and,ai,seval,ah]|exact rfl|refine aa (v:=.any) ?_|(first|(refine ae ?_ (hm _) ?_)|(refine ab ?_ (fun _=>hm _) ?_))|((first|apply Ca|apply Cb)<;>intro hb)|refine Ai (by omega) ?_|(apply Ai<;>intro hb)|refine Fin.pure ?_ ?_ ?_|simp only[ap])
  | true =>
   rw[h1]at hm
   cases h2:eG n.space with
   | true =>
    rw[h2]at hg
    refine bh call124 func124 rfl (by kernel_rfl) rfl ?_;intro b0 hb0
    (repeat' first|simp only[ak,ag,results124,ntmps124,al,aV,q,aq,Bt,Bf,Bool.true_or,Bool.or_true,Bool.and_false,Bool.true_and,ai,seval,ah]|exact rfl|refine aa (v:=.any) ?_|(first|(refine ae ?_ (hm _) ?_)|(refine ab ?_ (fun _=>hm _) ?_)|(refine ae ?_ (hg _) ?_)|(refine ab ?_ (fun _=>hg _) ?_))|((first|apply Ca|apply Cb)<;>intro hb)|refine Ai (by omega) ?_|(apply Ai<;>intro hb)|refine Fin.pure ?_ ?_ ?_|simp only[ap])
   | false =>
    rw[h2]at hg
    refine bh call124 func124 rfl (by kernel_rfl) rfl ?_;intro b0 hb0
    (repeat' first|simp only[ak,ag,results124,ntmps124,al,aV,q,aq,Bt,Bf,Bool.false_or,Bool.and_false,Bool.true_and,ai,seval,ah]|exact rfl|refine aa (v:=.any) ?_|(first|(refine ae ?_ (hm _) ?_)|(refine ab ?_ (fun _=>hm _) ?_)|(refine ae ?_ (hg _) ?_)|(refine ab ?_ (fun _=>hg _) ?_)|(refine ae ?_ (hc _) ?_)|(refine ab ?_ (fun _=>hc _) ?_))|((first|apply Ca|apply Cb)<;>intro hb)|refine Ai (by omega) ?_|(apply Ai<;>intro hb)|refine Fin.pure ?_ ?_ ?_|simp only[ap])
 ·have q:((n.kind:Int)==1)=false:=beq_false_of_ne (by omega)
  rw[decide_eq_false hk]
  cases h2:eG n.space with
  | true =>
   rw[h2]at hg
   refine bh call124 func124 rfl (by kernel_rfl) rfl ?_;intro b0 hb0
   (repeat' first|simp only[ak,ag,results124,ntmps124,al,aV,q,aq,Bool.false_and,Bool.false_or,Bool.true_or,ai,seval,ah]|exact rfl|refine aa (v:=.any) ?_|(first|(refine ae ?_ (hg _) ?_)|(refine ab ?_ (fun _=>hg _) ?_))|((first|apply Ca|apply Cb)<;>intro hb)|refine Ai (by omega) ?_|(apply Ai<;>intro hb)|refine Fin.pure ?_ ?_ ?_|simp only[ap])
  | false =>
   rw[h2]at hg
   refine bh call124 func124 rfl (by kernel_rfl) rfl ?_;intro b0 hb0
   (repeat' first|simp only[ak,ag,results124,ntmps124,al,aV,q,aq,Bool.false_and,Bool.false_or,ai,seval,ah]|exact rfl|refine aa (v:=.any) ?_|(first|(refine ae ?_ (hg _) ?_)|(refine ab ?_ (fun _=>hg _) ?_)|(refine ae ?_ (hc _) ?_)|(refine ab ?_ (fun _=>hc _) ?_))|((first|apply Ca|apply Cb)<;>intro hb)|refine Ai (by omega) ?_|(apply Ai<;>intro hb)|refine Fin.pure ?_ ?_ ?_|simp only[ap])
def dV (v:List Nd):Int:=if (v.any mu)=true then 8 else eF v
def vU (v:List Nd)(hv:v.length<=bc)(hok:∀ n∈v,n.okTo bc/\n.i64)(nm:Nat):Ev cx 73 nm [.sl false 6 (v.map aV)] am.nil (.int .i64 (dV v)) []:=by
 have hc:=il v 124 [.rp [.fn 122 []]] mu (fun n hn nm=>ML n (hok n hn).1 nm) hv rfl
 have hk:=qC v hv hok
 unfold dV
 cases h:v.any mu with
 | true =>
  rw[h]at hc
  refine bh call73 func73 rfl (by kernel_rfl) rfl ?_;intro b0 hb0
  (repeat' first|simp only[ak,ag,results73,ntmps73,al,ad,ai,seval,ah]|exact rfl|refine aa (v:=.any) ?_|(first|(refine ae ?_ (hk _) ?_)|(refine ab ?_ (fun _=>hk _) ?_))|((refine bo (xs:=?_) [b0+16] ?_ ?_ ?_ rfl (hc _) ?_);rotate_left 1)|omega|((first|apply Ca|apply Cb)<;>intro hb)|refine Ai (by omega) ?_|(apply Ai<;>intro hb)|refine Fin.pure ?_ ?_ ?_|simp only[ap])
 | false =>
  rw[h]at hc
  rw[if_neg (by decide)]
  refine bh call73 func73 rfl (by kernel_rfl) rfl ?_;intro b0 hb0
  (repeat' first|simp only[ak,ag,results73,ntmps73,al,ad,ai,seval,ah]|exact rfl|refine aa (v:=.any) ?_|(first|(refine ae ?_ (hk _) ?_)|(refine ab ?_ (fun _=>hk _) ?_))|((refine bo (xs:=?_) [b0+16] ?_ ?_ ?_ rfl (hc _) ?_);rotate_left 1)|omega|((first|apply Ca|apply Cb)<;>intro hb)|refine Ai (by omega) ?_|(apply Ai<;>intro hb)|refine Fin.pure ?_ ?_ ?_|simp only[ap])
def Iq (n:Nd)(nm:Nat):Ev cx 79 nm [.agg (aV n)] am.nil (.bool (decide (16<n.attrs.length))) []:=by
 have h:decide ((16:Int)<(n.attrs.length:Int))=decide (16<n.attrs.length):=by
  by_cases h:16<n.attrs.length
  ·rw[decide_eq_true h,bR]
  ·rw[decide_eq_false h,bm]
 rw[<- h]
 refine bh call79 func79 rfl (by kernel_rfl) rfl ?_;intro b0 hb0
 (repeat' first|simp only[ak,ag,results79,ntmps79,al,aV,aq,Lm,h,ai,seval,ah]|exact rfl|refine aa (v:=.any) ?_|((first|apply Ca|apply Cb)<;>intro hb)|refine Ai (by omega) ?_|(apply Ai<;>intro hb)|refine Fin.pure ?_ ?_ ?_|simp only[ap])
def l6 (a b:At):Bool:=(a.space==b.space)&&(a.name==b.name)
def wB (a b:At)(nm:Nat):Ev cx 157 nm [.agg (b9 a),.rp (b9 b)] am.nil (.bool (l6 a b)) []:=by
 unfold l6
 refine bh call157 func157 rfl (by kernel_rfl) rfl ?_;intro b0 hb0
 (repeat' first|simp only[ak,ag,results157,ntmps157,al,b9,ai,seval,ah]|exact rfl|refine aa (v:=.any) ?_|((first|apply Ca|apply Cb)<;>intro hb)|refine Ai (by omega) ?_|(apply Ai<;>intro hb)|refine Fin.pure ?_ ?_ ?_|simp only[ap])
def eo (n:Nat):List UInt8:=if n<10 then [(48+n).toUInt8] else [(48+n / 10).toUInt8,(48+n % 10).toUInt8]
def gX (S:List (List UInt8))(a:At):List (List UInt8):=if (a.space==[])=true then S else if (a.space==lj)=true then S else if S.contains a.space=true then S else S++[a.space]
def bF (l:List At):List (List UInt8):=l.foldl gX []
def PY (S:List (List UInt8))(s:List UInt8):Nat:=(S.findIdx? (· == s)).getD S.length
def og (S:List (List UInt8))(s:List UInt8):List UInt8:=if (s==lj)=true then [120,109,108] else 110::eo (PY S s+1)
def jZ (S:List (List UInt8))(a:At):At:=⟨[],if (a.space==[])=true then a.name else og S a.space++58::a.name,a.value⟩
def sb (k:Nat)(s:List UInt8):At:=⟨[],[120,109,108,110,115,58,110]++eo (k+1),s⟩
def fO (S:List (List UInt8)):List At:=S.mapIdx sb
def Bq (n:Nd)(sp:List UInt8):List At:=if (n.space==sp)=true then [] else [⟨[],[120,109,108,110,115],n.space⟩]
def bp (n:Nd)(sp:List UInt8):Nd:=⟨n.kind,[],n.name,Bq n sp++fO (bF n.attrs)++n.attrs.map (jZ (bF n.attrs)),[],n.many⟩
def Dx {l:List At}{k:Nat}{a:At}(h:l[k]? = some a):bF (l.take (k+1))=gX (bF (l.take k)) a:=by
 obtain⟨hk,rfl⟩:=List.getElem?_eq_some_iff.1 h
 unfold bF
 rw[List.take_succ_eq_append_getElem hk,List.foldl_append];rfl
def Hg (S:List (List UInt8))(a:At):S <+: gX S a:=by
 unfold gX
 split
 ·exact List.prefix_refl _
 ·split
  ·exact List.prefix_refl _
  ·split
   ·exact List.prefix_refl _
   ·exact List.prefix_append _ _
def lU:∀(l:List At) (S:List (List UInt8)),S <+: l.foldl gX S
 | [],_=>List.prefix_refl _
 | a::l,S=>(Hg S a).trans (lU l _)
def rA (l:List At)(k:Nat):bF (l.take k) <+: bF l:=by
 have h:=lU (l.drop k) (bF (l.take k))
 unfold bF at h ⊢
 rwa[<- List.foldl_append,List.take_append_drop]at h
def Hf (S:List (List UInt8))(a:At):(gX S a).length<=S.length+1:=by
 unfold gX
 split
 ·omega
 ·split
  ·omega
  ·split
   ·omega
   ·simp
def qk:∀(l:List At) (S:List (List UInt8)),(l.foldl gX S).length<=S.length+l.length
 | [],S=>by simp
 | a::l,S=>by
  have h1:=qk l (gX S a)
  have h2:=Hf S a
  simp only[List.foldl_cons,List.length_cons]
  omega
def rz (l:List At):(bF l).length<=l.length:=by
 have:=qk l []
 unfold bF;simpa using this
def IU {S T:List (List UInt8)}{s:List UInt8}{k:Nat}(h:S <+: T)(hk:S.findIdx? (· == s)=some k):T.findIdx? (· == s)=some k:=by
 obtain⟨r,rfl⟩:=h
 rw[List.findIdx?_append,hk];rfl
def OX {S T:List (List UInt8)}{s:List UInt8}{k:Nat}(h:S <+: T)(hk:S.findIdx? (· == s)=some k):PY T s=k:=by
 unfold PY;rw[IU h hk];rfl
def FU {S:List (List UInt8)}{s:List UInt8}(h:S.findIdx? (· == s)=none):(S++[s]).findIdx? (· == s)=some S.length:=by
 rw[List.findIdx?_append,h];simp
def vW {S:List (List UInt8)}{s:List UInt8}(h:S.findIdx? (· == s)=none):S.contains s=false:=by
 have:=List.findIdx?_eq_none_iff.1 h
 cases hc:S.contains s with
 | false=>rfl
 | true =>
  rw[List.contains_iff_mem]at hc
  have:=this s hc
  simp at this
def FF {S:List (List UInt8)}{s:List UInt8}{k:Nat}(h:S.findIdx? (· == s)=some k):S.contains s=true:=by
 cases hc:S.contains s with
 | true=>rfl
 | false =>
  have:S.findIdx? (· == s)=none:=List.findIdx?_eq_none_iff.2 fun x hx=>by
   cases hb:(x==s) with
   | false=>rfl
   | true =>
    have:=eq_of_beq hb;subst this
    rw[<- List.contains_iff_mem]at hx;rw[hc]at hx;cases hx
  rw[this]at h;cases h
def FH (S:List (List UInt8))(s:List UInt8):fO (S++[s])=fO S++[sb S.length s]:=by
 unfold fO;simp[List.mapIdx_append]
def IA (S:List (List UInt8)):(fO S).length=S.length:=by simp[fO]
def ud:∀ n,n<100->(eo n).length<=2:=by
 intro n _;unfold eo;split<;>simp
def Fo.bare:Fo->List UInt8->List Nd
 | .nil,_=>[]
 | .cons n k r,sp=>(if n.kind=2 then [n] else bp n sp::k.bare n.space)++r.bare sp
abbrev kw:=List (List UInt8×List UInt8)
def eL (p:List UInt8):kw->Option (List UInt8)
 | []=>none
 | q::r=>if (p==q.1)=true then some q.2 else eL p r
def so (p v:List UInt8):kw->kw
 | []=>[(p,v)]
 | q::r=>if (p==q.1)=true then (p,v)::r else q::so p v r
def get_put (p v q:List UInt8):∀(K:kw),eL q (so p v K)=if q=p then some v else eL q K
 | []=>by
  simp only[so,eL]
  by_cases h:q=p<;>simp[h]
 | x::r=>by
  simp only[so]
  by_cases h1:p=x.1
  ·rw[if_pos (by simpa using h1)]
   simp only[eL]
   by_cases h:q=p
   ·simp[h]
   ·simp[h,<- h1]
  ·rw[if_neg (by simpa using h1)]
   simp only[eL]
   by_cases h:q=x.1
   ·subst h;simp[Ne.symm h1]
   ·simp[h,get_put p v q r]
def fp (s:List UInt8):Option (List UInt8):=if (s==[120,109,108,110,115])=true then some [] else if preB s [120,109,108,110,115,58]=true then some (s.drop 6) else none
def zw (s:List UInt8):D8 s = .tup [.str ((fp s).getD s),.bool (fp s).isSome]:=by
 unfold D8 fp
 split
 ·rfl
 ·unfold yr
  split<;>rfl
def CR (K:kw×Bool)(a:At):kw×Bool:=match fp a.name with
 | none=>K
 | some p=>(so p a.value K.1,K.2&&AD p a.value)
def jh (K:kw)(r:Bool)(l:List At):kw×Bool:=l.foldl CR (K,r)
def nk (K:kw)(a:At):At:=if a.name.contains 58=true then ⟨(eL (dO a.name).1 K).getD [],(dO a.name).2,a.value⟩ else ⟨[],a.name,a.value⟩
def rR (K:kw)(a:At):Bool:=!a.name.contains 58||(eL (dO a.name).1 K).isSome
def C2 (K:kw)(s:List At×Bool)(a:At):List At×Bool:=match fp a.name with
 | some _=>s
 | none=>(s.1++[nk K a],(s.2&&rR K a) && !(s.1.any fun b=>l6 b (nk K a)))
def Br (K:kw)(r:Bool)(l:List At):List At×Bool:=l.foldl (C2 K) ([],r)
def kU (K:kw)(n:Nd):Nd×Bool:=(⟨n.kind,(eL (dO n.name).1 K).getD [],(dO n.name).2,(Br K (eL (dO n.name).1 K).isSome n.attrs).1,[],n.many⟩,(Br K (eL (dO n.name).1 K).isSome n.attrs).2)
def Fo.res:Fo->kw->List Nd×Bool
 | .nil,_=>([],true)
 | .cons n k r,K=>if n.kind=2 then (n::(r.res K).1,(r.res K).2)
  else ((kU (jh K true n.attrs).1 n).1::((k.res (jh K true n.attrs).1).1++(r.res K).1),(((jh K true n.attrs).2&&(kU (jh K true n.attrs).1 n).2)&&(k.res (jh K true n.attrs).1).2)&&(r.res K).2)
def Ar:kw:=[([],[]),([120,109,108],lj)]
def rQ:Nat->Nat->List Nd->Fo×List Nd
 | 0,_,v=>(.nil,v)
 | _+1,0,v=>(.nil,v)
 | _+1,_+1,[]=>(.nil,[])
 | f+1,c+1,n::v=>(.cons n (rQ f n.many.toNat v).1 (rQ f c (rQ f n.many.toNat v).2).1,(rQ f c (rQ f n.many.toNat v).2).2)
def Cp:∀(F:Fo) (d last f:Nat) (r:List Nd),F.good d last=true->F.size<f->rQ f F.count (F.flat++r)=(F,r)
 | .nil,_,_,f+1,r,_,_=>by simp[Fo.count,Fo.flat,rQ]
 | .cons n k r,d,last,f+1,rest,h,hf=>by
  obtain⟨h1,h2,h3,h4,h5,h6⟩:=Fo.good_cons.1 h
  simp only[Fo.size]at hf
  have hk:=Cp k (d-1) 1 f (r.flat++rest) h5 (by omega)
  have hr:=Cp r d n.kind f rest h6 (by omega)
  have hm:n.many.toNat=k.count:=by omega
  simp only[Fo.count,Fo.flat,List.cons_append,List.append_assoc,rQ,hm,hk,hr]
 | F,_,_,0,_,_,hf=>by omega
def kB (v:List Nd):Fo:=(rQ (v.length+1) 1 v).1
def pO {n:Nd}{k:Fo}{d:Nat}(h:(Fo.cons n k .nil).good d 0=true):kB (n::k.flat) = .cons n k .nil:=by
 have:=Cp (.cons n k .nil) d 0 ((n::k.flat).length+1) [] h (by simp[Fo.size,Fo.flat_length])
 unfold kB
 simp only[Fo.count,Fo.flat,List.append_nil]at this
 rw[this]
def cJ (v:List Nd):List Nd×Int:=if eF v≠0 then ([],8) else if v.any oA=true then ([],8) else if ((kB v).res Ar).2=true then (((kB v).res Ar).1,0) else ([],110)
def mg (v:List Nd):Bool:=v.any fun n=>decide (16<n.attrs.length)
def ck (v:List Nd)(sp:List UInt8):List Nd×Int:=if dV v≠0 then ([],dV v) else if aN sp≠0\/eG sp=true then ([],8) else if mg ((kB v).bare sp)=true then ([],4) else ((kB v).bare sp,0)
end Go.Proofs.YtlnlopnpcmahgaaGreatDoor
