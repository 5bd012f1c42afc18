/-
 Texts joined: XLc,XLd,XLe,XLf.
-/
import Derived.Test.YtlnlopnpcmahgaaGreatDoorQk
set_option linter.all false
namespace Go.Proofs.YtlnlopnpcmahgaaGreatDoor
set_option maxRecDepth 100000
set_option maxHeartbeats 32000000
open Go Go.RowKit Vm Go.Lib Tryz
open Vm renaming aH->Ca,aL->Cb
open And renaming intro->Ai
open List renaming length_map->Lm,not_mem_nil->Ln,map_nil->Lo,map_cons->Lc,mem_cons->Lk
open Bool renaming not_false->Bf,not_true->Bt
def yY (o:Option Nat):Int:=match o with|some n=>n|none=>-1
def cA (n:Nat):yY (some n)=n:=rfl
def eI:yY none = -1:=rfl
def lu {α:Type}{p:α->Bool} : ∀ {l:List α} {k:Nat} {x:α},(l.take k).any p=false->l[k]? = some x->p x=true->l.findIdx? p=some k
 | [],k,x,_,h,_=>by simp at h
 | y::l,0,x,_,h,hp=>by simp at h;subst h;simp[List.findIdx?_cons,hp]
 | y::l,k+1,x,hn,h,hp=>by
  simp only[List.take_succ_cons,List.any_cons,Bool.or_eq_false_iff]at hn
  rw[List.findIdx?_cons,hn.1]
  simp[lu (l:=l) (k:=k) (x:=x) hn.2 (by simpa using h) hp]
def iO {α:Type}{p:α->Bool}{l:List α}(h:l.any p=false):l.findIdx? p=none:=by
 simpa [List.findIdx?_eq_none_iff] using h
def pv {α:Type}{p:α->Bool}{l:List α}(h:l.findIdx? p=none):l.any p=false:=by
 simpa [List.findIdx?_eq_none_iff] using h
def pw {α:Type}{p:α->Bool}{l:List α}{n:Nat}(h:l.findIdx? p=some n):l.any p=true:=by
 cases ha:l.any p with
 | true=>rfl
 | false=>rw[iO ha]at h;cases h
def gR {caps:List V}(h:plainL caps=true)(σ:List (Nat×Nat))(M:am):finL σ M caps=caps:=(finL_plain σ M caps h).1
def fH {caps:List V}(h:plainL caps=true)(σ:List (Nat×Nat))(M:am):finLOk σ M caps=True:=eq_true (finL_plain σ M caps h).2
def vP (l:List Pr)(f:Nat)(caps:List V)(p:Pr->Bool)(hf:∀ h∈l,∀ nm,Ev cx f nm (.agg (eh h)::caps) am.nil (.bool (p h)) [])(hn:l.length<=aS)(hpl:plainL caps=true)(nm:Nat):Ev cx 173 nm [.sl false 2 (l.map eh),.fn f caps] am.nil (.int .i64 (yY (l.findIdx? p))) []:=by
 unfold aS at hn
 refine aV call173 func173 rfl (by kernel_rfl) rfl ?_;intro b0 hb0;have zF:=Ai results173 ntmps173
 repeat' first|simp only[aj,ag,zF,ap,ai,seval,ah]|exact rfl|refine aa (v:=.any) ?_|((first|(refine cp (g:=?_) ?_ ?_)|(refine bQ (g:=?_) ?_ ?_));rotate_left 1;(focus (simp only[zF,ap,ai,seval,ah]<;>exact rfl)))|((first|apply Ca|apply Cb)<;>intro hb)|refine Ai (by omega) ?_|(apply Ai<;>intro hb)
 (refine ay bu (fun x:Nat=>l.length-x) (fun x=>x<=l.length/\(l.take x).any p=false) (b0+16) (fun x=>[(0,.sl false 2 (l.map eh)),(1,.fn f caps),(7,.int .i64 l.length),(8,.int .i64 x)]) (fun x=>[]) (0) [] ?_ ?_ ?_ ?_;rotate_left 1;(focus (show b0<=_;omega));(focus (refine⟨?_,?_⟩<;>(try simp only[aM,Lm,ax,gR hpl,fH hpl,ai,seval,ah,al])<;>(try omega)));rotate_left 1)
 ·exact⟨Nat.zero_le _,by simp⟩
 ·rintro k ⟨hk,hno⟩
  by_cases hlt:k<l.length
  ·obtain⟨h,hh⟩:∃ h,l[k]? = some h:=⟨_,List.getElem?_eq_getElem hlt⟩
   have hat:(l.map eh)[k]? = some (eh h):=by rw[List.getElem?_map,hh];rfl
   have hd:decide (k<l.length)=true:=decide_eq_true hlt
   have hwk:IntKind.i64.wrap ((k:Int)+1)=((k+1:Nat):Int):=aK
   have hfh:=hf h (List.mem_of_getElem? hh)
   cases hp:p h with
   | true =>
    have hfd:=lu hno hh hp
    rw[hp]at hfh
    (repeat' first|simp only[aj,ag,zF,ap,hat,eh,hlt,hd,hwk,hfd,cA,Lm,ai,seval,ah]|exact rfl|refine aa (v:=.any) ?_|refine dP (g:=f) (caps:=caps) (by simp only[zF,ap,hat,eh,hlt,hd,hwk,hfd,cA,Lm,ai,seval,ah]<;>exact rfl) (by simp only[zF,ap,hat,eh,hlt,hd,hwk,hfd,cA,Lm,ai,seval,ah]<;>exact rfl) (hfh _) ?_|((first|(refine cp (g:=?_) ?_ ?_)|(refine bQ (g:=?_) ?_ ?_));rotate_left 1;(focus (simp only[zF,ap,hat,eh,hlt,hd,hwk,hfd,cA,Lm,ai,seval,ah]<;>exact rfl)))|((first|apply Ca|apply Cb)<;>intro hb)|refine Ai (by omega) ?_|(apply Ai<;>intro hb)|refine Fin.pure ?_ ?_ ?_|simp only[al])
   | false =>
    have hn':=dH (p:=p) hno hh hp
    rw[hp]at hfh
    repeat' first|simp only[aj,ag,zF,ap,hat,eh,hlt,hd,hwk,Lm,ai,seval,ah]|exact rfl|refine aa (v:=.any) ?_|refine dP (g:=f) (caps:=caps) (by simp only[zF,ap,hat,eh,hlt,hd,hwk,Lm,ai,seval,ah]<;>exact rfl) (by simp only[zF,ap,hat,eh,hlt,hd,hwk,Lm,ai,seval,ah]<;>exact rfl) (hfh _) ?_|((first|(refine cp (g:=?_) ?_ ?_)|(refine bQ (g:=?_) ?_ ?_));rotate_left 1;(focus (simp only[zF,ap,hat,eh,hlt,hd,hwk,Lm,ai,seval,ah]<;>exact rfl)))|((first|apply Ca|apply Cb)<;>intro hb)|refine Ai (by omega) ?_|(apply Ai<;>intro hb)
    all_goals ((refine au bu (k+1) [] ?_ ?_ ?_ ?_;rotate_left 2;(focus (show b0<=_;omega));(focus (refine⟨?_,?_⟩<;>(try simp only[aM,ax,gR hpl,fH hpl,hwk,ai,seval,ah,al])<;>(try omega)))))
    all_goals (first|(show l.length-(k+1)<l.length-k;omega)|exact⟨hlt,hn'⟩|skip)
  ·have hke:k=l.length:=by omega
   subst hke
   rw[List.take_length]at hno
   have hfd:=iO hno
   have hd:decide (l.length<l.length)=false:=aR
   (repeat' first|simp only[aj,ag,zF,ap,hd,hfd,eI,Lm,ai,seval,ah]|exact rfl|refine aa (v:=.any) ?_|((first|(refine cp (g:=?_) ?_ ?_)|(refine bQ (g:=?_) ?_ ?_));rotate_left 1;(focus (simp only[zF,ap,hd,hfd,eI,Lm,ai,seval,ah]<;>exact rfl)))|((first|apply Ca|apply Cb)<;>intro hb)|refine Ai (by omega) ?_|(apply Ai<;>intro hb)|refine Fin.pure ?_ ?_ ?_|simp only[al])
def pK (l:List Pr)(f:Nat)(caps:List V)(p:Pr->Bool)(hf:∀ h∈l,∀ nm,Ev cx f nm (.agg (eh h)::caps) am.nil (.bool (p h)) [])(hn:l.length<=aS)(hpl:plainL caps=true)(nm:Nat):Ev cx 132 nm [.sl false 2 (l.map eh),.fn f caps] am.nil (.bool (l.any p)) []:=by
 have hi:=vP l f caps p hf hn hpl
 cases h:l.findIdx? p with
 | none =>
  have ha:l.any p=false:=pv h
  rw[h]at hi
  refine aV call132 func132 rfl (by kernel_rfl) rfl ?_;intro b0 hb0
  (repeat' first|simp only[aj,ag,results132,ntmps132,ap,ha,eI,ai,seval,ah]|exact rfl|refine aa (v:=.any) ?_|(first|(refine ac ?_ (hi _) ?_)|(refine ab ?_ (fun _=>hi _) ?_))|((first|apply Ca|apply Cb)<;>intro hb)|refine Ai (by omega) ?_|(apply Ai<;>intro hb)|refine Fin.pure ?_ ?_ ?_|simp only[al])
 | some n =>
  have ha:l.any p=true:=pw h
  rw[h]at hi
  have hz:decide ((0:Int)<=(n:Int))=true:=cn
  refine aV call132 func132 rfl (by kernel_rfl) rfl ?_;intro b0 hb0
  (repeat' first|simp only[aj,ag,results132,ntmps132,ap,ha,cA,hz,ai,seval,ah]|exact rfl|refine aa (v:=.any) ?_|(first|(refine ac ?_ (hi _) ?_)|(refine ab ?_ (fun _=>hi _) ?_))|((first|apply Ca|apply Cb)<;>intro hb)|refine Ai (by omega) ?_|(apply Ai<;>intro hb)|refine Fin.pure ?_ ?_ ?_|simp only[al])
def xJ (l:List Tk)(f:Nat)(caps:List V)(p:Tk->Bool)(hf:∀ h∈l,∀ nm,Ev cx f nm (.agg (bv h)::caps) am.nil (.bool (p h)) [])(hn:l.length<=aS)(hpl:plainL caps=true)(nm:Nat):Ev cx 130 nm [.sl false 4 (l.map bv),.fn f caps] am.nil (.int .i64 (yY (l.findIdx? p))) []:=by
 unfold aS at hn
 refine aV call130 func130 rfl (by kernel_rfl) rfl ?_;intro b0 hb0;have zF:=Ai results130 ntmps130
 repeat' first|simp only[aj,ag,zF,ap,ai,seval,ah]|exact rfl|refine aa (v:=.any) ?_|((first|(refine cp (g:=?_) ?_ ?_)|(refine bQ (g:=?_) ?_ ?_));rotate_left 1;(focus (simp only[zF,ap,ai,seval,ah]<;>exact rfl)))|((first|apply Ca|apply Cb)<;>intro hb)|refine Ai (by omega) ?_|(apply Ai<;>intro hb)
 (refine ay bu (fun x:Nat=>l.length-x) (fun x=>x<=l.length/\(l.take x).any p=false) (b0+16) (fun x=>[(0,.sl false 4 (l.map bv)),(1,.fn f caps),(7,.int .i64 l.length),(8,.int .i64 x)]) (fun x=>[]) (0) [] ?_ ?_ ?_ ?_;rotate_left 1;(focus (show b0<=_;omega));(focus (refine⟨?_,?_⟩<;>(try simp only[aM,Lm,aF,gR hpl,fH hpl,ai,seval,ah,al])<;>(try omega)));rotate_left 1)
 ·exact⟨Nat.zero_le _,by simp⟩
 ·rintro k ⟨hk,hno⟩
  by_cases hlt:k<l.length
  ·obtain⟨h,hh⟩:∃ h,l[k]? = some h:=⟨_,List.getElem?_eq_getElem hlt⟩
   have hat:(l.map bv)[k]? = some (bv h):=by rw[List.getElem?_map,hh];rfl
   have hd:decide (k<l.length)=true:=decide_eq_true hlt
   have hwk:IntKind.i64.wrap ((k:Int)+1)=((k+1:Nat):Int):=aK
   have hfh:=hf h (List.mem_of_getElem? hh)
   cases hp:p h with
   | true =>
    have hfd:=lu hno hh hp
    rw[hp]at hfh
    (repeat' first|simp only[aj,ag,zF,ap,hat,bv,hlt,hd,hwk,hfd,cA,Lm,ai,seval,ah]|exact rfl|refine aa (v:=.any) ?_|refine dP (g:=f) (caps:=caps) (by simp only[zF,ap,hat,bv,hlt,hd,hwk,hfd,cA,Lm,ai,seval,ah]<;>exact rfl) (by simp only[zF,ap,hat,bv,hlt,hd,hwk,hfd,cA,Lm,ai,seval,ah]<;>exact rfl) (hfh _) ?_|((first|(refine cp (g:=?_) ?_ ?_)|(refine bQ (g:=?_) ?_ ?_));rotate_left 1;(focus (simp only[zF,ap,hat,bv,hlt,hd,hwk,hfd,cA,Lm,ai,seval,ah]<;>exact rfl)))|((first|apply Ca|apply Cb)<;>intro hb)|refine Ai (by omega) ?_|(apply Ai<;>intro hb)|refine Fin.pure ?_ ?_ ?_|simp only[al])
   | false =>
    have hn':=dH (p:=p) hno hh hp
    rw[hp]at hfh
    repeat' first|simp only[aj,ag,zF,ap,hat,bv,hlt,hd,hwk,Lm,ai,seval,ah]|exact rfl|refine aa (v:=.any) ?_|refine dP (g:=f) (caps:=caps) (by simp only[zF,ap,hat,bv,hlt,hd,hwk,Lm,ai,seval,ah]<;>exact rfl) (by simp only[zF,ap,hat,bv,hlt,hd,hwk,Lm,ai,seval,ah]<;>exact rfl) (hfh _) ?_|((first|(refine cp (g:=?_) ?_ ?_)|(refine bQ (g:=?_) ?_ ?_));rotate_left 1;(focus (simp only[zF,ap,hat,bv,hlt,hd,hwk,Lm,ai,seval,ah]<;>exact rfl)))|((first|apply Ca|apply Cb)<;>intro hb)|refine Ai (by omega) ?_|(apply Ai<;>intro hb)
    all_goals ((refine au bu (k+1) [] ?_ ?_ ?_ ?_;rotate_left 2;(focus (show b0<=_;omega));(focus (refine⟨?_,?_⟩<;>(try simp only[aM,aF,gR hpl,fH hpl,hwk,ai,seval,ah,al])<;>(try omega)))))
    all_goals (first|(show l.length-(k+1)<l.length-k;omega)|exact⟨hlt,hn'⟩|skip)
  ·have hke:k=l.length:=by omega
   subst hke
   rw[List.take_length]at hno
   have hfd:=iO hno
   have hd:decide (l.length<l.length)=false:=aR
   (repeat' first|simp only[aj,ag,zF,ap,hd,hfd,eI,Lm,ai,seval,ah]|exact rfl|refine aa (v:=.any) ?_|((first|(refine cp (g:=?_) ?_ ?_)|(refine bQ (g:=?_) ?_ ?_));rotate_left 1;(focus (simp only[zF,ap,hd,hfd,eI,Lm,ai,seval,ah]<;>exact rfl)))|((first|apply Ca|apply Cb)<;>intro hb)|refine Ai (by omega) ?_|(apply Ai<;>intro hb)|refine Fin.pure ?_ ?_ ?_|simp only[al])
def rz (l:List Tk)(f:Nat)(caps:List V)(p:Tk->Bool)(hf:∀ h∈l,∀ nm,Ev cx f nm (.agg (bv h)::caps) am.nil (.bool (p h)) [])(hn:l.length<=aS)(hpl:plainL caps=true)(nm:Nat):Ev cx 83 nm [.sl false 4 (l.map bv),.fn f caps] am.nil (.bool (l.any p)) []:=by
 have hi:=xJ l f caps p hf hn hpl
 cases h:l.findIdx? p with
 | none =>
  have ha:l.any p=false:=pv h
  rw[h]at hi
  refine aV call83 func83 rfl (by kernel_rfl) rfl ?_;intro b0 hb0
  (repeat' first|simp only[aj,ag,results83,ntmps83,ap,ha,eI,ai,seval,ah]|exact rfl|refine aa (v:=.any) ?_|(first|(refine ac ?_ (hi _) ?_)|(refine ab ?_ (fun _=>hi _) ?_))|((first|apply Ca|apply Cb)<;>intro hb)|refine Ai (by omega) ?_|(apply Ai<;>intro hb)|refine Fin.pure ?_ ?_ ?_|simp only[al])
 | some n =>
  have ha:l.any p=true:=pw h
  rw[h]at hi
  have hz:decide ((0:Int)<=(n:Int))=true:=cn
  refine aV call83 func83 rfl (by kernel_rfl) rfl ?_;intro b0 hb0
  (repeat' first|simp only[aj,ag,results83,ntmps83,ap,ha,cA,hz,ai,seval,ah]|exact rfl|refine aa (v:=.any) ?_|(first|(refine ac ?_ (hi _) ?_)|(refine ab ?_ (fun _=>hi _) ?_))|((first|apply Ca|apply Cb)<;>intro hb)|refine Ai (by omega) ?_|(apply Ai<;>intro hb)|refine Fin.pure ?_ ?_ ?_|simp only[al])
def zV (a b:Pr)(nm:Nat):Ev cx 133 nm [.agg (eh b),.rp (eh a)] am.nil (.bool (a.name==b.name)) []:=by
 refine aV call133 func133 rfl (by kernel_rfl) rfl ?_;intro b0 hb0
 (repeat' first|simp only[aj,ag,results133,ntmps133,ap,eh,ai,seval,ah]|exact rfl|refine aa (v:=.any) ?_|((first|apply Ca|apply Cb)<;>intro hb)|refine Ai (by omega) ?_|(apply Ai<;>intro hb)|refine Fin.pure ?_ ?_ ?_|simp only[al])
def Tk.okTo (t:Tk)(l:Nat):Prop:=t.attrs.length<=l/\t.name.length<=l/\t.text.length<=l /\ ∀ a∈t.attrs,a.name.length<=l/\a.value.length<=l
def BU (n:Nat):(n=1)\/(n=3)\/(n=2)\/(n=4)\/(n≠1/\n≠3/\n≠2/\n≠4):=by omega
def eJ {α:Type}[BEq α](l:List α):(l==[])=l.isEmpty:=by cases l<;>rfl
def j5 {α:Type}(l:List α):((l.length:Int)==0)=l.isEmpty:=by
 cases l with
 | nil=>rfl
 | cons a l=>simp only[List.length_cons,List.isEmpty_cons];exact beq_false_of_ne (by omega)
def wU {l:List Pr}(h:16<l.length):dV l=false:=by
 cases ha:dV l with
 | false=>rfl
 | true=>have:=(dO.1 ha).1;omega
def jW (t:Tk):Bool :=
 (if t.kind=1\/t.kind=3 then bC t.name&&t.text.isEmpty
 else if t.kind=2 then bC t.name&&t.attrs.isEmpty&&t.text.isEmpty
 else if t.kind=4 then t.name.isEmpty&&t.attrs.isEmpty && !t.text.isEmpty&&decide (az t.text=0)
 else false)&&decide (t.attrs.length<=16)
def EK (t:Tk):dN t=(jW t&&dV t.attrs):=by
 unfold dN jW
 by_cases hl:t.attrs.length<=16
 ·simp only[hl,decide_true,Bool.and_true]
  by_cases h1:t.kind=1\/t.kind=3
  ·simp only[h1,if_true]
   cases bC t.name<;>cases t.text.isEmpty<;>simp
  ·simp only[h1,if_false]
   have hnil:t.attrs.isEmpty=true->dV t.attrs=true:=fun h=>by
    rw[List.isEmpty_iff]at h;rw[h];rfl
   by_cases h2:t.kind=2
   ·simp only[h2,if_true]
    cases he:t.attrs.isEmpty with
    | false=>simp
    | true=>simp[hnil he]
   ·simp only[h2,if_false]
    by_cases h4:t.kind=4
    ·simp only[h4,if_true]
     cases he:t.attrs.isEmpty with
     | false=>simp
     | true=>simp[hnil he]
    ·simp only[h4,if_false,Bool.false_and]
 ·have hf:=wU (by omega:16<t.attrs.length)
  simp only[hl,decide_false,Bool.and_false,Bool.false_and,hf]
  split
  ·rfl
  ·split
   ·have:t.attrs.isEmpty=false:=by cases h:t.attrs with|nil=>rw[h]at hl;simp at hl|cons a b=>rfl
    simp[this]
   ·split
    ·have:t.attrs.isEmpty=false:=by cases h:t.attrs with|nil=>rw[h]at hl;simp at hl|cons a b=>rfl
     simp[this]
    ·rfl
def lY:∀ k1 k3 k2 k4 e n x f g z:Bool,((k1=true/\k3=false/\k2=false/\k4=false)\/(k1=false/\k3=true/\k2=false/\k4=false)\/(k1=false/\k3=false/\k2=true/\k4=false)\/(k1=false/\k3=false/\k2=false/\k4=true)\/(k1=false/\k3=false/\k2=false/\k4=false)) ->
  (k1=true/\k3=false/\k2=false/\k4=false/\f=false)\/(k1=true/\k3=false/\k2=false/\k4=false/\f=true/\x=false)\/(k1=true/\k3=false/\k2=false/\k4=false/\f=true/\x=true/\g=true)\/(k1=true/\k3=false/\k2=false/\k4=false/\f=true/\x=true/\g=false/\z=true)\/(k1=true/\k3=false/\k2=false/\k4=false/\f=true/\x=true/\g=false/\z=false)\/(k1=false/\k3=true/\k2=false/\k4=false/\f=false)\/(k1=false/\k3=true/\k2=false/\k4=false/\f=true/\x=false)\/(k1=false/\k3=true/\k2=false/\k4=false/\f=true/\x=true/\g=true)\/(k1=false/\k3=true/\k2=false/\k4=false/\f=true/\x=true/\g=false/\z=true)\/(k1=false/\k3=true/\k2=false/\k4=false/\f=true/\x=true/\g=false/\z=false)\/(k1=false/\k3=false/\k2=true/\k4=false/\e=false)\/(k1=false/\k3=false/\k2=true/\k4=false/\e=true/\f=false)\/(k1=false/\k3=false/\k2=true/\k4=false/\e=true/\f=true/\x=false)\/(k1=false/\k3=false/\k2=true/\k4=false/\e=true/\f=true/\x=true/\g=true)\/(k1=false/\k3=false/\k2=true/\k4=false/\e=true/\f=true/\x=true/\g=false/\z=true)\/(k1=false/\k3=false/\k2=true/\k4=false/\e=true/\f=true/\x=true/\g=false/\z=false)\/(k1=false/\k3=false/\k2=false/\k4=true/\n=false)\/(k1=false/\k3=false/\k2=false/\k4=true/\n=true/\e=false)\/(k1=false/\k3=false/\k2=false/\k4=true/\n=true/\e=true/\x=true)\/(k1=false/\k3=false/\k2=false/\k4=true/\n=true/\e=true/\x=false/\g=true)\/(k1=false/\k3=false/\k2=false/\k4=true/\n=true/\e=true/\x=false/\g=false/\z=true)\/(k1=false/\k3=false/\k2=false/\k4=true/\n=true/\e=true/\x=false/\g=false/\z=false)\/(k1=false/\k3=false/\k2=false/\k4=false):=by
 intro k1 k3 k2 k4 e n x f g z h
 rcases h with ⟨rfl,rfl,rfl,rfl⟩|⟨rfl,rfl,rfl,rfl⟩|⟨rfl,rfl,rfl,rfl⟩|⟨rfl,rfl,rfl,rfl⟩|⟨rfl,rfl,rfl,rfl⟩<;>cases e<;>cases n<;>cases x<;>cases f<;>cases g<;>cases z<;>simp
def gz (n:Nat):((((n:Int)==1)=true/\((n:Int)==3)=false/\((n:Int)==2)=false/\((n:Int)==4)=false/\n=1)\/(((n:Int)==1)=false/\((n:Int)==3)=true/\((n:Int)==2)=false/\((n:Int)==4)=false/\n=3)\/(((n:Int)==1)=false/\((n:Int)==3)=false/\((n:Int)==2)=true/\((n:Int)==4)=false/\n=2) \/
  (((n:Int)==1)=false/\((n:Int)==3)=false/\((n:Int)==2)=false/\((n:Int)==4)=true/\n=4)\/(((n:Int)==1)=false/\((n:Int)==3)=false/\((n:Int)==2)=false/\((n:Int)==4)=false/\n≠1/\n≠3/\n≠2/\n≠4)):=by
 rcases BU n with rfl|rfl|rfl|rfl|⟨h1,h3,h2,h4⟩
 ·left;exact⟨rfl,rfl,rfl,rfl,rfl⟩
 ·right;left;exact⟨rfl,rfl,rfl,rfl,rfl⟩
 ·right;right;left;exact⟨rfl,rfl,rfl,rfl,rfl⟩
 ·right;right;right;left;exact⟨rfl,rfl,rfl,rfl,rfl⟩
 ·right;right;right;right
  exact⟨beq_false_of_ne (by omega),beq_false_of_ne (by omega),beq_false_of_ne (by omega),beq_false_of_ne (by omega),h1,h3,h2,h4⟩
def qk (t:Tk):jW t=(((((t.kind:Int)==1||(t.kind:Int)==3)&&bC t.name&&t.text.isEmpty)||((t.kind:Int)==2&&bC t.name&&t.attrs.isEmpty&&t.text.isEmpty)||((t.kind:Int)==4&&t.name.isEmpty&&t.attrs.isEmpty && !t.text.isEmpty && !(az t.text != 0))) && !decide (16<t.attrs.length)):=by
 have hz:decide (az t.text=0) = !(az t.text != 0):=by rw[Bool.eq_iff_iff];simp
 have hg:decide (t.attrs.length<=16) = !decide (16<t.attrs.length):=by rw[Bool.eq_iff_iff];simp
 unfold jW
 rw[hz,hg]
 rcases gz t.kind with ⟨q1,q3,q2,q4,hk⟩|⟨q1,q3,q2,q4,hk⟩|⟨q1,q3,q2,q4,hk⟩|⟨q1,q3,q2,q4,hk⟩|⟨q1,q3,q2,q4,hk,hk3,hk2,hk4⟩
 ·rw[q1,q3,q2,q4];simp[hk]
 ·rw[q1,q3,q2,q4];simp[hk]
 ·rw[q1,q3,q2,q4];simp[hk]
 ·rw[q1,q3,q2,q4];simp[hk]
 ·rw[q1,q3,q2,q4];simp[hk,hk3,hk2,hk4]
def sB (n:Nat):((((n:Int)==1)=true/\((n:Int)==3)=false/\((n:Int)==2)=false/\((n:Int)==4)=false)\/(((n:Int)==1)=false/\((n:Int)==3)=true/\((n:Int)==2)=false/\((n:Int)==4)=false)\/(((n:Int)==1)=false/\((n:Int)==3)=false/\((n:Int)==2)=true/\((n:Int)==4)=false) \/
  (((n:Int)==1)=false/\((n:Int)==3)=false/\((n:Int)==2)=false/\((n:Int)==4)=true)\/(((n:Int)==1)=false/\((n:Int)==3)=false/\((n:Int)==2)=false/\((n:Int)==4)=false)):=by
 rcases gz n with h|h|h|h|h<;>simp[h]
def zX (t:Tk)(h:t.okTo aS)(ho:jW t=false)(nm:Nat):Ev cx 85 nm [.agg (bv t)] am.nil (.int .i64 8) []:=by
 obtain⟨hl,hnl,htl,hal⟩:=h
 have hee:((t.attrs.length:Int)==0)=t.attrs.isEmpty:=j5 _
 have hne:=eJ t.name
 have hxe:=eJ t.text
 have hge:decide ((16:Int)<(t.attrs.length:Int))=decide (16<t.attrs.length):=by
  rw[Bool.eq_iff_iff];simp;omega
 have hfull:=mg t.name hnl
 have hchk:=cE t.text htl
 rw[qk]at ho
 have hex:=sB t.kind
 generalize h1:((t.kind:Int)==1)=k1 at ho hex
 generalize h3:((t.kind:Int)==3)=k3 at ho hex
 generalize h2:((t.kind:Int)==2)=k2 at ho hex
 generalize h4:((t.kind:Int)==4)=k4 at ho hex
 generalize he:t.attrs.isEmpty=e at ho hee
 generalize hn:t.name.isEmpty=n at ho hne
 have hxb:(t.text != []) = !t.text.isEmpty:=congrArg not hxe
 generalize hx:t.text.isEmpty=x at ho hxe hxb
 generalize hf:bC t.name=f at ho hfull
 generalize hg:decide (16<t.attrs.length)=g at ho hge
 generalize hz:(az t.text != 0)=z at ho
 rcases lY k1 k3 k2 k4 e n x f g z hex with ⟨rfl,rfl,rfl,rfl,rfl⟩|⟨rfl,rfl,rfl,rfl,rfl,rfl⟩|⟨rfl,rfl,rfl,rfl,rfl,rfl,rfl⟩|⟨rfl,rfl,rfl,rfl,rfl,rfl,rfl,rfl⟩|⟨rfl,rfl,rfl,rfl,rfl,rfl,rfl,rfl⟩|⟨rfl,rfl,rfl,rfl,rfl⟩|⟨rfl,rfl,rfl,rfl,rfl,rfl⟩|⟨rfl,rfl,rfl,rfl,rfl,rfl,rfl⟩|⟨rfl,rfl,rfl,rfl,rfl,rfl,rfl,rfl⟩|⟨rfl,rfl,rfl,rfl,rfl,rfl,rfl,rfl⟩|⟨rfl,rfl,rfl,rfl,rfl⟩|⟨rfl,rfl,rfl,rfl,rfl,rfl⟩|⟨rfl,rfl,rfl,rfl,rfl,rfl,rfl⟩|⟨rfl,rfl,rfl,rfl,rfl,rfl,rfl,rfl⟩|⟨rfl,rfl,rfl,rfl,rfl,rfl,rfl,rfl,rfl⟩|⟨rfl,rfl,rfl,rfl,rfl,rfl,rfl,rfl,rfl⟩|⟨rfl,rfl,rfl,rfl,rfl⟩|⟨rfl,rfl,rfl,rfl,rfl,rfl⟩|⟨rfl,rfl,rfl,rfl,rfl,rfl,rfl⟩|⟨rfl,rfl,rfl,rfl,rfl,rfl,rfl,rfl⟩|⟨rfl,rfl,rfl,rfl,rfl,rfl,rfl,rfl,rfl⟩|⟨rfl,rfl,rfl,rfl,rfl,rfl,rfl,rfl,rfl⟩|⟨rfl,rfl,rfl,rfl⟩
 all_goals (try (exfalso;simp at ho;done))
 all_goals (
  refine aV call85 func85 rfl (by kernel_rfl) rfl ?_;intro b0 hb0
  (repeat' first|simp only[aj,ag,results85,ntmps85,ap,bv,hee,hne,hxe,hxb,Bt,Bf,hge,hz,h1,h2,h3,h4,Lm,ai,seval,ah]|exact rfl|refine aa (v:=.any) ?_|(first|(refine ac ?_ (hfull _) ?_)|(refine ab ?_ (fun _=>hfull _) ?_)|(refine ac ?_ (hchk _) ?_)|(refine ab ?_ (fun _=>hchk _) ?_))|(refine aa (v:=.any) ?_)|((first|apply Ca|apply Cb)<;>intro hb)|refine Ai (by omega) ?_|(apply Ai<;>intro hb)|refine Fin.pure ?_ ?_ ?_|simp only[al]))
def gn (a b c:V)(l:List Pr):plainLL [[a,b,.sl false 2 (l.map eh),c]]=(a.plain&&(b.plain&&c.plain)):=by simp[plainLL,plainL,V.plain,ax]
def w6 (t:Tk)(h:t.okTo aS)(ho:jW t=true)(nm:Nat):Ev cx 85 nm [.agg (bv t)] am.nil (.int .i64 (if dV t.attrs=true then 0 else 8)) []:=by
 obtain⟨hl,hnl,htl,hal⟩:=h
 have hl':=hl
 unfold aS at hl'
 have h16:t.attrs.length<=16:=by
  unfold jW at ho
  simp only[Bool.and_eq_true,decide_eq_true_eq]at ho
  exact ho.2
 have hee:((t.attrs.length:Int)==0)=t.attrs.isEmpty:=j5 _
 have hne:=eJ t.name
 have hxe:=eJ t.text
 have hge:decide ((16:Int)<(t.attrs.length:Int))=decide (16<t.attrs.length):=by
  rw[Bool.eq_iff_iff];simp;omega
 have hfull:=mg t.name hnl
 have hchk:=cE t.text htl
 rw[qk]at ho
 have hex:=sB t.kind
 generalize h1:((t.kind:Int)==1)=k1 at ho hex
 generalize h3:((t.kind:Int)==3)=k3 at ho hex
 generalize h2:((t.kind:Int)==2)=k2 at ho hex
 generalize h4:((t.kind:Int)==4)=k4 at ho hex
 generalize he:t.attrs.isEmpty=e at ho hee
 generalize hn:t.name.isEmpty=n at ho hne
 have hxb:(t.text != []) = !t.text.isEmpty:=congrArg not hxe
 have hxz:t.text.isEmpty=true->(az t.text != 0)=false:=fun h=>by rw[List.isEmpty_iff.1 h];rfl
 generalize hx:t.text.isEmpty=x at ho hxe hxb hxz
 generalize hf:bC t.name=f at ho hfull
 generalize hg:decide (16<t.attrs.length)=g at ho hge
 generalize hz:(az t.text != 0)=z at ho hxz
 rcases lY k1 k3 k2 k4 e n x f g z hex with ⟨rfl,rfl,rfl,rfl,rfl⟩|⟨rfl,rfl,rfl,rfl,rfl,rfl⟩|⟨rfl,rfl,rfl,rfl,rfl,rfl,rfl⟩|⟨rfl,rfl,rfl,rfl,rfl,rfl,rfl,rfl⟩|⟨rfl,rfl,rfl,rfl,rfl,rfl,rfl,rfl⟩|⟨rfl,rfl,rfl,rfl,rfl⟩|⟨rfl,rfl,rfl,rfl,rfl,rfl⟩|⟨rfl,rfl,rfl,rfl,rfl,rfl,rfl⟩|⟨rfl,rfl,rfl,rfl,rfl,rfl,rfl,rfl⟩|⟨rfl,rfl,rfl,rfl,rfl,rfl,rfl,rfl⟩|⟨rfl,rfl,rfl,rfl,rfl⟩|⟨rfl,rfl,rfl,rfl,rfl,rfl⟩|⟨rfl,rfl,rfl,rfl,rfl,rfl,rfl⟩|⟨rfl,rfl,rfl,rfl,rfl,rfl,rfl,rfl⟩|⟨rfl,rfl,rfl,rfl,rfl,rfl,rfl,rfl,rfl⟩|⟨rfl,rfl,rfl,rfl,rfl,rfl,rfl,rfl,rfl⟩|⟨rfl,rfl,rfl,rfl,rfl⟩|⟨rfl,rfl,rfl,rfl,rfl,rfl⟩|⟨rfl,rfl,rfl,rfl,rfl,rfl,rfl⟩|⟨rfl,rfl,rfl,rfl,rfl,rfl,rfl,rfl⟩|⟨rfl,rfl,rfl,rfl,rfl,rfl,rfl,rfl,rfl⟩|⟨rfl,rfl,rfl,rfl,rfl,rfl,rfl,rfl,rfl⟩|⟨rfl,rfl,rfl,rfl⟩
 all_goals (try (exfalso;simp at ho;done))
 all_goals (try (exfalso;exact absurd (hxz rfl) (by decide)))
 all_goals (
  refine aV call85 func85 rfl (by kernel_rfl) rfl ?_;intro b0 hb0;have zF:=Ai results85 ntmps85
  repeat' first|simp only[aj,ag,zF,ap,bv,hee,hne,hxe,hxb,Bt,Bf,hge,hz,h1,h2,h3,h4,Lm,ai,seval,ah]|exact rfl|refine aa (v:=.any) ?_|(first|(refine ac ?_ (hfull _) ?_)|(refine ab ?_ (fun _=>hfull _) ?_)|(refine ac ?_ (hchk _) ?_)|(refine ab ?_ (fun _=>hchk _) ?_))|(refine aa (v:=.any) ?_)|((first|apply Ca|apply Cb)<;>intro hb)|refine Ai (by omega) ?_|(apply Ai<;>intro hb))
 all_goals (
  (refine ay bu (fun x:Nat=>t.attrs.length-x) (fun x=>x<=t.attrs.length/\fC t.attrs x) (b0+16) (fun x=>[(1,.ptr b0 0 0),(76,.sl false 2 (t.attrs.map eh)),(77,.int .i64 t.attrs.length),(78,.int .i64 x)]) (fun x=>[(b0,⟨4,[bv t]⟩)]) (0) [some b0] ?_ ?_ ?_ ?_;rotate_left 1;(focus (show b0<=_;omega));(focus (refine⟨?_,?_⟩<;>(try simp only[aM,ax,gn,bv,Lm,ai,seval,ah,al])<;>(try omega)));rotate_left 1))
 all_goals (first|exact⟨Nat.zero_le _,fun i a hi=>by omega⟩|skip)
 all_goals (
  rintro k ⟨hk,hn⟩
  by_cases hlt:k<t.attrs.length
  ·obtain⟨a,ha⟩:∃ a,t.attrs[k]? = some a:=⟨_,List.getElem?_eq_getElem hlt⟩
   obtain⟨hs1,hs2⟩:=hal a (List.mem_of_getElem? ha)
   have hat:=wa ha
   have hd:decide (k<t.attrs.length)=true:=decide_eq_true hlt
   have hwk:IntKind.i64.wrap ((k:Int)+1)=((k+1:Nat):Int):=aK
   have hki:(k:Int)<=(t.attrs.length:Int):=by omega
   have htk:(t.attrs.map eh).take k=(t.attrs.take k).map eh:=by rw[List.map_take]
   have hlen:(t.attrs.take k).length<=aS:=by rw[List.length_take];unfold aS;omega
   have hf2:=mg a.name hs1
   have hc2:=cE a.value hs2
   have hh2:=pK (t.attrs.take k) 133 [.rp (eh a)] (fun b=>a.name==b.name) (fun b _ nm=>zV a b nm) hlen rfl
   have hok:Fj (t.attrs.take k) a=(!((t.attrs.take k).any fun b=>a.name==b.name)&&bC a.name&&decide (az a.value=0)):=rfl
   have hz2:decide (az a.value=0) = !(az a.value != 0):=by rw[Bool.eq_iff_iff];simp
   rw[hz2]at hok
   generalize hb1:((t.attrs.take k).any fun b=>a.name==b.name)=b1 at hh2 hok
   generalize hb2:bC a.name=b2 at hf2 hok
   generalize hb3:(az a.value != 0)=b3 at hok
   cases ho2:Fj (t.attrs.take k) a with
   | false =>
    have hr:=oa ha ho2
    rw[ho2]at hok
    cases b1<;>cases b2<;>cases b3
    all_goals (try (exfalso;simp at hok;done))
    all_goals ((repeat' first|simp only[aj,ag,zF,ap,ax,bv,hat,eh,hd,hlt,hk,hki,htk,hb3,hr,Bt,Bf,Lm,Nat.zero_add,ai,seval,ah]|exact rfl|refine aa (v:=.any) ?_|(first|(refine ac ?_ (hf2 _) ?_)|(refine ab ?_ (fun _=>hf2 _) ?_)|(refine ac ?_ (hc2 _) ?_)|(refine ab ?_ (fun _=>hc2 _) ?_))|((refine b7 (xs:=?_) [b0+80] ?_ ?_ ?_ rfl (hh2 _) ?_);rotate_left 1)|(refine aa (v:=.any) ?_)|omega|((first|apply Ca|apply Cb)<;>intro hb)|refine Ai (by omega) ?_|(apply Ai<;>intro hb)|refine Fin.pure ?_ ?_ ?_|simp only[al]))
   | true =>
    have hn':=lS hn ha ho2
    rw[ho2]at hok
    cases b1<;>cases b2<;>cases b3
    all_goals (try (exfalso;simp at hok;done))
    all_goals (repeat' first|simp only[aj,ag,zF,ap,ax,bv,hat,eh,hd,hlt,hk,hki,htk,hb3,hwk,Bt,Bf,Lm,Nat.zero_add,ai,seval,ah]|exact rfl|refine aa (v:=.any) ?_|(first|(refine ac ?_ (hf2 _) ?_)|(refine ab ?_ (fun _=>hf2 _) ?_)|(refine ac ?_ (hc2 _) ?_)|(refine ab ?_ (fun _=>hc2 _) ?_))|((refine b7 (xs:=?_) [b0+80] ?_ ?_ ?_ rfl (hh2 _) ?_);rotate_left 1)|omega|((first|apply Ca|apply Cb)<;>intro hb)|refine Ai (by omega) ?_|(apply Ai<;>intro hb))
    all_goals ((refine au bu (k+1) [some b0] ?_ ?_ ?_ ?_;rotate_left 2;(focus (show b0<=_;omega));(focus (refine⟨?_,?_⟩<;>(try simp only[aM,ax,gn,bv,hwk,ai,seval,ah,al])<;>(try omega)))))
    all_goals (first|(show t.attrs.length-(k+1)<t.attrs.length-k;omega)|exact⟨hlt,hn'⟩|skip)
  ·have hke:k=t.attrs.length:=by omega
   subst hke
   have hd:decide (t.attrs.length<t.attrs.length)=false:=aR
   have hr:dV t.attrs=true:=dO.2 ⟨h16,hn⟩
   (repeat' first|simp only[aj,ag,zF,ap,hd,hr,Lm,ai,seval,ah]|exact rfl|refine aa (v:=.any) ?_|((first|apply Ca|apply Cb)<;>intro hb)|refine Ai (by omega) ?_|(apply Ai<;>intro hb)|refine Fin.pure ?_ ?_ ?_|simp only[al]))
def CC (t:Tk)(h:t.okTo aS)(nm:Nat):Ev cx 85 nm [.agg (bv t)] am.nil (.int .i64 (IX t)) []:=by
 unfold IX
 rw[EK]
 cases ho:jW t with
 | false=>exact zX t h ho nm
 | true =>
  have:=w6 t h ho nm
  simpa using this
end Go.Proofs.YtlnlopnpcmahgaaGreatDoor
