/-
 Texts joined: XLc,XLd,XLe,XLf.
-/
import Derived.Test.YtlnlopnpcmahgaaGreatDoorQk
set_option linter.all false
namespace Go.Proofs.YtlnlopnpcmahgaaGreatDoor
set_option maxRecDepth 100000
set_option maxHeartbeats 32000000
open Go Go.RowKit Vm Go.Lib Tryz
open Vm renaming aW->Ca,bf->Cb
open And renaming intro->Ai
open List renaming length_map->Lm,not_mem_nil->Ln,map_nil->Lo,map_cons->Lc,mem_cons->Lk
open Bool renaming not_false->Bf,not_true->Bt
def Ep (o:Option Nat):Int:=match o with|some n=>n|none=>-1
def dC (n:Nat):Ep (some n)=n:=rfl
def gr:Ep none = -1:=rfl
def oQ {α:Type}{p:α->Bool} : ∀ {l:List α} {k:Nat} {x:α},(l.take k).any p=false->l[k]? = some x->p x=true->l.findIdx? p=some k
 | [],k,x,_,h,_=>by simp at h
 | y::l,0,x,_,h,hp=>by simp at h;subst h;simp[List.findIdx?_cons,hp]
 | y::l,k+1,x,hn,h,hp=>by
  simp only[List.take_succ_cons,List.any_cons,Bool.or_eq_false_iff]at hn
  rw[List.findIdx?_cons,hn.1]
  simp[oQ (l:=l) (k:=k) (x:=x) hn.2 (by simpa using h) hp]
def lF {α:Type}{p:α->Bool}{l:List α}(h:l.any p=false):l.findIdx? p=none:=by
 simpa [List.findIdx?_eq_none_iff] using h
def sX {α:Type}{p:α->Bool}{l:List α}(h:l.findIdx? p=none):l.any p=false:=by
 simpa [List.findIdx?_eq_none_iff] using h
def sZ {α:Type}{p:α->Bool}{l:List α}{n:Nat}(h:l.findIdx? p=some n):l.any p=true:=by
 cases ha:l.any p with
 | true=>rfl
 | false=>rw[lF ha]at h;cases h
def j7 {caps:List V}(h:plainL caps=true)(O:List (Nat×Nat))(M:am):finL O M caps=caps:=(finL_plain O M caps h).1
def iq {caps:List V}(h:plainL caps=true)(O:List (Nat×Nat))(M:am):finLOk O M caps=True:=eq_true (finL_plain O M caps h).2
def Al (l:List Pr)(f:Nat)(caps:List V)(p:Pr->Bool)(hf:∀ h∈l,∀ nm,Ev cx f nm (.agg (c7 h)::caps) am.nil (.bool (p h)) [])(hn:l.length<=bc)(hpl:plainL caps=true)(nm:Nat):Ev cx 173 nm [.sl false 2 (l.map c7),.fn f caps] am.nil (.int .i64 (Ep (l.findIdx? p))) []:=by
 unfold bc at hn
 refine bh call173 func173 rfl (by kernel_rfl) rfl ?_;intro b0 hb0;have zF:=Ai results173 ntmps173
 repeat' first|simp only[ak,ag,zF,al,ai,seval,ah]|exact rfl|refine aa (v:=.any) ?_|((first|(refine aS (g:=?_) ?_ ?_)|(refine aM (g:=?_) ?_ ?_));rotate_left 1;(focus (simp only[zF,al,ai,seval,ah]<;>exact rfl)))|((first|apply Ca|apply Cb)<;>intro hb)|refine Ai (by omega) ?_|(apply Ai<;>intro hb)
 (refine aQ bM (fun x:Nat=>l.length-x) (fun x=>x<=l.length/\(l.take x).any p=false) (b0+16) (fun x=>[(0,.sl false 2 (l.map c7)),(1,.fn f caps),(7,.int .i64 l.length),(8,.int .i64 x)]) (fun x=>[]) (0) [] ?_ ?_ ?_ ?_;rotate_left 1;(focus (show b0<=_;omega));(focus (refine⟨?_,?_⟩<;>(try simp only[aX,Lm,ay,j7 hpl,iq hpl,ai,seval,ah,ap])<;>(try omega)));rotate_left 1)
 ·exact⟨Nat.zero_le _,by simp⟩
 ·rintro k ⟨hk,hno⟩
  by_cases hlt:k<l.length
  ·obtain⟨h,hh⟩:∃ h,l[k]? = some h:=⟨_,List.getElem?_eq_getElem hlt⟩
   have hat:(l.map c7)[k]? = some (c7 h):=by rw[List.getElem?_map,hh];rfl
   have hd:decide (k<l.length)=true:=decide_eq_true hlt
   have hwk:IntKind.i64.wrap ((k:Int)+1)=((k+1:Nat):Int):=bd
   have hfh:=hf h (List.mem_of_getElem? hh)
   cases hp:p h with
   | true =>
    have hfd:=oQ hno hh hp
    rw[hp]at hfh
    (repeat' first|simp only[ak,ag,zF,al,hat,c7,hlt,hd,hwk,hfd,dC,Lm,ai,seval,ah]|exact rfl|refine aa (v:=.any) ?_|refine eD (g:=f) (caps:=caps) (by simp only[zF,al,hat,c7,hlt,hd,hwk,hfd,dC,Lm,ai,seval,ah]<;>exact rfl) (by simp only[zF,al,hat,c7,hlt,hd,hwk,hfd,dC,Lm,ai,seval,ah]<;>exact rfl) (hfh _) ?_|((first|(refine aS (g:=?_) ?_ ?_)|(refine aM (g:=?_) ?_ ?_));rotate_left 1;(focus (simp only[zF,al,hat,c7,hlt,hd,hwk,hfd,dC,Lm,ai,seval,ah]<;>exact rfl)))|((first|apply Ca|apply Cb)<;>intro hb)|refine Ai (by omega) ?_|(apply Ai<;>intro hb)|refine Fin.pure ?_ ?_ ?_|simp only[ap])
   | false =>
    have hn':=gy (p:=p) hno hh hp
    rw[hp]at hfh
    repeat' first|simp only[ak,ag,zF,al,hat,c7,hlt,hd,hwk,Lm,ai,seval,ah]|exact rfl|refine aa (v:=.any) ?_|refine eD (g:=f) (caps:=caps) (by simp only[zF,al,hat,c7,hlt,hd,hwk,Lm,ai,seval,ah]<;>exact rfl) (by simp only[zF,al,hat,c7,hlt,hd,hwk,Lm,ai,seval,ah]<;>exact rfl) (hfh _) ?_|((first|(refine aS (g:=?_) ?_ ?_)|(refine aM (g:=?_) ?_ ?_));rotate_left 1;(focus (simp only[zF,al,hat,c7,hlt,hd,hwk,Lm,ai,seval,ah]<;>exact rfl)))|((first|apply Ca|apply Cb)<;>intro hb)|refine Ai (by omega) ?_|(apply Ai<;>intro hb)
    all_goals ((refine aC bM (k+1) [] ?_ ?_ ?_ ?_;rotate_left 2;(focus (show b0<=_;omega));(focus (refine⟨?_,?_⟩<;>(try simp only[aX,ay,j7 hpl,iq hpl,hwk,ai,seval,ah,ap])<;>(try omega)))))
    all_goals (first|(show l.length-(k+1)<l.length-k;omega)|exact⟨hlt,hn'⟩|skip)
  ·have hke:k=l.length:=by omega
   subst hke
   rw[List.take_length]at hno
   have hfd:=lF hno
   have hd:decide (l.length<l.length)=false:=bm
   (repeat' first|simp only[ak,ag,zF,al,hd,hfd,gr,Lm,ai,seval,ah]|exact rfl|refine aa (v:=.any) ?_|((first|(refine aS (g:=?_) ?_ ?_)|(refine aM (g:=?_) ?_ ?_));rotate_left 1;(focus (simp only[zF,al,hd,hfd,gr,Lm,ai,seval,ah]<;>exact rfl)))|((first|apply Ca|apply Cb)<;>intro hb)|refine Ai (by omega) ?_|(apply Ai<;>intro hb)|refine Fin.pure ?_ ?_ ?_|simp only[ap])
def tv (l:List Pr)(f:Nat)(caps:List V)(p:Pr->Bool)(hf:∀ h∈l,∀ nm,Ev cx f nm (.agg (c7 h)::caps) am.nil (.bool (p h)) [])(hn:l.length<=bc)(hpl:plainL caps=true)(nm:Nat):Ev cx 132 nm [.sl false 2 (l.map c7),.fn f caps] am.nil (.bool (l.any p)) []:=by
 have hi:=Al l f caps p hf hn hpl
 cases h:l.findIdx? p with
 | none =>
  have ha:l.any p=false:=sX h
  rw[h]at hi
  refine bh call132 func132 rfl (by kernel_rfl) rfl ?_;intro b0 hb0
  (repeat' first|simp only[ak,ag,results132,ntmps132,al,ha,gr,ai,seval,ah]|exact rfl|refine aa (v:=.any) ?_|(first|(refine ae ?_ (hi _) ?_)|(refine ab ?_ (fun _=>hi _) ?_))|((first|apply Ca|apply Cb)<;>intro hb)|refine Ai (by omega) ?_|(apply Ai<;>intro hb)|refine Fin.pure ?_ ?_ ?_|simp only[ap])
 | some n =>
  have ha:l.any p=true:=sZ h
  rw[h]at hi
  have hz:decide ((0:Int)<=(n:Int))=true:=bR
  refine bh call132 func132 rfl (by kernel_rfl) rfl ?_;intro b0 hb0
  (repeat' first|simp only[ak,ag,results132,ntmps132,al,ha,dC,hz,ai,seval,ah]|exact rfl|refine aa (v:=.any) ?_|(first|(refine ae ?_ (hi _) ?_)|(refine ab ?_ (fun _=>hi _) ?_))|((first|apply Ca|apply Cb)<;>intro hb)|refine Ai (by omega) ?_|(apply Ai<;>intro hb)|refine Fin.pure ?_ ?_ ?_|simp only[ap])
def CM (l:List Tk)(f:Nat)(caps:List V)(p:Tk->Bool)(hf:∀ h∈l,∀ nm,Ev cx f nm (.agg (bE h)::caps) am.nil (.bool (p h)) [])(hn:l.length<=bc)(hpl:plainL caps=true)(nm:Nat):Ev cx 130 nm [.sl false 4 (l.map bE),.fn f caps] am.nil (.int .i64 (Ep (l.findIdx? p))) []:=by
 unfold bc at hn
 refine bh call130 func130 rfl (by kernel_rfl) rfl ?_;intro b0 hb0;have zF:=Ai results130 ntmps130
 repeat' first|simp only[ak,ag,zF,al,ai,seval,ah]|exact rfl|refine aa (v:=.any) ?_|((first|(refine aS (g:=?_) ?_ ?_)|(refine aM (g:=?_) ?_ ?_));rotate_left 1;(focus (simp only[zF,al,ai,seval,ah]<;>exact rfl)))|((first|apply Ca|apply Cb)<;>intro hb)|refine Ai (by omega) ?_|(apply Ai<;>intro hb)
 (refine aQ bM (fun x:Nat=>l.length-x) (fun x=>x<=l.length/\(l.take x).any p=false) (b0+16) (fun x=>[(0,.sl false 4 (l.map bE)),(1,.fn f caps),(7,.int .i64 l.length),(8,.int .i64 x)]) (fun x=>[]) (0) [] ?_ ?_ ?_ ?_;rotate_left 1;(focus (show b0<=_;omega));(focus (refine⟨?_,?_⟩<;>(try simp only[aX,Lm,aE,j7 hpl,iq hpl,ai,seval,ah,ap])<;>(try omega)));rotate_left 1)
 ·exact⟨Nat.zero_le _,by simp⟩
 ·rintro k ⟨hk,hno⟩
  by_cases hlt:k<l.length
  ·obtain⟨h,hh⟩:∃ h,l[k]? = some h:=⟨_,List.getElem?_eq_getElem hlt⟩
   have hat:(l.map bE)[k]? = some (bE h):=by rw[List.getElem?_map,hh];rfl
   have hd:decide (k<l.length)=true:=decide_eq_true hlt
   have hwk:IntKind.i64.wrap ((k:Int)+1)=((k+1:Nat):Int):=bd
   have hfh:=hf h (List.mem_of_getElem? hh)
   cases hp:p h with
   | true =>
    have hfd:=oQ hno hh hp
    rw[hp]at hfh
    (repeat' first|simp only[ak,ag,zF,al,hat,bE,hlt,hd,hwk,hfd,dC,Lm,ai,seval,ah]|exact rfl|refine aa (v:=.any) ?_|refine eD (g:=f) (caps:=caps) (by simp only[zF,al,hat,bE,hlt,hd,hwk,hfd,dC,Lm,ai,seval,ah]<;>exact rfl) (by simp only[zF,al,hat,bE,hlt,hd,hwk,hfd,dC,Lm,ai,seval,ah]<;>exact rfl) (hfh _) ?_|((first|(refine aS (g:=?_) ?_ ?_)|(refine aM (g:=?_) ?_ ?_));rotate_left 1;(focus (simp only[zF,al,hat,bE,hlt,hd,hwk,hfd,dC,Lm,ai,seval,ah]<;>exact rfl)))|((first|apply Ca|apply Cb)<;>intro hb)|refine Ai (by omega) ?_|(apply Ai<;>intro hb)|refine Fin.pure ?_ ?_ ?_|simp only[ap])
   | false =>
    have hn':=gy (p:=p) hno hh hp
    rw[hp]at hfh
    repeat' first|simp only[ak,ag,zF,al,hat,bE,hlt,hd,hwk,Lm,ai,seval,ah]|exact rfl|refine aa (v:=.any) ?_|refine eD (g:=f) (caps:=caps) (by simp only[zF,al,hat,bE,hlt,hd,hwk,Lm,ai,seval,ah]<;>exact rfl) (by simp only[zF,al,hat,bE,hlt,hd,hwk,Lm,ai,seval,ah]<;>exact rfl) (hfh _) ?_|((first|(refine aS (g:=?_) ?_ ?_)|(refine aM (g:=?_) ?_ ?_));rotate_left 1;(focus (simp only[zF,al,hat,bE,hlt,hd,hwk,Lm,ai,seval,ah]<;>exact rfl)))|((first|apply Ca|apply Cb)<;>intro hb)|refine Ai (by omega) ?_|(apply Ai<;>intro hb)
    all_goals ((refine aC bM (k+1) [] ?_ ?_ ?_ ?_;rotate_left 2;(focus (show b0<=_;omega));(focus (refine⟨?_,?_⟩<;>(try simp only[aX,aE,j7 hpl,iq hpl,hwk,ai,seval,ah,ap])<;>(try omega)))))
    all_goals (first|(show l.length-(k+1)<l.length-k;omega)|exact⟨hlt,hn'⟩|skip)
  ·have hke:k=l.length:=by omega
   subst hke
   rw[List.take_length]at hno
   have hfd:=lF hno
   have hd:decide (l.length<l.length)=false:=bm
   (repeat' first|simp only[ak,ag,zF,al,hd,hfd,gr,Lm,ai,seval,ah]|exact rfl|refine aa (v:=.any) ?_|((first|(refine aS (g:=?_) ?_ ?_)|(refine aM (g:=?_) ?_ ?_));rotate_left 1;(focus (simp only[zF,al,hd,hfd,gr,Lm,ai,seval,ah]<;>exact rfl)))|((first|apply Ca|apply Cb)<;>intro hb)|refine Ai (by omega) ?_|(apply Ai<;>intro hb)|refine Fin.pure ?_ ?_ ?_|simp only[ap])
def om (l:List Tk)(f:Nat)(caps:List V)(p:Tk->Bool)(hf:∀ h∈l,∀ nm,Ev cx f nm (.agg (bE h)::caps) am.nil (.bool (p h)) [])(hn:l.length<=bc)(hpl:plainL caps=true)(nm:Nat):Ev cx 83 nm [.sl false 4 (l.map bE),.fn f caps] am.nil (.bool (l.any p)) []:=by
 have hi:=CM l f caps p hf hn hpl
 cases h:l.findIdx? p with
 | none =>
  have ha:l.any p=false:=sX h
  rw[h]at hi
  refine bh call83 func83 rfl (by kernel_rfl) rfl ?_;intro b0 hb0
  (repeat' first|simp only[ak,ag,results83,ntmps83,al,ha,gr,ai,seval,ah]|exact rfl|refine aa (v:=.any) ?_|(first|(refine ae ?_ (hi _) ?_)|(refine ab ?_ (fun _=>hi _) ?_))|((first|apply Ca|apply Cb)<;>intro hb)|refine Ai (by omega) ?_|(apply Ai<;>intro hb)|refine Fin.pure ?_ ?_ ?_|simp only[ap])
 | some n =>
  have ha:l.any p=true:=sZ h
  rw[h]at hi
  have hz:decide ((0:Int)<=(n:Int))=true:=bR
  refine bh call83 func83 rfl (by kernel_rfl) rfl ?_;intro b0 hb0
  (repeat' first|simp only[ak,ag,results83,ntmps83,al,ha,dC,hz,ai,seval,ah]|exact rfl|refine aa (v:=.any) ?_|(first|(refine ae ?_ (hi _) ?_)|(refine ab ?_ (fun _=>hi _) ?_))|((first|apply Ca|apply Cb)<;>intro hb)|refine Ai (by omega) ?_|(apply Ai<;>intro hb)|refine Fin.pure ?_ ?_ ?_|simp only[ap])
def FC (a b:Pr)(nm:Nat):Ev cx 133 nm [.agg (c7 b),.rp (c7 a)] am.nil (.bool (a.name==b.name)) []:=by
 refine bh call133 func133 rfl (by kernel_rfl) rfl ?_;intro b0 hb0
 (repeat' first|simp only[ak,ag,results133,ntmps133,al,c7,ai,seval,ah]|exact rfl|refine aa (v:=.any) ?_|((first|apply Ca|apply Cb)<;>intro hb)|refine Ai (by omega) ?_|(apply Ai<;>intro hb)|refine Fin.pure ?_ ?_ ?_|simp only[ap])
def Tk.okTo (t:Tk)(l:Nat):Prop:=t.attrs.length<=l/\t.name.length<=l/\t.text.length<=l /\ ∀ a∈t.attrs,a.name.length<=l/\a.value.length<=l
def wV (n:Nat):(n=1)\/(n=3)\/(n=2)\/(n=4)\/(n≠1/\n≠3/\n≠2/\n≠4):=by omega
def kc {α:Type}[BEq α](l:List α):(l==[])=l.isEmpty:=by cases l<;>rfl
def na {α:Type}(l:List α):((l.length:Int)==0)=l.isEmpty:=by
 cases l with
 | nil=>rfl
 | cons a l=>simp only[List.length_cons,List.isEmpty_cons];exact beq_false_of_ne (by omega)
def BJ {l:List Pr}(h:16<l.length):iQ l=false:=by
 cases ha:iQ l with
 | false=>rfl
 | true=>have:=(gh.1 ha).1;omega
def mX (t:Tk):Bool :=
 (if t.kind=1\/t.kind=3 then cN t.name&&t.text.isEmpty
 else if t.kind=2 then cN t.name&&t.attrs.isEmpty&&t.text.isEmpty
 else if t.kind=4 then t.name.isEmpty&&t.attrs.isEmpty && !t.text.isEmpty&&decide (aN t.text=0)
 else false)&&decide (t.attrs.length<=16)
def LF (t:Tk):ed t=(mX t&&iQ t.attrs):=by
 unfold ed mX
 by_cases hl:t.attrs.length<=16
 ·simp only[hl,decide_true,Bool.and_true]
  by_cases h1:t.kind=1\/t.kind=3
  ·simp only[h1,if_true]
   cases cN t.name<;>cases t.text.isEmpty<;>simp
  ·simp only[h1,if_false]
   have hnil:t.attrs.isEmpty=true->iQ t.attrs=true:=fun h=>by
    rw[List.isEmpty_iff]at h;rw[h];rfl
   by_cases h2:t.kind=2
   ·simp only[h2,if_true]
    cases he:t.attrs.isEmpty with
    | false=>simp
    | true=>simp[hnil he]
   ·simp only[h2,if_false]
    by_cases h4:t.kind=4
    ·simp only[h4,if_true]
     cases he:t.attrs.isEmpty with
     | false=>simp
     | true=>simp[hnil he]
    ·simp only[h4,if_false,Bool.false_and]
 ·have hf:=BJ (by omega:16<t.attrs.length)
  simp only[hl,decide_false,Bool.and_false,Bool.false_and,hf]
  split
  ·rfl
  ·split
   ·have:t.attrs.isEmpty=false:=by cases h:t.attrs with|nil=>rw[h]at hl;simp at hl|cons a b=>rfl
    simp[this]
   ·split
    ·have:t.attrs.isEmpty=false:=by cases h:t.attrs with|nil=>rw[h]at hl;simp at hl|cons a b=>rfl
     simp[this]
    ·rfl
def pz:∀ k1 k3 k2 k4 e n x f g z:Bool,((k1=true/\k3=false/\k2=false/\k4=false)\/(k1=false/\k3=true/\k2=false/\k4=false)\/(k1=false/\k3=false/\k2=true/\k4=false)\/(k1=false/\k3=false/\k2=false/\k4=true)\/(k1=false/\k3=false/\k2=false/\k4=false)) ->
  (k1=true/\k3=false/\k2=false/\k4=false/\f=false)\/(k1=true/\k3=false/\k2=false/\k4=false/\f=true/\x=false)\/(k1=true/\k3=false/\k2=false/\k4=false/\f=true/\x=true/\g=true)\/(k1=true/\k3=false/\k2=false/\k4=false/\f=true/\x=true/\g=false/\z=true)\/(k1=true/\k3=false/\k2=false/\k4=false/\f=true/\x=true/\g=false/\z=false)\/(k1=false/\k3=true/\k2=false/\k4=false/\f=false)\/(k1=false/\k3=true/\k2=false/\k4=false/\f=true/\x=false)\/(k1=false/\k3=true/\k2=false/\k4=false/\f=true/\x=true/\g=true)\/(k1=false/\k3=true/\k2=false/\k4=false/\f=true/\x=true/\g=false/\z=true)\/(k1=false/\k3=true/\k2=false/\k4=false/\f=true/\x=true/\g=false/\z=false)\/(k1=false/\k3=false/\k2=true/\k4=false/\e=false)\/(k1=false/\k3=false/\k2=true/\k4=false/\e=true/\f=false)\/(k1=false/\k3=false/\k2=true/\k4=false/\e=true/\f=true/\x=false)\/(k1=false/\k3=false/\k2=true/\k4=false/\e=true/\f=true/\x=true/\g=true)\/(k1=false/\k3=false/\k2=true/\k4=false/\e=true/\f=true/\x=true/\g=false/\z=true)\/(k1=false/\k3=false/\k2=true/\k4=false/\e=true/\f=true/\x=true/\g=false/\z=false)\/(k1=false/\k3=false/\k2=false/\k4=true/\n=false)\/(k1=false/\k3=false/\k2=false/\k4=true/\n=true/\e=false)\/(k1=false/\k3=false/\k2=false/\k4=true/\n=true/\e=true/\x=true)\/(k1=false/\k3=false/\k2=false/\k4=true/\n=true/\e=true/\x=false/\g=true)\/(k1=false/\k3=false/\k2=false/\k4=true/\n=true/\e=true/\x=false/\g=false/\z=true)\/(k1=false/\k3=false/\k2=false/\k4=true/\n=true/\e=true/\x=false/\g=false/\z=false)\/(k1=false/\k3=false/\k2=false/\k4=false):=by
 intro k1 k3 k2 k4 e n x f g z h
 rcases h with ⟨rfl,rfl,rfl,rfl⟩|⟨rfl,rfl,rfl,rfl⟩|⟨rfl,rfl,rfl,rfl⟩|⟨rfl,rfl,rfl,rfl⟩|⟨rfl,rfl,rfl,rfl⟩<;>cases e<;>cases n<;>cases x<;>cases f<;>cases g<;>cases z<;>simp
def oY (n:Nat):((((n:Int)==1)=true/\((n:Int)==3)=false/\((n:Int)==2)=false/\((n:Int)==4)=false/\n=1)\/(((n:Int)==1)=false/\((n:Int)==3)=true/\((n:Int)==2)=false/\((n:Int)==4)=false/\n=3)\/(((n:Int)==1)=false/\((n:Int)==3)=false/\((n:Int)==2)=true/\((n:Int)==4)=false/\n=2) \/
  (((n:Int)==1)=false/\((n:Int)==3)=false/\((n:Int)==2)=false/\((n:Int)==4)=true/\n=4)\/(((n:Int)==1)=false/\((n:Int)==3)=false/\((n:Int)==2)=false/\((n:Int)==4)=false/\n≠1/\n≠3/\n≠2/\n≠4)):=by
 rcases wV n with rfl|rfl|rfl|rfl|⟨h1,h3,h2,h4⟩
 ·left;exact⟨rfl,rfl,rfl,rfl,rfl⟩
 ·right;left;exact⟨rfl,rfl,rfl,rfl,rfl⟩
 ·right;right;left;exact⟨rfl,rfl,rfl,rfl,rfl⟩
 ·right;right;right;left;exact⟨rfl,rfl,rfl,rfl,rfl⟩
 ·right;right;right;right
  exact⟨beq_false_of_ne (by omega),beq_false_of_ne (by omega),beq_false_of_ne (by omega),beq_false_of_ne (by omega),h1,h3,h2,h4⟩
def ub (t:Tk):mX t=(((((t.kind:Int)==1||(t.kind:Int)==3)&&cN t.name&&t.text.isEmpty)||((t.kind:Int)==2&&cN t.name&&t.attrs.isEmpty&&t.text.isEmpty)||((t.kind:Int)==4&&t.name.isEmpty&&t.attrs.isEmpty && !t.text.isEmpty && !(aN t.text != 0))) && !decide (16<t.attrs.length)):=by
 have hz:decide (aN t.text=0) = !(aN t.text != 0):=by rw[Bool.eq_iff_iff];simp
 have hg:decide (t.attrs.length<=16) = !decide (16<t.attrs.length):=by rw[Bool.eq_iff_iff];simp
 unfold mX
 rw[hz,hg]
 rcases oY t.kind with ⟨q1,q3,q2,q4,hk⟩|⟨q1,q3,q2,q4,hk⟩|⟨q1,q3,q2,q4,hk⟩|⟨q1,q3,q2,q4,hk⟩|⟨q1,q3,q2,q4,hk,hk3,hk2,hk4⟩
 ·rw[q1,q3,q2,q4];simp[hk]
 ·rw[q1,q3,q2,q4];simp[hk]
 ·rw[q1,q3,q2,q4];simp[hk]
 ·rw[q1,q3,q2,q4];simp[hk]
 ·rw[q1,q3,q2,q4];simp[hk,hk3,hk2,hk4]
def wu (n:Nat):((((n:Int)==1)=true/\((n:Int)==3)=false/\((n:Int)==2)=false/\((n:Int)==4)=false)\/(((n:Int)==1)=false/\((n:Int)==3)=true/\((n:Int)==2)=false/\((n:Int)==4)=false)\/(((n:Int)==1)=false/\((n:Int)==3)=false/\((n:Int)==2)=true/\((n:Int)==4)=false) \/
  (((n:Int)==1)=false/\((n:Int)==3)=false/\((n:Int)==2)=false/\((n:Int)==4)=true)\/(((n:Int)==1)=false/\((n:Int)==3)=false/\((n:Int)==2)=false/\((n:Int)==4)=false)):=by
 rcases oY n with h|h|h|h|h<;>simp[h]
def FD (t:Tk)(h:t.okTo bc)(ho:mX t=false)(nm:Nat):Ev cx 85 nm [.agg (bE t)] am.nil (.int .i64 8) []:=by
 obtain⟨hl,hnl,htl,hal⟩:=h
 have hee:((t.attrs.length:Int)==0)=t.attrs.isEmpty:=na _
 have hne:=kc t.name
 have hxe:=kc t.text
 have hge:decide ((16:Int)<(t.attrs.length:Int))=decide (16<t.attrs.length):=by
  rw[Bool.eq_iff_iff];simp;omega
 have hfull:=jf t.name hnl
 have hchk:=ce t.text htl
 rw[ub]at ho
 have hex:=wu t.kind
 generalize h1:((t.kind:Int)==1)=k1 at ho hex
 generalize h3:((t.kind:Int)==3)=k3 at ho hex
 generalize h2:((t.kind:Int)==2)=k2 at ho hex
 generalize h4:((t.kind:Int)==4)=k4 at ho hex
 generalize he:t.attrs.isEmpty=e at ho hee
 generalize hn:t.name.isEmpty=n at ho hne
 have hxb:(t.text != []) = !t.text.isEmpty:=congrArg not hxe
 generalize hx:t.text.isEmpty=x at ho hxe hxb
 generalize hf:cN t.name=f at ho hfull
 generalize hg:decide (16<t.attrs.length)=g at ho hge
 generalize hz:(aN t.text != 0)=z at ho
 rcases pz k1 k3 k2 k4 e n x f g z hex with ⟨rfl,rfl,rfl,rfl,rfl⟩|⟨rfl,rfl,rfl,rfl,rfl,rfl⟩|⟨rfl,rfl,rfl,rfl,rfl,rfl,rfl⟩|⟨rfl,rfl,rfl,rfl,rfl,rfl,rfl,rfl⟩|⟨rfl,rfl,rfl,rfl,rfl,rfl,rfl,rfl⟩|⟨rfl,rfl,rfl,rfl,rfl⟩|⟨rfl,rfl,rfl,rfl,rfl,rfl⟩|⟨rfl,rfl,rfl,rfl,rfl,rfl,rfl⟩|⟨rfl,rfl,rfl,rfl,rfl,rfl,rfl,rfl⟩|⟨rfl,rfl,rfl,rfl,rfl,rfl,rfl,rfl⟩|⟨rfl,rfl,rfl,rfl,rfl⟩|⟨rfl,rfl,rfl,rfl,rfl,rfl⟩|⟨rfl,rfl,rfl,rfl,rfl,rfl,rfl⟩|⟨rfl,rfl,rfl,rfl,rfl,rfl,rfl,rfl⟩|⟨rfl,rfl,rfl,rfl,rfl,rfl,rfl,rfl,rfl⟩|⟨rfl,rfl,rfl,rfl,rfl,rfl,rfl,rfl,rfl⟩|⟨rfl,rfl,rfl,rfl,rfl⟩|⟨rfl,rfl,rfl,rfl,rfl,rfl⟩|⟨rfl,rfl,rfl,rfl,rfl,rfl,rfl⟩|⟨rfl,rfl,rfl,rfl,rfl,rfl,rfl,rfl⟩|⟨rfl,rfl,rfl,rfl,rfl,rfl,rfl,rfl,rfl⟩|⟨rfl,rfl,rfl,rfl,rfl,rfl,rfl,rfl,rfl⟩|⟨rfl,rfl,rfl,rfl⟩
 all_goals (try (exfalso;simp at ho;done))
 all_goals (
  refine bh call85 func85 rfl (by kernel_rfl) rfl ?_;intro b0 hb0
  (repeat' first|simp only[ak,ag,results85,ntmps85,al,bE,hee,hne,hxe,hxb,Bt,Bf,hge,hz,h1,h2,h3,h4,Lm,ai,seval,ah]|exact rfl|refine aa (v:=.any) ?_|(first|(refine ae ?_ (hfull _) ?_)|(refine ab ?_ (fun _=>hfull _) ?_)|(refine ae ?_ (hchk _) ?_)|(refine ab ?_ (fun _=>hchk _) ?_))|(refine aa (v:=.any) ?_)|((first|apply Ca|apply Cb)<;>intro hb)|refine Ai (by omega) ?_|(apply Ai<;>intro hb)|refine Fin.pure ?_ ?_ ?_|simp only[ap]))
def jr (a b c:V)(l:List Pr):plainLL [[a,b,.sl false 2 (l.map c7),c]]=(a.plain&&(b.plain&&c.plain)):=by simp[plainLL,plainL,V.plain,ay]
def BP (t:Tk)(h:t.okTo bc)(ho:mX t=true)(nm:Nat):Ev cx 85 nm [.agg (bE t)] am.nil (.int .i64 (if iQ t.attrs=true then 0 else 8)) []:=by
 obtain⟨hl,hnl,htl,hal⟩:=h
 have hl':=hl
 unfold bc at hl'
 have h16:t.attrs.length<=16:=by
  unfold mX at ho
  simp only[Bool.and_eq_true,decide_eq_true_eq]at ho
  exact ho.2
 have hee:((t.attrs.length:Int)==0)=t.attrs.isEmpty:=na _
 have hne:=kc t.name
 have hxe:=kc t.text
 have hge:decide ((16:Int)<(t.attrs.length:Int))=decide (16<t.attrs.length):=by
  rw[Bool.eq_iff_iff];simp;omega
 have hfull:=jf t.name hnl
 have hchk:=ce t.text htl
 rw[ub]at ho
 have hex:=wu t.kind
 generalize h1:((t.kind:Int)==1)=k1 at ho hex
 generalize h3:((t.kind:Int)==3)=k3 at ho hex
 generalize h2:((t.kind:Int)==2)=k2 at ho hex
 generalize h4:((t.kind:Int)==4)=k4 at ho hex
 generalize he:t.attrs.isEmpty=e at ho hee
 generalize hn:t.name.isEmpty=n at ho hne
 have hxb:(t.text != []) = !t.text.isEmpty:=congrArg not hxe
 have hxz:t.text.isEmpty=true->(aN t.text != 0)=false:=fun h=>by rw[List.isEmpty_iff.1 h];rfl
 generalize hx:t.text.isEmpty=x at ho hxe hxb hxz
 generalize hf:cN t.name=f at ho hfull
 generalize hg:decide (16<t.attrs.length)=g at ho hge
 generalize hz:(aN t.text != 0)=z at ho hxz
 rcases pz k1 k3 k2 k4 e n x f g z hex with ⟨rfl,rfl,rfl,rfl,rfl⟩|⟨rfl,rfl,rfl,rfl,rfl,rfl⟩|⟨rfl,rfl,rfl,rfl,rfl,rfl,rfl⟩|⟨rfl,rfl,rfl,rfl,rfl,rfl,rfl,rfl⟩|⟨rfl,rfl,rfl,rfl,rfl,rfl,rfl,rfl⟩|⟨rfl,rfl,rfl,rfl,rfl⟩|⟨rfl,rfl,rfl,rfl,rfl,rfl⟩|⟨rfl,rfl,rfl,rfl,rfl,rfl,rfl⟩|⟨rfl,rfl,rfl,rfl,rfl,rfl,rfl,rfl⟩|⟨rfl,rfl,rfl,rfl,rfl,rfl,rfl,rfl⟩|⟨rfl,rfl,rfl,rfl,rfl⟩|⟨rfl,rfl,rfl,rfl,rfl,rfl⟩|⟨rfl,rfl,rfl,rfl,rfl,rfl,rfl⟩|⟨rfl,rfl,rfl,rfl,rfl,rfl,rfl,rfl⟩|⟨rfl,rfl,rfl,rfl,rfl,rfl,rfl,rfl,rfl⟩|⟨rfl,rfl,rfl,rfl,rfl,rfl,rfl,rfl,rfl⟩|⟨rfl,rfl,rfl,rfl,rfl⟩|⟨rfl,rfl,rfl,rfl,rfl,rfl⟩|⟨rfl,rfl,rfl,rfl,rfl,rfl,rfl⟩|⟨rfl,rfl,rfl,rfl,rfl,rfl,rfl,rfl⟩|⟨rfl,rfl,rfl,rfl,rfl,rfl,rfl,rfl,rfl⟩|⟨rfl,rfl,rfl,rfl,rfl,rfl,rfl,rfl,rfl⟩|⟨rfl,rfl,rfl,rfl⟩
 all_goals (try (exfalso;simp at ho;done))
 all_goals (try (exfalso;exact absurd (hxz rfl) (by decide)))
 all_goals (
  refine bh call85 func85 rfl (by kernel_rfl) rfl ?_;intro b0 hb0;have zF:=Ai results85 ntmps85
  repeat' first|simp only[ak,ag,zF,al,bE,hee,hne,hxe,hxb,Bt,Bf,hge,hz,h1,h2,h3,h4,Lm,ai,seval,ah]|exact rfl|refine aa (v:=.any) ?_|(first|(refine ae ?_ (hfull _) ?_)|(refine ab ?_ (fun _=>hfull _) ?_)|(refine ae ?_ (hchk _) ?_)|(refine ab ?_ (fun _=>hchk _) ?_))|(refine aa (v:=.any) ?_)|((first|apply Ca|apply Cb)<;>intro hb)|refine Ai (by omega) ?_|(apply Ai<;>intro hb))
 all_goals (
  (refine aQ bM (fun x:Nat=>t.attrs.length-x) (fun x=>x<=t.attrs.length/\ja t.attrs x) (b0+16) (fun x=>[(1,.ptr b0 0 0),(76,.sl false 2 (t.attrs.map c7)),(77,.int .i64 t.attrs.length),(78,.int .i64 x)]) (fun x=>[(b0,⟨4,[bE t]⟩)]) (0) [some b0] ?_ ?_ ?_ ?_;rotate_left 1;(focus (show b0<=_;omega));(focus (refine⟨?_,?_⟩<;>(try simp only[aX,ay,jr,bE,Lm,ai,seval,ah,ap])<;>(try omega)));rotate_left 1))
 all_goals (first|exact⟨Nat.zero_le _,fun i a hi=>by omega⟩|skip)
 all_goals (
  rintro k ⟨hk,hn⟩
  by_cases hlt:k<t.attrs.length
  ·obtain⟨a,ha⟩:∃ a,t.attrs[k]? = some a:=⟨_,List.getElem?_eq_getElem hlt⟩
   obtain⟨hs1,hs2⟩:=hal a (List.mem_of_getElem? ha)
   have hat:=KQ ha
   have hd:decide (k<t.attrs.length)=true:=decide_eq_true hlt
   have hwk:IntKind.i64.wrap ((k:Int)+1)=((k+1:Nat):Int):=bd
   have hki:(k:Int)<=(t.attrs.length:Int):=by omega
   have htk:(t.attrs.map c7).take k=(t.attrs.take k).map c7:=by rw[List.map_take]
   have hlen:(t.attrs.take k).length<=bc:=by rw[List.length_take];unfold bc;omega
   have hf2:=jf a.name hs1
   have hc2:=ce a.value hs2
   have hh2:=tv (t.attrs.take k) 133 [.rp (c7 a)] (fun b=>a.name==b.name) (fun b _ nm=>FC a b nm) hlen rfl
   have hok:O2 (t.attrs.take k) a=(!((t.attrs.take k).any fun b=>a.name==b.name)&&cN a.name&&decide (aN a.value=0)):=rfl
   have hz2:decide (aN a.value=0) = !(aN a.value != 0):=by rw[Bool.eq_iff_iff];simp
   rw[hz2]at hok
   generalize hb1:((t.attrs.take k).any fun b=>a.name==b.name)=b1 at hh2 hok
   generalize hb2:cN a.name=b2 at hf2 hok
   generalize hb3:(aN a.value != 0)=b3 at hok
   cases ho2:O2 (t.attrs.take k) a with
   | false =>
    have hr:=ze ha ho2
    rw[ho2]at hok
    cases b1<;>cases b2<;>cases b3
    all_goals (try (exfalso;simp at hok;done))
    all_goals ((repeat' first|simp only[ak,ag,zF,al,ay,bE,hat,c7,hd,hlt,hk,hki,htk,hb3,hr,Bt,Bf,Lm,Nat.zero_add,ai,seval,ah]|exact rfl|refine aa (v:=.any) ?_|(first|(refine ae ?_ (hf2 _) ?_)|(refine ab ?_ (fun _=>hf2 _) ?_)|(refine ae ?_ (hc2 _) ?_)|(refine ab ?_ (fun _=>hc2 _) ?_))|((refine bo (xs:=?_) [b0+80] ?_ ?_ ?_ rfl (hh2 _) ?_);rotate_left 1)|(refine aa (v:=.any) ?_)|omega|((first|apply Ca|apply Cb)<;>intro hb)|refine Ai (by omega) ?_|(apply Ai<;>intro hb)|refine Fin.pure ?_ ?_ ?_|simp only[ap]))
   | true =>
    have hn':=xw hn ha ho2
    rw[ho2]at hok
    cases b1<;>cases b2<;>cases b3
    all_goals (try (exfalso;simp at hok;done))
    all_goals (repeat' first|simp only[ak,ag,zF,al,ay,bE,hat,c7,hd,hlt,hk,hki,htk,hb3,hwk,Bt,Bf,Lm,Nat.zero_add,ai,seval,ah]|exact rfl|refine aa (v:=.any) ?_|(first|(refine ae ?_ (hf2 _) ?_)|(refine ab ?_ (fun _=>hf2 _) ?_)|(refine ae ?_ (hc2 _) ?_)|(refine ab ?_ (fun _=>hc2 _) ?_))|((refine bo (xs:=?_) [b0+80] ?_ ?_ ?_ rfl (hh2 _) ?_);rotate_left 1)|omega|((first|apply Ca|apply Cb)<;>intro hb)|refine Ai (by omega) ?_|(apply Ai<;>intro hb))
    all_goals ((refine aC bM (k+1) [some b0] ?_ ?_ ?_ ?_;rotate_left 2;(focus (show b0<=_;omega));(focus (refine⟨?_,?_⟩<;>(try simp only[aX,ay,jr,bE,hwk,ai,seval,ah,ap])<;>(try omega)))))
    all_goals (first|(show t.attrs.length-(k+1)<t.attrs.length-k;omega)|exact⟨hlt,hn'⟩|skip)
  ·have hke:k=t.attrs.length:=by omega
   subst hke
   have hd:decide (t.attrs.length<t.attrs.length)=false:=bm
   have hr:iQ t.attrs=true:=gh.2 ⟨h16,hn⟩
   (repeat' first|simp only[ak,ag,zF,al,hd,hr,Lm,ai,seval,ah]|exact rfl|refine aa (v:=.any) ?_|((first|apply Ca|apply Cb)<;>intro hb)|refine Ai (by omega) ?_|(apply Ai<;>intro hb)|refine Fin.pure ?_ ?_ ?_|simp only[ap]))
def zl (t:Tk)(h:t.okTo bc)(nm:Nat):Ev cx 85 nm [.agg (bE t)] am.nil (.int .i64 (Ov t)) []:=by
 unfold Ov
 rw[LF]
 cases ho:mX t with
 | false=>exact FD t h ho nm
 | true =>
  have:=BP t h ho nm
  simpa using this
end Go.Proofs.YtlnlopnpcmahgaaGreatDoor
