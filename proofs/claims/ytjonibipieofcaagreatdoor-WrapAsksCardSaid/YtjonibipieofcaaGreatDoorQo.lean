/-
 Texts joined: XLc,XLd,XLe,XLf.
-/
import Derived.Test.YtjonibipieofcaaGreatDoorQk
set_option linter.all false
namespace Go.Proofs.YtjonibipieofcaaGreatDoor
set_option maxRecDepth 100000
set_option maxHeartbeats 32000000
open Go Go.RowKit Vm Go.Lib Tryz
open Vm renaming aI->Ca,aP->Cb
open And renaming intro->Ai
open List renaming length_map->Lm,not_mem_nil->Ln,map_nil->Lo,map_cons->Lc,mem_cons->Lk
open Bool renaming not_false->Bf,not_true->Bt
def BX (o:Option Nat):Int:=match o with|some n=>n|none=>-1
def cZ (n:Nat):BX (some n)=n:=rfl
def fJ:BX none = -1:=rfl
def nj {α:Type}{p:α->Bool} : ∀ {l:List α} {k:Nat} {x:α},(l.take k).any p=false->l[k]? = some x->p x=true->l.findIdx? p=some k
 | [],k,x,_,h,_=>by simp at h
 | y::l,0,x,_,h,hp=>by simp at h;subst h;simp[List.findIdx?_cons,hp]
 | y::l,k+1,x,hn,h,hp=>by
  simp only[List.take_succ_cons,List.any_cons,Bool.or_eq_false_iff]at hn
  rw[List.findIdx?_cons,hn.1]
  simp[nj (l:=l) (k:=k) (x:=x) hn.2 (by simpa using h) hp]
def kj {α:Type}{p:α->Bool}{l:List α}(h:l.any p=false):l.findIdx? p=none:=by
 simpa [List.findIdx?_eq_none_iff] using h
def rv {α:Type}{p:α->Bool}{l:List α}(h:l.findIdx? p=none):l.any p=false:=by
 simpa [List.findIdx?_eq_none_iff] using h
def ry {α:Type}{p:α->Bool}{l:List α}{n:Nat}(h:l.findIdx? p=some n):l.any p=true:=by
 cases ha:l.any p with
 | true=>rfl
 | false=>rw[kj ha]at h;cases h
def jk {caps:List V}(h:plainL caps=true)(σ:List (Nat×Nat))(M:ao):finL σ M caps=caps:=(finL_plain σ M caps h).1
def gO {caps:List V}(h:plainL caps=true)(σ:List (Nat×Nat))(M:ao):finLOk σ M caps=True:=eq_true (finL_plain σ M caps h).2
def yy (l:List Pr)(f:Nat)(caps:List V)(p:Pr->Bool)(hf:∀ h∈l,∀ nm,Ev cx f nm (.agg (fm h)::caps) ao.nil (.bool (p h)) [])(hn:l.length<=aT)(hpl:plainL caps=true)(nm:Nat):Ev cx 171 nm [.sl false 2 (l.map fm),.fn f caps] ao.nil (.int .i64 (BX (l.findIdx? p))) []:=by
 unfold aT at hn
 refine aX call171 func171 ?_;intro b0 hb0;have zF:=Ai results171 ntmps171
 repeat' first|simp only[au,ap,zF,am,aj,ai,seval]|exact rfl|refine aa (v:=.any) ?_|((first|(refine bh (g:=?_) ?_ ?_)|(refine aZ (g:=?_) ?_ ?_));rotate_left 1;(focus (simp only[zF,am,aj,ai,seval]<;>exact rfl)))|((first|apply Ca|apply Cb)<;>intro hb)|refine Ai (by omega) ?_|(apply Ai<;>intro hb)
 (refine ew (fun x:Nat=>l.length-x) (fun x=>x<=l.length/\(l.take x).any p=false) (b0+16) (fun x=>[(0,.sl false 2 (l.map fm)),(1,.fn f caps),(7,.int .i64 l.length),(8,.int .i64 x)]) (fun x=>[]) (0) [] ?_ ?_ ?_;(focus (refine⟨?_,?_⟩<;>(try simp only[aE,Lm,aC,jk hpl,gO hpl,aj,ai,aq,seval])<;>(try omega))))
 ·exact⟨Nat.zero_le _,by simp⟩
 ·rintro k ⟨hk,hno⟩
  by_cases hlt:k<l.length
  ·obtain⟨h,hh⟩:=ic hlt
   have hat:(l.map fm)[k]? = some (fm h):=by rw[List.getElem?_map,hh];rfl
   have hd:=decide_eq_true hlt
   have hwk:=eD k
   have hfh:=hf h (List.mem_of_getElem? hh)
   cases hp:p h with
   | true =>
    have hfd:=nj hno hh hp
    rw[hp]at hfh
    (repeat' first|simp only[au,ap,zF,am,hat,fm,hlt,hd,hwk,hfd,cZ,Lm,aj,ai,seval]|exact rfl|refine aa (v:=.any) ?_|refine bw (g:=f) (caps:=caps) (by simp only[zF,am,hat,fm,hlt,hd,hwk,hfd,cZ,Lm,aj,ai,seval]<;>exact rfl) (by simp only[zF,am,hat,fm,hlt,hd,hwk,hfd,cZ,Lm,aj,ai,seval]<;>exact rfl) (hfh _) ?_|((first|(refine bh (g:=?_) ?_ ?_)|(refine aZ (g:=?_) ?_ ?_));rotate_left 1;(focus (simp only[zF,am,hat,fm,hlt,hd,hwk,hfd,cZ,Lm,aj,ai,seval]<;>exact rfl)))|((first|apply Ca|apply Cb)<;>intro hb)|refine Ai (by omega) ?_|(apply Ai<;>intro hb)|apply Fin.pure|simp only[aq])
   | false =>
    have hn':=cB (p:=p) hno hh hp
    rw[hp]at hfh
    repeat' first|simp only[au,ap,zF,am,hat,fm,hlt,hd,hwk,Lm,aj,ai,seval]|exact rfl|refine aa (v:=.any) ?_|refine bw (g:=f) (caps:=caps) (by simp only[zF,am,hat,fm,hlt,hd,hwk,Lm,aj,ai,seval]<;>exact rfl) (by simp only[zF,am,hat,fm,hlt,hd,hwk,Lm,aj,ai,seval]<;>exact rfl) (hfh _) ?_|((first|(refine bh (g:=?_) ?_ ?_)|(refine aZ (g:=?_) ?_ ?_));rotate_left 1;(focus (simp only[zF,am,hat,fm,hlt,hd,hwk,Lm,aj,ai,seval]<;>exact rfl)))|((first|apply Ca|apply Cb)<;>intro hb)|refine Ai (by omega) ?_|(apply Ai<;>intro hb)
    all_goals ((refine de (k+1) [] ?_ ?_ ?_;(focus (refine⟨?_,?_⟩<;>(try simp only[aE,aC,jk hpl,gO hpl,hwk,aj,ai,aq,seval])<;>(try omega)))))
    all_goals (first|(show l.length-(k+1)<l.length-k;omega)|exact⟨hlt,hn'⟩|skip)
  ·have hke:k=l.length:=by omega
   subst hke
   rw[List.take_length]at hno
   have hfd:=kj hno
   have hd:decide (l.length<l.length)=false:=bi
   (repeat' first|simp only[au,ap,zF,am,hd,hfd,fJ,Lm,aj,ai,seval]|exact rfl|refine aa (v:=.any) ?_|((first|(refine bh (g:=?_) ?_ ?_)|(refine aZ (g:=?_) ?_ ?_));rotate_left 1;(focus (simp only[zF,am,hd,hfd,fJ,Lm,aj,ai,seval]<;>exact rfl)))|((first|apply Ca|apply Cb)<;>intro hb)|refine Ai (by omega) ?_|(apply Ai<;>intro hb)|apply Fin.pure|simp only[aq])
def rP (l:List Pr)(f:Nat)(caps:List V)(p:Pr->Bool)(hf:∀ h∈l,∀ nm,Ev cx f nm (.agg (fm h)::caps) ao.nil (.bool (p h)) [])(hn:l.length<=aT)(hpl:plainL caps=true)(nm:Nat):Ev cx 157 nm [.sl false 2 (l.map fm),.fn f caps] ao.nil (.bool (l.any p)) []:=by
 have hi:=yy l f caps p hf hn hpl
 cases h:l.findIdx? p with
 | none =>
  have ha:l.any p=false:=rv h
  rw[h]at hi
  refine aX call157 func157 ?_;intro b0 hb0
  exact wP (a4 (results157) (ntmps157) ha @fJ) hi
 | some n =>
  have ha:l.any p=true:=ry h
  rw[h]at hi
  have hz:decide ((0:Int)<=(n:Int))=true:=dh
  refine aX call157 func157 ?_;intro b0 hb0
  exact wP (a5 (results157) (ntmps157) ha @cZ hz) hi
def AC (l:List Tk)(f:Nat)(caps:List V)(p:Tk->Bool)(hf:∀ h∈l,∀ nm,Ev cx f nm (.agg (bQ h)::caps) ao.nil (.bool (p h)) [])(hn:l.length<=aT)(hpl:plainL caps=true)(nm:Nat):Ev cx 156 nm [.sl false 4 (l.map bQ),.fn f caps] ao.nil (.int .i64 (BX (l.findIdx? p))) []:=by
 unfold aT at hn
 refine aX call156 func156 ?_;intro b0 hb0;have zF:=Ai results156 ntmps156
 repeat' first|simp only[au,ap,zF,am,aj,ai,seval]|exact rfl|refine aa (v:=.any) ?_|((first|(refine bh (g:=?_) ?_ ?_)|(refine aZ (g:=?_) ?_ ?_));rotate_left 1;(focus (simp only[zF,am,aj,ai,seval]<;>exact rfl)))|((first|apply Ca|apply Cb)<;>intro hb)|refine Ai (by omega) ?_|(apply Ai<;>intro hb)
 (refine ew (fun x:Nat=>l.length-x) (fun x=>x<=l.length/\(l.take x).any p=false) (b0+16) (fun x=>[(0,.sl false 4 (l.map bQ)),(1,.fn f caps),(7,.int .i64 l.length),(8,.int .i64 x)]) (fun x=>[]) (0) [] ?_ ?_ ?_;(focus (refine⟨?_,?_⟩<;>(try simp only[aE,Lm,aM,jk hpl,gO hpl,aj,ai,aq,seval])<;>(try omega))))
 ·exact⟨Nat.zero_le _,by simp⟩
 ·rintro k ⟨hk,hno⟩
  by_cases hlt:k<l.length
  ·obtain⟨h,hh⟩:=ic hlt
   have hat:(l.map bQ)[k]? = some (bQ h):=by rw[List.getElem?_map,hh];rfl
   have hd:=decide_eq_true hlt
   have hwk:=eD k
   have hfh:=hf h (List.mem_of_getElem? hh)
   cases hp:p h with
   | true =>
    have hfd:=nj hno hh hp
    rw[hp]at hfh
    (repeat' first|simp only[au,ap,zF,am,hat,bQ,hlt,hd,hwk,hfd,cZ,Lm,aj,ai,seval]|exact rfl|refine aa (v:=.any) ?_|refine bw (g:=f) (caps:=caps) (by simp only[zF,am,hat,bQ,hlt,hd,hwk,hfd,cZ,Lm,aj,ai,seval]<;>exact rfl) (by simp only[zF,am,hat,bQ,hlt,hd,hwk,hfd,cZ,Lm,aj,ai,seval]<;>exact rfl) (hfh _) ?_|((first|(refine bh (g:=?_) ?_ ?_)|(refine aZ (g:=?_) ?_ ?_));rotate_left 1;(focus (simp only[zF,am,hat,bQ,hlt,hd,hwk,hfd,cZ,Lm,aj,ai,seval]<;>exact rfl)))|((first|apply Ca|apply Cb)<;>intro hb)|refine Ai (by omega) ?_|(apply Ai<;>intro hb)|apply Fin.pure|simp only[aq])
   | false =>
    have hn':=cB (p:=p) hno hh hp
    rw[hp]at hfh
    repeat' first|simp only[au,ap,zF,am,hat,bQ,hlt,hd,hwk,Lm,aj,ai,seval]|exact rfl|refine aa (v:=.any) ?_|refine bw (g:=f) (caps:=caps) (by simp only[zF,am,hat,bQ,hlt,hd,hwk,Lm,aj,ai,seval]<;>exact rfl) (by simp only[zF,am,hat,bQ,hlt,hd,hwk,Lm,aj,ai,seval]<;>exact rfl) (hfh _) ?_|((first|(refine bh (g:=?_) ?_ ?_)|(refine aZ (g:=?_) ?_ ?_));rotate_left 1;(focus (simp only[zF,am,hat,bQ,hlt,hd,hwk,Lm,aj,ai,seval]<;>exact rfl)))|((first|apply Ca|apply Cb)<;>intro hb)|refine Ai (by omega) ?_|(apply Ai<;>intro hb)
    all_goals ((refine de (k+1) [] ?_ ?_ ?_;(focus (refine⟨?_,?_⟩<;>(try simp only[aE,aM,jk hpl,gO hpl,hwk,aj,ai,aq,seval])<;>(try omega)))))
    all_goals (first|(show l.length-(k+1)<l.length-k;omega)|exact⟨hlt,hn'⟩|skip)
  ·have hke:k=l.length:=by omega
   subst hke
   rw[List.take_length]at hno
   have hfd:=kj hno
   have hd:decide (l.length<l.length)=false:=bi
   (repeat' first|simp only[au,ap,zF,am,hd,hfd,fJ,Lm,aj,ai,seval]|exact rfl|refine aa (v:=.any) ?_|((first|(refine bh (g:=?_) ?_ ?_)|(refine aZ (g:=?_) ?_ ?_));rotate_left 1;(focus (simp only[zF,am,hd,hfd,fJ,Lm,aj,ai,seval]<;>exact rfl)))|((first|apply Ca|apply Cb)<;>intro hb)|refine Ai (by omega) ?_|(apply Ai<;>intro hb)|apply Fin.pure|simp only[aq])
def tT (l:List Tk)(f:Nat)(caps:List V)(p:Tk->Bool)(hf:∀ h∈l,∀ nm,Ev cx f nm (.agg (bQ h)::caps) ao.nil (.bool (p h)) [])(hn:l.length<=aT)(hpl:plainL caps=true)(nm:Nat):Ev cx 131 nm [.sl false 4 (l.map bQ),.fn f caps] ao.nil (.bool (l.any p)) []:=by
 have hi:=AC l f caps p hf hn hpl
 cases h:l.findIdx? p with
 | none =>
  have ha:l.any p=false:=rv h
  rw[h]at hi
  refine aX call131 func131 ?_;intro b0 hb0
  exact wP (a4 (results131) (ntmps131) ha @fJ) hi
 | some n =>
  have ha:l.any p=true:=ry h
  rw[h]at hi
  have hz:decide ((0:Int)<=(n:Int))=true:=dh
  refine aX call131 func131 ?_;intro b0 hb0
  exact wP (a5 (results131) (ntmps131) ha @cZ hz) hi
def CR (a b:Pr)(nm:Nat):Ev cx 158 nm [.agg (fm b),.rp (fm a)] ao.nil (.bool (a.name==b.name)) []:=by
 refine aX call158 func158 ?_;intro b0 hb0
 exact wP (a3 results158 ntmps158 @fm.eq_1) trivial
def Tk.okTo (t:Tk)(l:Nat):Prop:=t.attrs.length<=l/\t.name.length<=l/\t.text.length<=l /\ ∀ a∈t.attrs,a.name.length<=l/\a.value.length<=l
def ET (n:Nat):(n=1)\/(n=3)\/(n=2)\/(n=4)\/(n≠1/\n≠3/\n≠2/\n≠4):=by omega
def fK {α:Type}[BEq α](l:List α):(l==[])=l.isEmpty:=by cases l<;>rfl
def lQ {α:Type}(l:List α):((l.length:Int)==0)=l.isEmpty:=by
 cases l with
 | nil=>rfl
 | cons a l=>simp only[List.length_cons,List.isEmpty_cons];exact beq_false_of_ne (by omega)
def zK {l:List Pr}(h:16<l.length):e8 l=false:=by
 cases ha:e8 l with
 | false=>rfl
 | true=>have:=(eS.1 ha).1;omega
def lK (t:Tk):Bool :=
 (if t.kind=1\/t.kind=3 then bU t.name&&t.text.isEmpty
 else if t.kind=2 then bU t.name&&t.attrs.isEmpty&&t.text.isEmpty
 else if t.kind=4 then t.name.isEmpty&&t.attrs.isEmpty && !t.text.isEmpty&&decide (aF t.text=0)
 else false)&&decide (t.attrs.length<=16)
def H1 (t:Tk):eQ t=(lK t&&e8 t.attrs):=by
 unfold eQ lK
 by_cases hl:t.attrs.length<=16
 ·simp only[hl,decide_true,Bool.and_true]
  by_cases h1:t.kind=1\/t.kind=3
  ·simp only[h1,if_true]
   cases bU t.name<;>cases t.text.isEmpty<;>simp
  ·simp only[h1,if_false]
   have hnil:t.attrs.isEmpty=true->e8 t.attrs=true:=fun h=>by
    rw[List.isEmpty_iff]at h;rw[h];rfl
   by_cases h2:t.kind=2
   ·simp only[h2,if_true]
    cases he:t.attrs.isEmpty with
    | false=>simp
    | true=>simp[hnil he]
   ·simp only[h2,if_false]
    by_cases h4:t.kind=4
    ·simp only[h4,if_true]
     cases he:t.attrs.isEmpty with
     | false=>simp
     | true=>simp[hnil he]
    ·simp only[h4,if_false,Bool.false_and]
 ·have hf:=zK (by omega:16<t.attrs.length)
  simp only[hl,decide_false,Bool.and_false,Bool.false_and,hf]
  split
  ·rfl
  ·split
   ·have:t.attrs.isEmpty=false:=by cases h:t.attrs with|nil=>rw[h]at hl;simp at hl|cons a b=>rfl
    simp[this]
   ·split
    ·have:t.attrs.isEmpty=false:=by cases h:t.attrs with|nil=>rw[h]at hl;simp at hl|cons a b=>rfl
     simp[this]
    ·rfl
def nW:∀ k1 k3 k2 k4 e n x f g z:Bool,((k1=true/\k3=false/\k2=false/\k4=false)\/(k1=false/\k3=true/\k2=false/\k4=false)\/(k1=false/\k3=false/\k2=true/\k4=false)\/(k1=false/\k3=false/\k2=false/\k4=true)\/(k1=false/\k3=false/\k2=false/\k4=false)) ->
  (k1=true/\k3=false/\k2=false/\k4=false/\f=false)\/(k1=true/\k3=false/\k2=false/\k4=false/\f=true/\x=false)\/(k1=true/\k3=false/\k2=false/\k4=false/\f=true/\x=true/\g=true)\/(k1=true/\k3=false/\k2=false/\k4=false/\f=true/\x=true/\g=false/\z=true)\/(k1=true/\k3=false/\k2=false/\k4=false/\f=true/\x=true/\g=false/\z=false)\/(k1=false/\k3=true/\k2=false/\k4=false/\f=false)\/(k1=false/\k3=true/\k2=false/\k4=false/\f=true/\x=false)\/(k1=false/\k3=true/\k2=false/\k4=false/\f=true/\x=true/\g=true)\/(k1=false/\k3=true/\k2=false/\k4=false/\f=true/\x=true/\g=false/\z=true)\/(k1=false/\k3=true/\k2=false/\k4=false/\f=true/\x=true/\g=false/\z=false)\/(k1=false/\k3=false/\k2=true/\k4=false/\e=false)\/(k1=false/\k3=false/\k2=true/\k4=false/\e=true/\f=false)\/(k1=false/\k3=false/\k2=true/\k4=false/\e=true/\f=true/\x=false)\/(k1=false/\k3=false/\k2=true/\k4=false/\e=true/\f=true/\x=true/\g=true)\/(k1=false/\k3=false/\k2=true/\k4=false/\e=true/\f=true/\x=true/\g=false/\z=true)\/(k1=false/\k3=false/\k2=true/\k4=false/\e=true/\f=true/\x=true/\g=false/\z=false)\/(k1=false/\k3=false/\k2=false/\k4=true/\n=false)\/(k1=false/\k3=false/\k2=false/\k4=true/\n=true/\e=false)\/(k1=false/\k3=false/\k2=false/\k4=true/\n=true/\e=true/\x=true)\/(k1=false/\k3=false/\k2=false/\k4=true/\n=true/\e=true/\x=false/\g=true)\/(k1=false/\k3=false/\k2=false/\k4=true/\n=true/\e=true/\x=false/\g=false/\z=true)\/(k1=false/\k3=false/\k2=false/\k4=true/\n=true/\e=true/\x=false/\g=false/\z=false)\/(k1=false/\k3=false/\k2=false/\k4=false):=by
 intro k1 k3 k2 k4 e n x f g z h
 rcases h with ⟨rfl,rfl,rfl,rfl⟩|⟨rfl,rfl,rfl,rfl⟩|⟨rfl,rfl,rfl,rfl⟩|⟨rfl,rfl,rfl,rfl⟩|⟨rfl,rfl,rfl,rfl⟩<;>cases e<;>cases n<;>cases x<;>cases f<;>cases g<;>cases z<;>simp
def iT (n:Nat):((((n:Int)==1)=true/\((n:Int)==3)=false/\((n:Int)==2)=false/\((n:Int)==4)=false/\n=1)\/(((n:Int)==1)=false/\((n:Int)==3)=true/\((n:Int)==2)=false/\((n:Int)==4)=false/\n=3)\/(((n:Int)==1)=false/\((n:Int)==3)=false/\((n:Int)==2)=true/\((n:Int)==4)=false/\n=2) \/
  (((n:Int)==1)=false/\((n:Int)==3)=false/\((n:Int)==2)=false/\((n:Int)==4)=true/\n=4)\/(((n:Int)==1)=false/\((n:Int)==3)=false/\((n:Int)==2)=false/\((n:Int)==4)=false/\n≠1/\n≠3/\n≠2/\n≠4)):=by
 rcases ET n with rfl|rfl|rfl|rfl|⟨h1,h3,h2,h4⟩
 ·left;exact⟨rfl,rfl,rfl,rfl,rfl⟩
 ·right;left;exact⟨rfl,rfl,rfl,rfl,rfl⟩
 ·right;right;left;exact⟨rfl,rfl,rfl,rfl,rfl⟩
 ·right;right;right;left;exact⟨rfl,rfl,rfl,rfl,rfl⟩
 ·right;right;right;right
  exact⟨beq_false_of_ne (by omega),beq_false_of_ne (by omega),beq_false_of_ne (by omega),beq_false_of_ne (by omega),h1,h3,h2,h4⟩
def sB (t:Tk):lK t=(((((t.kind:Int)==1||(t.kind:Int)==3)&&bU t.name&&t.text.isEmpty)||((t.kind:Int)==2&&bU t.name&&t.attrs.isEmpty&&t.text.isEmpty)||((t.kind:Int)==4&&t.name.isEmpty&&t.attrs.isEmpty && !t.text.isEmpty && !(aF t.text != 0))) && !decide (16<t.attrs.length)):=by
 have hz:decide (aF t.text=0) = !(aF t.text != 0):=by rw[Bool.eq_iff_iff];simp
 have hg:decide (t.attrs.length<=16) = !decide (16<t.attrs.length):=by rw[Bool.eq_iff_iff];simp
 unfold lK
 rw[hz,hg]
 rcases iT t.kind with ⟨q1,q3,q2,q4,hk⟩|⟨q1,q3,q2,q4,hk⟩|⟨q1,q3,q2,q4,hk⟩|⟨q1,q3,q2,q4,hk⟩|⟨q1,q3,q2,q4,hk,hk3,hk2,hk4⟩
 ·rw[q1,q3,q2,q4];simp[hk]
 ·rw[q1,q3,q2,q4];simp[hk]
 ·rw[q1,q3,q2,q4];simp[hk]
 ·rw[q1,q3,q2,q4];simp[hk]
 ·rw[q1,q3,q2,q4];simp[hk,hk3,hk2,hk4]
def uU (n:Nat):((((n:Int)==1)=true/\((n:Int)==3)=false/\((n:Int)==2)=false/\((n:Int)==4)=false)\/(((n:Int)==1)=false/\((n:Int)==3)=true/\((n:Int)==2)=false/\((n:Int)==4)=false)\/(((n:Int)==1)=false/\((n:Int)==3)=false/\((n:Int)==2)=true/\((n:Int)==4)=false) \/
  (((n:Int)==1)=false/\((n:Int)==3)=false/\((n:Int)==2)=false/\((n:Int)==4)=true)\/(((n:Int)==1)=false/\((n:Int)==3)=false/\((n:Int)==2)=false/\((n:Int)==4)=false)):=by
 rcases iT n with h|h|h|h|h<;>simp[h]
def CS (t:Tk)(h:t.okTo aT)(ho:lK t=false)(nm:Nat):Ev cx 133 nm [.agg (bQ t)] ao.nil (.int .i64 8) []:=by
 obtain⟨hl,hnl,htl,hal⟩:=h
 have hee:((t.attrs.length:Int)==0)=t.attrs.isEmpty:=lQ _
 have hne:=fK t.name
 have hxe:=fK t.text
 have hge:decide ((16:Int)<(t.attrs.length:Int))=decide (16<t.attrs.length):=by
  rw[Bool.eq_iff_iff];simp;omega
 have hfull:=ou t.name hnl
 have hchk:=db t.text htl
 rw[sB]at ho
 have hex:=uU t.kind
 generalize h1:((t.kind:Int)==1)=k1 at ho hex
 generalize h3:((t.kind:Int)==3)=k3 at ho hex
 generalize h2:((t.kind:Int)==2)=k2 at ho hex
 generalize h4:((t.kind:Int)==4)=k4 at ho hex
 generalize he:t.attrs.isEmpty=e at ho hee
 generalize hn:t.name.isEmpty=n at ho hne
 have hxb:(t.text != []) = !t.text.isEmpty:=congrArg not hxe
 generalize hx:t.text.isEmpty=x at ho hxe hxb
 generalize hf:bU t.name=f at ho hfull
 generalize hg:decide (16<t.attrs.length)=g at ho hge
 generalize hz:(aF t.text != 0)=z at ho
 rcases nW k1 k3 k2 k4 e n x f g z hex with ⟨rfl,rfl,rfl,rfl,rfl⟩|⟨rfl,rfl,rfl,rfl,rfl,rfl⟩|⟨rfl,rfl,rfl,rfl,rfl,rfl,rfl⟩|⟨rfl,rfl,rfl,rfl,rfl,rfl,rfl,rfl⟩|⟨rfl,rfl,rfl,rfl,rfl,rfl,rfl,rfl⟩|⟨rfl,rfl,rfl,rfl,rfl⟩|⟨rfl,rfl,rfl,rfl,rfl,rfl⟩|⟨rfl,rfl,rfl,rfl,rfl,rfl,rfl⟩|⟨rfl,rfl,rfl,rfl,rfl,rfl,rfl,rfl⟩|⟨rfl,rfl,rfl,rfl,rfl,rfl,rfl,rfl⟩|⟨rfl,rfl,rfl,rfl,rfl⟩|⟨rfl,rfl,rfl,rfl,rfl,rfl⟩|⟨rfl,rfl,rfl,rfl,rfl,rfl,rfl⟩|⟨rfl,rfl,rfl,rfl,rfl,rfl,rfl,rfl⟩|⟨rfl,rfl,rfl,rfl,rfl,rfl,rfl,rfl,rfl⟩|⟨rfl,rfl,rfl,rfl,rfl,rfl,rfl,rfl,rfl⟩|⟨rfl,rfl,rfl,rfl,rfl⟩|⟨rfl,rfl,rfl,rfl,rfl,rfl⟩|⟨rfl,rfl,rfl,rfl,rfl,rfl,rfl⟩|⟨rfl,rfl,rfl,rfl,rfl,rfl,rfl,rfl⟩|⟨rfl,rfl,rfl,rfl,rfl,rfl,rfl,rfl,rfl⟩|⟨rfl,rfl,rfl,rfl,rfl,rfl,rfl,rfl,rfl⟩|⟨rfl,rfl,rfl,rfl⟩
 all_goals (try (exfalso;simp at ho;done))
 all_goals (
  refine aX call133 func133 ?_;intro b0 hb0
  (repeat' first|simp only[au,ap,results133,ntmps133,am,bQ,hee,hne,hxe,hxb,Bt,Bf,hge,hz,h1,h2,h3,h4,Lm,aj,ai,seval]|exact rfl|refine aa (v:=.any) ?_|(first|(refine ah ?_ (hfull _) ?_)|(refine ac ?_ (fun _=>hfull _) ?_)|(refine ah ?_ (hchk _) ?_)|(refine ac ?_ (fun _=>hchk _) ?_))|(refine aa (v:=.any) ?_)|((first|apply Ca|apply Cb)<;>intro hb)|refine Ai (by omega) ?_|(apply Ai<;>intro hb)|apply Fin.pure|simp only[aq]))
def iI (a b c:V)(l:List Pr):plainLL [[a,b,.sl false 2 (l.map fm),c]]=(a.plain&&(b.plain&&c.plain)):=by simp[plainLL,plainL,V.plain,aC]
def zR (t:Tk)(h:t.okTo aT)(ho:lK t=true)(nm:Nat):Ev cx 133 nm [.agg (bQ t)] ao.nil (.int .i64 (if e8 t.attrs=true then 0 else 8)) []:=by
 obtain⟨hl,hnl,htl,hal⟩:=h
 have hl':=hl
 unfold aT at hl'
 have h16:t.attrs.length<=16:=by
  unfold lK at ho
  simp only[Bool.and_eq_true,decide_eq_true_eq]at ho
  exact ho.2
 have hee:((t.attrs.length:Int)==0)=t.attrs.isEmpty:=lQ _
 have hne:=fK t.name
 have hxe:=fK t.text
 have hge:decide ((16:Int)<(t.attrs.length:Int))=decide (16<t.attrs.length):=by
  rw[Bool.eq_iff_iff];simp;omega
 have hfull:=ou t.name hnl
 have hchk:=db t.text htl
 rw[sB]at ho
 have hex:=uU t.kind
 generalize h1:((t.kind:Int)==1)=k1 at ho hex
 generalize h3:((t.kind:Int)==3)=k3 at ho hex
 generalize h2:((t.kind:Int)==2)=k2 at ho hex
 generalize h4:((t.kind:Int)==4)=k4 at ho hex
 generalize he:t.attrs.isEmpty=e at ho hee
 generalize hn:t.name.isEmpty=n at ho hne
 have hxb:(t.text != []) = !t.text.isEmpty:=congrArg not hxe
 have hxz:t.text.isEmpty=true->(aF t.text != 0)=false:=fun h=>by rw[List.isEmpty_iff.1 h];rfl
 generalize hx:t.text.isEmpty=x at ho hxe hxb hxz
 generalize hf:bU t.name=f at ho hfull
 generalize hg:decide (16<t.attrs.length)=g at ho hge
 generalize hz:(aF t.text != 0)=z at ho hxz
 rcases nW k1 k3 k2 k4 e n x f g z hex with ⟨rfl,rfl,rfl,rfl,rfl⟩|⟨rfl,rfl,rfl,rfl,rfl,rfl⟩|⟨rfl,rfl,rfl,rfl,rfl,rfl,rfl⟩|⟨rfl,rfl,rfl,rfl,rfl,rfl,rfl,rfl⟩|⟨rfl,rfl,rfl,rfl,rfl,rfl,rfl,rfl⟩|⟨rfl,rfl,rfl,rfl,rfl⟩|⟨rfl,rfl,rfl,rfl,rfl,rfl⟩|⟨rfl,rfl,rfl,rfl,rfl,rfl,rfl⟩|⟨rfl,rfl,rfl,rfl,rfl,rfl,rfl,rfl⟩|⟨rfl,rfl,rfl,rfl,rfl,rfl,rfl,rfl⟩|⟨rfl,rfl,rfl,rfl,rfl⟩|⟨rfl,rfl,rfl,rfl,rfl,rfl⟩|⟨rfl,rfl,rfl,rfl,rfl,rfl,rfl⟩|⟨rfl,rfl,rfl,rfl,rfl,rfl,rfl,rfl⟩|⟨rfl,rfl,rfl,rfl,rfl,rfl,rfl,rfl,rfl⟩|⟨rfl,rfl,rfl,rfl,rfl,rfl,rfl,rfl,rfl⟩|⟨rfl,rfl,rfl,rfl,rfl⟩|⟨rfl,rfl,rfl,rfl,rfl,rfl⟩|⟨rfl,rfl,rfl,rfl,rfl,rfl,rfl⟩|⟨rfl,rfl,rfl,rfl,rfl,rfl,rfl,rfl⟩|⟨rfl,rfl,rfl,rfl,rfl,rfl,rfl,rfl,rfl⟩|⟨rfl,rfl,rfl,rfl,rfl,rfl,rfl,rfl,rfl⟩|⟨rfl,rfl,rfl,rfl⟩
 all_goals (try (exfalso;simp at ho;done))
 all_goals (try (exfalso;exact absurd (hxz rfl) (by decide)))
 all_goals (
  refine aX call133 func133 ?_;intro b0 hb0
  repeat' first|simp only[au,ap,results133,ntmps133,am,bQ,hee,hne,hxe,hxb,Bt,Bf,hge,hz,h1,h2,h3,h4,Lm,aj,ai,seval]|exact rfl|refine aa (v:=.any) ?_|(first|(refine ah ?_ (hfull _) ?_)|(refine ac ?_ (fun _=>hfull _) ?_)|(refine ah ?_ (hchk _) ?_)|(refine ac ?_ (fun _=>hchk _) ?_))|(refine aa (v:=.any) ?_)|((first|apply Ca|apply Cb)<;>intro hb)|refine Ai (by omega) ?_|(apply Ai<;>intro hb))
 all_goals (
  (refine ew (fun x:Nat=>t.attrs.length-x) (fun x=>x<=t.attrs.length/\gK t.attrs x) (b0+16) (fun x=>[(1,.ptr b0 0 0),(76,.sl false 2 (t.attrs.map fm)),(77,.int .i64 t.attrs.length),(78,.int .i64 x)]) (fun x=>[(b0,⟨4,[bQ t]⟩)]) (0) [some b0] ?_ ?_ ?_;(focus (refine⟨?_,?_⟩<;>(try simp only[aE,aC,iI,bQ,Lm,aj,ai,aq,seval])<;>(try omega)))))
 all_goals (first|exact⟨Nat.zero_le _,fun i a hi=>by omega⟩|skip)
 all_goals (
  rintro k ⟨hk,hn⟩
  by_cases hlt:k<t.attrs.length
  ·obtain⟨a,ha⟩:=ic hlt
   obtain⟨hs1,hs2⟩:=hal a (List.mem_of_getElem? ha)
   have hat:=yS ha
   have hd:=decide_eq_true hlt
   have hwk:=eD k
   have hki:(k:Int)<=(t.attrs.length:Int):=by omega
   have htk:(t.attrs.map fm).take k=(t.attrs.take k).map fm:=by rw[List.map_take]
   have hlen:(t.attrs.take k).length<=aT:=by rw[List.length_take];unfold aT;omega
   have hf2:=ou a.name hs1
   have hc2:=db a.value hs2
   have hh2:=rP (t.attrs.take k) 158 [.rp (fm a)] (fun b=>a.name==b.name) (fun b _ nm=>CR a b nm) hlen rfl
   have hok:Iz (t.attrs.take k) a=(!((t.attrs.take k).any fun b=>a.name==b.name)&&bU a.name&&decide (aF a.value=0)):=rfl
   have hz2:decide (aF a.value=0) = !(aF a.value != 0):=by rw[Bool.eq_iff_iff];simp
   rw[hz2]at hok
   generalize hb1:((t.attrs.take k).any fun b=>a.name==b.name)=b1 at hh2 hok
   generalize hb2:bU a.name=b2 at hf2 hok
   generalize hb3:(aF a.value != 0)=b3 at hok
   cases ho2:Iz (t.attrs.take k) a with
   | false =>
    have hr:=qf ha ho2
    rw[ho2]at hok
    cases b1<;>cases b2<;>cases b3
    all_goals (try (exfalso;simp at hok;done))
    all_goals ((repeat' first|simp only[au,ap,results133,ntmps133,am,aC,bQ,hat,fm,hd,hlt,hk,hki,htk,hb3,hr,Bt,Bf,Lm,Nat.zero_add,aj,ai,seval]|exact rfl|refine aa (v:=.any) ?_|(first|(refine ah ?_ (hf2 _) ?_)|(refine ac ?_ (fun _=>hf2 _) ?_)|(refine ah ?_ (hc2 _) ?_)|(refine ac ?_ (fun _=>hc2 _) ?_))|((refine bg (xs:=?_) [b0+80] ?_ ?_ ?_ rfl (hh2 _) ?_);rotate_left 1)|(refine aa (v:=.any) ?_)|omega|((first|apply Ca|apply Cb)<;>intro hb)|refine Ai (by omega) ?_|(apply Ai<;>intro hb)|apply Fin.pure|simp only[aq]))
   | true =>
    have hn':=nP hn ha ho2
    rw[ho2]at hok
    cases b1<;>cases b2<;>cases b3
    all_goals (try (exfalso;simp at hok;done))
    all_goals (repeat' first|simp only[au,ap,results133,ntmps133,am,aC,bQ,hat,fm,hd,hlt,hk,hki,htk,hb3,hwk,Bt,Bf,Lm,Nat.zero_add,aj,ai,seval]|exact rfl|refine aa (v:=.any) ?_|(first|(refine ah ?_ (hf2 _) ?_)|(refine ac ?_ (fun _=>hf2 _) ?_)|(refine ah ?_ (hc2 _) ?_)|(refine ac ?_ (fun _=>hc2 _) ?_))|((refine bg (xs:=?_) [b0+80] ?_ ?_ ?_ rfl (hh2 _) ?_);rotate_left 1)|omega|((first|apply Ca|apply Cb)<;>intro hb)|refine Ai (by omega) ?_|(apply Ai<;>intro hb))
    all_goals ((refine de (k+1) [some b0] ?_ ?_ ?_;(focus (refine⟨?_,?_⟩<;>(try simp only[aE,aC,iI,bQ,hwk,aj,ai,aq,seval])<;>(try omega)))))
    all_goals (first|(show t.attrs.length-(k+1)<t.attrs.length-k;omega)|exact⟨hlt,hn'⟩|skip)
  ·have hke:k=t.attrs.length:=by omega
   subst hke
   have hd:decide (t.attrs.length<t.attrs.length)=false:=bi
   have hr:e8 t.attrs=true:=eS.2 ⟨h16,hn⟩
   exact wP (a4 results133 ntmps133 hd hr) trivial)
def FB (t:Tk)(h:t.okTo aT)(nm:Nat):Ev cx 133 nm [.agg (bQ t)] ao.nil (.int .i64 (M7 t)) []:=by
 unfold M7
 rw[H1]
 cases ho:lK t with
 | false=>exact CS t h ho nm
 | true =>
  have:=zR t h ho nm
  simpa using this
end Go.Proofs.YtjonibipieofcaaGreatDoor
