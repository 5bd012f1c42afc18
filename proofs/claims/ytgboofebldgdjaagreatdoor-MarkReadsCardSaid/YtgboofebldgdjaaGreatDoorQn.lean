/-
 Texts joined: XLc,XLd,XLe,XLf,XUb,XLo,XUc,XUd,XUe,XPe,XNq,XNr,XLj,XPd,XPf.
-/
import Derived.Test.YtgboofebldgdjaaGreatDoorQk
set_option linter.all false
namespace Go.Proofs.YtgboofebldgdjaaGreatDoor
set_option maxRecDepth 100000
set_option maxHeartbeats 32000000
open Go Go.RowKit Vm Go.Lib Tryz
def Hh (o:ZC):Int:=match o with|some n=>n|none=>-1
def ls (n:Nat):Hh (some n)=n:=rfl
def lr:Hh none = -1:=rfl
def qi {α:Type}{p:α->Bool} : ∀ {l:List α} {k:Nat} {x:α},(l.take k).any p=false->l[k]? = some x->p x=true->l.findIdx? p=some k
 | [],k,x,_,h,_=>by simp at h
 | y::l,0,x,_,h,hp=>by simp at h;subst h;simp[YP,hp]
 | y::l,k+1,x,hn,h,hp=>by
  simp only[List.take_succ_cons,List.any_cons,XK]at hn
  rw[YP,hn.1]
  simp[qi (l:=l) (k:=k) (x:=x) hn.2 (by simpa using h) hp]
def mX {α:Type}{p:α->Bool}{l:List α}(h:l.any p=false):l.findIdx? p=none:=by
 simpa [XQ] using h
def uR {α:Type}{p:α->Bool}{l:List α}(h:l.findIdx? p=none):l.any p=false:=by
 simpa [XQ] using h
def uT {α:Type}{p:α->Bool}{l:List α}{n:Nat}(h:l.findIdx? p=some n):l.any p=true:=by
 cases ha:l.any p with
 | true=>rfl
 | false=>rw[mX ha]at h;cases h
def lp {caps:List V}(h:plainL caps=true)(σ:Y8)(M:ah):finL σ M caps=caps:=(finL_plain σ M caps h).1
def jv {caps:List V}(h:plainL caps=true)(σ:Y8)(M:ah):finLOk σ M caps=True:=X0 (finL_plain σ M caps h).2
def C5 (l:List Pr)(f:Nat)(caps:List V)(p:Pr->Bool)(hf:∀ h∈l,∀ nm,Ev cx f nm (.agg (cZ h)::caps) ah.nil (.bool (p h)) [])(hn:l.length<=aN)(hpl:plainL caps=true)(nm:Nat):Ev cx 149 nm [.sl false 2 (l.map cZ),.fn f caps] ah.nil (.int .i64 (Hh (l.findIdx? p))) []:=by
 unfold aN at hn
 refine aG call149 func149 results149 ntmps149 ?_;intro b0 hb0 zN
 (have zF:=trivial;repeat' first|refine wS ?_|exact wE|((first|(refine aU (g:=?_) ?_ ?_)|(refine aZ (g:=?_) ?_ ?_));rotate_left 1;(focus (exact wH)))|((first|apply b7|apply cM)<;>intro hb)|refine Ai Y6 ?_|(apply Ai<;>intro hb))
 (have zF:=a3 @aA (lp hpl) (jv hpl);refine fu (fun x:Nat=>l.length-x) (fun x=>x<=l.length/\(l.take x).any p=false) (b0+16) (fun x=>[(0,.sl false 2 (l.map cZ)),(1,.fn f caps),(7,.int .i64 l.length),(8,.int .i64 x)]) (fun x=>[]) (0) [] ?_ ?_)
 ·exact⟨WB _,by simp⟩
 ·rintro k ⟨hk,hno⟩
  by_cases hlt:k<l.length
  ·obtain⟨h,hh⟩:=js hlt
   have hat:(l.map cZ)[k]? = some (cZ h):=by rw[WG,hh];rfl
   have hd:=AI hlt
   have hwk:=eX k
   have hfh:=hf h (By hh)
   cases hp:p h with
   | true =>
    have hfd:=qi hno hh hp
    rw[hp]at hfh
    (have zF:=a7 hat @cZ.eq_1 hlt hd hwk hfd @ls;repeat' first|refine wS ?_|exact wE|refine ff (g:=f) (caps:=caps) (by simp only[zF,zN,aF,au,aH,seval]<;>exact rfl) (by simp only[zF,zN,aF,au,aH,seval]<;>exact rfl) (hfh _) ?_|((first|(refine aU (g:=?_) ?_ ?_)|(refine aZ (g:=?_) ?_ ?_));rotate_left 1;(focus (exact wH)))|((first|apply b7|apply cM)<;>intro hb)|refine Ai Y6 ?_|(apply Ai<;>intro hb)|apply Fin.pure|simp only[aB])
   | false =>
    have hn':=eK (p:=p) hno hh hp
    rw[hp]at hfh
    (have zF:=a5 hat @cZ.eq_1 hlt hd hwk;repeat' first|refine wS ?_|exact wE|refine ff (g:=f) (caps:=caps) (by simp only[zF,zN,aF,au,aH,seval]<;>exact rfl) (by simp only[zF,zN,aF,au,aH,seval]<;>exact rfl) (hfh _) ?_|((first|(refine aU (g:=?_) ?_ ?_)|(refine aZ (g:=?_) ?_ ?_));rotate_left 1;(focus (exact wH)))|((first|apply b7|apply cM)<;>intro hb)|refine Ai Y6 ?_|(apply Ai<;>intro hb))
    all_goals ((have zF:=a4 @aA (lp hpl) (jv hpl) hwk;refine c7 (k+1) [] ?_ ?_))
    all_goals (first|(show l.length-(k+1)<l.length-k;omega)|exact⟨hlt,hn'⟩|skip)
  ·have hke:k=l.length:=Y6
   subst hke
   rw[WJ]at hno
   have hfd:=mX hno
   have hd:decide (l.length<l.length)=false:=aL
   (have zF:=a3 hd hfd @lr;repeat' first|refine wS ?_|exact wE|((first|(refine aU (g:=?_) ?_ ?_)|(refine aZ (g:=?_) ?_ ?_));rotate_left 1;(focus (exact wH)))|((first|apply b7|apply cM)<;>intro hb)|refine Ai Y6 ?_|(apply Ai<;>intro hb)|apply Fin.pure|simp only[aB])
def ve (l:List Pr)(f:Nat)(caps:List V)(p:Pr->Bool)(hf:∀ h∈l,∀ nm,Ev cx f nm (.agg (cZ h)::caps) ah.nil (.bool (p h)) [])(hn:l.length<=aN)(hpl:plainL caps=true)(nm:Nat):Ev cx 101 nm [.sl false 2 (l.map cZ),.fn f caps] ah.nil (.bool (l.any p)) []:=by
 have hi:=C5 l f caps p hf hn hpl
 cases h:l.findIdx? p with
 | none =>
  have ha:l.any p=false:=uR h
  rw[h]at hi
  refine aG call101 func101 results101 ntmps101 ?_;intro b0 hb0 zN
  exact xP (a2 ha @lr) hi
 | some n =>
  have ha:l.any p=true:=uT h
  rw[h]at hi
  have hz:decide ((0:Int)<=(n:Int))=true:=bz
  refine aG call101 func101 results101 ntmps101 ?_;intro b0 hb0 zN
  exact xP (a3 ha @ls hz) hi
def FI (l:List Tk)(f:Nat)(caps:List V)(p:Tk->Bool)(hf:∀ h∈l,∀ nm,Ev cx f nm (.agg (aY h)::caps) ah.nil (.bool (p h)) [])(hn:l.length<=aN)(hpl:plainL caps=true)(nm:Nat):Ev cx 99 nm [.sl false 4 (l.map aY),.fn f caps] ah.nil (.int .i64 (Hh (l.findIdx? p))) []:=by
 unfold aN at hn
 refine aG call99 func99 results99 ntmps99 ?_;intro b0 hb0 zN
 (have zF:=trivial;repeat' first|refine wS ?_|exact wE|((first|(refine aU (g:=?_) ?_ ?_)|(refine aZ (g:=?_) ?_ ?_));rotate_left 1;(focus (exact wH)))|((first|apply b7|apply cM)<;>intro hb)|refine Ai Y6 ?_|(apply Ai<;>intro hb))
 (have zF:=a3 @ax (lp hpl) (jv hpl);refine fu (fun x:Nat=>l.length-x) (fun x=>x<=l.length/\(l.take x).any p=false) (b0+16) (fun x=>[(0,.sl false 4 (l.map aY)),(1,.fn f caps),(7,.int .i64 l.length),(8,.int .i64 x)]) (fun x=>[]) (0) [] ?_ ?_)
 ·exact⟨WB _,by simp⟩
 ·rintro k ⟨hk,hno⟩
  by_cases hlt:k<l.length
  ·obtain⟨h,hh⟩:=js hlt
   have hat:(l.map aY)[k]? = some (aY h):=by rw[WG,hh];rfl
   have hd:=AI hlt
   have hwk:=eX k
   have hfh:=hf h (By hh)
   cases hp:p h with
   | true =>
    have hfd:=qi hno hh hp
    rw[hp]at hfh
    (have zF:=a7 hat @aY.eq_1 hlt hd hwk hfd @ls;repeat' first|refine wS ?_|exact wE|refine ff (g:=f) (caps:=caps) (by simp only[zF,zN,aF,au,aH,seval]<;>exact rfl) (by simp only[zF,zN,aF,au,aH,seval]<;>exact rfl) (hfh _) ?_|((first|(refine aU (g:=?_) ?_ ?_)|(refine aZ (g:=?_) ?_ ?_));rotate_left 1;(focus (exact wH)))|((first|apply b7|apply cM)<;>intro hb)|refine Ai Y6 ?_|(apply Ai<;>intro hb)|apply Fin.pure|simp only[aB])
   | false =>
    have hn':=eK (p:=p) hno hh hp
    rw[hp]at hfh
    (have zF:=a5 hat @aY.eq_1 hlt hd hwk;repeat' first|refine wS ?_|exact wE|refine ff (g:=f) (caps:=caps) (by simp only[zF,zN,aF,au,aH,seval]<;>exact rfl) (by simp only[zF,zN,aF,au,aH,seval]<;>exact rfl) (hfh _) ?_|((first|(refine aU (g:=?_) ?_ ?_)|(refine aZ (g:=?_) ?_ ?_));rotate_left 1;(focus (exact wH)))|((first|apply b7|apply cM)<;>intro hb)|refine Ai Y6 ?_|(apply Ai<;>intro hb))
    all_goals ((have zF:=a4 @ax (lp hpl) (jv hpl) hwk;refine c7 (k+1) [] ?_ ?_))
    all_goals (first|(show l.length-(k+1)<l.length-k;omega)|exact⟨hlt,hn'⟩|skip)
  ·have hke:k=l.length:=Y6
   subst hke
   rw[WJ]at hno
   have hfd:=mX hno
   have hd:decide (l.length<l.length)=false:=aL
   (have zF:=a3 hd hfd @lr;repeat' first|refine wS ?_|exact wE|((first|(refine aU (g:=?_) ?_ ?_)|(refine aZ (g:=?_) ?_ ?_));rotate_left 1;(focus (exact wH)))|((first|apply b7|apply cM)<;>intro hb)|refine Ai Y6 ?_|(apply Ai<;>intro hb)|apply Fin.pure|simp only[aB])
def pH (l:List Tk)(f:Nat)(caps:List V)(p:Tk->Bool)(hf:∀ h∈l,∀ nm,Ev cx f nm (.agg (aY h)::caps) ah.nil (.bool (p h)) [])(hn:l.length<=aN)(hpl:plainL caps=true)(nm:Nat):Ev cx 45 nm [.sl false 4 (l.map aY),.fn f caps] ah.nil (.bool (l.any p)) []:=by
 have hi:=FI l f caps p hf hn hpl
 cases h:l.findIdx? p with
 | none =>
  have ha:l.any p=false:=uR h
  rw[h]at hi
  refine aG call45 func45 results45 ntmps45 ?_;intro b0 hb0 zN
  exact xP (a2 ha @lr) hi
 | some n =>
  have ha:l.any p=true:=uT h
  rw[h]at hi
  have hz:decide ((0:Int)<=(n:Int))=true:=bz
  refine aG call45 func45 results45 ntmps45 ?_;intro b0 hb0 zN
  exact xP (a3 ha @ls hz) hi
def Ih (a b:Pr)(nm:Nat):Ev cx 102 nm [.agg (cZ b),.rp (cZ a)] ah.nil (.bool (a.name==b.name)) []:=by
 refine aG call102 func102 results102 ntmps102 ?_;intro b0 hb0 zN
 exact xP @cZ.eq_1 trivial
def Tk.okTo (t:Tk)(l:Nat):Prop:=t.attrs.length<=l/\t.name.length<=l/\t.text.length<=l /\ ∀ a∈t.attrs,a.name.length<=l/\a.value.length<=l
def zR (n:Nat):(n=1)\/(n=3)\/(n=2)\/(n=4)\/(n≠1/\n≠3/\n≠2/\n≠4):=Y6
def iw {α:Type}[BEq α](l:List α):(l==[])=l.isEmpty:=by cases l<;>rfl
def jO {α:Type}(l:List α):((l.length:Int)==0)=l.isEmpty:=by
 cases l with
 | nil=>rfl
 | cons a l=>simp only[List.length_cons,List.isEmpty_cons];exact If Y6
def EH {l:List Pr}(h:16<l.length):gC l=false:=by
 cases ha:gC l with
 | false=>rfl
 | true=>have:=(gq.1 ha).1;omega
def ot (t:Tk):Bool :=
 (if t.kind=1\/t.kind=3 then bI t.name&&t.text.isEmpty
 else if t.kind=2 then bI t.name&&t.attrs.isEmpty&&t.text.isEmpty
 else if t.kind=4 then t.name.isEmpty&&t.attrs.isEmpty && !t.text.isEmpty&&decide (az t.text=0)
 else false)&&decide (t.attrs.length<=16)
def OO (t:Tk):dy t=(ot t&&gC t.attrs):=by
 unfold dy ot
 by_cases hl:t.attrs.length<=16
 ·simp only[hl,decide_true,Wz]
  by_cases h1:t.kind=1\/t.kind=3
  ·simp only[h1,WQ]
   cases bI t.name<;>cases t.text.isEmpty<;>simp
  ·simp only[h1,WS]
   have hnil:t.attrs.isEmpty=true->gC t.attrs=true:=fun h=>by
    rw[XC]at h;rw[h];rfl
   by_cases h2:t.kind=2
   ·simp only[h2,WQ]
    cases he:t.attrs.isEmpty with
    | false=>simp
    | true=>simp[hnil he]
   ·simp only[h2,WS]
    by_cases h4:t.kind=4
    ·simp only[h4,WQ]
     cases he:t.attrs.isEmpty with
     | false=>simp
     | true=>simp[hnil he]
    ·simp only[h4,WS,Wy]
 ·have hf:=EH (by omega:16<t.attrs.length)
  simp only[hl,decide_false,Wm,Wy,hf]
  split
  ·rfl
  ·split
   ·have:t.attrs.isEmpty=false:=by cases h:t.attrs with|nil=>rw[h]at hl;simp at hl|cons a b=>rfl
    simp[this]
   ·split
    ·have:t.attrs.isEmpty=false:=by cases h:t.attrs with|nil=>rw[h]at hl;simp at hl|cons a b=>rfl
     simp[this]
    ·rfl
def qT:∀ k1 k3 k2 k4 e n x f g z:Bool,((k1=true/\k3=false/\k2=false/\k4=false)\/(k1=false/\k3=true/\k2=false/\k4=false)\/(k1=false/\k3=false/\k2=true/\k4=false)\/(k1=false/\k3=false/\k2=false/\k4=true)\/(k1=false/\k3=false/\k2=false/\k4=false)) ->
  (k1=true/\k3=false/\k2=false/\k4=false/\f=false)\/(k1=true/\k3=false/\k2=false/\k4=false/\f=true/\x=false)\/(k1=true/\k3=false/\k2=false/\k4=false/\f=true/\x=true/\g=true)\/(k1=true/\k3=false/\k2=false/\k4=false/\f=true/\x=true/\g=false/\z=true)\/(k1=true/\k3=false/\k2=false/\k4=false/\f=true/\x=true/\g=false/\z=false)\/(k1=false/\k3=true/\k2=false/\k4=false/\f=false)\/(k1=false/\k3=true/\k2=false/\k4=false/\f=true/\x=false)\/(k1=false/\k3=true/\k2=false/\k4=false/\f=true/\x=true/\g=true)\/(k1=false/\k3=true/\k2=false/\k4=false/\f=true/\x=true/\g=false/\z=true)\/(k1=false/\k3=true/\k2=false/\k4=false/\f=true/\x=true/\g=false/\z=false)\/(k1=false/\k3=false/\k2=true/\k4=false/\e=false)\/(k1=false/\k3=false/\k2=true/\k4=false/\e=true/\f=false)\/(k1=false/\k3=false/\k2=true/\k4=false/\e=true/\f=true/\x=false)\/(k1=false/\k3=false/\k2=true/\k4=false/\e=true/\f=true/\x=true/\g=true)\/(k1=false/\k3=false/\k2=true/\k4=false/\e=true/\f=true/\x=true/\g=false/\z=true)\/(k1=false/\k3=false/\k2=true/\k4=false/\e=true/\f=true/\x=true/\g=false/\z=false)\/(k1=false/\k3=false/\k2=false/\k4=true/\n=false)\/(k1=false/\k3=false/\k2=false/\k4=true/\n=true/\e=false)\/(k1=false/\k3=false/\k2=false/\k4=true/\n=true/\e=true/\x=true)\/(k1=false/\k3=false/\k2=false/\k4=true/\n=true/\e=true/\x=false/\g=true)\/(k1=false/\k3=false/\k2=false/\k4=true/\n=true/\e=true/\x=false/\g=false/\z=true)\/(k1=false/\k3=false/\k2=false/\k4=true/\n=true/\e=true/\x=false/\g=false/\z=false)\/(k1=false/\k3=false/\k2=false/\k4=false):=by
 intro k1 k3 k2 k4 e n x f g z h
 rcases h with ⟨rfl,rfl,rfl,rfl⟩|⟨rfl,rfl,rfl,rfl⟩|⟨rfl,rfl,rfl,rfl⟩|⟨rfl,rfl,rfl,rfl⟩|⟨rfl,rfl,rfl,rfl⟩<;>cases e<;>cases n<;>cases x<;>cases f<;>cases g<;>cases z<;>simp
def kP (n:Nat):((((n:Int)==1)=true/\((n:Int)==3)=false/\((n:Int)==2)=false/\((n:Int)==4)=false/\n=1)\/(((n:Int)==1)=false/\((n:Int)==3)=true/\((n:Int)==2)=false/\((n:Int)==4)=false/\n=3)\/(((n:Int)==1)=false/\((n:Int)==3)=false/\((n:Int)==2)=true/\((n:Int)==4)=false/\n=2) \/
  (((n:Int)==1)=false/\((n:Int)==3)=false/\((n:Int)==2)=false/\((n:Int)==4)=true/\n=4)\/(((n:Int)==1)=false/\((n:Int)==3)=false/\((n:Int)==2)=false/\((n:Int)==4)=false/\n≠1/\n≠3/\n≠2/\n≠4)):=by
 rcases zR n with rfl|rfl|rfl|rfl|⟨h1,h3,h2,h4⟩
 ·left;exact⟨rfl,rfl,rfl,rfl,rfl⟩
 ·right;left;exact⟨rfl,rfl,rfl,rfl,rfl⟩
 ·right;right;left;exact⟨rfl,rfl,rfl,rfl,rfl⟩
 ·right;right;right;left;exact⟨rfl,rfl,rfl,rfl,rfl⟩
 ·right;right;right;right
  exact⟨If Y6,If Y6,If Y6,If Y6,h1,h3,h2,h4⟩
def vP (t:Tk):ot t=(((((t.kind:Int)==1||(t.kind:Int)==3)&&bI t.name&&t.text.isEmpty)||((t.kind:Int)==2&&bI t.name&&t.attrs.isEmpty&&t.text.isEmpty)||((t.kind:Int)==4&&t.name.isEmpty&&t.attrs.isEmpty && !t.text.isEmpty && !(az t.text != 0))) && !decide (16<t.attrs.length)):=by
 have hz:decide (az t.text=0) = !(az t.text != 0):=by rw[WL];simp
 have hg:decide (t.attrs.length<=16) = !decide (16<t.attrs.length):=by rw[WL];simp
 unfold ot
 rw[hz,hg]
 rcases kP t.kind with ⟨q1,q3,q2,q4,hk⟩|⟨q1,q3,q2,q4,hk⟩|⟨q1,q3,q2,q4,hk⟩|⟨q1,q3,q2,q4,hk⟩|⟨q1,q3,q2,q4,hk,hk3,hk2,hk4⟩
 ·rw[q1,q3,q2,q4];simp[hk]
 ·rw[q1,q3,q2,q4];simp[hk]
 ·rw[q1,q3,q2,q4];simp[hk]
 ·rw[q1,q3,q2,q4];simp[hk]
 ·rw[q1,q3,q2,q4];simp[hk,hk3,hk2,hk4]
def y5 (n:Nat):((((n:Int)==1)=true/\((n:Int)==3)=false/\((n:Int)==2)=false/\((n:Int)==4)=false)\/(((n:Int)==1)=false/\((n:Int)==3)=true/\((n:Int)==2)=false/\((n:Int)==4)=false)\/(((n:Int)==1)=false/\((n:Int)==3)=false/\((n:Int)==2)=true/\((n:Int)==4)=false) \/
  (((n:Int)==1)=false/\((n:Int)==3)=false/\((n:Int)==2)=false/\((n:Int)==4)=true)\/(((n:Int)==1)=false/\((n:Int)==3)=false/\((n:Int)==2)=false/\((n:Int)==4)=false)):=by
 rcases kP n with h|h|h|h|h<;>simp[h]
def Ii (t:Tk)(h:t.okTo aN)(ho:ot t=false)(nm:Nat):Ev cx 47 nm [.agg (aY t)] ah.nil (.int .i64 8) []:=by
 obtain⟨hl,hnl,htl,hal⟩:=h
 have hee:((t.attrs.length:Int)==0)=t.attrs.isEmpty:=jO _
 have hne:=iw t.name
 have hxe:=iw t.text
 have hge:decide ((16:Int)<(t.attrs.length:Int))=decide (16<t.attrs.length):=by
  rw[WL];simp;omega
 have hfull:=kc t.name hnl
 have hchk:=dD t.text htl
 rw[vP]at ho
 have hex:=y5 t.kind
 generalize h1:((t.kind:Int)==1)=k1 at ho hex
 generalize h3:((t.kind:Int)==3)=k3 at ho hex
 generalize h2:((t.kind:Int)==2)=k2 at ho hex
 generalize h4:((t.kind:Int)==4)=k4 at ho hex
 generalize he:t.attrs.isEmpty=e at ho hee
 generalize hn:t.name.isEmpty=n at ho hne
 have hxb:(t.text != []) = !t.text.isEmpty:=congrArg not hxe
 generalize hx:t.text.isEmpty=x at ho hxe hxb
 generalize hf:bI t.name=f at ho hfull
 generalize hg:decide (16<t.attrs.length)=g at ho hge
 generalize hz:(az t.text != 0)=z at ho
 rcases qT k1 k3 k2 k4 e n x f g z hex with ⟨rfl,rfl,rfl,rfl,rfl⟩|⟨rfl,rfl,rfl,rfl,rfl,rfl⟩|⟨rfl,rfl,rfl,rfl,rfl,rfl,rfl⟩|⟨rfl,rfl,rfl,rfl,rfl,rfl,rfl,rfl⟩|⟨rfl,rfl,rfl,rfl,rfl,rfl,rfl,rfl⟩|⟨rfl,rfl,rfl,rfl,rfl⟩|⟨rfl,rfl,rfl,rfl,rfl,rfl⟩|⟨rfl,rfl,rfl,rfl,rfl,rfl,rfl⟩|⟨rfl,rfl,rfl,rfl,rfl,rfl,rfl,rfl⟩|⟨rfl,rfl,rfl,rfl,rfl,rfl,rfl,rfl⟩|⟨rfl,rfl,rfl,rfl,rfl⟩|⟨rfl,rfl,rfl,rfl,rfl,rfl⟩|⟨rfl,rfl,rfl,rfl,rfl,rfl,rfl⟩|⟨rfl,rfl,rfl,rfl,rfl,rfl,rfl,rfl⟩|⟨rfl,rfl,rfl,rfl,rfl,rfl,rfl,rfl,rfl⟩|⟨rfl,rfl,rfl,rfl,rfl,rfl,rfl,rfl,rfl⟩|⟨rfl,rfl,rfl,rfl,rfl⟩|⟨rfl,rfl,rfl,rfl,rfl,rfl⟩|⟨rfl,rfl,rfl,rfl,rfl,rfl,rfl⟩|⟨rfl,rfl,rfl,rfl,rfl,rfl,rfl,rfl⟩|⟨rfl,rfl,rfl,rfl,rfl,rfl,rfl,rfl,rfl⟩|⟨rfl,rfl,rfl,rfl,rfl,rfl,rfl,rfl,rfl⟩|⟨rfl,rfl,rfl,rfl⟩
 all_goals (try (exfalso;simp at ho;done))
 all_goals (
  refine aG call47 func47 results47 ntmps47 ?_;intro b0 hb0 zN
  (have zF:=a3 @aY.eq_1 hee (a9 hne hxe hxb hge hz h1 h2 h3 h4);have cF:=a2 hfull hchk;repeat' first|refine wS ?_|exact wE | apply Fin.pure))
def ks (a b c:V)(l:List Pr):plainLL [[a,b,.sl false 2 (l.map cZ),c]]=(a.plain&&(b.plain&&c.plain)):=by simp[plainLL,plainL,V.plain,aA]
def EO (t:Tk)(h:t.okTo aN)(ho:ot t=true)(nm:Nat):Ev cx 47 nm [.agg (aY t)] ah.nil (.int .i64 (if gC t.attrs=true then 0 else 8)) []:=by
 obtain⟨hl,hnl,htl,hal⟩:=h
 have hl':=hl
 unfold aN at hl'
 have h16:t.attrs.length<=16:=by
  unfold ot at ho
  simp only[In,WD]at ho
  exact ho.2
 have hee:((t.attrs.length:Int)==0)=t.attrs.isEmpty:=jO _
 have hne:=iw t.name
 have hxe:=iw t.text
 have hge:decide ((16:Int)<(t.attrs.length:Int))=decide (16<t.attrs.length):=by
  rw[WL];simp;omega
 have hfull:=kc t.name hnl
 have hchk:=dD t.text htl
 rw[vP]at ho
 have hex:=y5 t.kind
 generalize h1:((t.kind:Int)==1)=k1 at ho hex
 generalize h3:((t.kind:Int)==3)=k3 at ho hex
 generalize h2:((t.kind:Int)==2)=k2 at ho hex
 generalize h4:((t.kind:Int)==4)=k4 at ho hex
 generalize he:t.attrs.isEmpty=e at ho hee
 generalize hn:t.name.isEmpty=n at ho hne
 have hxb:(t.text != []) = !t.text.isEmpty:=congrArg not hxe
 have hxz:t.text.isEmpty=true->(az t.text != 0)=false:=fun h=>by rw[XC.1 h];rfl
 generalize hx:t.text.isEmpty=x at ho hxe hxb hxz
 generalize hf:bI t.name=f at ho hfull
 generalize hg:decide (16<t.attrs.length)=g at ho hge
 generalize hz:(az t.text != 0)=z at ho hxz
 rcases qT k1 k3 k2 k4 e n x f g z hex with ⟨rfl,rfl,rfl,rfl,rfl⟩|⟨rfl,rfl,rfl,rfl,rfl,rfl⟩|⟨rfl,rfl,rfl,rfl,rfl,rfl,rfl⟩|⟨rfl,rfl,rfl,rfl,rfl,rfl,rfl,rfl⟩|⟨rfl,rfl,rfl,rfl,rfl,rfl,rfl,rfl⟩|⟨rfl,rfl,rfl,rfl,rfl⟩|⟨rfl,rfl,rfl,rfl,rfl,rfl⟩|⟨rfl,rfl,rfl,rfl,rfl,rfl,rfl⟩|⟨rfl,rfl,rfl,rfl,rfl,rfl,rfl,rfl⟩|⟨rfl,rfl,rfl,rfl,rfl,rfl,rfl,rfl⟩|⟨rfl,rfl,rfl,rfl,rfl⟩|⟨rfl,rfl,rfl,rfl,rfl,rfl⟩|⟨rfl,rfl,rfl,rfl,rfl,rfl,rfl⟩|⟨rfl,rfl,rfl,rfl,rfl,rfl,rfl,rfl⟩|⟨rfl,rfl,rfl,rfl,rfl,rfl,rfl,rfl,rfl⟩|⟨rfl,rfl,rfl,rfl,rfl,rfl,rfl,rfl,rfl⟩|⟨rfl,rfl,rfl,rfl,rfl⟩|⟨rfl,rfl,rfl,rfl,rfl,rfl⟩|⟨rfl,rfl,rfl,rfl,rfl,rfl,rfl⟩|⟨rfl,rfl,rfl,rfl,rfl,rfl,rfl,rfl⟩|⟨rfl,rfl,rfl,rfl,rfl,rfl,rfl,rfl,rfl⟩|⟨rfl,rfl,rfl,rfl,rfl,rfl,rfl,rfl,rfl⟩|⟨rfl,rfl,rfl,rfl⟩
 all_goals (try (exfalso;simp at ho;done))
 all_goals (try (exfalso;exact absurd (hxz rfl) ZI))
 all_goals (
  refine aG call47 func47 results47 ntmps47 ?_;intro b0 hb0 zN
  (have zF:=a3 @aY.eq_1 hee (a9 hne hxe hxb hge hz h1 h2 h3 h4);have cF:=a2 hfull hchk;repeat' first|refine wS ?_|exact wE|refine ao (v:=.any) ?_|((first|apply b7|apply cM)<;>intro hb)|refine Ai Y6 ?_|(apply Ai<;>intro hb)))
 all_goals (
  (have zF:=a3 @aA @ks @aY.eq_1;refine fu (fun x:Nat=>t.attrs.length-x) (fun x=>x<=t.attrs.length/\jp t.attrs x) (b0+16) (fun x=>[(1,.ptr b0 0 0),(76,.sl false 2 (t.attrs.map cZ)),(77,.int .i64 t.attrs.length),(78,.int .i64 x)]) (fun x=>[(b0,⟨4,[aY t]⟩)]) (0) [some b0] ?_ ?_))
 all_goals (first|exact⟨WB _,fun i a hi=>by omega⟩|skip)
 all_goals (
  rintro k ⟨hk,hn⟩
  by_cases hlt:k<t.attrs.length
  ·obtain⟨a,ha⟩:=js hlt
   obtain⟨hs1,hs2⟩:=hal a (By ha)
   have hat:=wx ha
   have hd:=AI hlt
   have hwk:=eX k
   have hki:(k:Int)<=(t.attrs.length:Int):=Y6
   have htk:(t.attrs.map cZ).take k=(t.attrs.take k).map cZ:=by rw[YJ]
   have hlen:(t.attrs.take k).length<=aN:=by rw[WK];unfold aN;omega
   have hf2:=kc a.name hs1
   have hc2:=dD a.value hs2
   have hh2:=ve (t.attrs.take k) 102 [.rp (cZ a)] (fun b=>a.name==b.name) (fun b _ nm=>Ih a b nm) hlen rfl
   have hok:Pl (t.attrs.take k) a=(!((t.attrs.take k).any fun b=>a.name==b.name)&&bI a.name&&decide (az a.value=0)):=rfl
   have hz2:decide (az a.value=0) = !(az a.value != 0):=by rw[WL];simp
   rw[hz2]at hok
   generalize hb1:((t.attrs.take k).any fun b=>a.name==b.name)=b1 at hh2 hok
   generalize hb2:bI a.name=b2 at hf2 hok
   generalize hb3:(az a.value != 0)=b3 at hok
   cases ho2:Pl (t.attrs.take k) a with
   | false =>
    have hr:=tx ha ho2
    rw[ho2]at hok
    cases b1<;>cases b2<;>cases b3
    all_goals (try (exfalso;simp at hok;done))
    all_goals ((have zF:=a3 @aA @aY.eq_1 (a9 hat @cZ.eq_1 hd hlt hk hki htk hb3 hr);have cF:=a2 hf2 hc2;repeat' first|refine wS ?_|exact wE|refine bl [b0+80] wM wF wF rfl (hh2 _) ?_|refine ao (v:=.any) ?_|((first|apply b7|apply cM)<;>intro hb)|refine Ai Y6 ?_|(apply Ai<;>intro hb)|apply Fin.pure|simp only[aB]))
   | true =>
    have hn':=qO hn ha ho2
    rw[ho2]at hok
    cases b1<;>cases b2<;>cases b3
    all_goals (try (exfalso;simp at hok;done))
    all_goals ((have zF:=a3 @aA @aY.eq_1 (a9 hat @cZ.eq_1 hd hlt hk hki htk hb3 hwk);have cF:=a2 hf2 hc2;repeat' first|refine wS ?_|exact wE|refine bl [b0+80] wM wF wF rfl (hh2 _) ?_|((first|apply b7|apply cM)<;>intro hb)|refine Ai Y6 ?_|(apply Ai<;>intro hb)))
    all_goals ((have zF:=a4 @aA @ks @aY.eq_1 hwk;refine c7 (k+1) [some b0] ?_ ?_))
    all_goals (first|(show t.attrs.length-(k+1)<t.attrs.length-k;omega)|exact⟨hlt,hn'⟩|skip)
  ·have hke:k=t.attrs.length:=Y6
   subst hke
   have hd:decide (t.attrs.length<t.attrs.length)=false:=aL
   have hr:gC t.attrs=true:=gq.2 ⟨h16,hn⟩
   exact xP (a2 hd hr) trivial)
def B9 (t:Tk)(h:t.okTo aN)(nm:Nat):Ev cx 47 nm [.agg (aY t)] ah.nil (.int .i64 (Rz t)) []:=by
 unfold Rz
 rw[OO]
 cases ho:ot t with
 | false=>exact Ii t h ho nm
 | true =>
  have:=EO t h ho nm
  simpa using this
def bi (a:At):List V:=[.str a.space,.str a.name,.str a.value]
def aC (n:Nd):List V:=[.int .u8 n.kind,.str n.space,.str n.name,.sl false 3 (n.attrs.map bi),.str n.text,.int .i64 n.many]
def bH (k:Nat):List V:=[.int .i64 k]
def dv {l:List Nd}{k:Nat}{a:Nd}(h:l[k]? = some a):(l.map aC)[k]? = some (aC a):=by rw[WG,h];rfl
def iG {l:List At}{k:Nat}{a:At}(h:l[k]? = some a):(l.map bi)[k]? = some (bi a):=by rw[WG,h];rfl
def tL {l m:ZB}{k:Nat}{a:Nat}(h:l[k]? = some a):((l++m).map bH)[k]? = some (bH a):=by
 have hk:=(AS.1 h).1
 rw[WG,Yg hk,h];rfl
def aj (l:List At):plainLL (l.map bi)=true:=cq _ (fun _=>rfl) l
def aa (l:List Nd):plainLL (l.map aC)=true:=cq _ (fun t=>by simp[aC,plainL,V.plain,aj]) l
def aw (l:ZB):plainLL (l.map bH)=true:=cq _ (fun _=>rfl) l
def A6 {v:List Nd}{k:Nat}{x:Nd}(h:v[k]? = some x)(m:Int)(hm:m=x.many+1):(v.map aC).set k [.int .u8 x.kind,.str x.space,.str x.name,.sl false 3 (x.attrs.map bi),.str x.text,.int .i64 m]=(v.modify k Nd.inc).map aC:=by
 subst hm
 rw[GB h,Y3];rfl
def uG (σ:Y8)(l:List Nd):(l.map aC).map (renL σ)=l.map aC:=by
 rw[YD]
 exact W7 (fun n _=>by simp[aC,renL,V.ren])
def pr (σ:Y8)(l:List Nd):(l.map aC).all (renOkL σ)=true:=by
 rw[WI]
 intro r hr
 obtain⟨n,_,rfl⟩:=Wn.1 hr
 simp[aC,renOkL,V.renOk,aj]
def gr (y z:Nat)(g:Gr)(last:Nat):List V:=[.own y 0 g.v.length,.own z 0 g.opn.length,.int .u8 last]
def qG (l:List Nd):(l.map aC).take l.length=l.map aC:=IN ZH
def Ps (g:Gr)(n:Nat)(hg:g.Ok n)(hn:n<=1000)(junk:ZB)(last q y z:Nat)(x:Nd)(M:ah)(nm:Nat)(hqy:q≠y)(hqz:q≠z)(hyz:y≠z)(hq:M q=some ⟨3,[gr y z g last]⟩)(hy:M y=some ⟨6,g.v.map aC⟩)(hz:M z=some ⟨1,(g.opn++junk).map bH⟩)(ho:∀ w,(M w).isSome=true->w∈[q,y,z])(hqn:q<nm)(hyn:y<nm)(hzn:z<nm) :
  Ev cx 103 nm [.ptr q 0 0,.agg [.int .u8 x.kind,.str x.space,.str x.name,.nils,.str x.text,.int .i64 x.many]] M (.tup []) [(y,none),(q,some ⟨3,[[.own nm 0 (g.v.length+1),.own z 0 g.opn.length,.int .u8 last]]⟩),(z,some ⟨1,(g.opn++junk).map bH⟩),(nm,some ⟨6,(kO g.v g.opn).map aC++[[.int .u8 x.kind,.str x.space,.str x.name,.nils,.str x.text,.int .i64 x.many]]⟩)]:=by
 have hvl:=hg.len
 have hl12:=hg.deep
 refine aG call103 func103 results103 ntmps103 ?_;intro b0 hb0 zN
 have lq:=aq hb0 hq
 have z0:=aE lq;have z1:=ak lq;have z2:=ay lq;have z3:=ae lq
 have ly:=aq hb0 hy
 have y0:=aE ly;have y1:=ak ly;have y2:=ay ly;have y3:=ae ly
 have lz:=aq hb0 hz
 have w0:=aE lz;have w1:=ak lz;have w2:=ay lz;have w3:=ae lz
 have n1:=IT hqy;have n2:=IT hqz;have n3:=IT hyz
 have n4:=IT (WU hqy);have n5:=IT (WU hqz);have n6:=IT (WU hyz)
 by_cases h0:g.opn=[]
 ·have hl0:g.opn.length=0:=by rw[h0];rfl
  have hinc:kO g.v g.opn=g.v:=by rw[h0];rfl
  rw[hinc]
  have hd:decide ((0:Int)<(g.opn.length:Int))=false:=aL
  repeat' first|simp only[results103,ntmps103,aF,gr,hd,hq,hy,z0,z1,y0,y1,n1,Lm,au,aH,seval] | refine qf [(4,6)] ?_ | refine Ai Y6 ?_
  all_goals ((refine Fin.give [(q,none),(z,none),(b0+256,some 0)] [y] ?_ ?_ ?_ ?_ ?_ (bc ho (by simp[ba,tgt]))<;>(try simp only[gr,hq,hz,z0,z1,z3,y3,w0,w1,w3,n1,n2,n5,n6,No,aM,aa,aw,hH,au,seval])<;>(try simp only[aB])<;>(try omega)))
 ·obtain⟨k,hk⟩:=kr h0
  obtain⟨_,hk2,hk3⟩:=gK hk
  have hkv:=hg.in_ k (By hk2)
  obtain⟨x0,hx0⟩:∃ x0,g.v[k]? = some x0:=⟨_,AT hkv⟩
  have hm:=hg.many x0 (By hx0)
  have hinc:=pg (v:=g.v) hk
  have hd:decide ((0:Int)<(g.opn.length:Int))=true:=bz
  have hwl:IntKind.i64.wrap ((g.opn.length:Int)-1)=((g.opn.length-1:Nat):Int):=by rw[aX];omega
  have hlt:g.opn.length-1<g.opn.length:=Y6
  have hno:=tL (m:=junk) hk2
  have hnd:=dv hx0
  have hwm:IntKind.i64.wrap (x0.many+1)=x0.many+1:=aX
  have hset:=A6 hx0 (x0.many+1) rfl
  have hml:((g.v.modify k Nd.inc).map aC).take g.v.length=(g.v.modify k Nd.inc).map aC:=IN ZH
  have hmn:(g.v.modify k Nd.inc).length=g.v.length:=by simp
  rw[hinc]
  repeat' first|simp only[results103,ntmps103,aF,gr,hd,hq,hy,hz,hwl,hlt,hno,bH,hnd,aC,hkv,hwm,hset,hml,hmn,z0,z1,y0,y1,y2,y3,w0,n1,Lm,au,aH,seval] | refine qf [(4,6)] ?_|refine bm  ZJ  ?_ | refine Ai Y6 ?_
  all_goals ((refine Fin.give [(q,none),(z,none),(b0+560,some 0)] [y] ?_ ?_ ?_ ?_ ?_ (bc ho (by simp[ba,tgt]))<;>(try simp only[gr,hq,hz,z0,z1,z3,y3,w0,w1,w3,n1,n2,n5,n6,No,aM,aa,aw,hH,au,seval])<;>(try simp only[aB])<;>(try omega)))
def Pq (g:Gr)(n:Nat)(hg:g.Ok n)(hn:n<=1000)(junk:ZB)(last q y z:Nat)(x:Nd)(a:Nat)(ats:List At)(M:ah)(nm:Nat)(hqy:q≠y)(hqz:q≠z)(hyz:y≠z)(hqa:q≠a)(hya:y≠a)(hza:z≠a)(ha:M a=some ⟨3,ats.map bi⟩)(hq:M q=some ⟨3,[gr y z g last]⟩)(hy:M y=some ⟨6,g.v.map aC⟩)(hz:M z=some ⟨1,(g.opn++junk).map bH⟩)(ho:∀ w,(M w).isSome=true->w∈[q,y,z,a])(hqn:q<nm)(hyn:y<nm)(hzn:z<nm)(han:a<nm) :
  Ev cx 103 nm [.ptr q 0 0,.agg [.int .u8 x.kind,.str x.space,.str x.name,.own a 0 ats.length,.str x.text,.int .i64 x.many]] M (.tup []) [(y,none),(q,some ⟨3,[[.own nm 0 (g.v.length+1),.own z 0 g.opn.length,.int .u8 last]]⟩),(z,some ⟨1,(g.opn++junk).map bH⟩),(a,some ⟨3,ats.map bi⟩),(nm,some ⟨6,(kO g.v g.opn).map aC++[[.int .u8 x.kind,.str x.space,.str x.name,.own a 0 ats.length,.str x.text,.int .i64 x.many]]⟩)]:=by
 have hvl:=hg.len
 have hl12:=hg.deep
 refine aG call103 func103 results103 ntmps103 ?_;intro b0 hb0 zN
 have lq:=aq hb0 hq
 have z0:=aE lq;have z1:=ak lq;have z2:=ay lq;have z3:=ae lq
 have ly:=aq hb0 hy
 have y0:=aE ly;have y1:=ak ly;have y2:=ay ly;have y3:=ae ly
 have lz:=aq hb0 hz
 have w0:=aE lz;have w1:=ak lz;have w2:=ay lz;have w3:=ae lz
 have la:=aq hb0 ha
 have a0:=aE la;have a1:=ak la;have a2:=ay la;have a3:=ae la
 have m1:=IT hqa;have m2:=IT hya;have m3:=IT hza
 have m4:=IT (WU hqa);have m5:=IT (WU hya);have m6:=IT (WU hza)
 have hpn:plainLL (g.opn.map bH++junk.map bH)=true:=by rw[<- WM];exact aw _
 have n1:=IT hqy;have n2:=IT hqz;have n3:=IT hyz
 have n4:=IT (WU hqy);have n5:=IT (WU hqz);have n6:=IT (WU hyz)
 by_cases h0:g.opn=[]
 ·have hl0:g.opn.length=0:=by rw[h0];rfl
  have hinc:kO g.v g.opn=g.v:=by rw[h0];rfl
  rw[hinc]
  have hd:decide ((0:Int)<(g.opn.length:Int))=false:=aL
  repeat' first|simp only[results103,ntmps103,aF,gr,hd,hq,hy,z0,z1,y0,y1,n1,Lm,au,aH,seval] | refine qf [(4,6)] ?_ | refine Ai Y6 ?_
  all_goals ((refine Fin.give [(q,none),(z,none),(a,none),(b0+256,some 0)] [y] ?_ ?_ ?_ ?_ ?_ (bc ho (by simp[ba,tgt]))<;>(try simp only[aF,gr,hq,hz,z0,z1,z3,y3,w0,w1,w3,n1,n2,n5,n6,ha,a0,a1,a3,m1,m3,m4,m5,m6,aj,uG,pr,WM,Xv,No,aM,aa,hpn,hH,au,seval])<;>(try simp only[aB])<;>(try omega)))
 ·obtain⟨k,hk⟩:=kr h0
  obtain⟨_,hk2,hk3⟩:=gK hk
  have hkv:=hg.in_ k (By hk2)
  obtain⟨x0,hx0⟩:∃ x0,g.v[k]? = some x0:=⟨_,AT hkv⟩
  have hm:=hg.many x0 (By hx0)
  have hinc:=pg (v:=g.v) hk
  have hd:decide ((0:Int)<(g.opn.length:Int))=true:=bz
  have hwl:IntKind.i64.wrap ((g.opn.length:Int)-1)=((g.opn.length-1:Nat):Int):=by rw[aX];omega
  have hlt:g.opn.length-1<g.opn.length:=Y6
  have hno:=tL (m:=junk) hk2
  have hnd:=dv hx0
  have hwm:IntKind.i64.wrap (x0.many+1)=x0.many+1:=aX
  have hset:=A6 hx0 (x0.many+1) rfl
  have hml:((g.v.modify k Nd.inc).map aC).take g.v.length=(g.v.modify k Nd.inc).map aC:=IN ZH
  have hmn:(g.v.modify k Nd.inc).length=g.v.length:=by simp
  rw[hinc]
  repeat' first|simp only[results103,ntmps103,aF,gr,hd,hq,hy,hz,hwl,hlt,hno,bH,hnd,aC,hkv,hwm,hset,hml,hmn,z0,z1,y0,y1,y2,y3,w0,n1,Lm,au,aH,seval] | refine qf [(4,6)] ?_|refine bm  ZJ  ?_ | refine Ai Y6 ?_
  all_goals ((refine Fin.give [(q,none),(z,none),(a,none),(b0+560,some 0)] [y] ?_ ?_ ?_ ?_ ?_ (bc ho (by simp[ba,tgt]))<;>(try simp only[aF,gr,hq,hz,z0,z1,z3,y3,w0,w1,w3,n1,n2,n5,n6,ha,a0,a1,a3,m1,m3,m4,m5,m6,aj,uG,pr,WM,Xv,No,aM,aa,hpn,hH,au,seval])<;>(try simp only[aB])<;>(try omega)))
def wV {α:Type}(a b:List α)(k:Nat):Prop:=∀ i,i<k->a[i]? = b[i]?
def DS {α:Type}{a b:List α}(hl:a.length=b.length)(h:wV a b a.length):a=b:=by
 refine Xx fun i=>?_
 by_cases hi:i<a.length
 ·exact h i hi
 ·rw[W0 Y6,W0 Y6]
def tT {α:Type}{a b:List α}{k:Nat}{x:α}(h:wV a b k)(ha:a[k]? = some x)(hb:b[k]? = some x):wV a b (k+1):=by
 intro i hi
 by_cases e:i=k
 ·subst e;rw[ha,hb]
 ·exact h i Y6
def HH {α:Type}{a b:List α}{k:Nat}{x y:α}(ha:a[k]? = some x)(hb:b[k]? = some y)(h:x≠y):a≠b:=by
 rintro rfl
 rw[ha]at hb;cases hb;exact h rfl
def QK (n m:Nat):((n:Int)==(m:Int))=decide (n=m):=by
 rw[WL,W3,Yd];omega
def vY {n m:Nat}(h:n=m):((n:Int) !=(m:Int))=false:=by subst h;simp
def vZ {n m:Nat}(h:n≠m):((n:Int) !=(m:Int))=true:=by rw[Yq];omega
def LP (s:ZA):(s.all fun c=>sH [32,9,10,13] c.toNat)=gb s:=by
 unfold gb
 congr 1
 funext c
 have h:∀ d:UInt8,(d.toNat==c.toNat)=(c==d):=fun d=>by
  rw[WL,W3,W3]
  exact⟨fun h=>(YX.1 h).symm,fun h=>by rw[h]⟩
 simp only[sH,cG,List.any_cons,List.any_nil,h,XD,YK]
def GO (s:ZA):(ew [32,9,10,13] (fJ [32,9,10,13] s)==[])=gb s:=by
 rw[<- LP,WL,W3,xi]
def gS (o:ZB):((o.length:Int)==0)=o.isEmpty:=jO o
def lR (g:Gr)(n:Nd):(gX g n).map aC=(kO g.v g.opn).map aC++[aC n]:=by simp[gX]
def sK (a:List (List V))(r s:List V):iP (a++[r]) (a++[s])=leL r s:=by
 apply propext
 induction a with
 | nil=>simp[iP]
 | cons x a ih =>
  simp only[List.cons_append,iP,ih]
  exact⟨fun h=>h.2,fun h=>⟨leL_refl x,h⟩⟩
def jH (n:Nat):b9 n n=True:=X0 ⟨IS _,by omega⟩
def mN (g:Gr)(t:Tk)(last:Nat):Bool:=(last==4)||(g.opn.isEmpty && !gb t.text)
def Ej (g:Gr)(n:Nat)(hg:g.Ok n)(hn:n<=1000)(junk:ZB)(last q y z:Nat)(t:Tk)(ht:t.text.length<=aN)(e:Int)(he:(mN g t last=true/\e=80)\/(mN g t last=false/\g.opn=[]/\e=0))(M:ah)(nm:Nat)(hqy:q≠y)(hqz:q≠z)(hyz:y≠z)(hq:M q=some ⟨3,[gr y z g last]⟩)(hy:M y=some ⟨6,g.v.map aC⟩)(hz:M z=some ⟨1,(g.opn++junk).map bH⟩)(ho:∀ w,(M w).isSome=true->w∈[q,y,z]) :
  Ev cx 50 nm [.ptr q 0 0,.agg (aY t)] M (.int .i64 e) [(q,some ⟨3,[gr y z g last]⟩),(y,some ⟨6,g.v.map aC⟩),(z,some ⟨1,(g.opn++junk).map bH⟩)]:=by
 have htr:=HO [32,9,10,13] t.text ZI ZI ZI ht
 have htb:=GO t.text
 generalize ew [32,9,10,13] (fJ [32,9,10,13] t.text)=tr at htr htb
 have ho0:=gS g.opn
 have hlt4:((last:Int)==4)=(last==4):=by rw[WL];simp;omega
 have hop:g.opn=[]->g.opn.isEmpty=true:=fun h=>by rw[h];rfl
 unfold mN at he
 generalize hA:(last==4)=bA at he hlt4
 generalize hB:g.opn.isEmpty=bB at he ho0 hop
 generalize hC:gb t.text=bC at he htb
 have hcs:(bA=true/\e=80)\/(bA=false/\bB=true/\bC=false/\e=80)\/(bA=false/\bB=true/\bC=true/\e=0):=by
  rcases he with ⟨h1,h2⟩|⟨h1,h2,h3⟩
  ·cases bA<;>cases bB<;>cases bC<;>simp at h1 ⊢<;>exact h2
  ·have:=hop h2
   subst this
   cases bA<;>cases bC<;>simp at h1 ⊢<;>exact h3
 clear he
 rcases hcs with ⟨rfl,rfl⟩|⟨rfl,rfl,rfl,rfl⟩|⟨rfl,rfl,rfl,rfl⟩<;>(try cases bB)<;>(
  refine aG call50 func50 results50 ntmps50 ?_;intro b0 hb0 zN
  have lq:=aq hb0 hq
  have z0:=aE lq;have z1:=ak lq;have z2:=ay lq;have z3:=ae lq
  have ly:=aq hb0 hy
  have y0:=aE ly;have y1:=ak ly;have y2:=ay ly;have y3:=ae ly
  have lz:=aq hb0 hz
  have w0:=aE lz;have w1:=ak lz;have w2:=ay lz;have w3:=ae lz
  have n1:=IT hqy;have n2:=IT hqz;have n3:=IT hyz
  have n4:=IT (WU hqy);have n5:=IT (WU hqz);have n6:=IT (WU hyz)
  repeat' first|simp only[results50,ntmps50,aF,aY,gr,ho0,hlt4,htb,hq,z0,Bt,Bf,au,aH,seval] | refine ao (v:=.any) ?_|refine ai ?_ (fun _=>htr _) ?_
  all_goals ((refine Fin.give [(q,none),(y,none),(z,none)] [] ?_ ?_ ?_ ?_ ?_ (bc ho (by simp[ba,tgt]))<;>(try simp only[gr,hq,hy,hz,z0,y0,w0,n1,n2,n3,n4,n5,n6,No,aa,aw,hH,au,seval])<;>(try simp only[aB])<;>(try omega))))
def Lb (g:Gr)(n:Nat)(hg:g.Ok n)(hn:n<=1000)(junk:ZB)(last q y z:Nat)(t:Tk)(hl4:(last==4)=false)(hop:g.opn.isEmpty=false)(M:ah)(nm:Nat)(hqy:q≠y)(hqz:q≠z)(hyz:y≠z)(hq:M q=some ⟨3,[gr y z g last]⟩)(hy:M y=some ⟨6,g.v.map aC⟩)(hz:M z=some ⟨1,(g.opn++junk).map bH⟩)(ho:∀ w,(M w).isSome=true->w∈[q,y,z])(hqn:q<nm)(hyn:y<nm)(hzn:z<nm) :
  Ev cx 50 nm [.ptr q 0 0,.agg (aY t)] M (.int .i64 0) [(y,none),(q,some ⟨3,[[.own nm 0 (g.v.length+1),.own z 0 g.opn.length,.int .u8 last]]⟩),(z,some ⟨1,(g.opn++junk).map bH⟩),(nm,some ⟨6,(kO g.v g.opn).map aC++[[.int .u8 2,.str [],.str [],.nils,.str t.text,.int .i64 0]]⟩)]:=by
 have ho0:=gS g.opn
 rw[hop]at ho0
 have hlt4:((last:Int)==4)=false:=by rw[<- hl4,WL];simp;omega
 refine aG call50 func50 results50 ntmps50 ?_;intro b0 hb0 zN
 have lq:=aq hb0 hq
 have z0:=aE lq;have z1:=ak lq;have z2:=ay lq;have z3:=ae lq
 have ly:=aq hb0 hy
 have y0:=aE ly;have y1:=ak ly;have y2:=ay ly;have y3:=ae ly
 have lz:=aq hb0 hz
 have w0:=aE lz;have w1:=ak lz;have w2:=ay lz;have w3:=ae lz
 have n1:=IT hqy;have n2:=IT hqz;have n3:=IT hyz
 have n4:=IT (WU hqy);have n5:=IT (WU hqz);have n6:=IT (WU hyz)
 have e1:=hq;have e2:=hy;have e3:=hz
 have hadd:=fun (M':ah) (a:M' q=some ⟨3,[gr y z g last]⟩) (b:M' y=some ⟨6,g.v.map aC⟩) (c:M' z=some ⟨1,(g.opn++junk).map bH⟩) (d:∀ w,(M' w).isSome=true->w∈[q,y,z]) (m:Nat) (h1:q<m) (h2:y<m) (h3:z<m)=>Ps g n hg hn junk last q y z (gN t.text) M' m hqy hqz hyz a b c d h1 h2 h3
 repeat' first|simp only[aK,results50,ntmps50,aF,aY,gr,gN,ho0,hlt4,hq,hy,hz,jH,z0,z3,y0,y3,w0,w3,n1,n2,n3,n4,n5,n6,Bf,au,aH,seval] | refine ao (v:=.any) ?_|refine ab ?_ [q,y,z] (hadd _ ?_ ?_ ?_ ac _ Y6 Y6 Y6) ?_ ?_
 all_goals ((refine Fin.give [(q,none),(z,none),(b0+464,some 0)] [y] ?_ ?_ ?_ ?_ ?_ (bc ho (by simp[ba,tgt]))<;>(try simp only[gr,hq,hz,z0,z1,z3,y3,w0,w1,w3,n1,n2,n5,n6,No,aM,aa,aw,hH,au,seval])<;>(try simp only[aB])<;>(try omega)))
def Rs (g:Gr)(n:Nat)(hg:g.Ok n)(hn:n<=1000)(junk:ZB)(last q y z:Nat)(t:Tk)(hlast:iO g≠some t.name)(M:ah)(nm:Nat)(hqy:q≠y)(hqz:q≠z)(hyz:y≠z)(hq:M q=some ⟨3,[gr y z g last]⟩)(hy:M y=some ⟨6,g.v.map aC⟩)(hz:M z=some ⟨1,(g.opn++junk).map bH⟩)(ho:∀ w,(M w).isSome=true->w∈[q,y,z]) :
  Ev cx 49 nm [.ptr q 0 0,.agg (aY t)] M (.int .i64 80) [(q,some ⟨3,[gr y z g last]⟩),(y,some ⟨6,g.v.map aC⟩),(z,some ⟨1,(g.opn++junk).map bH⟩)]:=by
 have hvl:=hg.len
 have hl12:=hg.deep
 have ho0:=gS g.opn
 by_cases h0:g.opn=[]
 ·have hop:g.opn.isEmpty=true:=by rw[h0];rfl
  rw[hop]at ho0
  refine aG call49 func49 results49 ntmps49 ?_;intro b0 hb0 zN
  have lq:=aq hb0 hq
  have z0:=aE lq;have z1:=ak lq;have z2:=ay lq;have z3:=ae lq
  have ly:=aq hb0 hy
  have y0:=aE ly;have y1:=ak ly;have y2:=ay ly;have y3:=ae ly
  have lz:=aq hb0 hz
  have w0:=aE lz;have w1:=ak lz;have w2:=ay lz;have w3:=ae lz
  have n1:=IT hqy;have n2:=IT hqz;have n3:=IT hyz
  have n4:=IT (WU hqy);have n5:=IT (WU hqz);have n6:=IT (WU hyz)
  repeat' first|simp only[results49,ntmps49,aF,aY,gr,ho0,hq,hy,hz,z0,y0,w0,Bt,au,aH,seval] | refine bm  ZJ  ?_
  all_goals ((refine Fin.give [(q,none),(y,none),(z,none)] [] ?_ ?_ ?_ ?_ ?_ (bc ho (by simp[ba,tgt]))<;>(try simp only[gr,hq,hy,hz,z0,y0,w0,n1,n2,n3,n4,n5,n6,No,aa,aw,hH,au,seval])<;>(try simp only[aB])<;>(try omega)))
 ·obtain⟨k,hk⟩:=kr h0
  obtain⟨_,hk2,hk3⟩:=gK hk
  have hop:g.opn.isEmpty=false:=by simpa using h0
  rw[hop]at ho0
  have hkv:=hg.in_ k (By hk2)
  obtain⟨x0,hx0⟩:∃ x0,g.v[k]? = some x0:=⟨_,AT hkv⟩
  have hwl:IntKind.i64.wrap ((g.opn.length:Int)-1)=((g.opn.length-1:Nat):Int):=by rw[aX];omega
  have hlt:g.opn.length-1<g.opn.length:=Y6
  have hno:=tL (m:=junk) hk2
  have hnd:=dv hx0
  have hne:(x0.name==t.name)=false:=If (fun e=>hlast (by unfold iO;rw[hk];simp[hx0,e]))
  refine aG call49 func49 results49 ntmps49 ?_;intro b0 hb0 zN
  have lq:=aq hb0 hq
  have z0:=aE lq;have z1:=ak lq;have z2:=ay lq;have z3:=ae lq
  have ly:=aq hb0 hy
  have y0:=aE ly;have y1:=ak ly;have y2:=ay ly;have y3:=ae ly
  have lz:=aq hb0 hz
  have w0:=aE lz;have w1:=ak lz;have w2:=ay lz;have w3:=ae lz
  have n1:=IT hqy;have n2:=IT hqz;have n3:=IT hyz
  have n4:=IT (WU hqy);have n5:=IT (WU hqz);have n6:=IT (WU hyz)
  repeat' first|simp only[results49,ntmps49,aF,aY,gr,ho0,hwl,hlt,hno,bH,hnd,aC,hkv,hne,hq,hy,hz,z0,y0,w0,Bf,au,aH,seval] | refine bm  ZJ  ?_
  all_goals ((refine Fin.give [(q,none),(y,none),(z,none)] [] ?_ ?_ ?_ ?_ ?_ (bc ho (by simp[ba,tgt]))<;>(try simp only[gr,hq,hy,hz,z0,y0,w0,n1,n2,n3,n4,n5,n6,No,aa,aw,hH,au,seval])<;>(try simp only[aB])<;>(try omega)))
def Oj (g:Gr)(n:Nat)(hg:g.Ok n)(hn:n<=1000)(junk:ZB)(last q y z:Nat)(t:Tk)(hlast:iO g=some t.name)(M:ah)(nm:Nat)(hqy:q≠y)(hqz:q≠z)(hyz:y≠z)(hq:M q=some ⟨3,[gr y z g last]⟩)(hy:M y=some ⟨6,g.v.map aC⟩)(hz:M z=some ⟨1,(g.opn++junk).map bH⟩)(ho:∀ w,(M w).isSome=true->w∈[q,y,z]) :
  Ev cx 49 nm [.ptr q 0 0,.agg (aY t)] M (.int .i64 0) [(q,some ⟨3,[[.own y 0 g.v.length,.own z 0 (g.opn.length-1),.int .u8 last]]⟩),(y,some ⟨6,g.v.map aC⟩),(z,some ⟨1,(g.opn++junk).map bH⟩)]:=by
 have hvl:=hg.len
 have hl12:=hg.deep
 have ho0:=gS g.opn
 obtain⟨k,hk,hkn⟩:=WC.1 hlast
 obtain⟨x0,hx0,hxn⟩:=BY.1 hkn
 obtain⟨h0,hk2,hk3⟩:=gK hk
 have hop:g.opn.isEmpty=false:=by simpa using h0
 rw[hop]at ho0
 have hkv:=hg.in_ k (By hk2)
 have hwl:IntKind.i64.wrap ((g.opn.length:Int)-1)=((g.opn.length-1:Nat):Int):=by rw[aX];omega
 have hlt:g.opn.length-1<g.opn.length:=Y6
 have hle:g.opn.length-1<=g.opn.length:=Y6
 have hle2:((g.opn.length-1:Nat):Int)<=(g.opn.length:Int):=Y6
 have hno:=tL (m:=junk) hk2
 have hnd:=dv hx0
 have hne:(x0.name==t.name)=true:=by rw[hxn];simp
 refine aG call49 func49 results49 ntmps49 ?_;intro b0 hb0 zN
 have lq:=aq hb0 hq
 have z0:=aE lq;have z1:=ak lq;have z2:=ay lq;have z3:=ae lq
 have ly:=aq hb0 hy
 have y0:=aE ly;have y1:=ak ly;have y2:=ay ly;have y3:=ae ly
 have lz:=aq hb0 hz
 have w0:=aE lz;have w1:=ak lz;have w2:=ay lz;have w3:=ae lz
 have n1:=IT hqy;have n2:=IT hqz;have n3:=IT hyz
 have n4:=IT (WU hqy);have n5:=IT (WU hqz);have n6:=IT (WU hyz)
 repeat' first|simp only[results49,ntmps49,aF,aY,gr,ho0,hwl,hlt,hle,hno,bH,hnd,aC,hkv,hne,hq,hy,hz,z0,y0,w0,Bt,au,aH,seval] | refine bm  ZJ  ?_
 all_goals ((refine Fin.give [(q,none),(y,none),(z,none)] [] ?_ ?_ ?_ ?_ ?_ (bc ho (by simp[ba,tgt]))<;>(try simp only[gr,hq,hy,hz,z0,y0,w0,n1,n2,n3,n4,n5,n6,No,aa,aw,hH,au,seval])<;>(try simp only[aB])<;>(try omega)))
def Fp {l:List Pr}{k:Nat}{a:Pr}(h:l[k]? = some a):bq (l.take (k+1))=bq (l.take k)++[⟨[],a.name,a.value⟩]:=by
 obtain⟨hk,rfl⟩:=AS.1 h
 unfold bq
 rw[WF hk,WM];rfl
def iL (l:List Pr):(bq l).length=l.length:=by simp[bq]
def vI {l:List Pr}{k:Nat}{a:Pr}(h:l[k]? = some a):(bq (l.take k)).map bi++[[.str [],.str a.name,.str a.value]]=(bq (l.take (k+1))).map bi:=by
 rw[Fp h,WM];rfl
def vJ:bq []=[]:=rfl
def ux (g:Gr)(n:Nat)(hg:g.Ok n)(hn:n<=1000)(junk:ZB)(last q y z:Nat)(t:Tk)(e:Int)(he:((g.opn.isEmpty && !g.v.isEmpty)=true/\e=80)\/((g.opn.isEmpty && !g.v.isEmpty)=false/\12<=g.opn.length/\e=100))(M:ah)(nm:Nat)(hqy:q≠y)(hqz:q≠z)(hyz:y≠z)(hq:M q=some ⟨3,[gr y z g last]⟩)(hy:M y=some ⟨6,g.v.map aC⟩)(hz:M z=some ⟨1,(g.opn++junk).map bH⟩)(ho:∀ w,(M w).isSome=true->w∈[q,y,z]) :
  Ev cx 48 nm [.ptr q 0 0,.agg (aY t)] M (.int .i64 e) [(q,some ⟨3,[gr y z g last]⟩),(y,some ⟨6,g.v.map aC⟩),(z,some ⟨1,(g.opn++junk).map bH⟩)]:=by
 have hvl:=hg.len
 have hl12:=hg.deep
 have ho0:=gS g.opn
 have hv0:decide ((0:Int)<(g.v.length:Int)) = !g.v.isEmpty:=by
  cases h:g.v with
  | nil=>rfl
  | cons a b=>simp
 have h12:12<=g.opn.length->decide ((12:Int)<=(g.opn.length:Int))=true:=fun h=>bz
 have hop:g.opn.isEmpty=true->g.opn.length=0:=fun h=>by rw[XC.1 h];rfl
 generalize hA:g.opn.isEmpty=bA at he ho0 hop
 generalize hB:g.v.isEmpty=bB at he hv0
 have hcs:(bA=true/\bB=false/\e=80)\/(bA=false/\12<=g.opn.length/\e=100):=by
  rcases he with ⟨h1,h2⟩|⟨h1,h2,h3⟩
  ·cases bA<;>cases bB<;>simp at h1 ⊢;exact h2
  ·cases bA with
   | true=>have:=hop rfl;omega
   | false=>right;exact⟨rfl,h2,h3⟩
 clear he
 rcases hcs with ⟨rfl,rfl,rfl⟩|⟨rfl,h12',rfl⟩
 ·refine aG call48 func48 results48 ntmps48 ?_;intro b0 hb0 zN
  have lq:=aq hb0 hq
  have z0:=aE lq;have z1:=ak lq;have z2:=ay lq;have z3:=ae lq
  have ly:=aq hb0 hy
  have y0:=aE ly;have y1:=ak ly;have y2:=ay ly;have y3:=ae ly
  have lz:=aq hb0 hz
  have w0:=aE lz;have w1:=ak lz;have w2:=ay lz;have w3:=ae lz
  have n1:=IT hqy;have n2:=IT hqz;have n3:=IT hyz
  have n4:=IT (WU hqy);have n5:=IT (WU hqz);have n6:=IT (WU hyz)
  repeat' first|simp only[results48,ntmps48,aF,aY,gr,ho0,hv0,hq,z0,Bf,au,aH,seval]
  all_goals ((refine Fin.give [(q,none),(y,none),(z,none)] [] ?_ ?_ ?_ ?_ ?_ (bc ho (by simp[ba,tgt]))<;>(try simp only[gr,hq,hy,hz,z0,y0,w0,n1,n2,n3,n4,n5,n6,No,aa,aw,hH,au,seval])<;>(try simp only[aB])<;>(try omega)))
 ·have hd12:=h12 h12'
  refine aG call48 func48 results48 ntmps48 ?_;intro b0 hb0 zN
  have lq:=aq hb0 hq
  have z0:=aE lq;have z1:=ak lq;have z2:=ay lq;have z3:=ae lq
  have ly:=aq hb0 hy
  have y0:=aE ly;have y1:=ak ly;have y2:=ay ly;have y3:=ae ly
  have lz:=aq hb0 hz
  have w0:=aE lz;have w1:=ak lz;have w2:=ay lz;have w3:=ae lz
  have n1:=IT hqy;have n2:=IT hqz;have n3:=IT hyz
  have n4:=IT (WU hqy);have n5:=IT (WU hqz);have n6:=IT (WU hyz)
  repeat' first|simp only[results48,ntmps48,aF,aY,gr,ho0,hd12,hq,z0,au,aH,seval]
  all_goals ((refine Fin.give [(q,none),(y,none),(z,none)] [] ?_ ?_ ?_ ?_ ?_ (bc ho (by simp[ba,tgt]))<;>(try simp only[gr,hq,hy,hz,z0,y0,w0,n1,n2,n3,n4,n5,n6,No,aa,aw,hH,au,seval])<;>(try simp only[aB])<;>(try omega)))
def Ub (a:Nat)(t:Tk):List V:=[.int .u8 1,.str [],.str t.name,.own a 0 t.attrs.length,.str [],.int .i64 0]
def G7 (g:Gr)(junk:ZB)(last q y z nm:Nat)(t:Tk):List (Nat×Option Blk) :=
 if t.kind=1 then [(y,none),(z,none),(q,some ⟨3,[[.own nm 0 (g.v.length+1),.own (nm+2) 0 (g.opn.length+1),.int .u8 last]]⟩),(nm,some ⟨6,(kO g.v g.opn).map aC++[Ub (nm+1) t]⟩),(nm+1,some ⟨3,(bq t.attrs).map bi⟩),(nm+2,some ⟨1,g.opn.map bH++[bH g.v.length]⟩)]
 else [(y,none),(q,some ⟨3,[[.own nm 0 (g.v.length+1),.own z 0 g.opn.length,.int .u8 last]]⟩),(z,some ⟨1,(g.opn++junk).map bH⟩),(nm,some ⟨6,(kO g.v g.opn).map aC++[Ub (nm+1) t]⟩),(nm+1,some ⟨3,(bq t.attrs).map bi⟩)]
def Cp (g:Gr)(n:Nat)(hg:g.Ok n)(hn:n<=1000)(junk:ZB)(last q y z:Nat)(t:Tk)(ht:t.attrs.length<=1000)(h1:(g.opn.isEmpty && !g.v.isEmpty)=false)(h2:g.opn.length<12)(M:ah)(nm:Nat)(hqy:q≠y)(hqz:q≠z)(hyz:y≠z)(hq:M q=some ⟨3,[gr y z g last]⟩)(hy:M y=some ⟨6,g.v.map aC⟩)(hz:M z=some ⟨1,(g.opn++junk).map bH⟩)(ho:∀ w,(M w).isSome=true->w∈[q,y,z])(hqn:q<nm)(hyn:y<nm)(hzn:z<nm) :
  Ev cx 48 nm [.ptr q 0 0,.agg (aY t)] M (.int .i64 0) (G7 g junk last q y z nm t):=by
 have hvl:=hg.len
 have hl12:=hg.deep
 have ho0:=gS g.opn
 have hv0:decide ((0:Int)<(g.v.length:Int)) = !g.v.isEmpty:=by
  cases h:g.v with
  | nil=>rfl
  | cons a b=>simp
 have hd12:decide ((12:Int)<=(g.opn.length:Int))=false:=aL
 have hlj:g.opn.length<=(g.opn++junk).length:=by simp
 have htk:((g.opn++junk).map bH).take g.opn.length=g.opn.map bH:=by rw[<- YJ,Yc]
 generalize hA:g.opn.isEmpty=bA at h1 ho0
 generalize hB:g.v.isEmpty=bB at h1 hv0
 have hcs:bA=false\/(bA=true/\bB=true):=by cases bA<;>cases bB<;>simp at h1 ⊢
 clear h1
 have hpn0:plainLL (g.opn.map bH++junk.map bH)=true:=by rw[<- WM];exact aw _
 unfold G7
 refine aG call48 func48 results48 ntmps48 ?_;intro b0 hb0 zN
 have lq:=aq hb0 hq
 have z0:=aE lq;have z1:=ak lq;have z2:=ay lq;have z3:=ae lq
 have ly:=aq hb0 hy
 have y0:=aE ly;have y1:=ak ly;have y2:=ay ly;have y3:=ae ly
 have lz:=aq hb0 hz
 have w0:=aE lz;have w1:=ak lz;have w2:=ay lz;have w3:=ae lz
 have n1:=IT hqy;have n2:=IT hqz;have n3:=IT hyz
 have n4:=IT (WU hqy);have n5:=IT (WU hqz);have n6:=IT (WU hyz)
 rcases hcs with rfl|⟨rfl,rfl⟩
 all_goals (
  repeat' first|simp only[aF,aY,gr,ho0,hv0,hd12,hq,z0,Bt,Lm,au,aH,seval]
  (refine v8 (fun x:Nat=>t.attrs.length-x) (fun x=>x<=t.attrs.length) (b0+16) (fun x=>[(0,.ptr q 0 0),(3,.ptr b0 0 0),(6,.ptr (b0+1) 0 0),(32,.sl false 2 (t.attrs.map cZ)),(33,.int .i64 t.attrs.length),(34,.int .i64 x)]) (fun x=>[(b0,⟨4,[aY t]⟩),(b0+1,⟨6,[[.int .u8 1,.str [],.str t.name,.own (b0+2) 0 x,.str [],.int .i64 0]]⟩),(b0+2,⟨3,(bq (t.attrs.take x)).map bi⟩),(q,⟨3,[gr y z g last]⟩),(y,⟨6,g.v.map aC⟩),(z,⟨1,(g.opn++junk).map bH⟩)]) (0) [some b0,some (b0+400),none,some q,some y,some z] ?_ ?_ ?_;(focus (refine⟨?_,?_⟩<;>(try simp only[bL,aA,aY,gr,hq,hy,hz,No,aa,aw,am,vJ,List.take_zero,Lo,z0,z1,z2,z3,y0,y1,y2,y3,w0,w1,w2,w3,n1,n2,n3,n4,n5,n6,au,aB,seval])<;>(try omega))))
  ·exact WB _
  ·intro k hk
   by_cases hlt:k<t.attrs.length
   ·obtain⟨a,ha⟩:=js hlt
    have hat:=wx ha
    have hd:=AI hlt
    have hwk:=eX k
    have hgl:(bq (t.attrs.take k)).length=k:=by rw[iL,WK];omega
    have htl:((bq (t.attrs.take k)).map bi).take k=(bq (t.attrs.take k)).map bi:=IN (by rw[Lm,hgl];omega)
    have hgs:=vI ha
    repeat' first|simp only[aF,aY,gr,hat,cZ,hlt,hgl,htl,hgs,z3,y3,w3,Lm,au,aH,seval] | refine Ai Y6 ?_
    all_goals ((refine pX (k+1) [some b0,some (b0+1),some (b0+224),some q,some y,some z] ?_ ?_ ?_;(focus (refine⟨?_,?_⟩<;>(try simp only[bL,aA,hwk,No,aa,aw,aj,z0,z1,z2,z3,y0,y1,y2,y3,w0,w1,w2,w3,n1,n2,n3,n4,n5,n6,au,aB,seval])<;>(try omega)))))
    all_goals (first|(show t.attrs.length-(k+1)<t.attrs.length-k;omega)|(show k+1<=t.attrs.length;omega))
   ·have hke:k=t.attrs.length:=Y6
    subst hke
    have hd:decide (t.attrs.length<t.attrs.length)=false:=aL
    have hadd:=fun (M':ah) (a:M' q=some ⟨3,[gr y z g last]⟩) (b:M' y=some ⟨6,g.v.map aC⟩) (c:M' z=some ⟨1,(g.opn++junk).map bH⟩) (e:M' (b0+2)=some ⟨3,(bq t.attrs).map bi⟩) (d:∀ w,(M' w).isSome=true->w∈[q,y,z,b0+2]) (m:Nat) (h1:q<m) (h2:y<m) (h3:z<m) (h4:b0+2<m)=>Pq g n hg hn junk last q y z ⟨1,[],t.name,[],[],0⟩ (b0+2) (bq t.attrs) M' m hqy hqz hyz Y6 Y6 Y6 e a b c d h1 h2 h3 h4
    simp only[iL]at hadd
    have hwv:IntKind.i64.wrap (((g.v.length+1:Nat):Int)-1)=(g.v.length:Int):=by rw[aX];omega
    have hwv2:IntKind.i64.wrap ((g.v.length:Int)+1-1)=(g.v.length:Int):=by rw[aX];omega
    by_cases hk1:t.kind=1
    ·have hkb:((t.kind:Int)==1)=true:=by rw[hk1];rfl
     rw[if_pos hk1]
     repeat' first|simp only[aK,results48,ntmps48,aF,aY,gr,hkb,hwv,htk,hlj,jH,z0,z1,z2,z3,y0,y1,y2,y3,w0,w1,w2,w3,n1,n2,n3,n4,n5,n6,WJ,Lm,au,aH,seval]|refine ab ?_ [q,y,z,b0+2] (hadd _ ?_ ?_ ?_ ?_ ac _ Y6 Y6 Y6 Y6) ?_ ?_|refine qf [(4,11)] ?_ | refine Ai Y6 ?_
     all_goals ((refine Fin.give [(q,none),(b0+64,some 0),(b0+2,some 1),(b0+320,some 2)] [y,z] ?_ ?_ ?_ ?_ ?_ (bc ho (by simp[ba,tgt]))<;>(try simp only[aF,gr,hq,Ub,bH,z0,z1,z3,y3,w3,n1,n2,uG,pr,WM,Xv,No,aM,aj,aa,aw,hH,au,seval])<;>(try simp only[aB])<;>(try omega)))
    ·have hkb:((t.kind:Int)==1)=false:=If Y6
     rw[if_neg hk1]
     repeat' first|simp only[aK,results48,ntmps48,aF,aY,gr,hkb,jH,z0,z1,z2,z3,y0,y1,y2,y3,w0,w1,w2,w3,n1,n2,n3,n4,n5,n6,WJ,au,aH,seval]|refine ab ?_ [q,y,z,b0+2] (hadd _ ?_ ?_ ?_ ?_ ac _ Y6 Y6 Y6 Y6) ?_ ?_
     all_goals ((refine Fin.give [(q,none),(z,none),(b0+64,some 0),(b0+2,some 1)] [y] ?_ ?_ ?_ ?_ ?_ (bc ho (by simp[ba,tgt]))<;>(try simp only[aF,gr,hq,hz,Ub,z0,z1,z3,y3,w0,w1,w3,n1,n2,n5,n6,uG,pr,hpn0,WM,Xv,No,aM,aj,aa,hH,au,seval])<;>(try simp only[aB])<;>(try omega))))
def JC (t:Tk)(h:t.okTo aN)(nm:Nat):Ev cx 46 nm [.agg (aY t)] ah.nil (.bool (!dy t)) []:=by
 have hc:=B9 t h
 unfold Rz at hc
 generalize dy t=b at hc ⊢
 cases b<;>(
  refine aG call46 func46 results46 ntmps46 ?_;intro b0 hb0 zN
  (repeat' first|simp only[results46,ntmps46,aF,aY,Bt,Bf,au,aH,seval]|(refine ad ?_ (hc _) ?_) | apply Fin.pure))
def wu {l:List Tk}(h:512<l.length):bU l=4:=by unfold bU;rw[if_pos h]
def zm {l:List Tk}(h:¬ 512<l.length)(h2:(l.any fun t=>!dy t)=true):bU l=8:=by unfold bU;rw[if_neg h,if_pos h2]
def zn {l:List Tk}(h:¬ 512<l.length)(h2:(l.any fun t=>!dy t)=false){e:Int}(he:(xE ⟨[],[]⟩ false l).2=e)(h0:e≠0):bU l=e:=by
 unfold bU;rw[if_neg h,if_neg (by simp[h2]),if_pos (by rw[he];exact h0),he]
def zp {l:List Tk}(h:¬ 512<l.length)(h2:(l.any fun t=>!dy t)=false){g:Gr}(he:xE ⟨[],[]⟩ false l=(g,0))(h0:g.v.isEmpty=true\/g.opn.isEmpty=false):bU l=80:=by
 unfold bU;rw[if_neg h,if_neg (by simp[h2]),he,if_neg ZH,if_pos h0]
def Dx {l:List Tk}(h:¬ 512<l.length)(h2:(l.any fun t=>!dy t)=false){g:Gr}(he:xE ⟨[],[]⟩ false l=(g,0))(h0:¬(g.v.isEmpty=true\/g.opn.isEmpty=false)):bU l=0/\bJ l=g.v:=by
 have:bU l=0:=by unfold bU;rw[if_neg h,if_neg (by simp[h2]),he,if_neg ZH,if_neg h0]
 exact⟨this,by unfold bJ;rw[if_pos this,he]⟩
def vS {t:Tk}(h:dy t=true):t.kind=1\/t.kind=3\/t.kind=2\/t.kind=4:=by
 unfold dy at h
 rcases zR t.kind with h1|h1|h1|h1|⟨h1,h2,h3,h4⟩
 ·exact .inl h1
 ·exact .inr (.inl h1)
 ·exact .inr (.inr (.inl h1))
 ·exact .inr (.inr (.inr h1))
 ·rw[if_neg Y6,if_neg h3,if_neg h4]at h;cases h
def fO (b a c:Nat):b9 (b+a) (b+c)=(a<=c/\c<a+16):=propext ⟨fun h=>by unfold b9 at h;omega,fun h=>by unfold b9;omega⟩
def mf (t:Tk):aC (eo t)=[.int .u8 1,.str [],.str t.name,.sl false 3 ((bq t.attrs).map bi),.str [],.int .i64 0]:=rfl
def wm (s:ZA):aC (gN s)=[.int .u8 2,.str [],.str [],.sl false 3 [],.str s,.int .i64 0]:=rfl
structure PSt where
 k:Nat
 g:Gr
 junk:ZB
 last:Nat
def PSt.inv (l:List Tk)(x:PSt):Prop:=x.k<=l.length/\x.g.Ok x.k/\xE ⟨[],[]⟩ false l=xE x.g (x.last==4) (l.drop x.k)
def yI {α:Type}{l:List α}{k:Nat}{t:α}(h:l[k]? = some t):l.drop k=t::l.drop (k+1):=by
 obtain⟨hk,rfl⟩:=AS.1 h
 exact W1 hk
def C6 {l:List Tk}{x:PSt}{t:Tk}(h:x.inv l)(ht:l[x.k]? = some t){g':Gr}(hs:stepG x.g t (x.last==4)=(g',0))(junk':ZB):PSt.inv l ⟨x.k+1,g',junk',t.kind⟩:=by
 obtain⟨h1,h2,h3⟩:=h
 refine⟨(AS.1 ht).1,?_,?_⟩
 ·have:=HK h2 t (x.last==4);rw[hs]at this;exact this
 ·rw[h3,yI ht,MA rfl (by rw[hs]),hs]
def Hk {l:List Tk}{x:PSt}{t:Tk}(h:x.inv l)(ht:l[x.k]? = some t){e:Int}(hs:(stepG x.g t (x.last==4)).2=e)(he:e≠0):(xE ⟨[],[]⟩ false l).2=e:=by
 rw[h.2.2,yI ht,Qs (by rw[hs];exact he),hs]
set_option maxRecDepth 100000
set_option maxHeartbeats 32000000
open Go Go.RowKit Go.Lib
set_option maxRecDepth 100000
set_option maxHeartbeats 32000000
open Go Go.RowKit Vm Go.Lib Tryz
section
variable {cx:Cx} {Q:Post} {st:List Frm} {nm:Nat} {e:Env} {M:ah} {d:Bool} {fs:Y9} {ops r:ZD} {dst:Option Tmp} {t:TypeId} {pos:String} {af:Array Edge} {gd:Option (Nat×Bool)} {i:Nat}
def qE {P:Program}{w:World}{xt t:TypeId}(v:Value)(h:Ia P t=true):(Instr.typeAssert (.iface t v) xt t false).run P w = .ok v w:=by
 unfold Ia at h
 cases hu:P.underlying t with
 | none=>rw[hu]at h;cases h
 | some u =>
  rw[hu]at h
  simp only[Instr.typeAssert,Sem.run_bind,run_underlying hu w,Result.andThen_ok]
  cases u<;>first|(simp;done)|cases h
def kI {xt ty:TypeId}{x:Operand}{u:V}(hx:ap cx.G true e x = .iface ty u)(ht:Ia cx.P ty=true)
  (h:bb cx Q st nm (e.putD dst u) M d (fs++[[]]) ops r (i+1)):eH cx Q st nm e M d fs ops ⟨dst,.typeAssert x xt ty false,t,pos,af,gd⟩ r i:=by
 refine⟨_,[],_,⟨fun x hx=>by simp[al]at hx,fun x hx=>by simp[al]at hx,fun h=>absurd rfl h,fun h=>absurd rfl h,?_⟩,h⟩
 intro N X w0 I ρ e' M' a w hr he hin hev hMM hf
 have hxi:=he.eval hr (c:=true) rfl (hin x (by simp[Op.operands]))
 rw[hev x (by simp[Op.operands]),hx]at hxi
 cases hc:a.eval x with
 | iface t' v' =>
  rw[hc]at hxi
  cases hxi with
  | iface hv=>exact⟨v',w,(db.still (nm:=nm+16*i) hr hv).n,iX (s:=Instr.typeAssert (a.eval x) xt ty false) rfl (by rw[hc];exact qE v' ht)⟩
 | _=>rw[hc]at hxi;cases hxi
end
def Ev.dd {D:List Deferred}{f:FuncId}{nm:Nat}{args:List V}{M:ah}{v:V}{eff:List (Nat×Option Blk)}(h:Ev cx f nm args M v eff):Ev ⟨cx.P,cx.G,D⟩ f nm args M v eff:=h
def BI.dd {D:List Deferred}{f:FuncId}{nm:Nat}{args:List V}{M:ah}{v:V}(h:BI cx f nm args M v):BI ⟨cx.P,cx.G,D⟩ f nm args M v:=h
def Ge (s t n r:ZA)(hs:s.length<=16384)(h1:bY 60 s=some t)(tag:∀(M:ah) (nm q:Nat),M q=some (cm t)->(∀ z,(M z).isSome=true->z∈[q])->q<nm->Ev cx 95 nm [.ptr q 0 0] M (.agg [.int .u8 2,.str n,.nils,.str []]) [(q,some (cm r))])(q:Nat)(M:ah)(nm:Nat)(hq:M q=some (cm s))(ho:∀ z,(M z).isSome=true->z∈[q])(hqn:q<nm) :
  Ev cx 44 nm [.ptr q 0 0] M (.tup [.agg [.int .u8 2,.str n,.nils,.str []],.int .i64 0]) [(q,some (cm r))]:=by
 have p1:=fun D (q:Nat) M nm a b c=>Ev.dd (D:=D) (dh s [60] true Y6 ZI (by rw[fK,h1];rfl) q M nm a b c)
 have hst:=bG h1
 subst hst
 simp only[WQ,WN,WP,List.length_cons,List.length_nil]at p1
 have tg:=fun D M nm (q:Nat) a b c=>Ev.dd (D:=D) (tag M nm q a b c)
 unfold cm at hq tg ⊢
 refine nX rfl mixed call44 call93 func44 rfl ⟨_,_,_,rfl⟩ ⟨_,_,_,_,rfl⟩ (t2:=2) (t3:=3) (N:=9) ⟨⟨_,_,_,_,func93,rfl,rfl,rfl,by decide,by decide,⟨_,_,_,_,rfl⟩,_,_,_,rfl⟩⟩ (by kernel_rfl) (by kernel_rfl) (by kernel_rfl) rfl ?_
 intro b0 hb0
 have lq:=aq hb0 hq
 have z0:=aE lq;have z1:=ak lq;have z2:=ay lq;have z3:=ae lq
 repeat' first|simp only[au,aH,seval]
 refine⟨rfl,b0,b0+16,?_,?_,fun D=>?_⟩
 ·simp only[au,seval]
 ·simp only[au,seval]
 have p1:=p1 D;have tg:=tg D
 repeat' first|simp only[z2,z3,au,aH,seval]|((first|(refine ab ?_ [q] (p1 q _ _ ?_ ac Y6) ?_ ?_)|(refine ab ?_ [q] (tg _ _ q ?_ ac Y6) ?_ ?_));iterate 3 (focus (simp only[aK,hq,z0,z1,au,seval]<;>exact rfl)))
 refine ra ?_ ?_ ?_
 ·simp only[au,seval]
 ·simp only[au,seval]
 repeat' first|simp only[aF,au,seval]
 refine⟨rfl,?_⟩
 (refine Fin.give [(q,none)] [] ?_ ?_ ?_ ?_ ?_ (bc ho (by simp[ba,tgt]))<;>(try simp only[results44,ntmps44,m8,hq,z0,z1,z2,z3,hH,au,aH,seval])<;>(try simp only[aB])<;>(try omega))
def Gf (s t n r:ZA)(k:Nat)(l:List Pr)(hs:s.length<=16384)(h1:bY 60 s=some t)(tag:∀(M:ah) (nm q:Nat),M q=some (cm t)->(∀ z,(M z).isSome=true->z∈[q])->q<nm->Ev cx 95 nm [.ptr q 0 0] M (.agg [.int .u8 k,.str n,.own nm 0 l.length,.str []]) [(q,some (cm r)),(nm,some ⟨2,l.map cZ⟩)])(q:Nat)(M:ah)(nm:Nat)(hq:M q=some (cm s))(ho:∀ z,(M z).isSome=true->z∈[q])(hqn:q<nm) :
  Ev cx 44 nm [.ptr q 0 0] M (.tup [.agg [.int .u8 k,.str n,.own nm 0 l.length,.str []],.int .i64 0]) [(q,some (cm r)),(nm,some ⟨2,l.map cZ⟩)]:=by
 have p1:=fun D (q:Nat) M nm a b c=>Ev.dd (D:=D) (dh s [60] true Y6 ZI (by rw[fK,h1];rfl) q M nm a b c)
 have hst:=bG h1
 subst hst
 simp only[WQ,WN,WP,List.length_cons,List.length_nil]at p1
 have tg:=fun D M nm (q:Nat) a b c=>Ev.dd (D:=D) (tag M nm q a b c)
 unfold cm at hq tg ⊢
 refine nX rfl mixed call44 call93 func44 rfl ⟨_,_,_,rfl⟩ ⟨_,_,_,_,rfl⟩ (t2:=2) (t3:=3) (N:=9) ⟨⟨_,_,_,_,func93,rfl,rfl,rfl,by decide,by decide,⟨_,_,_,_,rfl⟩,_,_,_,rfl⟩⟩ (by kernel_rfl) (by kernel_rfl) (by kernel_rfl) rfl ?_
 intro b0 hb0
 have lq:=aq hb0 hq
 have z0:=aE lq;have z1:=ak lq;have z2:=ay lq;have z3:=ae lq
 repeat' first|simp only[au,aH,seval]
 refine⟨rfl,b0,b0+16,?_,?_,fun D=>?_⟩
 ·simp only[au,seval]
 ·simp only[au,seval]
 have p1:=p1 D;have tg:=tg D
 repeat' first|simp only[z2,z3,au,aH,seval]|((first|(refine ab ?_ [q] (p1 q _ _ ?_ ac Y6) ?_ ?_)|(refine ab ?_ [q] (tg _ _ q ?_ ac Y6) ?_ ?_));iterate 3 (focus (simp only[aK,aD,hq,z0,z1,z3,au,seval]<;>exact rfl)))
 refine ra ?_ ?_ ?_
 ·simp only[au,seval]
 ·simp only[au,seval]
 repeat' first|simp only[aF,au,seval]
 refine⟨rfl,?_⟩
 (refine Fin.give [(q,none),(b0+112,some 0)] [] ?_ ?_ ?_ ?_ ?_ (bc ho (by simp[ba,tgt]))<;>(try simp only[results44,ntmps44,m8,aA,hq,z0,z1,z2,z3,hH,au,aH,seval])<;>(try simp only[aB])<;>(try omega))
def Bl (s t:ZA)(hs:s.length<=16384)(h1:bY 60 s=some t)(tag:∀(M:ah) (nm q:Nat),M q=some (cm t)->(∀ z,(M z).isSome=true->z∈[q])->q<nm->BI cx 95 nm [.ptr q 0 0] M FY)(q:Nat)(M:ah)(nm:Nat)(hq:M q=some (cm s))(ho:∀ z,(M z).isSome=true->z∈[q])(hqn:q<nm) :
  Ev cx 44 nm [.ptr q 0 0] M (.tup [.agg [.int .u8 0,.str [],.nils,.str []],.int .i64 80]) [(q,none)]:=by
 have p1:=fun D (q:Nat) M nm a b c=>Ev.dd (D:=D) (dh s [60] true Y6 ZI (by rw[fK,h1];rfl) q M nm a b c)
 have hst:=bG h1
 subst hst
 simp only[WQ,WN,WP,List.length_cons,List.length_nil]at p1
 have tg:=fun D M nm (q:Nat) a b c=>BI.dd (D:=D) (tag M nm q a b c)
 unfold cm at hq tg
 refine nX rfl mixed call44 call93 func44 rfl ⟨_,_,_,rfl⟩ ⟨_,_,_,_,rfl⟩ (t2:=2) (t3:=3) (N:=9) ⟨⟨_,_,_,_,func93,rfl,rfl,rfl,by decide,by decide,⟨_,_,_,_,rfl⟩,_,_,_,rfl⟩⟩ (by kernel_rfl) (by kernel_rfl) (by kernel_rfl) rfl ?_
 intro b0 hb0
 have lq:=aq hb0 hq
 have z0:=aE lq;have z1:=ak lq;have z2:=ay lq;have z3:=ae lq
 repeat' first|simp only[au,aH,seval]
 refine⟨rfl,b0,b0+16,?_,?_,fun D=>?_⟩
 ·simp only[au,seval]
 ·simp only[au,seval]
 have p1:=p1 D;have tg:=tg D
 repeat' first|simp only[au,aH,seval]|((refine ab ?_ [q] (p1 q _ _ ?_ ac Y6) ?_ ?_);iterate 3 (focus (simp only[aK,hq,z0,z1,au,seval]<;>exact rfl)))
 refine c8 rfl [q] (tg _ _ q ?_ ac Y6) ?_
 ·simp only[aK,hq,z0,z1,au]<;>exact rfl
 simp only[aQ,rm]
 refine vk ?_ ?_ ?_
 ·simp only[au,seval]
 ·simp only[au,seval]
 repeat' first|simp only[aF,FY,lv,Lc,Lo,z2,z3,au,aH,seval]|refine Ai (by kernel_rfl) ?_|refine kI rfl (by kernel_rfl) ?_|refine bm  ZJ  ?_
 (refine Fin.give [] [q] ?_ ?_ ?_ ?_ ?_ (bc ho (by simp[ba,tgt]))<;>(try simp only[results44,ntmps44,m8,z2,z3,hH,au,aH,seval])<;>(try simp only[aB])<;>(try omega))
def D1 {s:ZA} :(iF s=[]->indexByte s 60 = -1/\ct s=s)/\(iF s≠[]->indexByte s 60=((ct s).length:Nat)/\s.take (ct s).length=ct s/\s.drop (ct s).length=iF s/\(ct s).length<s.length):=by
 have e:s=ct s++iF s:=(Wk).symm
 have hn:(60:UInt8) ∉ ct s:=fun h=>by
  have:=pQ h
  cases this
 constructor
 ·intro h
  rw[h,WR]at e
  refine⟨jK.2 (eA.2 ?_),e.symm⟩
  rw[e];exact hn
 ·intro h
  cases hr:iF s with
  | nil=>exact absurd hr h
  | cons c r =>
   have h60:=xa s c (by rw[hr];rfl)
   subst h60
   rw[hr]at e
   have hc:df 60 s=some (ct s,r):=by
    conv=>lhs;rw[e]
    exact oW hn
   obtain⟨i1,i2,i3,i4⟩:=jL hc
   refine⟨i1,i2,?_,by omega⟩
   have:=XT (l₁:=ct s) (l₂:=60::r)
   rw[<- e]at this
   exact this
def DG (s x:ZA)(hs:s.length<=16384)(hd:(dn s).isSome=true)(h1:bY 60 s=none)(h2:bp (ct s)=some x)(q:Nat)(M:ah)(nm:Nat)(hq:M q=some (cm s))(ho:∀ z,(M z).isSome=true->z∈[q])(hqn:q<nm) :
  Ev cx 44 nm [.ptr q 0 0] M (.tup [.agg [.int .u8 4,.str [],.nils,.str x],.int .i64 0]) [(q,some (cm (iF s)))]:=by
 have p1:=fun D (q:Nat) M nm a b c=>Ev.dd (D:=D) (dh s [60] false Y6 ZI (by rw[fK,h1];rfl) q M nm a b c)
 simp only[WH,WS]at p1
 have hl:(ct s).length<=s.length:=by
  have:=congrArg List.length ((Wk (p:=iE) (l:=s)).symm)
  unfold ct;rw[List.length_append]at this;omega
 have hp:az (ct s)=0:=dJ.2 ⟨by omega,(xb hd).1⟩
 obtain⟨x1,x2⟩:=D1 (s:=s)
 have gt:=fun D nm=>Ev.dd (D:=D) (uw (ct s) (by unfold aN;omega) nm)
 have ix:=fun D nm=>Ev.dd (D:=D) (rr s 60 nm)
 simp only[sy hp h2]at gt
 unfold cm at hq ⊢
 refine nX rfl mixed call44 call93 func44 rfl ⟨_,_,_,rfl⟩ ⟨_,_,_,_,rfl⟩ (t2:=2) (t3:=3) (N:=9) ⟨⟨_,_,_,_,func93,rfl,rfl,rfl,by decide,by decide,⟨_,_,_,_,rfl⟩,_,_,_,rfl⟩⟩ (by kernel_rfl) (by kernel_rfl) (by kernel_rfl) rfl ?_
 intro b0 hb0
 have lq:=aq hb0 hq
 have z0:=aE lq;have z1:=ak lq;have z2:=ay lq;have z3:=ae lq
 repeat' first|simp only[au,aH,seval]
 refine⟨rfl,b0,b0+16,?_,?_,fun D=>?_⟩
 ·simp only[au,seval]
 ·simp only[au,seval]
 have p1:=p1 D;have gt:=gt D;have ix:=ix D
 by_cases hr:iF s=[]
 ·obtain⟨i1,i2⟩:=x1 hr
  rw[i1]at ix
  rw[i2]at gt
  rw[hr]
  have hneg:decide ((-1:Int)<0)=true:=by decide
  have hz:IntKind.i64.wrap (s.length:Int)=s.length:=aX
  repeat' first|simp only[aF,hq,z0,z1,z2,z3,WJ,XV,Int.toNat_natCast,au,aH,seval]|((first|(refine ad ?_ (ix _) ?_)|(refine ad ?_ (gt _) ?_));(focus (simp only[au,seval]<;>exact rfl)))|((refine ab ?_ [q] (p1 q _ _ ?_ ac Y6) ?_ ?_);iterate 3 (focus (simp only[aK,hq,z0,z1,au,seval]<;>exact rfl)))
  refine ra ?_ ?_ ?_
  ·simp only[au,seval]
  ·simp only[au,seval]
  repeat' first|simp only[aF,au,seval]
  refine⟨rfl,?_⟩
  (refine Fin.give [(q,none)] [] ?_ ?_ ?_ ?_ ?_ (bc ho (by simp[ba,tgt]))<;>(try simp only[results44,ntmps44,m8,hq,z0,z1,z2,z3,hH,au,aH,seval])<;>(try simp only[aB])<;>(try omega))
 ·obtain⟨i1,i2,i3,i4⟩:=x2 hr
  rw[i1]at ix
  have hneg:decide (((ct s).length:Int)<0)=false:=aL
  have k1:((ct s).length:Int)<=s.length:=Y6
  have k2:(0:Int)<=((ct s).length:Int):=Y6
  have k3:(ct s).length<=s.length:=Y6
  repeat' first|simp only[aF,hq,z0,z1,z2,z3,hneg,k2,k3,i2,i3,Int.toNat_natCast,au,aH,seval]|((first|(refine ad ?_ (ix _) ?_)|(refine ad ?_ (gt _) ?_));(focus (simp only[au,seval]<;>exact rfl)))|((refine ab ?_ [q] (p1 q _ _ ?_ ac Y6) ?_ ?_);iterate 3 (focus (simp only[aK,hq,z0,z1,au,seval]<;>exact rfl)))
  refine ra ?_ ?_ ?_
  ·simp only[au,seval]
  ·simp only[au,seval]
  repeat' first|simp only[aF,au,seval]
  refine⟨rfl,?_⟩
  (refine Fin.give [(q,none)] [] ?_ ?_ ?_ ?_ ?_ (bc ho (by simp[ba,tgt]))<;>(try simp only[results44,ntmps44,m8,hq,z0,z1,z2,z3,hH,au,aH,seval])<;>(try simp only[aB])<;>(try omega))
def yh (s:ZA)(hs:s.length<=16384)(hd:(dn s).isSome=true)(h1:bY 60 s=none)(h2:bp (ct s)=none)(q:Nat)(M:ah)(nm:Nat)(hq:M q=some (cm s))(ho:∀ z,(M z).isSome=true->z∈[q])(hqn:q<nm) :
  Ev cx 44 nm [.ptr q 0 0] M (.tup [.agg [.int .u8 0,.str [],.nils,.str []],.int .i64 80]) [(q,none)]:=by
 have p1:=fun D (q:Nat) M nm a b c=>Ev.dd (D:=D) (dh s [60] false Y6 ZI (by rw[fK,h1];rfl) q M nm a b c)
 simp only[WH,WS]at p1
 have hl:(ct s).length<=s.length:=by
  have:=congrArg List.length ((Wk (p:=iE) (l:=s)).symm)
  unfold ct;rw[List.length_append]at this;omega
 have hp:az (ct s)=0:=dJ.2 ⟨by omega,(xb hd).1⟩
 obtain⟨x1,x2⟩:=D1 (s:=s)
 have gt:=fun D nm=>Ev.dd (D:=D) (uw (ct s) (by unfold aN;omega) nm)
 have ix:=fun D nm=>Ev.dd (D:=D) (rr s 60 nm)
 simp only[l6 hp h2]at gt
 unfold cm at hq
 refine nX rfl mixed call44 call93 func44 rfl ⟨_,_,_,rfl⟩ ⟨_,_,_,_,rfl⟩ (t2:=2) (t3:=3) (N:=9) ⟨⟨_,_,_,_,func93,rfl,rfl,rfl,by decide,by decide,⟨_,_,_,_,rfl⟩,_,_,_,rfl⟩⟩ (by kernel_rfl) (by kernel_rfl) (by kernel_rfl) rfl ?_
 intro b0 hb0
 have lq:=aq hb0 hq
 have z0:=aE lq;have z1:=ak lq;have z2:=ay lq;have z3:=ae lq
 repeat' first|simp only[au,aH,seval]
 refine⟨rfl,b0,b0+16,?_,?_,fun D=>?_⟩
 ·simp only[au,seval]
 ·simp only[au,seval]
 have p1:=p1 D;have gt:=gt D;have ix:=ix D
 by_cases hr:iF s=[]
 ·obtain⟨i1,i2⟩:=x1 hr
  rw[i1]at ix
  rw[i2]at gt
  have hneg:decide ((-1:Int)<0)=true:=by decide
  have hz:IntKind.i64.wrap (s.length:Int)=s.length:=aX
  repeat' first|simp only[aF,hq,z0,z1,z3,WJ,Int.toNat_natCast,aQ,rm,au,aH,seval]|((first|(refine ad ?_ (ix _) ?_)|(refine ad ?_ (gt _) ?_));(focus (simp only[au,seval]<;>exact rfl)))|((refine ab ?_ [q] (p1 q _ _ ?_ ac Y6) ?_ ?_);iterate 3 (focus (simp only[aK,hq,z0,z1,au,seval]<;>exact rfl)))|refine c8 rfl [q] (BI.dd (jj q _ _)) ?_
  refine vk ?_ ?_ ?_
  ·simp only[au,seval]
  ·simp only[au,seval]
  repeat' first|simp only[aF,FY,lv,Lc,Lo,z2,z3,au,aH,seval]|refine Ai (by kernel_rfl) ?_|refine kI rfl (by kernel_rfl) ?_|refine bm  ZJ  ?_
  (refine Fin.give [] [q] ?_ ?_ ?_ ?_ ?_ (bc ho (by simp[ba,tgt]))<;>(try simp only[results44,ntmps44,m8,z2,z3,hH,au,aH,seval])<;>(try simp only[aB])<;>(try omega))
 ·obtain⟨i1,i2,i3,i4⟩:=x2 hr
  rw[i1]at ix
  have hneg:decide (((ct s).length:Int)<0)=false:=aL
  have k1:((ct s).length:Int)<=s.length:=Y6
  have k2:(0:Int)<=((ct s).length:Int):=Y6
  have k3:(ct s).length<=s.length:=Y6
  repeat' first|simp only[aF,hq,z0,z1,z3,hneg,k2,k3,i2,Int.toNat_natCast,aQ,rm,au,aH,seval]|((first|(refine ad ?_ (ix _) ?_)|(refine ad ?_ (gt _) ?_));(focus (simp only[au,seval]<;>exact rfl)))|((refine ab ?_ [q] (p1 q _ _ ?_ ac Y6) ?_ ?_);iterate 3 (focus (simp only[aK,hq,z0,z1,au,seval]<;>exact rfl)))|refine c8 rfl [q] (BI.dd (jj q _ _)) ?_
  refine vk ?_ ?_ ?_
  ·simp only[au,seval]
  ·simp only[au,seval]
  repeat' first|simp only[aF,FY,lv,Lc,Lo,z2,z3,au,aH,seval]|refine Ai (by kernel_rfl) ?_|refine kI rfl (by kernel_rfl) ?_|refine bm  ZJ  ?_
  (refine Fin.give [] [q] ?_ ?_ ?_ ?_ ?_ (bc ho (by simp[ba,tgt]))<;>(try simp only[results44,ntmps44,m8,z2,z3,hH,au,aH,seval])<;>(try simp only[aB])<;>(try omega))
def KP {n r0 r:ZA}{l:List Pr}{t:Tk}(h:jV n l r0=some (t,r)):t=⟨t.kind,n,t.attrs,[]⟩ :=
 rY (n:=n) (P:=fun _ _ u _=>u=⟨u.kind,n,u.attrs,[]⟩) (fun _ _ _ _ _=>rfl) (fun _ _ _ _ _ _ _ _ _ _ _ ih=>ih) _ l r0 t r (IS _) h
def tP (s r:ZA)(t:Tk)(hs:s.length<=16384)(hd:(dn s).isSome=true)(h:iT s=some (t,r)) :
  (t.attrs=[] /\ ∀(q:Nat) (M:ah) (nm:Nat),M q=some (cm s)->(∀ z,(M z).isSome=true->z∈[q])->q<nm ->
   Ev cx 44 nm [.ptr q 0 0] M (.tup [.agg [.int .u8 t.kind,.str t.name,.nils,.str t.text],.int .i64 0]) [(q,some (cm r))]) \/
  (t.text=[] /\ ∀(q:Nat) (M:ah) (nm:Nat),M q=some (cm s)->(∀ z,(M z).isSome=true->z∈[q])->q<nm ->
   Ev cx 44 nm [.ptr q 0 0] M (.tup [.agg [.int .u8 t.kind,.str t.name,.own nm 0 t.attrs.length,.str []],.int .i64 0]) [(q,some (cm r)),(nm,some ⟨2,t.attrs.map cZ⟩)]):=by
 cases h1:bY 60 s with
 | none =>
  unfold iT at h
  rw[h1]at h
  obtain⟨x,h2,h3⟩:=BY.1 h
  cases h3
  exact .inl ⟨rfl,fun q M nm a b c=>DG s x hs hd h1 h2 q M nm a b c⟩
 | some u =>
  obtain rfl:=bG h1
  have hl:u.length<=16384:=by simp at hs;omega
  have hdu:=(cp (d:=60) ZI (a:=[]) hd rfl).2
  unfold iT at h
  rw[h1]at h
  simp only at h
  unfold j0 at h
  split at h
  ·rename_i w hw
   obtain⟨⟨n,r1⟩,h2,h3⟩:=WC.1 h
   obtain⟨r2,h4,h5⟩:=BY.1 h3
   cases h5
   exact .inl ⟨rfl,fun q M nm a b c=>Ge (60::u) u n r hs h1 (fun M nm q a b c=>Rh u w n r1 r hl hw h2 h4 q M nm a b c) q M nm a b c⟩
  ·rename_i hw
   obtain⟨⟨n,r1⟩,h2,h3⟩:=WC.1 h
   have hk:=KP h3
   obtain⟨k,n',l,x⟩:=t
   simp only[Tk.mk.injEq,true_and]at hk
   obtain⟨rfl,rfl⟩:=hk
   exact .inr ⟨rfl,fun q M nm a b c=>Gf (60::u) u n' r k l hs h1 (fun M nm q a b c=>Rk u n' r1 r k l hl hdu hw h2 h3 q M nm a b c) q M nm a b c⟩
def tN (s:ZA)(hs:s.length<=16384)(hd:(dn s).isSome=true)(h:iT s=none)(q:Nat)(M:ah)(nm:Nat)(hq:M q=some (cm s))(ho:∀ z,(M z).isSome=true->z∈[q])(hqn:q<nm) :
  Ev cx 44 nm [.ptr q 0 0] M (.tup [.agg [.int .u8 0,.str [],.nils,.str []],.int .i64 80]) [(q,none)]:=by
 cases h1:bY 60 s with
 | none =>
  unfold iT at h
  rw[h1]at h
  exact yh s hs hd h1 (by simpa using h) q M nm hq ho hqn
 | some u =>
  obtain rfl:=bG h1
  have hl:u.length<=16384:=by simp at hs;omega
  have hdu:=(cp (d:=60) ZI (a:=[]) hd rfl).2
  unfold iT at h
  rw[h1]at h
  simp only at h
  refine Bl (60::u) u hs h1 (fun M nm q a b c=>?_) q M nm hq ho hqn
  cases hw:bY 47 u with
  | some w=>exact NO u w hl hw h q M nm a b c
  | none =>
   unfold j0 at h
   rw[hw]at h
   cases h2:ep u with
   | none=>exact JR u hl hw h2 q M nm a b c
   | some p =>
    obtain⟨n,r0⟩:=p
    rw[h2]at h
    exact N1 u n r0 hl hdu hw h2 h q M nm a b c
structure LSt where
 l:List Tk
 rest:ZA
def Df (A:List Tk×Nat×Int):V:=.tup [.sl false 4 (A.1.map aY),.int .i64 A.2.1,.int .i64 A.2.2]
def Th (s:ZA)(hs:s.length<=aN)(nm:Nat):Ev cx 22 nm [.str s] ah.nil (Df (bW s)) []:=by
  have hck:=dD s hs
  by_cases hp:az s=0
  · obtain ⟨hsl,hsd⟩:=dJ.1 hp
    have hA:bW s=iQ s.length [] s:=by unfold bW;rw[if_neg (by simp[hp])]
    rw[hA]
    generalize hB:iQ s.length [] s=A
    obtain⟨L,at0,e0⟩:=A
    unfold Df
    rw[hp]at hck
    refine aG call22 func22 results22 ntmps22 ?_;intro b0 hb0 zN
    (refine xR trivial hck ?_)
    (have zF:=@am;refine fu (fun x:LSt=>x.rest.length) (fun x=>iQ s.length x.l x.rest=(L,at0,e0)/\(dn x.rest).isSome=true/\x.rest.length<=s.length/\x.l.length<=512) (b0+16) (fun x=>[(0,.str s),(2,.own (b0+1) 0 x.l.length),(6,.ptr b0 0 0)]) (fun x=>[(b0,⟨1,[[.str x.rest]]⟩),(b0+1,⟨4,x.l.map aY⟩)]) (⟨[],s⟩) [some (b0+176),none] ?_ ?_)
    · exact⟨hB,hsd,IS _,WB _⟩
    · rintro ⟨xl,xr⟩ ⟨g1,g2,g3,g4⟩
      dsimp only at g1 g2 g3 g4 ⊢
      have hnl:(xl.map aY).length=xl.length:=Lm _
      by_cases hnil:xr=[]
      · subst hnil
        rw[rB]at g1
        cases g1
        have hne:(([]:ZA) != [])=false:=by decide
        exact xP (a4 hne @ax hnl @List.take_of_length_le.{0}) trivial
      · have hne:(xr==[])=false:=by simpa using hnil
        have hw1:IntKind.i64.wrap ((s.length:Int)-(xr.length:Int))=((s.length-xr.length:Nat):Int):=by rw[aX];omega
        by_cases hm:512<=xl.length
        · have hge:decide ((512:Int)<=(xl.length:Int))=true:=bz
          have hge':decide ((xl.length:Int) ≥ (512:Int))=true:=bz
          rw[sL hnil hm]at g1
          cases g1
          cases ho:iT xr with
          | none =>
            have hone:=tN xr Y6 g2 ho
            unfold cm at hone
            (have zF:=a5 hne hw1 hge hnl @ax;repeat' first|refine wS ?_|exact wE|refine ab wM [b0] (hone b0 _ _ wM ac Y6) wM ?_|((first|apply b7|apply cM)<;>intro hb)|refine Ai Y6 ?_|(apply Ai<;>intro hb)|apply Fin.pure|simp only[aB])
          | some p =>
            obtain⟨t,r⟩:=p
            rcases tP xr r t Y6 g2 ho with ⟨ha,hone⟩|⟨ha,hone⟩
            · unfold cm at hone
              (have zF:=a5 hne hw1 hge hnl @ax;repeat' first|refine wS ?_|exact wE|refine ab wM [b0] (hone b0 _ _ wM ac Y6) wM ?_|((first|apply b7|apply cM)<;>intro hb)|refine Ai Y6 ?_|(apply Ai<;>intro hb)|apply Fin.pure|simp only[aB])
            · unfold cm at hone
              (have zF:=a6 @aD hne hw1 hge hnl @ax;repeat' first|refine wS ?_|exact wE|refine ab wM [b0] (hone b0 _ _ wM ac Y6) wM ?_|((first|apply b7|apply cM)<;>intro hb)|refine Ai Y6 ?_|(apply Ai<;>intro hb)|apply Fin.pure|simp only[aB])
        · have hge:decide ((512:Int)<=(xl.length:Int))=false:=aL
          cases ho:iT xr with
          | none =>
            rw[v3 hnil Y6 ho]at g1
            cases g1
            have hone:=tN xr Y6 g2 ho
            unfold cm at hone
            (have zF:=a5 hne hw1 hge hnl @ax;repeat' first|refine wS ?_|exact wE|refine ab wM [b0] (hone b0 _ _ wM ac Y6) wM ?_|((first|apply b7|apply cM)<;>intro hb)|refine Ai Y6 ?_|(apply Ai<;>intro hb)|apply Fin.pure|simp only[aB])
          | some p =>
            obtain⟨t,r⟩:=p
            have hlt:=A9 hnil ho
            have hnl1:(xl++[t]).length=xl.length+1:=by simp
            have hmx:xl.length<512:=Y6
            have hnx:xl.map aY++[aY t]=(xl++[t]).map aY:=by simp
            have hle:∀(k:Nat) (n x:ZA) (a:List Pr) (v:V),v.le (.sl false 2 (a.map cZ))->iP (xl.map aY++[[.int .u8 k,.str n,v,.str x]]) ((xl++[(⟨k,n,a,x⟩:Tk)]).map aY):=fun k n x a v hv=>by
              rw[WM]
              refine lu ⟨⟨V.le_refl _,V.le_refl _,hv,V.le_refl _,trivial⟩,trivial⟩
            have h16z:decide ((0:Int)>16)=false:=by decide
            rcases tP xr r t Y6 g2 ho with ⟨ha,hone⟩|⟨ha,hone⟩
            · obtain⟨k,n,l,x⟩:=t
              dsimp only at ha
              subst ha
              obtain⟨k1,k2,k3,k4,k5⟩:=Ba hnil ho g2 Y6 (WB _)
              rw[uB hnil Y6 ho (WB _)]at g1
              unfold cm at hone
              (have zF:=a6 hne hw1 hge hnl @ax h16z;repeat' first|refine wS ?_|exact wE|refine ab wM [b0] (hone b0 _ _ wM ac Y6) wM ?_|((first|apply b7|apply cM)<;>intro hb)|refine Ai Y6 ?_|(apply Ai<;>intro hb))
              all_goals ((refine Ey (⟨xl++[⟨k,n,[],x⟩],r⟩) [some b0,some (b0+624)] ?_ ?_ ?_;(focus (refine⟨?_,?_⟩<;>(try simp only[bL,kD,am,aA,ax,hnx,hnl1,aY,Lo,jF _ _ (ax _),gG _ _ (ax _),Lm,au,aH,aB,seval])<;>(try omega)))))
              all_goals (first|exact⟨g1,k2,by show r.length<=s.length;omega,by show(xl++[_]).length<=512;simp;omega⟩|(show r.length<xr.length;omega)|exact .inr (hle _ _ _ _ _ (by simp[V.le]))|exact .inr (hle _ _ _ _ _ (V.le_refl _))|skip)
            · obtain⟨k,n,l,x⟩:=t
              dsimp only at ha hone
              subst ha
              by_cases h16:16<l.length
              · rw[qv hnil Y6 ho h16]at g1
                cases g1
                have h16d:decide ((16:Int)<(l.length:Int))=true:=bz
                unfold cm at hone
                (have zF:=a7 @aD hne hw1 hge hnl @ax h16d;repeat' first|refine wS ?_|exact wE|refine ab wM [b0] (hone b0 _ _ wM ac Y6) wM ?_|((first|apply b7|apply cM)<;>intro hb)|refine Ai Y6 ?_|(apply Ai<;>intro hb)|apply Fin.pure|simp only[aB])
              · have h16d:decide ((16:Int)<(l.length:Int))=false:=aL
                obtain⟨k1,k2,k3,k4,k5⟩:=Ba hnil ho g2 Y6 (show l.length<=16 by omega)
                rw[uB hnil Y6 ho (show l.length<=16 by omega)]at g1
                unfold cm at hone
                have htp:(l.map cZ).take l.length=l.map cZ:=IN ZH
                (have zF:=a8 @aD hne hw1 hge hnl @ax @aA h16d;repeat' first|refine wS ?_|exact wE|refine ab wM [b0] (hone b0 _ _ wM ac Y6) wM ?_|((first|apply b7|apply cM)<;>intro hb)|refine Ai Y6 ?_|(apply Ai<;>intro hb))
                all_goals ((refine Ey (⟨xl++[⟨k,n,l,[]⟩],r⟩) [some b0,some (b0+624)] ?_ ?_ ?_;(focus (refine⟨?_,?_⟩<;>(try simp only[bL,kD,am,aA,ax,hnx,hnl1,htp,aY,jF _ _ (ax _),gG _ _ (ax _),Lm,au,aH,aB,seval])<;>(try omega)))))
                all_goals (first|exact⟨g1,k2,by show r.length<=s.length;omega,by show(xl++[_]).length<=512;simp;omega⟩|(show r.length<xr.length;omega)|exact .inr (hle _ _ _ _ _ (by simp[V.le]))|exact .inr (hle _ _ _ _ _ (V.le_refl _))|skip)
  · have hA:bW s=([],0,az s):=by unfold bW;rw[if_pos (by simpa using hp)]
    have hb:(az s != 0)=true:=by simpa using hp
    rw[hA]
    unfold Df
    refine aG call22 func22 results22 ntmps22 ?_;intro b0 hb0 zN
    exact xP hb hck
def EG {l:List Pr}{a:Pr}(h:a∈l):(nL a).length<=(fc l).length:=by
 unfold fc
 rw[List.length_flatMap]
 exact w9 (f:=fun x=>(nL x).length) h
def KU {l:List Tk}{t:Tk}(h:t∈l):(fk t).length<=(cP l).length:=by
 unfold cP
 rw[List.length_flatMap]
 exact w9 (f:=fun x=>(fk x).length) h
def OP {t:Tk}(ht:dy t=true){n:Nat}(hn:(fk t).length<=n):t.okTo (n+16):=by
 obtain⟨k,m,l,x⟩:=t
 unfold dy at ht
 dsimp only at ht
 unfold fk at hn
 dsimp only at hn
 have hx:=(bP false x).1
 split at ht
 ·rename_i hk
  rw[if_neg (show ¬ k=4 by omega),if_neg (show ¬ k=2 by omega)]at hn
  simp only[In,XC]at ht
  obtain⟨⟨_,h2⟩,rfl⟩:=ht
  have h16:=(gq.1 h2).1
  simp only[List.length_append,List.length_cons,List.length_nil]at hn
  refine⟨by show l.length<=n+16;omega,by show m.length<=n+16;omega,by simp,fun a ha=>?_⟩
  have h3:=EG ha
  have h4:=(bP true a.value).1
  simp only[nL,List.length_append,List.length_cons,List.length_nil]at h3
  omega
 ·split at ht
  ·rename_i hk
   subst hk
   rw[if_neg ZI,if_pos rfl]at hn
   simp only[In,XC]at ht
   obtain⟨⟨_,rfl⟩,rfl⟩:=ht
   simp only[List.length_append,List.length_cons,List.length_nil]at hn
   exact⟨by simp,by show m.length<=n+16;omega,by simp,fun a ha=>by simp at ha⟩
  ·split at ht
   ·rename_i hk
    subst hk
    rw[if_pos rfl]at hn
    simp only[In,XC]at ht
    obtain⟨⟨⟨rfl,rfl⟩,_⟩,_⟩:=ht
    exact⟨by simp,by simp,by show x.length<=n+16;omega,fun a ha=>by simp at ha⟩
   ·cases ht
def Hy {t:Tk}{a b:Nat}(h:t.okTo a)(hab:a<=b):t.okTo b:=by
 obtain⟨h1,h2,h3,h4⟩:=h
 exact⟨by omega,by omega,by omega,fun x hx=>by have:=h4 x hx;omega⟩
def Dg {s:ZA}(h:(bW s).2.2=0):∀ t∈(bW s).1,t.okTo (6*s.length+16):=by
 obtain⟨h1,_,_,_,_,h6⟩:=(Hn s).1 h
 intro t ht
 exact OP (h1 t ht) (W4 (KU ht) h6)
def D3 {t:Tk}(ht:dy t=true):t.attrs.length<=16:=by
 unfold dy at ht
 split at ht
 ·simp only[In]at ht
  exact(gq.1 ht.1.2).1
 ·split at ht
  ·simp only[In,XC]at ht
   rw[ht.1.2];simp
  ·split at ht
   ·simp only[In,XC]at ht
    rw[ht.1.1.2];simp
   ·cases ht
end Go.Proofs.YtgboofebldgdjaaGreatDoor
