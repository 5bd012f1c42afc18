/-
 Texts joined: XLc,XLd,XLe,XLf.
-/
import Derived.Test.YtcllbjanalhjgaaGreatDoorQk
namespace Go.Proofs.YtcllbjanalhjgaaGreatDoor
set_option maxRecDepth 100000
set_option maxHeartbeats 32000000
set_option linter.unusedSimpArgs false
set_option linter.unusedVariables false
open Go Go.RowKit Vm Go.Lib Tryz
open Vm renaming be→Ca,bo→Cb
open And renaming intro→Ai
open List renaming length_map→Lm,not_mem_nil→Ln,map_nil→Lo,map_cons→Lc,mem_cons→Lk
open Bool renaming not_false→Bf,not_true→Bt
def BA (o:Option Nat):Int:=match o with|some n=>n|none=>-1
theorem c6 (n:Nat):BA (some n)=n:=rfl
theorem fE:BA none = -1:=rfl
theorem mT {α:Type}{p:α→Bool} : ∀ {l:List α} {k:Nat} {x:α},(l.take k).any p=false→l[k]? = some x→p x=true→l.findIdx? p=some k
 | [],k,x,_,h,_=>by simp at h
 | y::l,0,x,_,h,hp=>by simp at h;subst h;simp[List.findIdx?_cons,hp]
 | y::l,k+1,x,hn,h,hp=>by
  simp only[List.take_succ_cons,List.any_cons,Bool.or_eq_false_iff]at hn
  rw[List.findIdx?_cons,hn.1]
  simp[mT (l:=l) (k:=k) (x:=x) hn.2 (by simpa using h) hp]
theorem j9 {α:Type}{p:α→Bool}{l:List α}(h:l.any p=false):l.findIdx? p=none:=by
 simpa [List.findIdx?_eq_none_iff] using h
theorem qQ {α:Type}{p:α→Bool}{l:List α}(h:l.findIdx? p=none):l.any p=false:=by
 simpa [List.findIdx?_eq_none_iff] using h
theorem qS {α:Type}{p:α→Bool}{l:List α}{n:Nat}(h:l.findIdx? p=some n):l.any p=true:=by
 cases ha:l.any p with
 | true=>rfl
 | false=>rw[j9 ha]at h;cases h
theorem jf {caps:List V}(h:plainL caps=true)(σ:List (Nat×Nat))(M:ao):finL σ M caps=caps:=(finL_plain σ M caps h).1
theorem gA {caps:List V}(h:plainL caps=true)(σ:List (Nat×Nat))(M:ao):finLOk σ M caps=True:=eq_true (finL_plain σ M caps h).2
theorem xX (l:List Pr)(f:Nat)(caps:List V)(p:Pr→Bool)(hf:∀ h∈l,∀ nm,Ev cx f nm (.agg (da h)::caps) ao.nil (.bool (p h)) [])(hn:l.length≤bk)(hpl:plainL caps=true)(nm:Nat):Ev cx 144 nm [.sl false 2 (l.map da),.fn f caps] ao.nil (.int .i64 (BA (l.findIdx? p))) []:=by
 unfold bk at hn
 refine ay rfl (fun cargs w=>call144 cargs w) func144 rfl mixed (by kernel_rfl) rfl ?_;intro b0 hb0
 repeat' first|simp only[am,ah,results144,ntmps144,ap,ag,seval,ae]|exact rfl|refine aa (v:=.any) ?_|((first|(refine aL (g:=?_) ?_ ?_)|(refine aH (g:=?_) ?_ ?_));rotate_left 1;(focus (simp only[results144,ntmps144,ap,ag,seval,ae]<;>exact rfl)))|((first|apply Ca|apply Cb)<;>intro hb)|refine Ai (by omega) ?_|(apply Ai<;>intro hb)
 (refine aV cm (fun x:Nat=>l.length-x) (fun x=>x≤l.length∧(l.take x).any p=false) (b0+16) (fun x=>[(0,.sl false 2 (l.map da)),(1,.fn f caps),(7,.int .i64 l.length),(8,.int .i64 x)]) (fun x=>[]) (0) [] ?_ ?_ ?_ ?_;rotate_left 1;(focus (show b0≤_;omega));(focus (refine⟨?_,?_⟩<;>(try simp only[bj,Lm,aK,jf hpl,gA hpl,ag,seval,ae,au])<;>(try omega)));rotate_left 1)
 ·exact⟨Nat.zero_le _,by simp⟩
 ·rintro k ⟨hk,hno⟩
  by_cases hlt:k<l.length
  ·obtain⟨h,hh⟩:∃ h,l[k]? = some h:=⟨_,List.getElem?_eq_getElem hlt⟩
   have hat:(l.map da)[k]? = some (da h):=by rw[List.getElem?_map,hh];rfl
   have hd:decide (k<l.length)=true:=decide_eq_true hlt
   have hwk:IntKind.i64.wrap ((k:Int)+1)=((k+1:Nat):Int):=aR (by omega) (by omega)
   have hfh:=hf h (List.mem_of_getElem? hh)
   cases hp:p h with
   | true =>
    have hfd:=mT hno hh hp
    rw[hp]at hfh
    (repeat' first|simp only[am,ah,results144,ntmps144,ap,hat,da,hlt,hd,hwk,hfd,c6,Lm,ag,seval,ae]|exact rfl|refine aa (v:=.any) ?_|refine cE (g:=f) (caps:=caps) (by simp only[results144,ntmps144,ap,hat,da,hlt,hd,hwk,hfd,c6,Lm,ag,seval,ae]<;>exact rfl) (by simp only[results144,ntmps144,ap,hat,da,hlt,hd,hwk,hfd,c6,Lm,ag,seval,ae]<;>exact rfl) (hfh _) ?_|((first|(refine aL (g:=?_) ?_ ?_)|(refine aH (g:=?_) ?_ ?_));rotate_left 1;(focus (simp only[results144,ntmps144,ap,hat,da,hlt,hd,hwk,hfd,c6,Lm,ag,seval,ae]<;>exact rfl)))|((first|apply Ca|apply Cb)<;>intro hb)|refine Ai (by omega) ?_|(apply Ai<;>intro hb)|refine Fin.pure ?_ ?_ ?_|simp only[au])
   | false =>
    have hn':=fF (p:=p) hno hh hp
    rw[hp]at hfh
    repeat' first|simp only[am,ah,results144,ntmps144,ap,hat,da,hlt,hd,hwk,Lm,ag,seval,ae]|exact rfl|refine aa (v:=.any) ?_|refine cE (g:=f) (caps:=caps) (by simp only[results144,ntmps144,ap,hat,da,hlt,hd,hwk,Lm,ag,seval,ae]<;>exact rfl) (by simp only[results144,ntmps144,ap,hat,da,hlt,hd,hwk,Lm,ag,seval,ae]<;>exact rfl) (hfh _) ?_|((first|(refine aL (g:=?_) ?_ ?_)|(refine aH (g:=?_) ?_ ?_));rotate_left 1;(focus (simp only[results144,ntmps144,ap,hat,da,hlt,hd,hwk,Lm,ag,seval,ae]<;>exact rfl)))|((first|apply Ca|apply Cb)<;>intro hb)|refine Ai (by omega) ?_|(apply Ai<;>intro hb)
    all_goals ((refine aJ cm (k+1) [] ?_ ?_ ?_ ?_;rotate_left 2;(focus (show b0≤_;omega));(focus (refine⟨?_,?_⟩<;>(try simp only[bj,aK,jf hpl,gA hpl,hwk,ag,seval,ae,au])<;>(try omega)))))
    all_goals (first|(show l.length-(k+1)<l.length-k;omega)|exact⟨hlt,hn'⟩|skip)
  ·have hke:k=l.length:=by omega
   subst hke
   rw[List.take_length]at hno
   have hfd:=j9 hno
   have hd:decide (l.length<l.length)=false:=decide_eq_false (by omega)
   (repeat' first|simp only[am,ah,results144,ntmps144,ap,hd,hfd,fE,Lm,ag,seval,ae]|exact rfl|refine aa (v:=.any) ?_|((first|(refine aL (g:=?_) ?_ ?_)|(refine aH (g:=?_) ?_ ?_));rotate_left 1;(focus (simp only[results144,ntmps144,ap,hd,hfd,fE,Lm,ag,seval,ae]<;>exact rfl)))|((first|apply Ca|apply Cb)<;>intro hb)|refine Ai (by omega) ?_|(apply Ai<;>intro hb)|refine Fin.pure ?_ ?_ ?_|simp only[au])
theorem ri (l:List Pr)(f:Nat)(caps:List V)(p:Pr→Bool)(hf:∀ h∈l,∀ nm,Ev cx f nm (.agg (da h)::caps) ao.nil (.bool (p h)) [])(hn:l.length≤bk)(hpl:plainL caps=true)(nm:Nat):Ev cx 127 nm [.sl false 2 (l.map da),.fn f caps] ao.nil (.bool (l.any p)) []:=by
 have hi:=xX l f caps p hf hn hpl
 cases h:l.findIdx? p with
 | none =>
  have ha:l.any p=false:=qQ h
  rw[h]at hi
  refine ay rfl (fun cargs w=>call127 cargs w) func127 rfl mixed (by kernel_rfl) rfl ?_;intro b0 hb0
  (repeat' first|simp only[am,ah,results127,ntmps127,ap,ha,fE,ag,seval,ae]|exact rfl|refine aa (v:=.any) ?_|(first|(refine ac ?_ (hi _) ?_)|(refine ab ?_ (fun _=>hi _) ?_))|((first|apply Ca|apply Cb)<;>intro hb)|refine Ai (by omega) ?_|(apply Ai<;>intro hb)|refine Fin.pure ?_ ?_ ?_|simp only[au])
 | some n =>
  have ha:l.any p=true:=qS h
  rw[h]at hi
  have hz:decide ((0:Int)≤(n:Int))=true:=decide_eq_true (by omega)
  refine ay rfl (fun cargs w=>call127 cargs w) func127 rfl mixed (by kernel_rfl) rfl ?_;intro b0 hb0
  (repeat' first|simp only[am,ah,results127,ntmps127,ap,ha,c6,hz,ag,seval,ae]|exact rfl|refine aa (v:=.any) ?_|(first|(refine ac ?_ (hi _) ?_)|(refine ab ?_ (fun _=>hi _) ?_))|((first|apply Ca|apply Cb)<;>intro hb)|refine Ai (by omega) ?_|(apply Ai<;>intro hb)|refine Fin.pure ?_ ?_ ?_|simp only[au])
theorem Ae (l:List Tk)(f:Nat)(caps:List V)(p:Tk→Bool)(hf:∀ h∈l,∀ nm,Ev cx f nm (.agg (cZ h)::caps) ao.nil (.bool (p h)) [])(hn:l.length≤bk)(hpl:plainL caps=true)(nm:Nat):Ev cx 126 nm [.sl false 4 (l.map cZ),.fn f caps] ao.nil (.int .i64 (BA (l.findIdx? p))) []:=by
 unfold bk at hn
 refine ay rfl (fun cargs w=>call126 cargs w) func126 rfl mixed (by kernel_rfl) rfl ?_;intro b0 hb0
 repeat' first|simp only[am,ah,results126,ntmps126,ap,ag,seval,ae]|exact rfl|refine aa (v:=.any) ?_|((first|(refine aL (g:=?_) ?_ ?_)|(refine aH (g:=?_) ?_ ?_));rotate_left 1;(focus (simp only[results126,ntmps126,ap,ag,seval,ae]<;>exact rfl)))|((first|apply Ca|apply Cb)<;>intro hb)|refine Ai (by omega) ?_|(apply Ai<;>intro hb)
 (refine aV cm (fun x:Nat=>l.length-x) (fun x=>x≤l.length∧(l.take x).any p=false) (b0+16) (fun x=>[(0,.sl false 4 (l.map cZ)),(1,.fn f caps),(7,.int .i64 l.length),(8,.int .i64 x)]) (fun x=>[]) (0) [] ?_ ?_ ?_ ?_;rotate_left 1;(focus (show b0≤_;omega));(focus (refine⟨?_,?_⟩<;>(try simp only[bj,Lm,bf,jf hpl,gA hpl,ag,seval,ae,au])<;>(try omega)));rotate_left 1)
 ·exact⟨Nat.zero_le _,by simp⟩
 ·rintro k ⟨hk,hno⟩
  by_cases hlt:k<l.length
  ·obtain⟨h,hh⟩:∃ h,l[k]? = some h:=⟨_,List.getElem?_eq_getElem hlt⟩
   have hat:(l.map cZ)[k]? = some (cZ h):=by rw[List.getElem?_map,hh];rfl
   have hd:decide (k<l.length)=true:=decide_eq_true hlt
   have hwk:IntKind.i64.wrap ((k:Int)+1)=((k+1:Nat):Int):=aR (by omega) (by omega)
   have hfh:=hf h (List.mem_of_getElem? hh)
   cases hp:p h with
   | true =>
    have hfd:=mT hno hh hp
    rw[hp]at hfh
    (repeat' first|simp only[am,ah,results126,ntmps126,ap,hat,cZ,hlt,hd,hwk,hfd,c6,Lm,ag,seval,ae]|exact rfl|refine aa (v:=.any) ?_|refine cE (g:=f) (caps:=caps) (by simp only[results126,ntmps126,ap,hat,cZ,hlt,hd,hwk,hfd,c6,Lm,ag,seval,ae]<;>exact rfl) (by simp only[results126,ntmps126,ap,hat,cZ,hlt,hd,hwk,hfd,c6,Lm,ag,seval,ae]<;>exact rfl) (hfh _) ?_|((first|(refine aL (g:=?_) ?_ ?_)|(refine aH (g:=?_) ?_ ?_));rotate_left 1;(focus (simp only[results126,ntmps126,ap,hat,cZ,hlt,hd,hwk,hfd,c6,Lm,ag,seval,ae]<;>exact rfl)))|((first|apply Ca|apply Cb)<;>intro hb)|refine Ai (by omega) ?_|(apply Ai<;>intro hb)|refine Fin.pure ?_ ?_ ?_|simp only[au])
   | false =>
    have hn':=fF (p:=p) hno hh hp
    rw[hp]at hfh
    repeat' first|simp only[am,ah,results126,ntmps126,ap,hat,cZ,hlt,hd,hwk,Lm,ag,seval,ae]|exact rfl|refine aa (v:=.any) ?_|refine cE (g:=f) (caps:=caps) (by simp only[results126,ntmps126,ap,hat,cZ,hlt,hd,hwk,Lm,ag,seval,ae]<;>exact rfl) (by simp only[results126,ntmps126,ap,hat,cZ,hlt,hd,hwk,Lm,ag,seval,ae]<;>exact rfl) (hfh _) ?_|((first|(refine aL (g:=?_) ?_ ?_)|(refine aH (g:=?_) ?_ ?_));rotate_left 1;(focus (simp only[results126,ntmps126,ap,hat,cZ,hlt,hd,hwk,Lm,ag,seval,ae]<;>exact rfl)))|((first|apply Ca|apply Cb)<;>intro hb)|refine Ai (by omega) ?_|(apply Ai<;>intro hb)
    all_goals ((refine aJ cm (k+1) [] ?_ ?_ ?_ ?_;rotate_left 2;(focus (show b0≤_;omega));(focus (refine⟨?_,?_⟩<;>(try simp only[bj,bf,jf hpl,gA hpl,hwk,ag,seval,ae,au])<;>(try omega)))))
    all_goals (first|(show l.length-(k+1)<l.length-k;omega)|exact⟨hlt,hn'⟩|skip)
  ·have hke:k=l.length:=by omega
   subst hke
   rw[List.take_length]at hno
   have hfd:=j9 hno
   have hd:decide (l.length<l.length)=false:=decide_eq_false (by omega)
   (repeat' first|simp only[am,ah,results126,ntmps126,ap,hd,hfd,fE,Lm,ag,seval,ae]|exact rfl|refine aa (v:=.any) ?_|((first|(refine aL (g:=?_) ?_ ?_)|(refine aH (g:=?_) ?_ ?_));rotate_left 1;(focus (simp only[results126,ntmps126,ap,hd,hfd,fE,Lm,ag,seval,ae]<;>exact rfl)))|((first|apply Ca|apply Cb)<;>intro hb)|refine Ai (by omega) ?_|(apply Ai<;>intro hb)|refine Fin.pure ?_ ?_ ?_|simp only[au])
theorem ta (l:List Tk)(f:Nat)(caps:List V)(p:Tk→Bool)(hf:∀ h∈l,∀ nm,Ev cx f nm (.agg (cZ h)::caps) ao.nil (.bool (p h)) [])(hn:l.length≤bk)(hpl:plainL caps=true)(nm:Nat):Ev cx 102 nm [.sl false 4 (l.map cZ),.fn f caps] ao.nil (.bool (l.any p)) []:=by
 have hi:=Ae l f caps p hf hn hpl
 cases h:l.findIdx? p with
 | none =>
  have ha:l.any p=false:=qQ h
  rw[h]at hi
  refine ay rfl (fun cargs w=>call102 cargs w) func102 rfl mixed (by kernel_rfl) rfl ?_;intro b0 hb0
  (repeat' first|simp only[am,ah,results102,ntmps102,ap,ha,fE,ag,seval,ae]|exact rfl|refine aa (v:=.any) ?_|(first|(refine ac ?_ (hi _) ?_)|(refine ab ?_ (fun _=>hi _) ?_))|((first|apply Ca|apply Cb)<;>intro hb)|refine Ai (by omega) ?_|(apply Ai<;>intro hb)|refine Fin.pure ?_ ?_ ?_|simp only[au])
 | some n =>
  have ha:l.any p=true:=qS h
  rw[h]at hi
  have hz:decide ((0:Int)≤(n:Int))=true:=decide_eq_true (by omega)
  refine ay rfl (fun cargs w=>call102 cargs w) func102 rfl mixed (by kernel_rfl) rfl ?_;intro b0 hb0
  (repeat' first|simp only[am,ah,results102,ntmps102,ap,ha,c6,hz,ag,seval,ae]|exact rfl|refine aa (v:=.any) ?_|(first|(refine ac ?_ (hi _) ?_)|(refine ab ?_ (fun _=>hi _) ?_))|((first|apply Ca|apply Cb)<;>intro hb)|refine Ai (by omega) ?_|(apply Ai<;>intro hb)|refine Fin.pure ?_ ?_ ?_|simp only[au])
theorem CA (a b:Pr)(nm:Nat):Ev cx 128 nm [.agg (da b),.rp (da a)] ao.nil (.bool (a.name==b.name)) []:=by
 refine ay rfl (fun cargs w=>call128 cargs w) func128 rfl mixed (by kernel_rfl) rfl ?_;intro b0 hb0
 (repeat' first|simp only[am,ah,results128,ntmps128,ap,da,ag,seval,ae]|exact rfl|refine aa (v:=.any) ?_|((first|apply Ca|apply Cb)<;>intro hb)|refine Ai (by omega) ?_|(apply Ai<;>intro hb)|refine Fin.pure ?_ ?_ ?_|simp only[au])
def Tk.okTo (t:Tk)(l:Nat):Prop:=t.attrs.length≤l∧t.name.length≤l∧t.text.length≤l ∧ ∀ a∈t.attrs,a.name.length≤l∧a.value.length≤l
theorem uX (n:Nat):(n=1)∨(n=3)∨(n=2)∨(n=4)∨(n≠1∧n≠3∧n≠2∧n≠4):=by omega
theorem ji {α:Type}[BEq α](l:List α):(l==[])=l.isEmpty:=by cases l<;>rfl
theorem lv {α:Type}(l:List α):((l.length:Int)==0)=l.isEmpty:=by
 cases l with
 | nil=>rfl
 | cons a l=>simp only[List.length_cons,List.isEmpty_cons];exact beq_false_of_ne (by omega)
theorem zf {l:List Pr}(h:16<l.length):iw l=false:=by
 cases ha:iw l with
 | false=>rfl
 | true=>have:=(ik.1 ha).1;omega
def ln (t:Tk):Bool :=
 (if t.kind=1∨t.kind=3 then b8 t.name&&t.text.isEmpty
 else if t.kind=2 then b8 t.name&&t.attrs.isEmpty&&t.text.isEmpty
 else if t.kind=4 then t.name.isEmpty&&t.attrs.isEmpty && !t.text.isEmpty&&decide (aO t.text=0)
 else false)&&decide (t.attrs.length≤16)
theorem Hi (t:Tk):gn t=(ln t&&iw t.attrs):=by
 unfold gn ln
 by_cases hl:t.attrs.length≤16
 ·simp only[hl,decide_true,Bool.and_true]
  by_cases h1:t.kind=1∨t.kind=3
  ·simp only[h1,if_true]
   cases b8 t.name<;>cases t.text.isEmpty<;>simp
  ·simp only[h1,if_false]
   have hnil:t.attrs.isEmpty=true→iw t.attrs=true:=fun h=>by
    rw[List.isEmpty_iff]at h;rw[h];rfl
   by_cases h2:t.kind=2
   ·simp only[h2,if_true]
    cases he:t.attrs.isEmpty with
    | false=>simp
    | true=>simp[hnil he]
   ·simp only[h2,if_false]
    by_cases h4:t.kind=4
    ·simp only[h4,if_true]
     cases he:t.attrs.isEmpty with
     | false=>simp
     | true=>simp[hnil he]
    ·simp only[h4,if_false,Bool.false_and]
 ·have hf:=zf (by omega:16<t.attrs.length)
  simp only[hl,decide_false,Bool.and_false,Bool.false_and,hf]
  split
  ·rfl
  ·split
   ·have:t.attrs.isEmpty=false:=by cases h:t.attrs with|nil=>rw[h]at hl;simp at hl|cons a b=>rfl
    simp[this]
   ·split
    ·have:t.attrs.isEmpty=false:=by cases h:t.attrs with|nil=>rw[h]at hl;simp at hl|cons a b=>rfl
     simp[this]
    ·rfl
theorem nB:∀ k1 k3 k2 k4 e n x f g z:Bool,((k1=true∧k3=false∧k2=false∧k4=false)∨(k1=false∧k3=true∧k2=false∧k4=false)∨(k1=false∧k3=false∧k2=true∧k4=false)∨(k1=false∧k3=false∧k2=false∧k4=true)∨(k1=false∧k3=false∧k2=false∧k4=false)) →
  (k1=true∧k3=false∧k2=false∧k4=false∧f=false)∨(k1=true∧k3=false∧k2=false∧k4=false∧f=true∧x=false)∨(k1=true∧k3=false∧k2=false∧k4=false∧f=true∧x=true∧g=true)∨(k1=true∧k3=false∧k2=false∧k4=false∧f=true∧x=true∧g=false∧z=true)∨(k1=true∧k3=false∧k2=false∧k4=false∧f=true∧x=true∧g=false∧z=false)∨(k1=false∧k3=true∧k2=false∧k4=false∧f=false)∨(k1=false∧k3=true∧k2=false∧k4=false∧f=true∧x=false)∨(k1=false∧k3=true∧k2=false∧k4=false∧f=true∧x=true∧g=true)∨(k1=false∧k3=true∧k2=false∧k4=false∧f=true∧x=true∧g=false∧z=true)∨(k1=false∧k3=true∧k2=false∧k4=false∧f=true∧x=true∧g=false∧z=false)∨(k1=false∧k3=false∧k2=true∧k4=false∧e=false)∨(k1=false∧k3=false∧k2=true∧k4=false∧e=true∧f=false)∨(k1=false∧k3=false∧k2=true∧k4=false∧e=true∧f=true∧x=false)∨(k1=false∧k3=false∧k2=true∧k4=false∧e=true∧f=true∧x=true∧g=true)∨(k1=false∧k3=false∧k2=true∧k4=false∧e=true∧f=true∧x=true∧g=false∧z=true)∨(k1=false∧k3=false∧k2=true∧k4=false∧e=true∧f=true∧x=true∧g=false∧z=false)∨(k1=false∧k3=false∧k2=false∧k4=true∧n=false)∨(k1=false∧k3=false∧k2=false∧k4=true∧n=true∧e=false)∨(k1=false∧k3=false∧k2=false∧k4=true∧n=true∧e=true∧x=true)∨(k1=false∧k3=false∧k2=false∧k4=true∧n=true∧e=true∧x=false∧g=true)∨(k1=false∧k3=false∧k2=false∧k4=true∧n=true∧e=true∧x=false∧g=false∧z=true)∨(k1=false∧k3=false∧k2=false∧k4=true∧n=true∧e=true∧x=false∧g=false∧z=false)∨(k1=false∧k3=false∧k2=false∧k4=false):=by
 intro k1 k3 k2 k4 e n x f g z h
 rcases h with ⟨rfl,rfl,rfl,rfl⟩|⟨rfl,rfl,rfl,rfl⟩|⟨rfl,rfl,rfl,rfl⟩|⟨rfl,rfl,rfl,rfl⟩|⟨rfl,rfl,rfl,rfl⟩<;>cases e<;>cases n<;>cases x<;>cases f<;>cases g<;>cases z<;>simp
theorem r8 (n:Nat):((((n:Int)==1)=true∧((n:Int)==3)=false∧((n:Int)==2)=false∧((n:Int)==4)=false∧n=1)∨(((n:Int)==1)=false∧((n:Int)==3)=true∧((n:Int)==2)=false∧((n:Int)==4)=false∧n=3)∨(((n:Int)==1)=false∧((n:Int)==3)=false∧((n:Int)==2)=true∧((n:Int)==4)=false∧n=2) ∨
  (((n:Int)==1)=false∧((n:Int)==3)=false∧((n:Int)==2)=false∧((n:Int)==4)=true∧n=4)∨(((n:Int)==1)=false∧((n:Int)==3)=false∧((n:Int)==2)=false∧((n:Int)==4)=false∧n≠1∧n≠3∧n≠2∧n≠4)):=by
 rcases uX n with rfl|rfl|rfl|rfl|⟨h1,h3,h2,h4⟩
 ·left;exact⟨rfl,rfl,rfl,rfl,rfl⟩
 ·right;left;exact⟨rfl,rfl,rfl,rfl,rfl⟩
 ·right;right;left;exact⟨rfl,rfl,rfl,rfl,rfl⟩
 ·right;right;right;left;exact⟨rfl,rfl,rfl,rfl,rfl⟩
 ·right;right;right;right
  exact⟨beq_false_of_ne (by omega),beq_false_of_ne (by omega),beq_false_of_ne (by omega),beq_false_of_ne (by omega),h1,h3,h2,h4⟩
theorem rZ (t:Tk):ln t=(((((t.kind:Int)==1||(t.kind:Int)==3)&&b8 t.name&&t.text.isEmpty)||((t.kind:Int)==2&&b8 t.name&&t.attrs.isEmpty&&t.text.isEmpty)||((t.kind:Int)==4&&t.name.isEmpty&&t.attrs.isEmpty && !t.text.isEmpty && !(aO t.text != 0))) && !decide (16<t.attrs.length)):=by
 have hz:decide (aO t.text=0) = !(aO t.text != 0):=by rw[Bool.eq_iff_iff];simp
 have hg:decide (t.attrs.length≤16) = !decide (16<t.attrs.length):=by rw[Bool.eq_iff_iff];simp
 unfold ln
 rw[hz,hg]
 rcases r8 t.kind with ⟨q1,q3,q2,q4,hk⟩|⟨q1,q3,q2,q4,hk⟩|⟨q1,q3,q2,q4,hk⟩|⟨q1,q3,q2,q4,hk⟩|⟨q1,q3,q2,q4,hk,hk3,hk2,hk4⟩
 ·rw[q1,q3,q2,q4];simp[hk]
 ·rw[q1,q3,q2,q4];simp[hk]
 ·rw[q1,q3,q2,q4];simp[hk]
 ·rw[q1,q3,q2,q4];simp[hk]
 ·rw[q1,q3,q2,q4];simp[hk,hk3,hk2,hk4]
theorem uw (n:Nat):((((n:Int)==1)=true∧((n:Int)==3)=false∧((n:Int)==2)=false∧((n:Int)==4)=false)∨(((n:Int)==1)=false∧((n:Int)==3)=true∧((n:Int)==2)=false∧((n:Int)==4)=false)∨(((n:Int)==1)=false∧((n:Int)==3)=false∧((n:Int)==2)=true∧((n:Int)==4)=false) ∨
  (((n:Int)==1)=false∧((n:Int)==3)=false∧((n:Int)==2)=false∧((n:Int)==4)=true)∨(((n:Int)==1)=false∧((n:Int)==3)=false∧((n:Int)==2)=false∧((n:Int)==4)=false)):=by
 rcases r8 n with h|h|h|h|h<;>simp[h]
theorem CC (t:Tk)(h:t.okTo bk)(ho:ln t=false)(nm:Nat):Ev cx 104 nm [.agg (cZ t)] ao.nil (.int .i64 8) []:=by
 obtain⟨hl,hnl,htl,hal⟩:=h
 have hee:((t.attrs.length:Int)==0)=t.attrs.isEmpty:=lv _
 have hne:=ji t.name
 have hxe:=ji t.text
 have hge:decide ((16:Int)<(t.attrs.length:Int))=decide (16<t.attrs.length):=by
  rw[Bool.eq_iff_iff];simp;omega
 have hfull:=ia t.name hnl
 have hchk:=cP t.text htl
 rw[rZ]at ho
 have hex:=uw t.kind
 generalize h1:((t.kind:Int)==1)=k1 at ho hex
 generalize h3:((t.kind:Int)==3)=k3 at ho hex
 generalize h2:((t.kind:Int)==2)=k2 at ho hex
 generalize h4:((t.kind:Int)==4)=k4 at ho hex
 generalize he:t.attrs.isEmpty=e at ho hee
 generalize hn:t.name.isEmpty=n at ho hne
 have hxb:(t.text != []) = !t.text.isEmpty:=congrArg not hxe
 generalize hx:t.text.isEmpty=x at ho hxe hxb
 generalize hf:b8 t.name=f at ho hfull
 generalize hg:decide (16<t.attrs.length)=g at ho hge
 generalize hz:(aO t.text != 0)=z at ho
 rcases nB k1 k3 k2 k4 e n x f g z hex with ⟨rfl,rfl,rfl,rfl,rfl⟩|⟨rfl,rfl,rfl,rfl,rfl,rfl⟩|⟨rfl,rfl,rfl,rfl,rfl,rfl,rfl⟩|⟨rfl,rfl,rfl,rfl,rfl,rfl,rfl,rfl⟩|⟨rfl,rfl,rfl,rfl,rfl,rfl,rfl,rfl⟩|⟨rfl,rfl,rfl,rfl,rfl⟩|⟨rfl,rfl,rfl,rfl,rfl,rfl⟩|⟨rfl,rfl,rfl,rfl,rfl,rfl,rfl⟩|⟨rfl,rfl,rfl,rfl,rfl,rfl,rfl,rfl⟩|⟨rfl,rfl,rfl,rfl,rfl,rfl,rfl,rfl⟩|⟨rfl,rfl,rfl,rfl,rfl⟩|⟨rfl,rfl,rfl,rfl,rfl,rfl⟩|⟨rfl,rfl,rfl,rfl,rfl,rfl,rfl⟩|⟨rfl,rfl,rfl,rfl,rfl,rfl,rfl,rfl⟩|⟨rfl,rfl,rfl,rfl,rfl,rfl,rfl,rfl,rfl⟩|⟨rfl,rfl,rfl,rfl,rfl,rfl,rfl,rfl,rfl⟩|⟨rfl,rfl,rfl,rfl,rfl⟩|⟨rfl,rfl,rfl,rfl,rfl,rfl⟩|⟨rfl,rfl,rfl,rfl,rfl,rfl,rfl⟩|⟨rfl,rfl,rfl,rfl,rfl,rfl,rfl,rfl⟩|⟨rfl,rfl,rfl,rfl,rfl,rfl,rfl,rfl,rfl⟩|⟨rfl,rfl,rfl,rfl,rfl,rfl,rfl,rfl,rfl⟩|⟨rfl,rfl,rfl,rfl⟩
 all_goals (try (exfalso;simp at ho;done))
 all_goals (
  refine ay rfl (fun cargs w=>call104 cargs w) func104 rfl mixed (by kernel_rfl) rfl ?_;intro b0 hb0
  (repeat' first|simp only[am,ah,results104,ntmps104,ap,cZ,hee,hne,hxe,hxb,Bt,Bf,hge,hz,h1,h2,h3,h4,Lm,ag,seval,ae]|exact rfl|refine aa (v:=.any) ?_|(first|(refine ac ?_ (hfull _) ?_)|(refine ab ?_ (fun _=>hfull _) ?_)|(refine ac ?_ (hchk _) ?_)|(refine ab ?_ (fun _=>hchk _) ?_))|(refine aa (v:=.any) ?_)|((first|apply Ca|apply Cb)<;>intro hb)|refine Ai (by omega) ?_|(apply Ai<;>intro hb)|refine Fin.pure ?_ ?_ ?_|simp only[au]))
theorem mc (a b c:V)(l:List Pr):plainLL [[a,b,.sl false 2 (l.map da),c]]=(a.plain&&(b.plain&&c.plain)):=by simp[plainLL,plainL,V.plain,aK]
theorem zk (t:Tk)(h:t.okTo bk)(ho:ln t=true)(nm:Nat):Ev cx 104 nm [.agg (cZ t)] ao.nil (.int .i64 (if iw t.attrs=true then 0 else 8)) []:=by
 obtain⟨hl,hnl,htl,hal⟩:=h
 have hl':=hl
 unfold bk at hl'
 have h16:t.attrs.length≤16:=by
  unfold ln at ho
  simp only[Bool.and_eq_true,decide_eq_true_eq]at ho
  exact ho.2
 have hee:((t.attrs.length:Int)==0)=t.attrs.isEmpty:=lv _
 have hne:=ji t.name
 have hxe:=ji t.text
 have hge:decide ((16:Int)<(t.attrs.length:Int))=decide (16<t.attrs.length):=by
  rw[Bool.eq_iff_iff];simp;omega
 have hfull:=ia t.name hnl
 have hchk:=cP t.text htl
 rw[rZ]at ho
 have hex:=uw t.kind
 generalize h1:((t.kind:Int)==1)=k1 at ho hex
 generalize h3:((t.kind:Int)==3)=k3 at ho hex
 generalize h2:((t.kind:Int)==2)=k2 at ho hex
 generalize h4:((t.kind:Int)==4)=k4 at ho hex
 generalize he:t.attrs.isEmpty=e at ho hee
 generalize hn:t.name.isEmpty=n at ho hne
 have hxb:(t.text != []) = !t.text.isEmpty:=congrArg not hxe
 have hxz:t.text.isEmpty=true→(aO t.text != 0)=false:=fun h=>by rw[List.isEmpty_iff.1 h];rfl
 generalize hx:t.text.isEmpty=x at ho hxe hxb hxz
 generalize hf:b8 t.name=f at ho hfull
 generalize hg:decide (16<t.attrs.length)=g at ho hge
 generalize hz:(aO t.text != 0)=z at ho hxz
 rcases nB k1 k3 k2 k4 e n x f g z hex with ⟨rfl,rfl,rfl,rfl,rfl⟩|⟨rfl,rfl,rfl,rfl,rfl,rfl⟩|⟨rfl,rfl,rfl,rfl,rfl,rfl,rfl⟩|⟨rfl,rfl,rfl,rfl,rfl,rfl,rfl,rfl⟩|⟨rfl,rfl,rfl,rfl,rfl,rfl,rfl,rfl⟩|⟨rfl,rfl,rfl,rfl,rfl⟩|⟨rfl,rfl,rfl,rfl,rfl,rfl⟩|⟨rfl,rfl,rfl,rfl,rfl,rfl,rfl⟩|⟨rfl,rfl,rfl,rfl,rfl,rfl,rfl,rfl⟩|⟨rfl,rfl,rfl,rfl,rfl,rfl,rfl,rfl⟩|⟨rfl,rfl,rfl,rfl,rfl⟩|⟨rfl,rfl,rfl,rfl,rfl,rfl⟩|⟨rfl,rfl,rfl,rfl,rfl,rfl,rfl⟩|⟨rfl,rfl,rfl,rfl,rfl,rfl,rfl,rfl⟩|⟨rfl,rfl,rfl,rfl,rfl,rfl,rfl,rfl,rfl⟩|⟨rfl,rfl,rfl,rfl,rfl,rfl,rfl,rfl,rfl⟩|⟨rfl,rfl,rfl,rfl,rfl⟩|⟨rfl,rfl,rfl,rfl,rfl,rfl⟩|⟨rfl,rfl,rfl,rfl,rfl,rfl,rfl⟩|⟨rfl,rfl,rfl,rfl,rfl,rfl,rfl,rfl⟩|⟨rfl,rfl,rfl,rfl,rfl,rfl,rfl,rfl,rfl⟩|⟨rfl,rfl,rfl,rfl,rfl,rfl,rfl,rfl,rfl⟩|⟨rfl,rfl,rfl,rfl⟩
 all_goals (try (exfalso;simp at ho;done))
 all_goals (try (exfalso;exact absurd (hxz rfl) (by decide)))
 all_goals (
  refine ay rfl (fun cargs w=>call104 cargs w) func104 rfl mixed (by kernel_rfl) rfl ?_;intro b0 hb0
  repeat' first|simp only[am,ah,results104,ntmps104,ap,cZ,hee,hne,hxe,hxb,Bt,Bf,hge,hz,h1,h2,h3,h4,Lm,ag,seval,ae]|exact rfl|refine aa (v:=.any) ?_|(first|(refine ac ?_ (hfull _) ?_)|(refine ab ?_ (fun _=>hfull _) ?_)|(refine ac ?_ (hchk _) ?_)|(refine ab ?_ (fun _=>hchk _) ?_))|(refine aa (v:=.any) ?_)|((first|apply Ca|apply Cb)<;>intro hb)|refine Ai (by omega) ?_|(apply Ai<;>intro hb))
 all_goals (
  (refine aV cm (fun x:Nat=>t.attrs.length-x) (fun x=>x≤t.attrs.length∧hO t.attrs x) (b0+16) (fun x=>[(1,.ptr b0 0 0),(76,.sl false 2 (t.attrs.map da)),(77,.int .i64 t.attrs.length),(78,.int .i64 x)]) (fun x=>[(b0,⟨4,[cZ t]⟩)]) (0) [some b0] ?_ ?_ ?_ ?_;rotate_left 1;(focus (show b0≤_;omega));(focus (refine⟨?_,?_⟩<;>(try simp only[bj,aK,mc,cZ,Lm,ag,seval,ae,au])<;>(try omega)));rotate_left 1))
 all_goals (first|exact⟨Nat.zero_le _,fun i a hi=>by omega⟩|skip)
 all_goals (
  rintro k ⟨hk,hn⟩
  by_cases hlt:k<t.attrs.length
  ·obtain⟨a,ha⟩:∃ a,t.attrs[k]? = some a:=⟨_,List.getElem?_eq_getElem hlt⟩
   obtain⟨hs1,hs2⟩:=hal a (List.mem_of_getElem? ha)
   have hat:=J3 ha
   have hd:decide (k<t.attrs.length)=true:=decide_eq_true hlt
   have hwk:IntKind.i64.wrap ((k:Int)+1)=((k+1:Nat):Int):=aR (by omega) (by omega)
   have hki:(k:Int)≤(t.attrs.length:Int):=by omega
   have htk:(t.attrs.map da).take k=(t.attrs.take k).map da:=by rw[List.map_take]
   have hlen:(t.attrs.take k).length≤bk:=by rw[List.length_take];unfold bk;omega
   have hf2:=ia a.name hs1
   have hc2:=cP a.value hs2
   have hh2:=ri (t.attrs.take k) 128 [.rp (da a)] (fun b=>a.name==b.name) (fun b _ nm=>CA a b nm) hlen rfl
   have hok:LI (t.attrs.take k) a=(!((t.attrs.take k).any fun b=>a.name==b.name)&&b8 a.name&&decide (aO a.value=0)):=rfl
   have hz2:decide (aO a.value=0) = !(aO a.value != 0):=by rw[Bool.eq_iff_iff];simp
   rw[hz2]at hok
   generalize hb1:((t.attrs.take k).any fun b=>a.name==b.name)=b1 at hh2 hok
   generalize hb2:b8 a.name=b2 at hf2 hok
   generalize hb3:(aO a.value != 0)=b3 at hok
   cases ho2:LI (t.attrs.take k) a with
   | false =>
    have hr:=wP ha ho2
    rw[ho2]at hok
    cases b1<;>cases b2<;>cases b3
    all_goals (try (exfalso;simp at hok;done))
    all_goals ((repeat' first|simp only[am,ah,results104,ntmps104,ap,aK,cZ,hat,da,hd,hlt,hk,hki,htk,hb3,hr,Bt,Bf,Lm,Nat.zero_add,ag,seval,ae]|exact rfl|refine aa (v:=.any) ?_|(first|(refine ac ?_ (hf2 _) ?_)|(refine ab ?_ (fun _=>hf2 _) ?_)|(refine ac ?_ (hc2 _) ?_)|(refine ab ?_ (fun _=>hc2 _) ?_))|((refine bn (xs:=?_) [b0+80] ?_ ?_ ?_ rfl (hh2 _) ?_);rotate_left 1)|(refine aa (v:=.any) ?_)|omega|((first|apply Ca|apply Cb)<;>intro hb)|refine Ai (by omega) ?_|(apply Ai<;>intro hb)|refine Fin.pure ?_ ?_ ?_|simp only[au]))
   | true =>
    have hn':=vb hn ha ho2
    rw[ho2]at hok
    cases b1<;>cases b2<;>cases b3
    all_goals (try (exfalso;simp at hok;done))
    all_goals (repeat' first|simp only[am,ah,results104,ntmps104,ap,aK,cZ,hat,da,hd,hlt,hk,hki,htk,hb3,hwk,Bt,Bf,Lm,Nat.zero_add,ag,seval,ae]|exact rfl|refine aa (v:=.any) ?_|(first|(refine ac ?_ (hf2 _) ?_)|(refine ab ?_ (fun _=>hf2 _) ?_)|(refine ac ?_ (hc2 _) ?_)|(refine ab ?_ (fun _=>hc2 _) ?_))|((refine bn (xs:=?_) [b0+80] ?_ ?_ ?_ rfl (hh2 _) ?_);rotate_left 1)|omega|((first|apply Ca|apply Cb)<;>intro hb)|refine Ai (by omega) ?_|(apply Ai<;>intro hb))
    all_goals ((refine aJ cm (k+1) [some b0] ?_ ?_ ?_ ?_;rotate_left 2;(focus (show b0≤_;omega));(focus (refine⟨?_,?_⟩<;>(try simp only[bj,aK,mc,cZ,hwk,ag,seval,ae,au])<;>(try omega)))))
    all_goals (first|(show t.attrs.length-(k+1)<t.attrs.length-k;omega)|exact⟨hlt,hn'⟩|skip)
  ·have hke:k=t.attrs.length:=by omega
   subst hke
   have hd:decide (t.attrs.length<t.attrs.length)=false:=decide_eq_false (by omega)
   have hr:iw t.attrs=true:=ik.2 ⟨h16,hn⟩
   (repeat' first|simp only[am,ah,results104,ntmps104,ap,hd,hr,Lm,ag,seval,ae]|exact rfl|refine aa (v:=.any) ?_|((first|apply Ca|apply Cb)<;>intro hb)|refine Ai (by omega) ?_|(apply Ai<;>intro hb)|refine Fin.pure ?_ ?_ ?_|simp only[au]))
theorem E7 (t:Tk)(h:t.okTo bk)(nm:Nat):Ev cx 104 nm [.agg (cZ t)] ao.nil (.int .i64 (LR t)) []:=by
 unfold LR
 rw[Hi]
 cases ho:ln t with
 | false=>exact CC t h ho nm
 | true =>
  have:=zk t h ho nm
  simpa using this
end Go.Proofs.YtcllbjanalhjgaaGreatDoor
