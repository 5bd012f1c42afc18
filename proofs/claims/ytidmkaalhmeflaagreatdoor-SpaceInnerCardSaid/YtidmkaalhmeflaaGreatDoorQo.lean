/-
 Texts joined: XLc,XLd,XLe,XLf.
-/
import Derived.Test.YtidmkaalhmeflaaGreatDoorQk
namespace Go.Proofs.YtidmkaalhmeflaaGreatDoor
set_option maxRecDepth 100000
set_option maxHeartbeats 32000000
set_option linter.unusedSimpArgs false
set_option linter.unusedVariables false
open Go Go.RowKit Vm Go.Lib Tryz
open Vm renaming aZ→Ca,bj→Cb
open And renaming intro→Ai
open List renaming length_map→Lm,not_mem_nil→Ln,map_nil→Lo,map_cons→Lc,mem_cons→Lk
open Bool renaming not_false→Bf,not_true→Bt
def Cd (o:Option Nat):Int:=match o with|some n=>n|none=>-1
theorem db (n:Nat):Cd (some n)=n:=rfl
theorem fX:Cd none = -1:=rfl
theorem nY {α:Type}{p:α→Bool} : ∀ {l:List α} {k:Nat} {x:α},(l.take k).any p=false→l[k]? = some x→p x=true→l.findIdx? p=some k
 | [],k,x,_,h,_=>by simp at h
 | y::l,0,x,_,h,hp=>by simp at h;subst h;simp[List.findIdx?_cons,hp]
 | y::l,k+1,x,hn,h,hp=>by
  simp only[List.take_succ_cons,List.any_cons,Bool.or_eq_false_iff]at hn
  rw[List.findIdx?_cons,hn.1]
  simp[nY (l:=l) (k:=k) (x:=x) hn.2 (by simpa using h) hp]
theorem kF {α:Type}{p:α→Bool}{l:List α}(h:l.any p=false):l.findIdx? p=none:=by
 simpa [List.findIdx?_eq_none_iff] using h
theorem tc {α:Type}{p:α→Bool}{l:List α}(h:l.findIdx? p=none):l.any p=false:=by
 simpa [List.findIdx?_eq_none_iff] using h
theorem sY {α:Type}{p:α→Bool}{l:List α}{n:Nat}(h:l.findIdx? p=some n):l.any p=true:=by
 cases ha:l.any p with
 | true=>rfl
 | false=>rw[kF ha]at h;cases h
theorem jx {caps:List V}(h:plainL caps=true)(σ:List (Nat×Nat))(M:aq):finL σ M caps=caps:=(finL_plain σ M caps h).1
theorem gY {caps:List V}(h:plainL caps=true)(σ:List (Nat×Nat))(M:aq):finLOk σ M caps=True:=eq_true (finL_plain σ M caps h).2
theorem zP (l:List Pr)(f:Nat)(caps:List V)(p:Pr→Bool)(hf:∀ h∈l,∀ nm,Ev cx f nm (.agg (dj h)::caps) aq.nil (.bool (p h)) [])(hn:l.length≤bh)(hpl:plainL caps=true)(nm:Nat):Ev cx 210 nm [.sl false 2 (l.map dj),.fn f caps] aq.nil (.int .i64 (Cd (l.findIdx? p))) []:=by
 unfold bh at hn
 refine ay rfl (fun cargs w=>call210 cargs w) func210 rfl mixed (by kernel_rfl) rfl ?_;intro b0 hb0
 repeat' first|simp only[al,aj,results210,ntmps210,am,ai,seval,ah]|exact rfl|refine aa (v:=.any) ?_|((first|(refine aM (g:=?_) ?_ ?_)|(refine aI (g:=?_) ?_ ?_));rotate_left 1;(focus (simp only[results210,ntmps210,am,ai,seval,ah]<;>exact rfl)))|((first|apply Ca|apply Cb)<;>intro hb)|refine Ai (by omega) ?_|(apply Ai<;>intro hb)
 (refine aU co (fun x:Nat=>l.length-x) (fun x=>x≤l.length∧(l.take x).any p=false) (b0+16) (fun x=>[(0,.sl false 2 (l.map dj)),(1,.fn f caps),(7,.int .i64 l.length),(8,.int .i64 x)]) (fun x=>[]) (0) [] ?_ ?_ ?_ ?_;rotate_left 1;(focus (show b0≤_;omega));(focus (refine⟨?_,?_⟩<;>(try simp only[bk,Lm,aL,jx hpl,gY hpl,ai,seval,ah,au])<;>(try omega)));rotate_left 1)
 ·exact⟨Nat.zero_le _,by simp⟩
 ·rintro k ⟨hk,hno⟩
  by_cases hlt:k<l.length
  ·obtain⟨h,hh⟩:∃ h,l[k]? = some h:=⟨_,List.getElem?_eq_getElem hlt⟩
   have hat:(l.map dj)[k]? = some (dj h):=by rw[List.getElem?_map,hh];rfl
   have hd:decide (k<l.length)=true:=decide_eq_true hlt
   have hwk:IntKind.i64.wrap ((k:Int)+1)=((k+1:Nat):Int):=aN (by omega) (by omega)
   have hfh:=hf h (List.mem_of_getElem? hh)
   cases hp:p h with
   | true =>
    have hfd:=nY hno hh hp
    rw[hp]at hfh
    (repeat' first|simp only[al,aj,results210,ntmps210,am,hat,dj,hlt,hd,hwk,hfd,db,Lm,ai,seval,ah]|exact rfl|refine aa (v:=.any) ?_|refine cL (g:=f) (caps:=caps) (by simp only[results210,ntmps210,am,hat,dj,hlt,hd,hwk,hfd,db,Lm,ai,seval,ah]<;>exact rfl) (by simp only[results210,ntmps210,am,hat,dj,hlt,hd,hwk,hfd,db,Lm,ai,seval,ah]<;>exact rfl) (hfh _) ?_|((first|(refine aM (g:=?_) ?_ ?_)|(refine aI (g:=?_) ?_ ?_));rotate_left 1;(focus (simp only[results210,ntmps210,am,hat,dj,hlt,hd,hwk,hfd,db,Lm,ai,seval,ah]<;>exact rfl)))|((first|apply Ca|apply Cb)<;>intro hb)|refine Ai (by omega) ?_|(apply Ai<;>intro hb)|refine Fin.pure ?_ ?_ ?_|simp only[au])
   | false =>
    have hn':=fR (p:=p) hno hh hp
    rw[hp]at hfh
    repeat' first|simp only[al,aj,results210,ntmps210,am,hat,dj,hlt,hd,hwk,Lm,ai,seval,ah]|exact rfl|refine aa (v:=.any) ?_|refine cL (g:=f) (caps:=caps) (by simp only[results210,ntmps210,am,hat,dj,hlt,hd,hwk,Lm,ai,seval,ah]<;>exact rfl) (by simp only[results210,ntmps210,am,hat,dj,hlt,hd,hwk,Lm,ai,seval,ah]<;>exact rfl) (hfh _) ?_|((first|(refine aM (g:=?_) ?_ ?_)|(refine aI (g:=?_) ?_ ?_));rotate_left 1;(focus (simp only[results210,ntmps210,am,hat,dj,hlt,hd,hwk,Lm,ai,seval,ah]<;>exact rfl)))|((first|apply Ca|apply Cb)<;>intro hb)|refine Ai (by omega) ?_|(apply Ai<;>intro hb)
    all_goals ((refine aJ co (k+1) [] ?_ ?_ ?_ ?_;rotate_left 2;(focus (show b0≤_;omega));(focus (refine⟨?_,?_⟩<;>(try simp only[bk,aL,jx hpl,gY hpl,hwk,ai,seval,ah,au])<;>(try omega)))))
    all_goals (first|(show l.length-(k+1)<l.length-k;omega)|exact⟨hlt,hn'⟩|skip)
  ·have hke:k=l.length:=by omega
   subst hke
   rw[List.take_length]at hno
   have hfd:=kF hno
   have hd:decide (l.length<l.length)=false:=decide_eq_false (by omega)
   (repeat' first|simp only[al,aj,results210,ntmps210,am,hd,hfd,fX,Lm,ai,seval,ah]|exact rfl|refine aa (v:=.any) ?_|((first|(refine aM (g:=?_) ?_ ?_)|(refine aI (g:=?_) ?_ ?_));rotate_left 1;(focus (simp only[results210,ntmps210,am,hd,hfd,fX,Lm,ai,seval,ah]<;>exact rfl)))|((first|apply Ca|apply Cb)<;>intro hb)|refine Ai (by omega) ?_|(apply Ai<;>intro hb)|refine Fin.pure ?_ ?_ ?_|simp only[au])
theorem rM (l:List Pr)(f:Nat)(caps:List V)(p:Pr→Bool)(hf:∀ h∈l,∀ nm,Ev cx f nm (.agg (dj h)::caps) aq.nil (.bool (p h)) [])(hn:l.length≤bh)(hpl:plainL caps=true)(nm:Nat):Ev cx 178 nm [.sl false 2 (l.map dj),.fn f caps] aq.nil (.bool (l.any p)) []:=by
 have hi:=zP l f caps p hf hn hpl
 cases h:l.findIdx? p with
 | none =>
  have ha:l.any p=false:=tc h
  rw[h]at hi
  refine ay rfl (fun cargs w=>call178 cargs w) func178 rfl mixed (by kernel_rfl) rfl ?_;intro b0 hb0
  (repeat' first|simp only[al,aj,results178,ntmps178,am,ha,fX,ai,seval,ah]|exact rfl|refine aa (v:=.any) ?_|(first|(refine ac ?_ (hi _) ?_)|(refine ab ?_ (fun _=>hi _) ?_))|((first|apply Ca|apply Cb)<;>intro hb)|refine Ai (by omega) ?_|(apply Ai<;>intro hb)|refine Fin.pure ?_ ?_ ?_|simp only[au])
 | some n =>
  have ha:l.any p=true:=sY h
  rw[h]at hi
  have hz:decide ((0:Int)≤(n:Int))=true:=decide_eq_true (by omega)
  refine ay rfl (fun cargs w=>call178 cargs w) func178 rfl mixed (by kernel_rfl) rfl ?_;intro b0 hb0
  (repeat' first|simp only[al,aj,results178,ntmps178,am,ha,db,hz,ai,seval,ah]|exact rfl|refine aa (v:=.any) ?_|(first|(refine ac ?_ (hi _) ?_)|(refine ab ?_ (fun _=>hi _) ?_))|((first|apply Ca|apply Cb)<;>intro hb)|refine Ai (by omega) ?_|(apply Ai<;>intro hb)|refine Fin.pure ?_ ?_ ?_|simp only[au])
theorem AE (l:List Tk)(f:Nat)(caps:List V)(p:Tk→Bool)(hf:∀ h∈l,∀ nm,Ev cx f nm (.agg (c9 h)::caps) aq.nil (.bool (p h)) [])(hn:l.length≤bh)(hpl:plainL caps=true)(nm:Nat):Ev cx 177 nm [.sl false 4 (l.map c9),.fn f caps] aq.nil (.int .i64 (Cd (l.findIdx? p))) []:=by
 unfold bh at hn
 refine ay rfl (fun cargs w=>call177 cargs w) func177 rfl mixed (by kernel_rfl) rfl ?_;intro b0 hb0
 repeat' first|simp only[al,aj,results177,ntmps177,am,ai,seval,ah]|exact rfl|refine aa (v:=.any) ?_|((first|(refine aM (g:=?_) ?_ ?_)|(refine aI (g:=?_) ?_ ?_));rotate_left 1;(focus (simp only[results177,ntmps177,am,ai,seval,ah]<;>exact rfl)))|((first|apply Ca|apply Cb)<;>intro hb)|refine Ai (by omega) ?_|(apply Ai<;>intro hb)
 (refine aU co (fun x:Nat=>l.length-x) (fun x=>x≤l.length∧(l.take x).any p=false) (b0+16) (fun x=>[(0,.sl false 4 (l.map c9)),(1,.fn f caps),(7,.int .i64 l.length),(8,.int .i64 x)]) (fun x=>[]) (0) [] ?_ ?_ ?_ ?_;rotate_left 1;(focus (show b0≤_;omega));(focus (refine⟨?_,?_⟩<;>(try simp only[bk,Lm,bi,jx hpl,gY hpl,ai,seval,ah,au])<;>(try omega)));rotate_left 1)
 ·exact⟨Nat.zero_le _,by simp⟩
 ·rintro k ⟨hk,hno⟩
  by_cases hlt:k<l.length
  ·obtain⟨h,hh⟩:∃ h,l[k]? = some h:=⟨_,List.getElem?_eq_getElem hlt⟩
   have hat:(l.map c9)[k]? = some (c9 h):=by rw[List.getElem?_map,hh];rfl
   have hd:decide (k<l.length)=true:=decide_eq_true hlt
   have hwk:IntKind.i64.wrap ((k:Int)+1)=((k+1:Nat):Int):=aN (by omega) (by omega)
   have hfh:=hf h (List.mem_of_getElem? hh)
   cases hp:p h with
   | true =>
    have hfd:=nY hno hh hp
    rw[hp]at hfh
    (repeat' first|simp only[al,aj,results177,ntmps177,am,hat,c9,hlt,hd,hwk,hfd,db,Lm,ai,seval,ah]|exact rfl|refine aa (v:=.any) ?_|refine cL (g:=f) (caps:=caps) (by simp only[results177,ntmps177,am,hat,c9,hlt,hd,hwk,hfd,db,Lm,ai,seval,ah]<;>exact rfl) (by simp only[results177,ntmps177,am,hat,c9,hlt,hd,hwk,hfd,db,Lm,ai,seval,ah]<;>exact rfl) (hfh _) ?_|((first|(refine aM (g:=?_) ?_ ?_)|(refine aI (g:=?_) ?_ ?_));rotate_left 1;(focus (simp only[results177,ntmps177,am,hat,c9,hlt,hd,hwk,hfd,db,Lm,ai,seval,ah]<;>exact rfl)))|((first|apply Ca|apply Cb)<;>intro hb)|refine Ai (by omega) ?_|(apply Ai<;>intro hb)|refine Fin.pure ?_ ?_ ?_|simp only[au])
   | false =>
    have hn':=fR (p:=p) hno hh hp
    rw[hp]at hfh
    repeat' first|simp only[al,aj,results177,ntmps177,am,hat,c9,hlt,hd,hwk,Lm,ai,seval,ah]|exact rfl|refine aa (v:=.any) ?_|refine cL (g:=f) (caps:=caps) (by simp only[results177,ntmps177,am,hat,c9,hlt,hd,hwk,Lm,ai,seval,ah]<;>exact rfl) (by simp only[results177,ntmps177,am,hat,c9,hlt,hd,hwk,Lm,ai,seval,ah]<;>exact rfl) (hfh _) ?_|((first|(refine aM (g:=?_) ?_ ?_)|(refine aI (g:=?_) ?_ ?_));rotate_left 1;(focus (simp only[results177,ntmps177,am,hat,c9,hlt,hd,hwk,Lm,ai,seval,ah]<;>exact rfl)))|((first|apply Ca|apply Cb)<;>intro hb)|refine Ai (by omega) ?_|(apply Ai<;>intro hb)
    all_goals ((refine aJ co (k+1) [] ?_ ?_ ?_ ?_;rotate_left 2;(focus (show b0≤_;omega));(focus (refine⟨?_,?_⟩<;>(try simp only[bk,bi,jx hpl,gY hpl,hwk,ai,seval,ah,au])<;>(try omega)))))
    all_goals (first|(show l.length-(k+1)<l.length-k;omega)|exact⟨hlt,hn'⟩|skip)
  ·have hke:k=l.length:=by omega
   subst hke
   rw[List.take_length]at hno
   have hfd:=kF hno
   have hd:decide (l.length<l.length)=false:=decide_eq_false (by omega)
   (repeat' first|simp only[al,aj,results177,ntmps177,am,hd,hfd,fX,Lm,ai,seval,ah]|exact rfl|refine aa (v:=.any) ?_|((first|(refine aM (g:=?_) ?_ ?_)|(refine aI (g:=?_) ?_ ?_));rotate_left 1;(focus (simp only[results177,ntmps177,am,hd,hfd,fX,Lm,ai,seval,ah]<;>exact rfl)))|((first|apply Ca|apply Cb)<;>intro hb)|refine Ai (by omega) ?_|(apply Ai<;>intro hb)|refine Fin.pure ?_ ?_ ?_|simp only[au])
theorem uT (l:List Tk)(f:Nat)(caps:List V)(p:Tk→Bool)(hf:∀ h∈l,∀ nm,Ev cx f nm (.agg (c9 h)::caps) aq.nil (.bool (p h)) [])(hn:l.length≤bh)(hpl:plainL caps=true)(nm:Nat):Ev cx 141 nm [.sl false 4 (l.map c9),.fn f caps] aq.nil (.bool (l.any p)) []:=by
 have hi:=AE l f caps p hf hn hpl
 cases h:l.findIdx? p with
 | none =>
  have ha:l.any p=false:=tc h
  rw[h]at hi
  refine ay rfl (fun cargs w=>call141 cargs w) func141 rfl mixed (by kernel_rfl) rfl ?_;intro b0 hb0
  (repeat' first|simp only[al,aj,results141,ntmps141,am,ha,fX,ai,seval,ah]|exact rfl|refine aa (v:=.any) ?_|(first|(refine ac ?_ (hi _) ?_)|(refine ab ?_ (fun _=>hi _) ?_))|((first|apply Ca|apply Cb)<;>intro hb)|refine Ai (by omega) ?_|(apply Ai<;>intro hb)|refine Fin.pure ?_ ?_ ?_|simp only[au])
 | some n =>
  have ha:l.any p=true:=sY h
  rw[h]at hi
  have hz:decide ((0:Int)≤(n:Int))=true:=decide_eq_true (by omega)
  refine ay rfl (fun cargs w=>call141 cargs w) func141 rfl mixed (by kernel_rfl) rfl ?_;intro b0 hb0
  (repeat' first|simp only[al,aj,results141,ntmps141,am,ha,db,hz,ai,seval,ah]|exact rfl|refine aa (v:=.any) ?_|(first|(refine ac ?_ (hi _) ?_)|(refine ab ?_ (fun _=>hi _) ?_))|((first|apply Ca|apply Cb)<;>intro hb)|refine Ai (by omega) ?_|(apply Ai<;>intro hb)|refine Fin.pure ?_ ?_ ?_|simp only[au])
theorem C4 (a b:Pr)(nm:Nat):Ev cx 179 nm [.agg (dj b),.rp (dj a)] aq.nil (.bool (a.name==b.name)) []:=by
 refine ay rfl (fun cargs w=>call179 cargs w) func179 rfl mixed (by kernel_rfl) rfl ?_;intro b0 hb0
 (repeat' first|simp only[al,aj,results179,ntmps179,am,dj,ai,seval,ah]|exact rfl|refine aa (v:=.any) ?_|((first|apply Ca|apply Cb)<;>intro hb)|refine Ai (by omega) ?_|(apply Ai<;>intro hb)|refine Fin.pure ?_ ?_ ?_|simp only[au])
def Tk.okTo (t:Tk)(l:Nat):Prop:=t.attrs.length≤l∧t.name.length≤l∧t.text.length≤l ∧ ∀ a∈t.attrs,a.name.length≤l∧a.value.length≤l
theorem u0 (n:Nat):(n=1)∨(n=3)∨(n=2)∨(n=4)∨(n≠1∧n≠3∧n≠2∧n≠4):=by omega
theorem jD {α:Type}[BEq α](l:List α):(l==[])=l.isEmpty:=by cases l<;>rfl
theorem lX {α:Type}(l:List α):((l.length:Int)==0)=l.isEmpty:=by
 cases l with
 | nil=>rfl
 | cons a l=>simp only[List.length_cons,List.isEmpty_cons];exact beq_false_of_ne (by omega)
theorem BK {l:List Pr}(h:16<l.length):i0 l=false:=by
 cases ha:i0 l with
 | false=>rfl
 | true=>have:=(iM.1 ha).1;omega
def lD (t:Tk):Bool :=
 (if t.kind=1∨t.kind=3 then b8 t.name&&t.text.isEmpty
 else if t.kind=2 then b8 t.name&&t.attrs.isEmpty&&t.text.isEmpty
 else if t.kind=4 then t.name.isEmpty&&t.attrs.isEmpty && !t.text.isEmpty&&decide (aQ t.text=0)
 else false)&&decide (t.attrs.length≤16)
theorem Hu (t:Tk):gI t=(lD t&&i0 t.attrs):=by
 unfold gI lD
 by_cases hl:t.attrs.length≤16
 ·simp only[hl,decide_true,Bool.and_true]
  by_cases h1:t.kind=1∨t.kind=3
  ·simp only[h1,if_true]
   cases b8 t.name<;>cases t.text.isEmpty<;>simp
  ·simp only[h1,if_false]
   have hnil:t.attrs.isEmpty=true→i0 t.attrs=true:=fun h=>by
    rw[List.isEmpty_iff]at h;rw[h];rfl
   by_cases h2:t.kind=2
   ·simp only[h2,if_true]
    cases he:t.attrs.isEmpty with
    | false=>simp
    | true=>simp[hnil he]
   ·simp only[h2,if_false]
    by_cases h4:t.kind=4
    ·simp only[h4,if_true]
     cases he:t.attrs.isEmpty with
     | false=>simp
     | true=>simp[hnil he]
    ·simp only[h4,if_false,Bool.false_and]
 ·have hf:=BK (by omega:16<t.attrs.length)
  simp only[hl,decide_false,Bool.and_false,Bool.false_and,hf]
  split
  ·rfl
  ·split
   ·have:t.attrs.isEmpty=false:=by cases h:t.attrs with|nil=>rw[h]at hl;simp at hl|cons a b=>rfl
    simp[this]
   ·split
    ·have:t.attrs.isEmpty=false:=by cases h:t.attrs with|nil=>rw[h]at hl;simp at hl|cons a b=>rfl
     simp[this]
    ·rfl
theorem od:∀ k1 k3 k2 k4 e n x f g z:Bool,((k1=true∧k3=false∧k2=false∧k4=false)∨(k1=false∧k3=true∧k2=false∧k4=false)∨(k1=false∧k3=false∧k2=true∧k4=false)∨(k1=false∧k3=false∧k2=false∧k4=true)∨(k1=false∧k3=false∧k2=false∧k4=false)) →
  (k1=true∧k3=false∧k2=false∧k4=false∧f=false)∨(k1=true∧k3=false∧k2=false∧k4=false∧f=true∧x=false)∨(k1=true∧k3=false∧k2=false∧k4=false∧f=true∧x=true∧g=true)∨(k1=true∧k3=false∧k2=false∧k4=false∧f=true∧x=true∧g=false∧z=true)∨(k1=true∧k3=false∧k2=false∧k4=false∧f=true∧x=true∧g=false∧z=false)∨(k1=false∧k3=true∧k2=false∧k4=false∧f=false)∨(k1=false∧k3=true∧k2=false∧k4=false∧f=true∧x=false)∨(k1=false∧k3=true∧k2=false∧k4=false∧f=true∧x=true∧g=true)∨(k1=false∧k3=true∧k2=false∧k4=false∧f=true∧x=true∧g=false∧z=true)∨(k1=false∧k3=true∧k2=false∧k4=false∧f=true∧x=true∧g=false∧z=false)∨(k1=false∧k3=false∧k2=true∧k4=false∧e=false)∨(k1=false∧k3=false∧k2=true∧k4=false∧e=true∧f=false)∨(k1=false∧k3=false∧k2=true∧k4=false∧e=true∧f=true∧x=false)∨(k1=false∧k3=false∧k2=true∧k4=false∧e=true∧f=true∧x=true∧g=true)∨(k1=false∧k3=false∧k2=true∧k4=false∧e=true∧f=true∧x=true∧g=false∧z=true)∨(k1=false∧k3=false∧k2=true∧k4=false∧e=true∧f=true∧x=true∧g=false∧z=false)∨(k1=false∧k3=false∧k2=false∧k4=true∧n=false)∨(k1=false∧k3=false∧k2=false∧k4=true∧n=true∧e=false)∨(k1=false∧k3=false∧k2=false∧k4=true∧n=true∧e=true∧x=true)∨(k1=false∧k3=false∧k2=false∧k4=true∧n=true∧e=true∧x=false∧g=true)∨(k1=false∧k3=false∧k2=false∧k4=true∧n=true∧e=true∧x=false∧g=false∧z=true)∨(k1=false∧k3=false∧k2=false∧k4=true∧n=true∧e=true∧x=false∧g=false∧z=false)∨(k1=false∧k3=false∧k2=false∧k4=false):=by
 intro k1 k3 k2 k4 e n x f g z h
 rcases h with ⟨rfl,rfl,rfl,rfl⟩|⟨rfl,rfl,rfl,rfl⟩|⟨rfl,rfl,rfl,rfl⟩|⟨rfl,rfl,rfl,rfl⟩|⟨rfl,rfl,rfl,rfl⟩<;>cases e<;>cases n<;>cases x<;>cases f<;>cases g<;>cases z<;>simp
theorem t6 (n:Nat):((((n:Int)==1)=true∧((n:Int)==3)=false∧((n:Int)==2)=false∧((n:Int)==4)=false∧n=1)∨(((n:Int)==1)=false∧((n:Int)==3)=true∧((n:Int)==2)=false∧((n:Int)==4)=false∧n=3)∨(((n:Int)==1)=false∧((n:Int)==3)=false∧((n:Int)==2)=true∧((n:Int)==4)=false∧n=2) ∨
  (((n:Int)==1)=false∧((n:Int)==3)=false∧((n:Int)==2)=false∧((n:Int)==4)=true∧n=4)∨(((n:Int)==1)=false∧((n:Int)==3)=false∧((n:Int)==2)=false∧((n:Int)==4)=false∧n≠1∧n≠3∧n≠2∧n≠4)):=by
 rcases u0 n with rfl|rfl|rfl|rfl|⟨h1,h3,h2,h4⟩
 ·left;exact⟨rfl,rfl,rfl,rfl,rfl⟩
 ·right;left;exact⟨rfl,rfl,rfl,rfl,rfl⟩
 ·right;right;left;exact⟨rfl,rfl,rfl,rfl,rfl⟩
 ·right;right;right;left;exact⟨rfl,rfl,rfl,rfl,rfl⟩
 ·right;right;right;right
  exact⟨beq_false_of_ne (by omega),beq_false_of_ne (by omega),beq_false_of_ne (by omega),beq_false_of_ne (by omega),h1,h3,h2,h4⟩
theorem sg (t:Tk):lD t=(((((t.kind:Int)==1||(t.kind:Int)==3)&&b8 t.name&&t.text.isEmpty)||((t.kind:Int)==2&&b8 t.name&&t.attrs.isEmpty&&t.text.isEmpty)||((t.kind:Int)==4&&t.name.isEmpty&&t.attrs.isEmpty && !t.text.isEmpty && !(aQ t.text != 0))) && !decide (16<t.attrs.length)):=by
 have hz:decide (aQ t.text=0) = !(aQ t.text != 0):=by rw[Bool.eq_iff_iff];simp
 have hg:decide (t.attrs.length≤16) = !decide (16<t.attrs.length):=by rw[Bool.eq_iff_iff];simp
 unfold lD
 rw[hz,hg]
 rcases t6 t.kind with ⟨q1,q3,q2,q4,hk⟩|⟨q1,q3,q2,q4,hk⟩|⟨q1,q3,q2,q4,hk⟩|⟨q1,q3,q2,q4,hk⟩|⟨q1,q3,q2,q4,hk,hk3,hk2,hk4⟩
 ·rw[q1,q3,q2,q4];simp[hk]
 ·rw[q1,q3,q2,q4];simp[hk]
 ·rw[q1,q3,q2,q4];simp[hk]
 ·rw[q1,q3,q2,q4];simp[hk]
 ·rw[q1,q3,q2,q4];simp[hk,hk3,hk2,hk4]
theorem uW (n:Nat):((((n:Int)==1)=true∧((n:Int)==3)=false∧((n:Int)==2)=false∧((n:Int)==4)=false)∨(((n:Int)==1)=false∧((n:Int)==3)=true∧((n:Int)==2)=false∧((n:Int)==4)=false)∨(((n:Int)==1)=false∧((n:Int)==3)=false∧((n:Int)==2)=true∧((n:Int)==4)=false) ∨
  (((n:Int)==1)=false∧((n:Int)==3)=false∧((n:Int)==2)=false∧((n:Int)==4)=true)∨(((n:Int)==1)=false∧((n:Int)==3)=false∧((n:Int)==2)=false∧((n:Int)==4)=false)):=by
 rcases t6 n with h|h|h|h|h<;>simp[h]
theorem D9 (t:Tk)(h:t.okTo bh)(ho:lD t=false)(nm:Nat):Ev cx 143 nm [.agg (c9 t)] aq.nil (.int .i64 8) []:=by
 obtain⟨hl,hnl,htl,hal⟩:=h
 have hee:((t.attrs.length:Int)==0)=t.attrs.isEmpty:=lX _
 have hne:=jD t.name
 have hxe:=jD t.text
 have hge:decide ((16:Int)<(t.attrs.length:Int))=decide (16<t.attrs.length):=by
  rw[Bool.eq_iff_iff];simp;omega
 have hfull:=iG t.name hnl
 have hchk:=cV t.text htl
 rw[sg]at ho
 have hex:=uW t.kind
 generalize h1:((t.kind:Int)==1)=k1 at ho hex
 generalize h3:((t.kind:Int)==3)=k3 at ho hex
 generalize h2:((t.kind:Int)==2)=k2 at ho hex
 generalize h4:((t.kind:Int)==4)=k4 at ho hex
 generalize he:t.attrs.isEmpty=e at ho hee
 generalize hn:t.name.isEmpty=n at ho hne
 have hxb:(t.text != []) = !t.text.isEmpty:=congrArg not hxe
 generalize hx:t.text.isEmpty=x at ho hxe hxb
 generalize hf:b8 t.name=f at ho hfull
 generalize hg:decide (16<t.attrs.length)=g at ho hge
 generalize hz:(aQ t.text != 0)=z at ho
 rcases od k1 k3 k2 k4 e n x f g z hex with ⟨rfl,rfl,rfl,rfl,rfl⟩|⟨rfl,rfl,rfl,rfl,rfl,rfl⟩|⟨rfl,rfl,rfl,rfl,rfl,rfl,rfl⟩|⟨rfl,rfl,rfl,rfl,rfl,rfl,rfl,rfl⟩|⟨rfl,rfl,rfl,rfl,rfl,rfl,rfl,rfl⟩|⟨rfl,rfl,rfl,rfl,rfl⟩|⟨rfl,rfl,rfl,rfl,rfl,rfl⟩|⟨rfl,rfl,rfl,rfl,rfl,rfl,rfl⟩|⟨rfl,rfl,rfl,rfl,rfl,rfl,rfl,rfl⟩|⟨rfl,rfl,rfl,rfl,rfl,rfl,rfl,rfl⟩|⟨rfl,rfl,rfl,rfl,rfl⟩|⟨rfl,rfl,rfl,rfl,rfl,rfl⟩|⟨rfl,rfl,rfl,rfl,rfl,rfl,rfl⟩|⟨rfl,rfl,rfl,rfl,rfl,rfl,rfl,rfl⟩|⟨rfl,rfl,rfl,rfl,rfl,rfl,rfl,rfl,rfl⟩|⟨rfl,rfl,rfl,rfl,rfl,rfl,rfl,rfl,rfl⟩|⟨rfl,rfl,rfl,rfl,rfl⟩|⟨rfl,rfl,rfl,rfl,rfl,rfl⟩|⟨rfl,rfl,rfl,rfl,rfl,rfl,rfl⟩|⟨rfl,rfl,rfl,rfl,rfl,rfl,rfl,rfl⟩|⟨rfl,rfl,rfl,rfl,rfl,rfl,rfl,rfl,rfl⟩|⟨rfl,rfl,rfl,rfl,rfl,rfl,rfl,rfl,rfl⟩|⟨rfl,rfl,rfl,rfl⟩
 all_goals (try (exfalso;simp at ho;done))
 all_goals (
  refine ay rfl (fun cargs w=>call143 cargs w) func143 rfl mixed (by kernel_rfl) rfl ?_;intro b0 hb0
  (repeat' first|simp only[al,aj,results143,ntmps143,am,c9,hee,hne,hxe,hxb,Bt,Bf,hge,hz,h1,h2,h3,h4,Lm,ai,seval,ah]|exact rfl|refine aa (v:=.any) ?_|(first|(refine ac ?_ (hfull _) ?_)|(refine ab ?_ (fun _=>hfull _) ?_)|(refine ac ?_ (hchk _) ?_)|(refine ab ?_ (fun _=>hchk _) ?_))|(refine aa (v:=.any) ?_)|((first|apply Ca|apply Cb)<;>intro hb)|refine Ai (by omega) ?_|(apply Ai<;>intro hb)|refine Fin.pure ?_ ?_ ?_|simp only[au]))
theorem mi (a b c:V)(l:List Pr):plainLL [[a,b,.sl false 2 (l.map dj),c]]=(a.plain&&(b.plain&&c.plain)):=by simp[plainLL,plainL,V.plain,aL]
theorem BC (t:Tk)(h:t.okTo bh)(ho:lD t=true)(nm:Nat):Ev cx 143 nm [.agg (c9 t)] aq.nil (.int .i64 (if i0 t.attrs=true then 0 else 8)) []:=by
 obtain⟨hl,hnl,htl,hal⟩:=h
 have hl':=hl
 unfold bh at hl'
 have h16:t.attrs.length≤16:=by
  unfold lD at ho
  simp only[Bool.and_eq_true,decide_eq_true_eq]at ho
  exact ho.2
 have hee:((t.attrs.length:Int)==0)=t.attrs.isEmpty:=lX _
 have hne:=jD t.name
 have hxe:=jD t.text
 have hge:decide ((16:Int)<(t.attrs.length:Int))=decide (16<t.attrs.length):=by
  rw[Bool.eq_iff_iff];simp;omega
 have hfull:=iG t.name hnl
 have hchk:=cV t.text htl
 rw[sg]at ho
 have hex:=uW t.kind
 generalize h1:((t.kind:Int)==1)=k1 at ho hex
 generalize h3:((t.kind:Int)==3)=k3 at ho hex
 generalize h2:((t.kind:Int)==2)=k2 at ho hex
 generalize h4:((t.kind:Int)==4)=k4 at ho hex
 generalize he:t.attrs.isEmpty=e at ho hee
 generalize hn:t.name.isEmpty=n at ho hne
 have hxb:(t.text != []) = !t.text.isEmpty:=congrArg not hxe
 have hxz:t.text.isEmpty=true→(aQ t.text != 0)=false:=fun h=>by rw[List.isEmpty_iff.1 h];rfl
 generalize hx:t.text.isEmpty=x at ho hxe hxb hxz
 generalize hf:b8 t.name=f at ho hfull
 generalize hg:decide (16<t.attrs.length)=g at ho hge
 generalize hz:(aQ t.text != 0)=z at ho hxz
 rcases od k1 k3 k2 k4 e n x f g z hex with ⟨rfl,rfl,rfl,rfl,rfl⟩|⟨rfl,rfl,rfl,rfl,rfl,rfl⟩|⟨rfl,rfl,rfl,rfl,rfl,rfl,rfl⟩|⟨rfl,rfl,rfl,rfl,rfl,rfl,rfl,rfl⟩|⟨rfl,rfl,rfl,rfl,rfl,rfl,rfl,rfl⟩|⟨rfl,rfl,rfl,rfl,rfl⟩|⟨rfl,rfl,rfl,rfl,rfl,rfl⟩|⟨rfl,rfl,rfl,rfl,rfl,rfl,rfl⟩|⟨rfl,rfl,rfl,rfl,rfl,rfl,rfl,rfl⟩|⟨rfl,rfl,rfl,rfl,rfl,rfl,rfl,rfl⟩|⟨rfl,rfl,rfl,rfl,rfl⟩|⟨rfl,rfl,rfl,rfl,rfl,rfl⟩|⟨rfl,rfl,rfl,rfl,rfl,rfl,rfl⟩|⟨rfl,rfl,rfl,rfl,rfl,rfl,rfl,rfl⟩|⟨rfl,rfl,rfl,rfl,rfl,rfl,rfl,rfl,rfl⟩|⟨rfl,rfl,rfl,rfl,rfl,rfl,rfl,rfl,rfl⟩|⟨rfl,rfl,rfl,rfl,rfl⟩|⟨rfl,rfl,rfl,rfl,rfl,rfl⟩|⟨rfl,rfl,rfl,rfl,rfl,rfl,rfl⟩|⟨rfl,rfl,rfl,rfl,rfl,rfl,rfl,rfl⟩|⟨rfl,rfl,rfl,rfl,rfl,rfl,rfl,rfl,rfl⟩|⟨rfl,rfl,rfl,rfl,rfl,rfl,rfl,rfl,rfl⟩|⟨rfl,rfl,rfl,rfl⟩
 all_goals (try (exfalso;simp at ho;done))
 all_goals (try (exfalso;exact absurd (hxz rfl) (by decide)))
 all_goals (
  refine ay rfl (fun cargs w=>call143 cargs w) func143 rfl mixed (by kernel_rfl) rfl ?_;intro b0 hb0
  repeat' first|simp only[al,aj,results143,ntmps143,am,c9,hee,hne,hxe,hxb,Bt,Bf,hge,hz,h1,h2,h3,h4,Lm,ai,seval,ah]|exact rfl|refine aa (v:=.any) ?_|(first|(refine ac ?_ (hfull _) ?_)|(refine ab ?_ (fun _=>hfull _) ?_)|(refine ac ?_ (hchk _) ?_)|(refine ab ?_ (fun _=>hchk _) ?_))|(refine aa (v:=.any) ?_)|((first|apply Ca|apply Cb)<;>intro hb)|refine Ai (by omega) ?_|(apply Ai<;>intro hb))
 all_goals (
  (refine aU co (fun x:Nat=>t.attrs.length-x) (fun x=>x≤t.attrs.length∧iH t.attrs x) (b0+16) (fun x=>[(1,.ptr b0 0 0),(76,.sl false 2 (t.attrs.map dj)),(77,.int .i64 t.attrs.length),(78,.int .i64 x)]) (fun x=>[(b0,⟨4,[c9 t]⟩)]) (0) [some b0] ?_ ?_ ?_ ?_;rotate_left 1;(focus (show b0≤_;omega));(focus (refine⟨?_,?_⟩<;>(try simp only[bk,aL,mi,c9,Lm,ai,seval,ah,au])<;>(try omega)));rotate_left 1))
 all_goals (first|exact⟨Nat.zero_le _,fun i a hi=>by omega⟩|skip)
 all_goals (
  rintro k ⟨hk,hn⟩
  by_cases hlt:k<t.attrs.length
  ·obtain⟨a,ha⟩:∃ a,t.attrs[k]? = some a:=⟨_,List.getElem?_eq_getElem hlt⟩
   obtain⟨hs1,hs2⟩:=hal a (List.mem_of_getElem? ha)
   have hat:=LM ha
   have hd:decide (k<t.attrs.length)=true:=decide_eq_true hlt
   have hwk:IntKind.i64.wrap ((k:Int)+1)=((k+1:Nat):Int):=aN (by omega) (by omega)
   have hki:(k:Int)≤(t.attrs.length:Int):=by omega
   have htk:(t.attrs.map dj).take k=(t.attrs.take k).map dj:=by rw[List.map_take]
   have hlen:(t.attrs.take k).length≤bh:=by rw[List.length_take];unfold bh;omega
   have hf2:=iG a.name hs1
   have hc2:=cV a.value hs2
   have hh2:=rM (t.attrs.take k) 179 [.rp (dj a)] (fun b=>a.name==b.name) (fun b _ nm=>C4 a b nm) hlen rfl
   have hok:Nn (t.attrs.take k) a=(!((t.attrs.take k).any fun b=>a.name==b.name)&&b8 a.name&&decide (aQ a.value=0)):=rfl
   have hz2:decide (aQ a.value=0) = !(aQ a.value != 0):=by rw[Bool.eq_iff_iff];simp
   rw[hz2]at hok
   generalize hb1:((t.attrs.take k).any fun b=>a.name==b.name)=b1 at hh2 hok
   generalize hb2:b8 a.name=b2 at hf2 hok
   generalize hb3:(aQ a.value != 0)=b3 at hok
   cases ho2:Nn (t.attrs.take k) a with
   | false =>
    have hr:=zK ha ho2
    rw[ho2]at hok
    cases b1<;>cases b2<;>cases b3
    all_goals (try (exfalso;simp at hok;done))
    all_goals ((repeat' first|simp only[al,aj,results143,ntmps143,am,aL,c9,hat,dj,hd,hlt,hk,hki,htk,hb3,hr,Bt,Bf,Lm,Nat.zero_add,ai,seval,ah]|exact rfl|refine aa (v:=.any) ?_|(first|(refine ac ?_ (hf2 _) ?_)|(refine ab ?_ (fun _=>hf2 _) ?_)|(refine ac ?_ (hc2 _) ?_)|(refine ab ?_ (fun _=>hc2 _) ?_))|((refine bq (xs:=?_) [b0+80] ?_ ?_ ?_ rfl (hh2 _) ?_);rotate_left 1)|(refine aa (v:=.any) ?_)|omega|((first|apply Ca|apply Cb)<;>intro hb)|refine Ai (by omega) ?_|(apply Ai<;>intro hb)|refine Fin.pure ?_ ?_ ?_|simp only[au]))
   | true =>
    have hn':=xg hn ha ho2
    rw[ho2]at hok
    cases b1<;>cases b2<;>cases b3
    all_goals (try (exfalso;simp at hok;done))
    all_goals (repeat' first|simp only[al,aj,results143,ntmps143,am,aL,c9,hat,dj,hd,hlt,hk,hki,htk,hb3,hwk,Bt,Bf,Lm,Nat.zero_add,ai,seval,ah]|exact rfl|refine aa (v:=.any) ?_|(first|(refine ac ?_ (hf2 _) ?_)|(refine ab ?_ (fun _=>hf2 _) ?_)|(refine ac ?_ (hc2 _) ?_)|(refine ab ?_ (fun _=>hc2 _) ?_))|((refine bq (xs:=?_) [b0+80] ?_ ?_ ?_ rfl (hh2 _) ?_);rotate_left 1)|omega|((first|apply Ca|apply Cb)<;>intro hb)|refine Ai (by omega) ?_|(apply Ai<;>intro hb))
    all_goals ((refine aJ co (k+1) [some b0] ?_ ?_ ?_ ?_;rotate_left 2;(focus (show b0≤_;omega));(focus (refine⟨?_,?_⟩<;>(try simp only[bk,aL,mi,c9,hwk,ai,seval,ah,au])<;>(try omega)))))
    all_goals (first|(show t.attrs.length-(k+1)<t.attrs.length-k;omega)|exact⟨hlt,hn'⟩|skip)
  ·have hke:k=t.attrs.length:=by omega
   subst hke
   have hd:decide (t.attrs.length<t.attrs.length)=false:=decide_eq_false (by omega)
   have hr:i0 t.attrs=true:=iM.2 ⟨h16,hn⟩
   (repeat' first|simp only[al,aj,results143,ntmps143,am,hd,hr,Lm,ai,seval,ah]|exact rfl|refine aa (v:=.any) ?_|((first|apply Ca|apply Cb)<;>intro hb)|refine Ai (by omega) ?_|(apply Ai<;>intro hb)|refine Fin.pure ?_ ?_ ?_|simp only[au]))
theorem GD (t:Tk)(h:t.okTo bh)(nm:Nat):Ev cx 143 nm [.agg (c9 t)] aq.nil (.int .i64 (ND t)) []:=by
 unfold ND
 rw[Hu]
 cases ho:lD t with
 | false=>exact D9 t h ho nm
 | true =>
  have:=BC t h ho nm
  simpa using this
end Go.Proofs.YtidmkaalhmeflaaGreatDoor
