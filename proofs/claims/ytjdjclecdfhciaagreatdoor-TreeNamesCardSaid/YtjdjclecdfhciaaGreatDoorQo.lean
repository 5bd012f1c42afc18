/-
 Texts joined: XLc,XLd,XLe,XLf.
-/
import Derived.Test.YtjdjclecdfhciaaGreatDoorQk
namespace Go.Proofs.YtjdjclecdfhciaaGreatDoor
set_option maxRecDepth 100000
set_option maxHeartbeats 32000000
set_option linter.unusedSimpArgs false
set_option linter.unusedVariables false
open Go Go.RowKit Vm Go.Lib Tryz
open Vm renaming cond_bool→Ca,cond_bit→Cb
open And renaming intro→Ai
open List renaming length_map→Lm,not_mem_nil→Ln,map_nil→Lo,map_cons→Lc,mem_cons→Lk
open Bool renaming not_false→Bf,not_true→Bt
def idxIL (o:Option Nat):Int:=match o with|some n=>n|none=>-1
theorem idxI_some_L (n:Nat):idxIL (some n)=n:=rfl
theorem idxI_none_L:idxIL none = -1:=rfl
theorem find_at2_L {α:Type}{p:α→Bool} : ∀ {l:List α} {k:Nat} {x:α},(l.take k).any p=false→l[k]? = some x→p x=true→l.findIdx? p=some k
 | [],k,x,_,h,_=>by simp at h
 | y::l,0,x,_,h,hp=>by simp at h;subst h;simp[List.findIdx?_cons,hp]
 | y::l,k+1,x,hn,h,hp=>by
  simp only[List.take_succ_cons,List.any_cons,Bool.or_eq_false_iff]at hn
  rw[List.findIdx?_cons,hn.1]
  simp[find_at2_L (l:=l) (k:=k) (x:=x) hn.2 (by simpa using h) hp]
theorem find_none2_L {α:Type}{p:α→Bool}{l:List α}(h:l.any p=false):l.findIdx? p=none:=by
 simpa [List.findIdx?_eq_none_iff] using h
theorem any_none_L {α:Type}{p:α→Bool}{l:List α}(h:l.findIdx? p=none):l.any p=false:=by
 simpa [List.findIdx?_eq_none_iff] using h
theorem any_some_L {α:Type}{p:α→Bool}{l:List α}{n:Nat}(h:l.findIdx? p=some n):l.any p=true:=by
 cases ha:l.any p with
 | true=>rfl
 | false=>rw[find_none2_L ha]at h;cases h
theorem finL_caps_L {caps:List V}(h:plainL caps=true)(σ:List (Nat×Nat))(M:Mem):finL σ M caps=caps:=(finL_plain σ M caps h).1
theorem finLOk_caps_L {caps:List V}(h:plainL caps=true)(σ:List (Nat×Nat))(M:Mem):finLOk σ M caps=True:=eq_true (finL_plain σ M caps h).2
theorem indexprL_ev (l:List Pr)(f:Nat)(caps:List V)(p:Pr→Bool)(hf:∀ h∈l,∀ nm,Ev cx f nm (.agg (prC h)::caps) Mem.nil (.bool (p h)) [])(hn:l.length≤lim)(hpl:plainL caps=true)(nm:Nat):Ev cx 133 nm [.sl false 2 (l.map prC),.fn f caps] Mem.nil (.int .i64 (idxIL (l.findIdx? p))) []:=by
 unfold lim at hn
 refine ev_go rfl (fun cargs w=>call133 cargs w) func133 rfl mixed (by kernel_rfl) rfl ?_;intro b0 hb0
 repeat' first|simp only[fins,mems,results133,ntmps133,wks,vcs,seval,tys]|exact rfl|refine call_off (v:=.any) ?_|((first|(refine call_val (g:=?_) ?_ ?_)|(refine call_valg (g:=?_) ?_ ?_));rotate_left 1;(focus (simp only[results133,ntmps133,wks,vcs,seval,tys]<;>exact rfl)))|((first|apply Ca|apply Cb)<;>intro hb)|refine Ai (by omega) ?_|(apply Ai<;>intro hb)
 (refine loop_can2 cxG (fun x:Nat=>l.length-x) (fun x=>x≤l.length∧(l.take x).any p=false) (b0+16) (fun x=>[(0,.sl false 2 (l.map prC)),(1,.fn f caps),(7,.int .i64 l.length),(8,.int .i64 x)]) (fun x=>[]) (0) [] ?_ ?_ ?_ ?_;rotate_left 1;(focus (show b0≤_;omega));(focus (refine⟨?_,?_⟩<;>(try simp only[cans,Lm,plain_pr,finL_caps_L hpl,finLOk_caps_L hpl,vcs,seval,tys,injs])<;>(try omega)));rotate_left 1)
 ·exact⟨Nat.zero_le _,by simp⟩
 ·rintro k ⟨hk,hno⟩
  by_cases hlt:k<l.length
  ·obtain⟨h,hh⟩:∃ h,l[k]? = some h:=⟨_,List.getElem?_eq_getElem hlt⟩
   have hat:(l.map prC)[k]? = some (prC h):=by rw[List.getElem?_map,hh];rfl
   have hd:decide (k<l.length)=true:=decide_eq_true hlt
   have hwk:IntKind.i64.wrap ((k:Int)+1)=((k+1:Nat):Int):=wrap_in (by omega) (by omega)
   have hfh:=hf h (List.mem_of_getElem? hh)
   cases hp:p h with
   | true =>
    have hfd:=find_at2_L hno hh hp
    rw[hp]at hfh
    (repeat' first|simp only[fins,mems,results133,ntmps133,wks,hat,prC,hlt,hd,hwk,hfd,idxI_some_L,Lm,vcs,seval,tys]|exact rfl|refine call_off (v:=.any) ?_|refine call_pure (g:=f) (caps:=caps) (by simp only[results133,ntmps133,wks,hat,prC,hlt,hd,hwk,hfd,idxI_some_L,Lm,vcs,seval,tys]<;>exact rfl) (by simp only[results133,ntmps133,wks,hat,prC,hlt,hd,hwk,hfd,idxI_some_L,Lm,vcs,seval,tys]<;>exact rfl) (hfh _) ?_|((first|(refine call_val (g:=?_) ?_ ?_)|(refine call_valg (g:=?_) ?_ ?_));rotate_left 1;(focus (simp only[results133,ntmps133,wks,hat,prC,hlt,hd,hwk,hfd,idxI_some_L,Lm,vcs,seval,tys]<;>exact rfl)))|((first|apply Ca|apply Cb)<;>intro hb)|refine Ai (by omega) ?_|(apply Ai<;>intro hb)|refine Fin.pure ?_ ?_ ?_|simp only[injs])
   | false =>
    have hn':=notany_succ (p:=p) hno hh hp
    rw[hp]at hfh
    repeat' first|simp only[fins,mems,results133,ntmps133,wks,hat,prC,hlt,hd,hwk,Lm,vcs,seval,tys]|exact rfl|refine call_off (v:=.any) ?_|refine call_pure (g:=f) (caps:=caps) (by simp only[results133,ntmps133,wks,hat,prC,hlt,hd,hwk,Lm,vcs,seval,tys]<;>exact rfl) (by simp only[results133,ntmps133,wks,hat,prC,hlt,hd,hwk,Lm,vcs,seval,tys]<;>exact rfl) (hfh _) ?_|((first|(refine call_val (g:=?_) ?_ ?_)|(refine call_valg (g:=?_) ?_ ?_));rotate_left 1;(focus (simp only[results133,ntmps133,wks,hat,prC,hlt,hd,hwk,Lm,vcs,seval,tys]<;>exact rfl)))|((first|apply Ca|apply Cb)<;>intro hb)|refine Ai (by omega) ?_|(apply Ai<;>intro hb)
    all_goals ((refine again_can2 cxG (k+1) [] ?_ ?_ ?_ ?_;rotate_left 2;(focus (show b0≤_;omega));(focus (refine⟨?_,?_⟩<;>(try simp only[cans,plain_pr,finL_caps_L hpl,finLOk_caps_L hpl,hwk,vcs,seval,tys,injs])<;>(try omega)))))
    all_goals (first|(show l.length-(k+1)<l.length-k;omega)|exact⟨hlt,hn'⟩|skip)
  ·have hke:k=l.length:=by omega
   subst hke
   rw[List.take_length]at hno
   have hfd:=find_none2_L hno
   have hd:decide (l.length<l.length)=false:=decide_eq_false (by omega)
   (repeat' first|simp only[fins,mems,results133,ntmps133,wks,hd,hfd,idxI_none_L,Lm,vcs,seval,tys]|exact rfl|refine call_off (v:=.any) ?_|((first|(refine call_val (g:=?_) ?_ ?_)|(refine call_valg (g:=?_) ?_ ?_));rotate_left 1;(focus (simp only[results133,ntmps133,wks,hd,hfd,idxI_none_L,Lm,vcs,seval,tys]<;>exact rfl)))|((first|apply Ca|apply Cb)<;>intro hb)|refine Ai (by omega) ?_|(apply Ai<;>intro hb)|refine Fin.pure ?_ ?_ ?_|simp only[injs])
theorem containsprL_ev (l:List Pr)(f:Nat)(caps:List V)(p:Pr→Bool)(hf:∀ h∈l,∀ nm,Ev cx f nm (.agg (prC h)::caps) Mem.nil (.bool (p h)) [])(hn:l.length≤lim)(hpl:plainL caps=true)(nm:Nat):Ev cx 106 nm [.sl false 2 (l.map prC),.fn f caps] Mem.nil (.bool (l.any p)) []:=by
 have hi:=indexprL_ev l f caps p hf hn hpl
 cases h:l.findIdx? p with
 | none =>
  have ha:l.any p=false:=any_none_L h
  rw[h]at hi
  refine ev_go rfl (fun cargs w=>call106 cargs w) func106 rfl mixed (by kernel_rfl) rfl ?_;intro b0 hb0
  (repeat' first|simp only[fins,mems,results106,ntmps106,wks,ha,idxI_none_L,vcs,seval,tys]|exact rfl|refine call_off (v:=.any) ?_|(first|(refine call_fn ?_ (hi _) ?_)|(refine call_fn_g ?_ (fun _=>hi _) ?_))|((first|apply Ca|apply Cb)<;>intro hb)|refine Ai (by omega) ?_|(apply Ai<;>intro hb)|refine Fin.pure ?_ ?_ ?_|simp only[injs])
 | some n =>
  have ha:l.any p=true:=any_some_L h
  rw[h]at hi
  have hz:decide ((0:Int)≤(n:Int))=true:=decide_eq_true (by omega)
  refine ev_go rfl (fun cargs w=>call106 cargs w) func106 rfl mixed (by kernel_rfl) rfl ?_;intro b0 hb0
  (repeat' first|simp only[fins,mems,results106,ntmps106,wks,ha,idxI_some_L,hz,vcs,seval,tys]|exact rfl|refine call_off (v:=.any) ?_|(first|(refine call_fn ?_ (hi _) ?_)|(refine call_fn_g ?_ (fun _=>hi _) ?_))|((first|apply Ca|apply Cb)<;>intro hb)|refine Ai (by omega) ?_|(apply Ai<;>intro hb)|refine Fin.pure ?_ ?_ ?_|simp only[injs])
theorem indextk_ev (l:List Tk)(f:Nat)(caps:List V)(p:Tk→Bool)(hf:∀ h∈l,∀ nm,Ev cx f nm (.agg (tkC h)::caps) Mem.nil (.bool (p h)) [])(hn:l.length≤lim)(hpl:plainL caps=true)(nm:Nat):Ev cx 104 nm [.sl false 4 (l.map tkC),.fn f caps] Mem.nil (.int .i64 (idxIL (l.findIdx? p))) []:=by
 unfold lim at hn
 refine ev_go rfl (fun cargs w=>call104 cargs w) func104 rfl mixed (by kernel_rfl) rfl ?_;intro b0 hb0
 repeat' first|simp only[fins,mems,results104,ntmps104,wks,vcs,seval,tys]|exact rfl|refine call_off (v:=.any) ?_|((first|(refine call_val (g:=?_) ?_ ?_)|(refine call_valg (g:=?_) ?_ ?_));rotate_left 1;(focus (simp only[results104,ntmps104,wks,vcs,seval,tys]<;>exact rfl)))|((first|apply Ca|apply Cb)<;>intro hb)|refine Ai (by omega) ?_|(apply Ai<;>intro hb)
 (refine loop_can2 cxG (fun x:Nat=>l.length-x) (fun x=>x≤l.length∧(l.take x).any p=false) (b0+16) (fun x=>[(0,.sl false 4 (l.map tkC)),(1,.fn f caps),(7,.int .i64 l.length),(8,.int .i64 x)]) (fun x=>[]) (0) [] ?_ ?_ ?_ ?_;rotate_left 1;(focus (show b0≤_;omega));(focus (refine⟨?_,?_⟩<;>(try simp only[cans,Lm,plain_tk,finL_caps_L hpl,finLOk_caps_L hpl,vcs,seval,tys,injs])<;>(try omega)));rotate_left 1)
 ·exact⟨Nat.zero_le _,by simp⟩
 ·rintro k ⟨hk,hno⟩
  by_cases hlt:k<l.length
  ·obtain⟨h,hh⟩:∃ h,l[k]? = some h:=⟨_,List.getElem?_eq_getElem hlt⟩
   have hat:(l.map tkC)[k]? = some (tkC h):=by rw[List.getElem?_map,hh];rfl
   have hd:decide (k<l.length)=true:=decide_eq_true hlt
   have hwk:IntKind.i64.wrap ((k:Int)+1)=((k+1:Nat):Int):=wrap_in (by omega) (by omega)
   have hfh:=hf h (List.mem_of_getElem? hh)
   cases hp:p h with
   | true =>
    have hfd:=find_at2_L hno hh hp
    rw[hp]at hfh
    (repeat' first|simp only[fins,mems,results104,ntmps104,wks,hat,tkC,hlt,hd,hwk,hfd,idxI_some_L,Lm,vcs,seval,tys]|exact rfl|refine call_off (v:=.any) ?_|refine call_pure (g:=f) (caps:=caps) (by simp only[results104,ntmps104,wks,hat,tkC,hlt,hd,hwk,hfd,idxI_some_L,Lm,vcs,seval,tys]<;>exact rfl) (by simp only[results104,ntmps104,wks,hat,tkC,hlt,hd,hwk,hfd,idxI_some_L,Lm,vcs,seval,tys]<;>exact rfl) (hfh _) ?_|((first|(refine call_val (g:=?_) ?_ ?_)|(refine call_valg (g:=?_) ?_ ?_));rotate_left 1;(focus (simp only[results104,ntmps104,wks,hat,tkC,hlt,hd,hwk,hfd,idxI_some_L,Lm,vcs,seval,tys]<;>exact rfl)))|((first|apply Ca|apply Cb)<;>intro hb)|refine Ai (by omega) ?_|(apply Ai<;>intro hb)|refine Fin.pure ?_ ?_ ?_|simp only[injs])
   | false =>
    have hn':=notany_succ (p:=p) hno hh hp
    rw[hp]at hfh
    repeat' first|simp only[fins,mems,results104,ntmps104,wks,hat,tkC,hlt,hd,hwk,Lm,vcs,seval,tys]|exact rfl|refine call_off (v:=.any) ?_|refine call_pure (g:=f) (caps:=caps) (by simp only[results104,ntmps104,wks,hat,tkC,hlt,hd,hwk,Lm,vcs,seval,tys]<;>exact rfl) (by simp only[results104,ntmps104,wks,hat,tkC,hlt,hd,hwk,Lm,vcs,seval,tys]<;>exact rfl) (hfh _) ?_|((first|(refine call_val (g:=?_) ?_ ?_)|(refine call_valg (g:=?_) ?_ ?_));rotate_left 1;(focus (simp only[results104,ntmps104,wks,hat,tkC,hlt,hd,hwk,Lm,vcs,seval,tys]<;>exact rfl)))|((first|apply Ca|apply Cb)<;>intro hb)|refine Ai (by omega) ?_|(apply Ai<;>intro hb)
    all_goals ((refine again_can2 cxG (k+1) [] ?_ ?_ ?_ ?_;rotate_left 2;(focus (show b0≤_;omega));(focus (refine⟨?_,?_⟩<;>(try simp only[cans,plain_tk,finL_caps_L hpl,finLOk_caps_L hpl,hwk,vcs,seval,tys,injs])<;>(try omega)))))
    all_goals (first|(show l.length-(k+1)<l.length-k;omega)|exact⟨hlt,hn'⟩|skip)
  ·have hke:k=l.length:=by omega
   subst hke
   rw[List.take_length]at hno
   have hfd:=find_none2_L hno
   have hd:decide (l.length<l.length)=false:=decide_eq_false (by omega)
   (repeat' first|simp only[fins,mems,results104,ntmps104,wks,hd,hfd,idxI_none_L,Lm,vcs,seval,tys]|exact rfl|refine call_off (v:=.any) ?_|((first|(refine call_val (g:=?_) ?_ ?_)|(refine call_valg (g:=?_) ?_ ?_));rotate_left 1;(focus (simp only[results104,ntmps104,wks,hd,hfd,idxI_none_L,Lm,vcs,seval,tys]<;>exact rfl)))|((first|apply Ca|apply Cb)<;>intro hb)|refine Ai (by omega) ?_|(apply Ai<;>intro hb)|refine Fin.pure ?_ ?_ ?_|simp only[injs])
theorem containstk_ev (l:List Tk)(f:Nat)(caps:List V)(p:Tk→Bool)(hf:∀ h∈l,∀ nm,Ev cx f nm (.agg (tkC h)::caps) Mem.nil (.bool (p h)) [])(hn:l.length≤lim)(hpl:plainL caps=true)(nm:Nat):Ev cx 65 nm [.sl false 4 (l.map tkC),.fn f caps] Mem.nil (.bool (l.any p)) []:=by
 have hi:=indextk_ev l f caps p hf hn hpl
 cases h:l.findIdx? p with
 | none =>
  have ha:l.any p=false:=any_none_L h
  rw[h]at hi
  refine ev_go rfl (fun cargs w=>call65 cargs w) func65 rfl mixed (by kernel_rfl) rfl ?_;intro b0 hb0
  (repeat' first|simp only[fins,mems,results65,ntmps65,wks,ha,idxI_none_L,vcs,seval,tys]|exact rfl|refine call_off (v:=.any) ?_|(first|(refine call_fn ?_ (hi _) ?_)|(refine call_fn_g ?_ (fun _=>hi _) ?_))|((first|apply Ca|apply Cb)<;>intro hb)|refine Ai (by omega) ?_|(apply Ai<;>intro hb)|refine Fin.pure ?_ ?_ ?_|simp only[injs])
 | some n =>
  have ha:l.any p=true:=any_some_L h
  rw[h]at hi
  have hz:decide ((0:Int)≤(n:Int))=true:=decide_eq_true (by omega)
  refine ev_go rfl (fun cargs w=>call65 cargs w) func65 rfl mixed (by kernel_rfl) rfl ?_;intro b0 hb0
  (repeat' first|simp only[fins,mems,results65,ntmps65,wks,ha,idxI_some_L,hz,vcs,seval,tys]|exact rfl|refine call_off (v:=.any) ?_|(first|(refine call_fn ?_ (hi _) ?_)|(refine call_fn_g ?_ (fun _=>hi _) ?_))|((first|apply Ca|apply Cb)<;>intro hb)|refine Ai (by omega) ?_|(apply Ai<;>intro hb)|refine Fin.pure ?_ ?_ ?_|simp only[injs])
theorem check1_ev (a b:Pr)(nm:Nat):Ev cx 107 nm [.agg (prC b),.rp (prC a)] Mem.nil (.bool (a.name==b.name)) []:=by
 refine ev_go rfl (fun cargs w=>call107 cargs w) func107 rfl mixed (by kernel_rfl) rfl ?_;intro b0 hb0
 (repeat' first|simp only[fins,mems,results107,ntmps107,wks,prC,vcs,seval,tys]|exact rfl|refine call_off (v:=.any) ?_|((first|apply Ca|apply Cb)<;>intro hb)|refine Ai (by omega) ?_|(apply Ai<;>intro hb)|refine Fin.pure ?_ ?_ ?_|simp only[injs])
def Tk.okTo (t:Tk)(l:Nat):Prop:=t.attrs.length≤l∧t.name.length≤l∧t.text.length≤l ∧ ∀ a∈t.attrs,a.name.length≤l∧a.value.length≤l
theorem tok_kinds (n:Nat):(n=1)∨(n=3)∨(n=2)∨(n=4)∨(n≠1∧n≠3∧n≠2∧n≠4):=by omega
theorem isEmpty_beq {α:Type}[BEq α](l:List α):(l==[])=l.isEmpty:=by cases l<;>rfl
theorem len_zero {α:Type}(l:List α):((l.length:Int)==0)=l.isEmpty:=by
 cases l with
 | nil=>rfl
 | cons a l=>simp only[List.length_cons,List.isEmpty_cons];exact beq_false_of_ne (by omega)
theorem attrs_long {l:List Pr}(h:16<l.length):attrsL l=false:=by
 cases ha:attrsL l with
 | false=>rfl
 | true=>have:=(attrs_iff.1 ha).1;omega
def headOk (t:Tk):Bool :=
 (if t.kind=1∨t.kind=3 then fullL t.name&&t.text.isEmpty
 else if t.kind=2 then fullL t.name&&t.attrs.isEmpty&&t.text.isEmpty
 else if t.kind=4 then t.name.isEmpty&&t.attrs.isEmpty && !t.text.isEmpty&&decide (ptsErr t.text=0)
 else false)&&decide (t.attrs.length≤16)
theorem tok_head (t:Tk):tokL t=(headOk t&&attrsL t.attrs):=by
 unfold tokL headOk
 by_cases hl:t.attrs.length≤16
 ·simp only[hl,decide_true,Bool.and_true]
  by_cases h1:t.kind=1∨t.kind=3
  ·simp only[h1,if_true]
   cases fullL t.name<;>cases t.text.isEmpty<;>simp
  ·simp only[h1,if_false]
   have hnil:t.attrs.isEmpty=true→attrsL t.attrs=true:=fun h=>by
    rw[List.isEmpty_iff]at h;rw[h];rfl
   by_cases h2:t.kind=2
   ·simp only[h2,if_true]
    cases he:t.attrs.isEmpty with
    | false=>simp
    | true=>simp[hnil he]
   ·simp only[h2,if_false]
    by_cases h4:t.kind=4
    ·simp only[h4,if_true]
     cases he:t.attrs.isEmpty with
     | false=>simp
     | true=>simp[hnil he]
    ·simp only[h4,if_false,Bool.false_and]
 ·have hf:=attrs_long (by omega:16<t.attrs.length)
  simp only[hl,decide_false,Bool.and_false,Bool.false_and,hf]
  split
  ·rfl
  ·split
   ·have:t.attrs.isEmpty=false:=by cases h:t.attrs with|nil=>rw[h]at hl;simp at hl|cons a b=>rfl
    simp[this]
   ·split
    ·have:t.attrs.isEmpty=false:=by cases h:t.attrs with|nil=>rw[h]at hl;simp at hl|cons a b=>rfl
     simp[this]
    ·rfl
theorem check_leaves:∀ k1 k3 k2 k4 e n x f g z:Bool,((k1=true∧k3=false∧k2=false∧k4=false)∨(k1=false∧k3=true∧k2=false∧k4=false)∨(k1=false∧k3=false∧k2=true∧k4=false)∨(k1=false∧k3=false∧k2=false∧k4=true)∨(k1=false∧k3=false∧k2=false∧k4=false)) →
  (k1=true∧k3=false∧k2=false∧k4=false∧f=false)∨(k1=true∧k3=false∧k2=false∧k4=false∧f=true∧x=false)∨(k1=true∧k3=false∧k2=false∧k4=false∧f=true∧x=true∧g=true)∨(k1=true∧k3=false∧k2=false∧k4=false∧f=true∧x=true∧g=false∧z=true)∨(k1=true∧k3=false∧k2=false∧k4=false∧f=true∧x=true∧g=false∧z=false)∨(k1=false∧k3=true∧k2=false∧k4=false∧f=false)∨(k1=false∧k3=true∧k2=false∧k4=false∧f=true∧x=false)∨(k1=false∧k3=true∧k2=false∧k4=false∧f=true∧x=true∧g=true)∨(k1=false∧k3=true∧k2=false∧k4=false∧f=true∧x=true∧g=false∧z=true)∨(k1=false∧k3=true∧k2=false∧k4=false∧f=true∧x=true∧g=false∧z=false)∨(k1=false∧k3=false∧k2=true∧k4=false∧e=false)∨(k1=false∧k3=false∧k2=true∧k4=false∧e=true∧f=false)∨(k1=false∧k3=false∧k2=true∧k4=false∧e=true∧f=true∧x=false)∨(k1=false∧k3=false∧k2=true∧k4=false∧e=true∧f=true∧x=true∧g=true)∨(k1=false∧k3=false∧k2=true∧k4=false∧e=true∧f=true∧x=true∧g=false∧z=true)∨(k1=false∧k3=false∧k2=true∧k4=false∧e=true∧f=true∧x=true∧g=false∧z=false)∨(k1=false∧k3=false∧k2=false∧k4=true∧n=false)∨(k1=false∧k3=false∧k2=false∧k4=true∧n=true∧e=false)∨(k1=false∧k3=false∧k2=false∧k4=true∧n=true∧e=true∧x=true)∨(k1=false∧k3=false∧k2=false∧k4=true∧n=true∧e=true∧x=false∧g=true)∨(k1=false∧k3=false∧k2=false∧k4=true∧n=true∧e=true∧x=false∧g=false∧z=true)∨(k1=false∧k3=false∧k2=false∧k4=true∧n=true∧e=true∧x=false∧g=false∧z=false)∨(k1=false∧k3=false∧k2=false∧k4=false):=by
 intro k1 k3 k2 k4 e n x f g z h
 rcases h with ⟨rfl,rfl,rfl,rfl⟩|⟨rfl,rfl,rfl,rfl⟩|⟨rfl,rfl,rfl,rfl⟩|⟨rfl,rfl,rfl,rfl⟩|⟨rfl,rfl,rfl,rfl⟩<;>cases e<;>cases n<;>cases x<;>cases f<;>cases g<;>cases z<;>simp
theorem kind_bools (n:Nat):((((n:Int)==1)=true∧((n:Int)==3)=false∧((n:Int)==2)=false∧((n:Int)==4)=false∧n=1)∨(((n:Int)==1)=false∧((n:Int)==3)=true∧((n:Int)==2)=false∧((n:Int)==4)=false∧n=3)∨(((n:Int)==1)=false∧((n:Int)==3)=false∧((n:Int)==2)=true∧((n:Int)==4)=false∧n=2) ∨
  (((n:Int)==1)=false∧((n:Int)==3)=false∧((n:Int)==2)=false∧((n:Int)==4)=true∧n=4)∨(((n:Int)==1)=false∧((n:Int)==3)=false∧((n:Int)==2)=false∧((n:Int)==4)=false∧n≠1∧n≠3∧n≠2∧n≠4)):=by
 rcases tok_kinds n with rfl|rfl|rfl|rfl|⟨h1,h3,h2,h4⟩
 ·left;exact⟨rfl,rfl,rfl,rfl,rfl⟩
 ·right;left;exact⟨rfl,rfl,rfl,rfl,rfl⟩
 ·right;right;left;exact⟨rfl,rfl,rfl,rfl,rfl⟩
 ·right;right;right;left;exact⟨rfl,rfl,rfl,rfl,rfl⟩
 ·right;right;right;right
  exact⟨beq_false_of_ne (by omega),beq_false_of_ne (by omega),beq_false_of_ne (by omega),beq_false_of_ne (by omega),h1,h3,h2,h4⟩
theorem head_bools (t:Tk):headOk t=(((((t.kind:Int)==1||(t.kind:Int)==3)&&fullL t.name&&t.text.isEmpty)||((t.kind:Int)==2&&fullL t.name&&t.attrs.isEmpty&&t.text.isEmpty)||((t.kind:Int)==4&&t.name.isEmpty&&t.attrs.isEmpty && !t.text.isEmpty && !(ptsErr t.text != 0))) && !decide (16<t.attrs.length)):=by
 have hz:decide (ptsErr t.text=0) = !(ptsErr t.text != 0):=by rw[Bool.eq_iff_iff];simp
 have hg:decide (t.attrs.length≤16) = !decide (16<t.attrs.length):=by rw[Bool.eq_iff_iff];simp
 unfold headOk
 rw[hz,hg]
 rcases kind_bools t.kind with ⟨q1,q3,q2,q4,hk⟩|⟨q1,q3,q2,q4,hk⟩|⟨q1,q3,q2,q4,hk⟩|⟨q1,q3,q2,q4,hk⟩|⟨q1,q3,q2,q4,hk,hk3,hk2,hk4⟩
 ·rw[q1,q3,q2,q4];simp[hk]
 ·rw[q1,q3,q2,q4];simp[hk]
 ·rw[q1,q3,q2,q4];simp[hk]
 ·rw[q1,q3,q2,q4];simp[hk]
 ·rw[q1,q3,q2,q4];simp[hk,hk3,hk2,hk4]
theorem kind_excl (n:Nat):((((n:Int)==1)=true∧((n:Int)==3)=false∧((n:Int)==2)=false∧((n:Int)==4)=false)∨(((n:Int)==1)=false∧((n:Int)==3)=true∧((n:Int)==2)=false∧((n:Int)==4)=false)∨(((n:Int)==1)=false∧((n:Int)==3)=false∧((n:Int)==2)=true∧((n:Int)==4)=false) ∨
  (((n:Int)==1)=false∧((n:Int)==3)=false∧((n:Int)==2)=false∧((n:Int)==4)=true)∨(((n:Int)==1)=false∧((n:Int)==3)=false∧((n:Int)==2)=false∧((n:Int)==4)=false)):=by
 rcases kind_bools n with h|h|h|h|h<;>simp[h]
theorem check_bad (t:Tk)(h:t.okTo lim)(ho:headOk t=false)(nm:Nat):Ev cx 67 nm [.agg (tkC t)] Mem.nil (.int .i64 8) []:=by
 obtain⟨hl,hnl,htl,hal⟩:=h
 have hee:((t.attrs.length:Int)==0)=t.attrs.isEmpty:=len_zero _
 have hne:=isEmpty_beq t.name
 have hxe:=isEmpty_beq t.text
 have hge:decide ((16:Int)<(t.attrs.length:Int))=decide (16<t.attrs.length):=by
  rw[Bool.eq_iff_iff];simp;omega
 have hfull:=full_ev t.name hnl
 have hchk:=tCheck_ev t.text htl
 rw[head_bools]at ho
 have hex:=kind_excl t.kind
 generalize h1:((t.kind:Int)==1)=k1 at ho hex
 generalize h3:((t.kind:Int)==3)=k3 at ho hex
 generalize h2:((t.kind:Int)==2)=k2 at ho hex
 generalize h4:((t.kind:Int)==4)=k4 at ho hex
 generalize he:t.attrs.isEmpty=e at ho hee
 generalize hn:t.name.isEmpty=n at ho hne
 have hxb:(t.text != []) = !t.text.isEmpty:=congrArg not hxe
 generalize hx:t.text.isEmpty=x at ho hxe hxb
 generalize hf:fullL t.name=f at ho hfull
 generalize hg:decide (16<t.attrs.length)=g at ho hge
 generalize hz:(ptsErr t.text != 0)=z at ho
 rcases check_leaves k1 k3 k2 k4 e n x f g z hex with ⟨rfl,rfl,rfl,rfl,rfl⟩|⟨rfl,rfl,rfl,rfl,rfl,rfl⟩|⟨rfl,rfl,rfl,rfl,rfl,rfl,rfl⟩|⟨rfl,rfl,rfl,rfl,rfl,rfl,rfl,rfl⟩|⟨rfl,rfl,rfl,rfl,rfl,rfl,rfl,rfl⟩|⟨rfl,rfl,rfl,rfl,rfl⟩|⟨rfl,rfl,rfl,rfl,rfl,rfl⟩|⟨rfl,rfl,rfl,rfl,rfl,rfl,rfl⟩|⟨rfl,rfl,rfl,rfl,rfl,rfl,rfl,rfl⟩|⟨rfl,rfl,rfl,rfl,rfl,rfl,rfl,rfl⟩|⟨rfl,rfl,rfl,rfl,rfl⟩|⟨rfl,rfl,rfl,rfl,rfl,rfl⟩|⟨rfl,rfl,rfl,rfl,rfl,rfl,rfl⟩|⟨rfl,rfl,rfl,rfl,rfl,rfl,rfl,rfl⟩|⟨rfl,rfl,rfl,rfl,rfl,rfl,rfl,rfl,rfl⟩|⟨rfl,rfl,rfl,rfl,rfl,rfl,rfl,rfl,rfl⟩|⟨rfl,rfl,rfl,rfl,rfl⟩|⟨rfl,rfl,rfl,rfl,rfl,rfl⟩|⟨rfl,rfl,rfl,rfl,rfl,rfl,rfl⟩|⟨rfl,rfl,rfl,rfl,rfl,rfl,rfl,rfl⟩|⟨rfl,rfl,rfl,rfl,rfl,rfl,rfl,rfl,rfl⟩|⟨rfl,rfl,rfl,rfl,rfl,rfl,rfl,rfl,rfl⟩|⟨rfl,rfl,rfl,rfl⟩
 all_goals (try (exfalso;simp at ho;done))
 all_goals (
  refine ev_go rfl (fun cargs w=>call67 cargs w) func67 rfl mixed (by kernel_rfl) rfl ?_;intro b0 hb0
  (repeat' first|simp only[fins,mems,results67,ntmps67,wks,tkC,hee,hne,hxe,hxb,Bt,Bf,hge,hz,h1,h2,h3,h4,Lm,vcs,seval,tys]|exact rfl|refine call_off (v:=.any) ?_|(first|(refine call_fn ?_ (hfull _) ?_)|(refine call_fn_g ?_ (fun _=>hfull _) ?_)|(refine call_fn ?_ (hchk _) ?_)|(refine call_fn_g ?_ (fun _=>hchk _) ?_))|(refine call_off (v:=.any) ?_)|((first|apply Ca|apply Cb)<;>intro hb)|refine Ai (by omega) ?_|(apply Ai<;>intro hb)|refine Fin.pure ?_ ?_ ?_|simp only[injs]))
theorem plain_tkR (a b c:V)(l:List Pr):plainLL [[a,b,.sl false 2 (l.map prC),c]]=(a.plain&&(b.plain&&c.plain)):=by simp[plainLL,plainL,V.plain,plain_pr]
theorem check_good (t:Tk)(h:t.okTo lim)(ho:headOk t=true)(nm:Nat):Ev cx 67 nm [.agg (tkC t)] Mem.nil (.int .i64 (if attrsL t.attrs=true then 0 else 8)) []:=by
 obtain⟨hl,hnl,htl,hal⟩:=h
 have hl':=hl
 unfold lim at hl'
 have h16:t.attrs.length≤16:=by
  unfold headOk at ho
  simp only[Bool.and_eq_true,decide_eq_true_eq]at ho
  exact ho.2
 have hee:((t.attrs.length:Int)==0)=t.attrs.isEmpty:=len_zero _
 have hne:=isEmpty_beq t.name
 have hxe:=isEmpty_beq t.text
 have hge:decide ((16:Int)<(t.attrs.length:Int))=decide (16<t.attrs.length):=by
  rw[Bool.eq_iff_iff];simp;omega
 have hfull:=full_ev t.name hnl
 have hchk:=tCheck_ev t.text htl
 rw[head_bools]at ho
 have hex:=kind_excl t.kind
 generalize h1:((t.kind:Int)==1)=k1 at ho hex
 generalize h3:((t.kind:Int)==3)=k3 at ho hex
 generalize h2:((t.kind:Int)==2)=k2 at ho hex
 generalize h4:((t.kind:Int)==4)=k4 at ho hex
 generalize he:t.attrs.isEmpty=e at ho hee
 generalize hn:t.name.isEmpty=n at ho hne
 have hxb:(t.text != []) = !t.text.isEmpty:=congrArg not hxe
 have hxz:t.text.isEmpty=true→(ptsErr t.text != 0)=false:=fun h=>by rw[List.isEmpty_iff.1 h];rfl
 generalize hx:t.text.isEmpty=x at ho hxe hxb hxz
 generalize hf:fullL t.name=f at ho hfull
 generalize hg:decide (16<t.attrs.length)=g at ho hge
 generalize hz:(ptsErr t.text != 0)=z at ho hxz
 rcases check_leaves k1 k3 k2 k4 e n x f g z hex with ⟨rfl,rfl,rfl,rfl,rfl⟩|⟨rfl,rfl,rfl,rfl,rfl,rfl⟩|⟨rfl,rfl,rfl,rfl,rfl,rfl,rfl⟩|⟨rfl,rfl,rfl,rfl,rfl,rfl,rfl,rfl⟩|⟨rfl,rfl,rfl,rfl,rfl,rfl,rfl,rfl⟩|⟨rfl,rfl,rfl,rfl,rfl⟩|⟨rfl,rfl,rfl,rfl,rfl,rfl⟩|⟨rfl,rfl,rfl,rfl,rfl,rfl,rfl⟩|⟨rfl,rfl,rfl,rfl,rfl,rfl,rfl,rfl⟩|⟨rfl,rfl,rfl,rfl,rfl,rfl,rfl,rfl⟩|⟨rfl,rfl,rfl,rfl,rfl⟩|⟨rfl,rfl,rfl,rfl,rfl,rfl⟩|⟨rfl,rfl,rfl,rfl,rfl,rfl,rfl⟩|⟨rfl,rfl,rfl,rfl,rfl,rfl,rfl,rfl⟩|⟨rfl,rfl,rfl,rfl,rfl,rfl,rfl,rfl,rfl⟩|⟨rfl,rfl,rfl,rfl,rfl,rfl,rfl,rfl,rfl⟩|⟨rfl,rfl,rfl,rfl,rfl⟩|⟨rfl,rfl,rfl,rfl,rfl,rfl⟩|⟨rfl,rfl,rfl,rfl,rfl,rfl,rfl⟩|⟨rfl,rfl,rfl,rfl,rfl,rfl,rfl,rfl⟩|⟨rfl,rfl,rfl,rfl,rfl,rfl,rfl,rfl,rfl⟩|⟨rfl,rfl,rfl,rfl,rfl,rfl,rfl,rfl,rfl⟩|⟨rfl,rfl,rfl,rfl⟩
 all_goals (try (exfalso;simp at ho;done))
 all_goals (try (exfalso;exact absurd (hxz rfl) (by decide)))
 all_goals (
  refine ev_go rfl (fun cargs w=>call67 cargs w) func67 rfl mixed (by kernel_rfl) rfl ?_;intro b0 hb0
  repeat' first|simp only[fins,mems,results67,ntmps67,wks,tkC,hee,hne,hxe,hxb,Bt,Bf,hge,hz,h1,h2,h3,h4,Lm,vcs,seval,tys]|exact rfl|refine call_off (v:=.any) ?_|(first|(refine call_fn ?_ (hfull _) ?_)|(refine call_fn_g ?_ (fun _=>hfull _) ?_)|(refine call_fn ?_ (hchk _) ?_)|(refine call_fn_g ?_ (fun _=>hchk _) ?_))|(refine call_off (v:=.any) ?_)|((first|apply Ca|apply Cb)<;>intro hb)|refine Ai (by omega) ?_|(apply Ai<;>intro hb))
 all_goals (
  (refine loop_can2 cxG (fun x:Nat=>t.attrs.length-x) (fun x=>x≤t.attrs.length∧attrsTo t.attrs x) (b0+16) (fun x=>[(1,.ptr b0 0 0),(76,.sl false 2 (t.attrs.map prC)),(77,.int .i64 t.attrs.length),(78,.int .i64 x)]) (fun x=>[(b0,⟨4,[tkC t]⟩)]) (0) [some b0] ?_ ?_ ?_ ?_;rotate_left 1;(focus (show b0≤_;omega));(focus (refine⟨?_,?_⟩<;>(try simp only[cans,plain_pr,plain_tkR,tkC,Lm,vcs,seval,tys,injs])<;>(try omega)));rotate_left 1))
 all_goals (first|exact⟨Nat.zero_le _,fun i a hi=>by omega⟩|skip)
 all_goals (
  rintro k ⟨hk,hn⟩
  by_cases hlt:k<t.attrs.length
  ·obtain⟨a,ha⟩:∃ a,t.attrs[k]? = some a:=⟨_,List.getElem?_eq_getElem hlt⟩
   obtain⟨hs1,hs2⟩:=hal a (List.mem_of_getElem? ha)
   have hat:=pr_at ha
   have hd:decide (k<t.attrs.length)=true:=decide_eq_true hlt
   have hwk:IntKind.i64.wrap ((k:Int)+1)=((k+1:Nat):Int):=wrap_in (by omega) (by omega)
   have hki:(k:Int)≤(t.attrs.length:Int):=by omega
   have htk:(t.attrs.map prC).take k=(t.attrs.take k).map prC:=by rw[List.map_take]
   have hlen:(t.attrs.take k).length≤lim:=by rw[List.length_take];unfold lim;omega
   have hf2:=full_ev a.name hs1
   have hc2:=tCheck_ev a.value hs2
   have hh2:=containsprL_ev (t.attrs.take k) 107 [.rp (prC a)] (fun b=>a.name==b.name) (fun b _ nm=>check1_ev a b nm) hlen rfl
   have hok:okP (t.attrs.take k) a=(!((t.attrs.take k).any fun b=>a.name==b.name)&&fullL a.name&&decide (ptsErr a.value=0)):=rfl
   have hz2:decide (ptsErr a.value=0) = !(ptsErr a.value != 0):=by rw[Bool.eq_iff_iff];simp
   rw[hz2]at hok
   generalize hb1:((t.attrs.take k).any fun b=>a.name==b.name)=b1 at hh2 hok
   generalize hb2:fullL a.name=b2 at hf2 hok
   generalize hb3:(ptsErr a.value != 0)=b3 at hok
   cases ho2:okP (t.attrs.take k) a with
   | false =>
    have hr:=attrs_false ha ho2
    rw[ho2]at hok
    cases b1<;>cases b2<;>cases b3
    all_goals (try (exfalso;simp at hok;done))
    all_goals ((repeat' first|simp only[fins,mems,results67,ntmps67,wks,plain_pr,tkC,hat,prC,hd,hlt,hk,hki,htk,hb3,hr,Bt,Bf,Lm,Nat.zero_add,vcs,seval,tys]|exact rfl|refine call_off (v:=.any) ?_|(first|(refine call_fn ?_ (hf2 _) ?_)|(refine call_fn_g ?_ (fun _=>hf2 _) ?_)|(refine call_fn ?_ (hc2 _) ?_)|(refine call_fn_g ?_ (fun _=>hc2 _) ?_))|((refine call_fn_vx (xs:=?_) [b0+80] ?_ ?_ ?_ rfl (hh2 _) ?_);rotate_left 1)|(refine call_off (v:=.any) ?_)|omega|((first|apply Ca|apply Cb)<;>intro hb)|refine Ai (by omega) ?_|(apply Ai<;>intro hb)|refine Fin.pure ?_ ?_ ?_|simp only[injs]))
   | true =>
    have hn':=attrsTo_succ hn ha ho2
    rw[ho2]at hok
    cases b1<;>cases b2<;>cases b3
    all_goals (try (exfalso;simp at hok;done))
    all_goals (repeat' first|simp only[fins,mems,results67,ntmps67,wks,plain_pr,tkC,hat,prC,hd,hlt,hk,hki,htk,hb3,hwk,Bt,Bf,Lm,Nat.zero_add,vcs,seval,tys]|exact rfl|refine call_off (v:=.any) ?_|(first|(refine call_fn ?_ (hf2 _) ?_)|(refine call_fn_g ?_ (fun _=>hf2 _) ?_)|(refine call_fn ?_ (hc2 _) ?_)|(refine call_fn_g ?_ (fun _=>hc2 _) ?_))|((refine call_fn_vx (xs:=?_) [b0+80] ?_ ?_ ?_ rfl (hh2 _) ?_);rotate_left 1)|omega|((first|apply Ca|apply Cb)<;>intro hb)|refine Ai (by omega) ?_|(apply Ai<;>intro hb))
    all_goals ((refine again_can2 cxG (k+1) [some b0] ?_ ?_ ?_ ?_;rotate_left 2;(focus (show b0≤_;omega));(focus (refine⟨?_,?_⟩<;>(try simp only[cans,plain_pr,plain_tkR,tkC,hwk,vcs,seval,tys,injs])<;>(try omega)))))
    all_goals (first|(show t.attrs.length-(k+1)<t.attrs.length-k;omega)|exact⟨hlt,hn'⟩|skip)
  ·have hke:k=t.attrs.length:=by omega
   subst hke
   have hd:decide (t.attrs.length<t.attrs.length)=false:=decide_eq_false (by omega)
   have hr:attrsL t.attrs=true:=attrs_iff.2 ⟨h16,hn⟩
   (repeat' first|simp only[fins,mems,results67,ntmps67,wks,hd,hr,Lm,vcs,seval,tys]|exact rfl|refine call_off (v:=.any) ?_|((first|apply Ca|apply Cb)<;>intro hb)|refine Ai (by omega) ?_|(apply Ai<;>intro hb)|refine Fin.pure ?_ ?_ ?_|simp only[injs]))
theorem check_ev (t:Tk)(h:t.okTo lim)(nm:Nat):Ev cx 67 nm [.agg (tkC t)] Mem.nil (.int .i64 (tokE t)) []:=by
 unfold tokE
 rw[tok_head]
 cases ho:headOk t with
 | false=>exact check_bad t h ho nm
 | true =>
  have:=check_good t h ho nm
  simpa using this
end Go.Proofs.YtjdjclecdfhciaaGreatDoor
