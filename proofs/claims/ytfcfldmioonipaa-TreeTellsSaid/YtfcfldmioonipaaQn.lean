/-
 Texts joined: XSn,XSo,XUc,XUd,XUe,XSp,XSg,XSq,XPa.
-/
import Derived.Test.YtfcfldmioonipaaQm
import Derived.Test.YtfcfldmioonipaaQh
import Derived.Test.YtfcfldmioonipaaQi
import Derived.Test.YtfcfldmioonipaaQl
import Derived.Test.YtfcfldmioonipaaQk
namespace Go.Proofs.Ytfcfldmioonipaa
set_option maxRecDepth 100000
set_option maxHeartbeats 32000000
set_option linter.unusedSimpArgs false
set_option linter.unusedVariables false
open Go Go.RowKit Vm Go.Lib Try
open Vm renaming cond_bool→Ca,cond_bit→Cb
open And renaming intro→Ai
open List renaming length_map→Lm,not_mem_nil→Ln,map_nil→Lo,map_cons→Lc,mem_cons→Lk
open Bool renaming not_false→Bf,not_true→Bt
def partV (v:List Nd):V:=.sl false 6 (v.map ndC)
theorem leLL_snoc (a:List (List V))(r s:List V):leLL (a++[r]) (a++[s])=leL r s:=by
 apply propext
 induction a with
 | nil=>simp[leLL]
 | cons x a ih =>
  simp only[List.cons_append,leLL,ih]
  exact⟨fun h=>h.2,fun h=>⟨leL_refl x,h⟩⟩
structure PSt where
 k:Nat
 g:Gr
 junk:List Nat
 last:Nat
def PSt.inv (l:List Tk)(x:PSt):Prop:=x.k≤l.length∧x.g.Ok x.k∧goG ⟨[],[]⟩ false l=goG x.g (x.last==4) (l.drop x.k)
theorem eqAt_ev (a b:List At)(f:Nat)(caps:List V)(hf:∀ x∈a,∀ y∈b,∀ nm,Ev cx f nm (.agg (atC x) :: .agg (atC y)::caps) Mem.nil (.bool (decide (x=y))) [])(ha:a.length≤lim)(hb:b.length≤lim)(hpl:plainL caps=true)(nm:Nat):Ev cx 66 nm [.sl false 3 (a.map atC),.sl false 3 (b.map atC),.fn f caps] Mem.nil (.bool (decide (a=b))) []:=by
 unfold lim at ha hb
 by_cases hl:a.length=b.length
 ·have e1:(((a.length:Nat):Int) !=((b.length:Nat):Int))=false:=len_bne_eq hl
  refine ev_go rfl (fun cargs w=>call66 cargs w) func66 rfl mixed (by kernel_rfl) rfl ?_;intro b0 hb0
  repeat' first|simp only[fins,mems,results66,ntmps66,wks,e1,Bt,Lm,vcs,seval,tys]|exact rfl|refine call_off (v:=.any) ?_|((first|(refine call_val (g:=?_) ?_ ?_)|(refine call_valg (g:=?_) ?_ ?_));rotate_left 1;(focus (simp only[results66,ntmps66,wks,e1,Bt,Lm,vcs,seval,tys]<;>exact rfl)))|((first|apply Ca|apply Cb)<;>intro hb)|refine Ai (by omega) ?_|(apply Ai<;>intro hb)
  (refine loop_can2 cxG (fun x:Nat=>a.length-x) (fun x=>x≤a.length∧sameTo a b x) (b0+16) (fun x=>[(1,.sl false 3 (b.map atC)),(2,.fn f caps),(15,.sl false 3 (a.map atC)),(16,.int .i64 a.length),(17,.int .i64 x)]) (fun x=>[]) (0) [] ?_ ?_ ?_ ?_;rotate_left 1;(focus (show b0≤_;omega));(focus (refine⟨?_,?_⟩<;>(try simp only[cans,plain_at,finL_caps hpl,finLOk_caps hpl,Lm,vcs,seval,tys,injs])<;>(try omega)));rotate_left 1)
  ·exact⟨Nat.zero_le _,fun i hi=>by omega⟩
  ·rintro k ⟨hk,hsm⟩
   by_cases hlt:k<a.length
   ·obtain⟨x,hx⟩:∃ x,a[k]? = some x:=⟨_,List.getElem?_eq_getElem hlt⟩
    obtain⟨y,hy⟩:∃ y,b[k]? = some y:=⟨_,List.getElem?_eq_getElem (hl ▸ hlt)⟩
    have hax:=at_at hx
    have hby:=at_at hy
    have hd:decide (k<a.length)=true:=decide_eq_true hlt
    have hlt2:k<b.length:=hl ▸ hlt
    have hwk:IntKind.i64.wrap ((k:Int)+1)=((k+1:Nat):Int):=wrap_in (by omega) (by omega)
    have hfh:=hf x (List.mem_of_getElem? hx) y (List.mem_of_getElem? hy)
    by_cases hxy:x=y
    ·subst hxy
     have hsm':=sameTo_succ hsm hx hy
     rw[decide_eq_true rfl]at hfh
     repeat' first|simp only[fins,mems,results66,ntmps66,wks,plain_at,hax,hby,atC,hd,hlt,hlt2,hwk,Bt,Lm,vcs,seval,tys]|exact rfl|refine call_off (v:=.any) ?_|refine call_pure (g:=f) (caps:=caps) (by simp only[results66,ntmps66,wks,plain_at,hax,hby,atC,hd,hlt,hlt2,hwk,Bt,Lm,vcs,seval,tys]<;>exact rfl) (by simp only[results66,ntmps66,wks,plain_at,hax,hby,atC,hd,hlt,hlt2,hwk,Bt,Lm,vcs,seval,tys]<;>exact rfl) (hfh _) ?_|((first|(refine call_val (g:=?_) ?_ ?_)|(refine call_valg (g:=?_) ?_ ?_));rotate_left 1;(focus (simp only[results66,ntmps66,wks,plain_at,hax,hby,atC,hd,hlt,hlt2,hwk,Bt,Lm,vcs,seval,tys]<;>exact rfl)))|((first|apply Ca|apply Cb)<;>intro hb)|refine Ai (by omega) ?_|(apply Ai<;>intro hb)
     all_goals ((refine again_can2 cxG (k+1) [] ?_ ?_ ?_ ?_;rotate_left 2;(focus (show b0≤_;omega));(focus (refine⟨?_,?_⟩<;>(try simp only[cans,plain_at,finL_caps hpl,finLOk_caps hpl,hwk,Lm,vcs,seval,tys,injs])<;>(try omega)))))
     all_goals (first|(show a.length-(k+1)<a.length-k;omega)|exact⟨hlt,hsm'⟩|skip)
    ·have hr:decide (a=b)=false:=decide_eq_false (same_no hx hy hxy)
     rw[decide_eq_false hxy]at hfh
     (repeat' first|simp only[fins,mems,results66,ntmps66,wks,plain_at,hax,hby,atC,hd,hlt,hlt2,hr,Bf,Lm,vcs,seval,tys]|exact rfl|refine call_off (v:=.any) ?_|refine call_pure (g:=f) (caps:=caps) (by simp only[results66,ntmps66,wks,plain_at,hax,hby,atC,hd,hlt,hlt2,hr,Bf,Lm,vcs,seval,tys]<;>exact rfl) (by simp only[results66,ntmps66,wks,plain_at,hax,hby,atC,hd,hlt,hlt2,hr,Bf,Lm,vcs,seval,tys]<;>exact rfl) (hfh _) ?_|((first|(refine call_val (g:=?_) ?_ ?_)|(refine call_valg (g:=?_) ?_ ?_));rotate_left 1;(focus (simp only[results66,ntmps66,wks,plain_at,hax,hby,atC,hd,hlt,hlt2,hr,Bf,Lm,vcs,seval,tys]<;>exact rfl)))|((first|apply Ca|apply Cb)<;>intro hb)|refine Ai (by omega) ?_|(apply Ai<;>intro hb)|refine Fin.pure ?_ ?_ ?_|simp only[injs])
   ·have hke:k=a.length:=by omega
    subst hke
    have hr:decide (a=b)=true:=decide_eq_true (same_all hl hsm)
    have hd:decide (a.length<a.length)=false:=decide_eq_false (by omega)
    (repeat' first|simp only[fins,mems,results66,ntmps66,wks,hd,hr,Lm,vcs,seval,tys]|exact rfl|refine call_off (v:=.any) ?_|((first|(refine call_val (g:=?_) ?_ ?_)|(refine call_valg (g:=?_) ?_ ?_));rotate_left 1;(focus (simp only[results66,ntmps66,wks,hd,hr,Lm,vcs,seval,tys]<;>exact rfl)))|((first|apply Ca|apply Cb)<;>intro hb)|refine Ai (by omega) ?_|(apply Ai<;>intro hb)|refine Fin.pure ?_ ?_ ?_|simp only[injs])
 ·have e1:(((a.length:Nat):Int) !=((b.length:Nat):Int))=true:=len_bne_ne hl
  have hr:decide (a=b)=false:=decide_eq_false (fun e=>hl (congrArg List.length e))
  refine ev_go rfl (fun cargs w=>call66 cargs w) func66 rfl mixed (by kernel_rfl) rfl ?_;intro b0 hb0
  (repeat' first|simp only[fins,mems,results66,ntmps66,wks,e1,hr,Bf,Lm,vcs,seval,tys]|exact rfl|refine call_off (v:=.any) ?_|((first|(refine call_val (g:=?_) ?_ ?_)|(refine call_valg (g:=?_) ?_ ?_));rotate_left 1;(focus (simp only[results66,ntmps66,wks,e1,hr,Bf,Lm,vcs,seval,tys]<;>exact rfl)))|((first|apply Ca|apply Cb)<;>intro hb)|refine Ai (by omega) ?_|(apply Ai<;>intro hb)|refine Fin.pure ?_ ?_ ?_|simp only[injs])
theorem eqNd_ev (a b:List Nd)(f:Nat)(caps:List V)(hf:∀ x∈a,∀ y∈b,∀ nm,Ev cx f nm (.agg (ndC x) :: .agg (ndC y)::caps) Mem.nil (.bool (decide (x=y))) [])(ha:a.length≤lim)(hb:b.length≤lim)(hpl:plainL caps=true)(nm:Nat):Ev cx 65 nm [.sl false 6 (a.map ndC),.sl false 6 (b.map ndC),.fn f caps] Mem.nil (.bool (decide (a=b))) []:=by
 unfold lim at ha hb
 by_cases hl:a.length=b.length
 ·have e1:(((a.length:Nat):Int) !=((b.length:Nat):Int))=false:=len_bne_eq hl
  refine ev_go rfl (fun cargs w=>call65 cargs w) func65 rfl mixed (by kernel_rfl) rfl ?_;intro b0 hb0
  repeat' first|simp only[fins,mems,results65,ntmps65,wks,e1,Bt,Lm,vcs,seval,tys]|exact rfl|refine call_off (v:=.any) ?_|((first|(refine call_val (g:=?_) ?_ ?_)|(refine call_valg (g:=?_) ?_ ?_));rotate_left 1;(focus (simp only[results65,ntmps65,wks,e1,Bt,Lm,vcs,seval,tys]<;>exact rfl)))|((first|apply Ca|apply Cb)<;>intro hb)|refine Ai (by omega) ?_|(apply Ai<;>intro hb)
  (refine loop_can2 cxG (fun x:Nat=>a.length-x) (fun x=>x≤a.length∧sameTo a b x) (b0+16) (fun x=>[(1,.sl false 6 (b.map ndC)),(2,.fn f caps),(15,.sl false 6 (a.map ndC)),(16,.int .i64 a.length),(17,.int .i64 x)]) (fun x=>[]) (0) [] ?_ ?_ ?_ ?_;rotate_left 1;(focus (show b0≤_;omega));(focus (refine⟨?_,?_⟩<;>(try simp only[cans,plain_nd,finL_caps hpl,finLOk_caps hpl,Lm,vcs,seval,tys,injs])<;>(try omega)));rotate_left 1)
  ·exact⟨Nat.zero_le _,fun i hi=>by omega⟩
  ·rintro k ⟨hk,hsm⟩
   by_cases hlt:k<a.length
   ·obtain⟨x,hx⟩:∃ x,a[k]? = some x:=⟨_,List.getElem?_eq_getElem hlt⟩
    obtain⟨y,hy⟩:∃ y,b[k]? = some y:=⟨_,List.getElem?_eq_getElem (hl ▸ hlt)⟩
    have hax:=nd_at hx
    have hby:=nd_at hy
    have hd:decide (k<a.length)=true:=decide_eq_true hlt
    have hlt2:k<b.length:=hl ▸ hlt
    have hwk:IntKind.i64.wrap ((k:Int)+1)=((k+1:Nat):Int):=wrap_in (by omega) (by omega)
    have hfh:=hf x (List.mem_of_getElem? hx) y (List.mem_of_getElem? hy)
    by_cases hxy:x=y
    ·subst hxy
     have hsm':=sameTo_succ hsm hx hy
     rw[decide_eq_true rfl]at hfh
     repeat' first|simp only[fins,mems,results65,ntmps65,wks,plain_nd,hax,hby,ndC,hd,hlt,hlt2,hwk,Bt,Lm,vcs,seval,tys]|exact rfl|refine call_off (v:=.any) ?_|refine call_pure (g:=f) (caps:=caps) (by simp only[results65,ntmps65,wks,plain_nd,hax,hby,ndC,hd,hlt,hlt2,hwk,Bt,Lm,vcs,seval,tys]<;>exact rfl) (by simp only[results65,ntmps65,wks,plain_nd,hax,hby,ndC,hd,hlt,hlt2,hwk,Bt,Lm,vcs,seval,tys]<;>exact rfl) (hfh _) ?_|((first|(refine call_val (g:=?_) ?_ ?_)|(refine call_valg (g:=?_) ?_ ?_));rotate_left 1;(focus (simp only[results65,ntmps65,wks,plain_nd,hax,hby,ndC,hd,hlt,hlt2,hwk,Bt,Lm,vcs,seval,tys]<;>exact rfl)))|((first|apply Ca|apply Cb)<;>intro hb)|refine Ai (by omega) ?_|(apply Ai<;>intro hb)
     all_goals ((refine again_can2 cxG (k+1) [] ?_ ?_ ?_ ?_;rotate_left 2;(focus (show b0≤_;omega));(focus (refine⟨?_,?_⟩<;>(try simp only[cans,plain_nd,finL_caps hpl,finLOk_caps hpl,hwk,Lm,vcs,seval,tys,injs])<;>(try omega)))))
     all_goals (first|(show a.length-(k+1)<a.length-k;omega)|exact⟨hlt,hsm'⟩|skip)
    ·have hr:decide (a=b)=false:=decide_eq_false (same_no hx hy hxy)
     rw[decide_eq_false hxy]at hfh
     (repeat' first|simp only[fins,mems,results65,ntmps65,wks,plain_nd,hax,hby,ndC,hd,hlt,hlt2,hr,Bf,Lm,vcs,seval,tys]|exact rfl|refine call_off (v:=.any) ?_|refine call_pure (g:=f) (caps:=caps) (by simp only[results65,ntmps65,wks,plain_nd,hax,hby,ndC,hd,hlt,hlt2,hr,Bf,Lm,vcs,seval,tys]<;>exact rfl) (by simp only[results65,ntmps65,wks,plain_nd,hax,hby,ndC,hd,hlt,hlt2,hr,Bf,Lm,vcs,seval,tys]<;>exact rfl) (hfh _) ?_|((first|(refine call_val (g:=?_) ?_ ?_)|(refine call_valg (g:=?_) ?_ ?_));rotate_left 1;(focus (simp only[results65,ntmps65,wks,plain_nd,hax,hby,ndC,hd,hlt,hlt2,hr,Bf,Lm,vcs,seval,tys]<;>exact rfl)))|((first|apply Ca|apply Cb)<;>intro hb)|refine Ai (by omega) ?_|(apply Ai<;>intro hb)|refine Fin.pure ?_ ?_ ?_|simp only[injs])
   ·have hke:k=a.length:=by omega
    subst hke
    have hr:decide (a=b)=true:=decide_eq_true (same_all hl hsm)
    have hd:decide (a.length<a.length)=false:=decide_eq_false (by omega)
    (repeat' first|simp only[fins,mems,results65,ntmps65,wks,hd,hr,Lm,vcs,seval,tys]|exact rfl|refine call_off (v:=.any) ?_|((first|(refine call_val (g:=?_) ?_ ?_)|(refine call_valg (g:=?_) ?_ ?_));rotate_left 1;(focus (simp only[results65,ntmps65,wks,hd,hr,Lm,vcs,seval,tys]<;>exact rfl)))|((first|apply Ca|apply Cb)<;>intro hb)|refine Ai (by omega) ?_|(apply Ai<;>intro hb)|refine Fin.pure ?_ ?_ ?_|simp only[injs])
 ·have e1:(((a.length:Nat):Int) !=((b.length:Nat):Int))=true:=len_bne_ne hl
  have hr:decide (a=b)=false:=decide_eq_false (fun e=>hl (congrArg List.length e))
  refine ev_go rfl (fun cargs w=>call65 cargs w) func65 rfl mixed (by kernel_rfl) rfl ?_;intro b0 hb0
  (repeat' first|simp only[fins,mems,results65,ntmps65,wks,e1,hr,Bf,Lm,vcs,seval,tys]|exact rfl|refine call_off (v:=.any) ?_|((first|(refine call_val (g:=?_) ?_ ?_)|(refine call_valg (g:=?_) ?_ ?_));rotate_left 1;(focus (simp only[results65,ntmps65,wks,e1,hr,Bf,Lm,vcs,seval,tys]<;>exact rfl)))|((first|apply Ca|apply Cb)<;>intro hb)|refine Ai (by omega) ?_|(apply Ai<;>intro hb)|refine Fin.pure ?_ ?_ ?_|simp only[injs])
theorem same1_ev (x y:At)(nm:Nat):Ev cx 49 nm [.agg (atC x),.agg (atC y)] Mem.nil (.bool (decide (x=y))) []:=by
 have h:decide (x=y)=((x.space==y.space)&&((x.name==y.name)&&(x.value==y.value))):=by
  cases x;cases y
  rw[Bool.eq_iff_iff];simp
 rw[h]
 refine ev_go rfl (fun cargs w=>call49 cargs w) func49 rfl mixed (by kernel_rfl) rfl ?_;intro b0 hb0
 (repeat' first|simp only[fins,mems,results49,ntmps49,wks,atC,Bool.and_true,vcs,seval,tys]|exact rfl|refine call_off (v:=.any) ?_|((first|apply Ca|apply Cb)<;>intro hb)|refine Ai (by omega) ?_|(apply Ai<;>intro hb)|refine Fin.pure ?_ ?_ ?_|simp only[injs])
theorem sameAtT_ev (a b:List At)(ha:a.length≤lim)(hb:b.length≤lim)(nm:Nat):Ev cx 52 nm [.sl false 3 (a.map atC),.sl false 3 (b.map atC),.fn 49 []] Mem.nil (.bool (decide (a=b))) []:=by
 have h:=eqAt_ev a b 49 [] (fun x _ y _ nm=>same1_ev x y nm) ha hb rfl
 refine ev_go rfl (fun cargs w=>call52 cargs w) func52 rfl mixed (by kernel_rfl) rfl ?_;intro b0 hb0
 (repeat' first|simp only[fins,mems,results52,ntmps52,wks,Lm,vcs,seval,tys]|exact rfl|refine call_off (v:=.any) ?_|(first|(refine call_fn ?_ (h _) ?_)|(refine call_fn_g ?_ (fun _=>h _) ?_))|((first|apply Ca|apply Cb)<;>intro hb)|refine Ai (by omega) ?_|(apply Ai<;>intro hb)|refine Fin.pure ?_ ?_ ?_|simp only[injs])
theorem same2_ev (x y:Nd)(hx:x.attrs.length≤lim)(hy:y.attrs.length≤lim)(nm:Nat):Ev cx 51 nm [.agg (ndC x),.agg (ndC y),.rp [.fn 49 []]] Mem.nil (.bool (decide (x=y))) []:=by
 have hs:=sameAtT_ev x.attrs y.attrs hx hy
 have h:decide (x=y)=(((((((x.kind:Int)==(y.kind:Int))&&(x.space==y.space))&&(x.name==y.name))&&(x.text==y.text))&&(x.many==y.many))&&decide (x.attrs=y.attrs)):=by
  rw[Bool.eq_iff_iff]
  simp only[decide_eq_true_eq,Bool.and_eq_true,beq_iff_eq,nd_eq]
  constructor
  ·rintro ⟨h1,h2,h3,h4,h5,h6⟩;exact⟨⟨⟨⟨⟨by omega,h2⟩,h3⟩,h4⟩,h5⟩,h6⟩
  ·rintro ⟨⟨⟨⟨⟨h1,h2⟩,h3⟩,h4⟩,h5⟩,h6⟩;exact⟨by omega,h2,h3,h4,h5,h6⟩
 rw[h]
 refine ev_go rfl (fun cargs w=>call51 cargs w) func51 rfl mixed (by kernel_rfl) rfl ?_;intro b0 hb0
 (repeat' first|simp only[fins,mems,results51,ntmps51,wks,ndC,plain_at,vcs,seval,tys]|exact rfl|refine call_off (v:=.any) ?_|(first|(refine call_fn ?_ (hs _) ?_)|(refine call_fn_g ?_ (fun _=>hs _) ?_))|((first|apply Ca|apply Cb)<;>intro hb)|refine Ai (by omega) ?_|(apply Ai<;>intro hb)|refine Fin.pure ?_ ?_ ?_|simp only[injs])
theorem sameT_ev (a b:List Nd)(ha:a.length≤lim)(hb:b.length≤lim)(ha2:∀ t∈a,t.attrs.length≤lim)(hb2:∀ t∈b,t.attrs.length≤lim)(nm:Nat):Ev cx 24 nm [.sl false 6 (a.map ndC),.sl false 6 (b.map ndC)] Mem.nil (.bool (decide (a=b))) []:=by
 have h:=eqNd_ev a b 51 [.rp [.fn 49 []]] (fun x hx y hy nm=>same2_ev x y (ha2 x hx) (hb2 y hy) nm) ha hb rfl
 have h2:∀ nm,Ev cx 50 nm [.sl false 6 (a.map ndC),.sl false 6 (b.map ndC),.fn 51 [.rp [.fn 49 []]]] Mem.nil (.bool (decide (a=b))) []:=by
  intro nm
  refine ev_go rfl (fun cargs w=>call50 cargs w) func50 rfl mixed (by kernel_rfl) rfl ?_;intro b0 hb0
  (repeat' first|simp only[fins,mems,results50,ntmps50,wks,Lm,vcs,seval,tys]|exact rfl|refine call_off (v:=.any) ?_|(first|(refine call_fn ?_ (h _) ?_)|(refine call_fn_g ?_ (fun _=>h _) ?_))|((first|apply Ca|apply Cb)<;>intro hb)|refine Ai (by omega) ?_|(apply Ai<;>intro hb)|refine Fin.pure ?_ ?_ ?_|simp only[injs])
 refine ev_go rfl (fun cargs w=>call24 cargs w) func24 rfl mixed (by kernel_rfl) rfl ?_;intro b0 hb0
 (repeat' first|simp only[fins,mems,results24,ntmps24,wks,plain_nd,vcs,seval,tys]|exact rfl|refine call_off (v:=.any) ?_|((refine call_fn_vx (xs:=?_) [b0+16] ?_ ?_ ?_ rfl (h2 _) ?_);rotate_left 1)|omega|((first|apply Ca|apply Cb)<;>intro hb)|refine Ai (by omega) ?_|(apply Ai<;>intro hb)|refine Fin.pure ?_ ?_ ?_|simp only[injs])
def atN (a:At):Nat:=min a.name.length 20000+min a.space.length 20000+min a.value.length 20000
def atsN (l:List At):Nat:=(l.map atN).sum
def ndN (x:Nd):Nat:=min x.name.length 20000+min x.space.length 20000+min x.text.length 20000
def gGo (bytes:Nat):List Nd→Nat→Bool×Nat
 | [],n=>(false,n)
 | x::r,n=>if 30<x.attrs.length∨bytes<n+ndN x then (true,n) else gGo bytes r (n+ndN x+atsN x.attrs)
def greatV (v:List Nd)(most bytes:Nat):Bool:=(gGo bytes (v.take 600) 0).1||decide (most<v.length)||decide (bytes<(gGo bytes (v.take 600) 0).2)
theorem atN_le (a:At):atN a≤60000:=by unfold atN;omega
theorem ndN_le (x:Nd):ndN x≤60000:=by unfold ndN;omega
theorem atsN_le (l:List At):atsN l≤60000*l.length:=by
 unfold atsN
 induction l with
 | nil=>simp
 | cons a l ih=>have:=atN_le a;simp only[Lc,List.sum_cons,List.length_cons];omega
theorem atsN_take {l:List At}{k:Nat}{a:At}(h:l[k]? = some a):atsN (l.take (k+1))=atsN (l.take k)+atN a:=by
 obtain⟨hk,rfl⟩:=List.getElem?_eq_some_iff.1 h
 unfold atsN
 rw[List.take_succ_eq_append_getElem hk,List.map_append,List.sum_append];simp
theorem atsN_mem {l:List At}{a:At}(h:a∈l):atN a≤atsN l:=by
 unfold atsN
 induction l with
 | nil=>cases h
 | cons b l ih =>
  simp only[Lc,List.sum_cons]
  rcases List.mem_cons.1 h with rfl|h
  ·omega
  ·have:=ih h;omega
theorem gGo_small {bytes:Nat} : ∀(v:List Nd) (n:Nat),(gGo bytes v n).1=false→n≤(gGo bytes v n).2 ∧ ∀ x∈v,x.attrs.length≤30∧ndN x+atsN x.attrs≤(gGo bytes v n).2
 | [],n,_=>⟨Nat.le_refl _,fun x hx=>by cases hx⟩
 | x::r,n,h=>by
  simp only[gGo]at h ⊢
  split at h
  ·cases h
  ·rename_i hc
   rw[if_neg hc]
   obtain⟨h1,h2⟩:=gGo_small r _ h
   refine⟨by omega,fun y hy=>?_⟩
   rcases List.mem_cons.1 hy with rfl|hy
   ·exact⟨by omega,by omega⟩
   ·exact h2 y hy
theorem great_small10 {v:List Nd}{most bytes:Nat}(hm:most≤600)(hb:bytes<20000)(h:greatV v most bytes=false):v.length≤most ∧ ∀ x∈v,x.attrs.length≤30∧x.okTo 20000∧x.name.length+x.space.length+x.text.length≤bytes:=by
 unfold greatV at h
 simp only[Bool.or_eq_false_iff,decide_eq_false_iff_not,Nat.not_lt]at h
 obtain⟨⟨h1,h2⟩,h3⟩:=h
 refine⟨h2,fun x hx=>?_⟩
 have ht:v.take 600=v:=List.take_of_length_le (by omega)
 rw[ht]at h1 h3
 obtain⟨_,h5⟩:=gGo_small v 0 h1
 obtain⟨h6,h7⟩:=h5 x hx
 have hn:ndN x≤bytes:=by omega
 have ha:atsN x.attrs≤bytes:=by omega
 unfold ndN at hn
 refine⟨h6,⟨?_,?_,?_,?_,fun a ha2=>?_⟩,by omega⟩
 ·omega
 ·omega
 ·omega
 ·omega
 ·have:=atsN_mem ha2
  unfold atN at this
  exact⟨by omega,by omega,by omega⟩
theorem zero_ats:atsN []=0:=rfl
structure GSt where
 k:Nat
 n:Nat
theorem great10_ev (v:List Nd)(most bytes:Nat)(hm:most≤1000)(hb:bytes≤1000000)(hv:v.length≤lim)(hok:∀ n∈v,n.okTo lim)(nm:Nat):Ev cx 5 nm [.sl false 6 (v.map ndC),.int .i64 most,.int .i64 bytes] Mem.nil (.bool (greatV v most bytes)) []:=by
  have hv':=hv
  unfold lim at hv'
  refine ev_go rfl (fun cargs w=>call5 cargs w) func5 rfl mixed (by kernel_rfl) rfl ?_;intro b0 hb0
  repeat' first|simp only[fins,mems,results5,ntmps5,wks,vcs,seval,tys]|exact rfl|refine call_off (v:=.any) ?_|refine draw_end (by decide +kernel) ?_|((first|apply Ca|apply Cb)<;>intro hb)|refine Ai (by omega) ?_|(apply Ai<;>intro hb)
  (refine loop_can2 cxG (fun s:GSt=>v.length-s.k) (fun s=>s.k≤v.length∧s.k≤600∧gGo bytes (v.take 600) 0=gGo bytes ((v.take 600).drop s.k) s.n∧s.n≤bytes+1800000) (b0+16) (fun s=>[(0,.sl false 6 (v.map ndC)),(1,.int .i64 most),(2,.int .i64 bytes),(7,.int .i64 s.n),(8,.int .i64 s.k)]) (fun s=>[]) (⟨0,0⟩) [] ?_ ?_ ?_ ?_;rotate_left 1;(focus (show b0≤_;omega));(focus (refine⟨?_,?_⟩<;>(try simp only[cans,plain_nd,Lm,vcs,seval,tys,injs])<;>(try omega)));rotate_left 1)
  · exact⟨Nat.zero_le _,Nat.zero_le _,rfl,Nat.zero_le _⟩
  · rintro ⟨k,n⟩ ⟨hk,hk6,hinv,hn⟩
    dsimp only at hk hk6 hinv hn ⊢
    by_cases hlt:k<v.length∧k<600
    · obtain⟨h1,h2⟩:=hlt
      obtain⟨x,hx⟩:∃ x,v[k]? = some x:=⟨_,List.getElem?_eq_getElem h1⟩
      obtain⟨o1,o2,o3,o4,o5⟩:=hok x (List.mem_of_getElem? hx)
      unfold lim at o1 o2 o3 o4
      have hat:=nd_at hx
      have hki:(k:Int)<(v.length:Int):=by omega
      have d1:decide ((k:Int)<(v.length:Int))=true:=decide_eq_true (by omega)
      have d2:decide (k<v.length)=true:=decide_eq_true h1
      have d3:decide ((k:Int)<600)=true:=decide_eq_true (by omega)
      have d4:decide (k<600)=true:=decide_eq_true h2
      have hdr:(v.take 600).drop k=x::(v.take 600).drop (k+1):=by
        have:(v.take 600)[k]? = some x:=by rw[List.getElem?_take,if_pos h2];exact hx
        obtain⟨hp,rfl⟩:=List.getElem?_eq_some_iff.1 this
        exact List.drop_eq_getElem_cons hp
      rw[hdr]at hinv
      have hnx:=ndN_le x
      have m1:min (x.name.length:Int) 20000=((min x.name.length 20000:Nat):Int):=by omega
      have m2:min (x.space.length:Int) 20000=((min x.space.length 20000:Nat):Int):=by omega
      have m3:min (x.text.length:Int) 20000=((min x.text.length 20000:Nat):Int):=by omega
      have hnd:ndN x=min x.name.length 20000+min x.space.length 20000+min x.text.length 20000:=rfl
      generalize min x.name.length 20000=n1 at m1 hnd
      generalize min x.space.length 20000=n2 at m2 hnd
      generalize min x.text.length 20000=n3 at m3 hnd
      have w1:IntKind.i64.wrap ((n:Int)+n1)=((n+n1:Nat):Int):=by rw[wrap_in (by omega) (by omega)];omega
      have w2:IntKind.i64.wrap (((n+n1:Nat):Int)+n2)=((n+(n1+n2):Nat):Int):=by rw[wrap_in (by omega) (by omega)];omega
      have w3:IntKind.i64.wrap (((n+(n1+n2):Nat):Int)+n3)=((n+ndN x:Nat):Int):=by rw[wrap_in (by omega) (by omega)];omega
      have hwk:IntKind.i64.wrap ((k:Int)+1)=((k+1:Nat):Int):=wrap_in (by omega) (by omega)
      by_cases hc:30<x.attrs.length∨bytes<n+ndN x
      · have hg:gGo bytes (v.take 600) 0=(true,n):=by rw[hinv];simp only[gGo];rw[if_pos hc]
        have hr:greatV v most bytes=true:=by unfold greatV;rw[hg];rfl
        rw[hr]
        have e1:decide ((30:Int)<(x.attrs.length:Int))=decide (30<x.attrs.length):=by rw[Bool.eq_iff_iff];simp;omega
        have e2:decide ((bytes:Int)<((n+ndN x:Nat):Int))=decide (bytes<n+ndN x):=by rw[Bool.eq_iff_iff];simp;omega
        by_cases hc1:30<x.attrs.length
        · have q1:decide (30<x.attrs.length)=true:=decide_eq_true hc1
          rw[q1]at e1
          (repeat' first|simp only[fins,mems,results5,ntmps5,wks,hat,ndC,h1,hki,d1,d2,d3,d4,m1,m2,m3,w1,w2,w3,e1,q1,Bt,Bf,Lm,vcs,seval,tys]|exact rfl|refine call_off (v:=.any) ?_|refine draw_end (by decide +kernel) ?_|((first|apply Ca|apply Cb)<;>intro hb)|refine Ai (by omega) ?_|(apply Ai<;>intro hb)|refine Fin.pure ?_ ?_ ?_|simp only[injs])
        · have q1:decide (30<x.attrs.length)=false:=decide_eq_false hc1
          have q2:decide (bytes<n+ndN x)=true:=decide_eq_true (by omega)
          rw[q1]at e1
          rw[q2]at e2
          (repeat' first|simp only[fins,mems,results5,ntmps5,wks,hat,ndC,h1,hki,d1,d2,d3,d4,m1,m2,m3,w1,w2,w3,e1,e2,q1,q2,Bt,Bf,Lm,vcs,seval,tys]|exact rfl|refine call_off (v:=.any) ?_|refine draw_end (by decide +kernel) ?_|((first|apply Ca|apply Cb)<;>intro hb)|refine Ai (by omega) ?_|(apply Ai<;>intro hb)|refine Fin.pure ?_ ?_ ?_|simp only[injs])
      · have e1:decide ((30:Int)<(x.attrs.length:Int))=false:=decide_eq_false (by omega)
        have e2:decide ((bytes:Int)<((n+ndN x:Nat):Int))=false:=decide_eq_false (by omega)
        have q1:decide (30<x.attrs.length)=false:=decide_eq_false (by omega)
        have q2:decide (bytes<n+ndN x)=false:=decide_eq_false (by omega)
        have hg:gGo bytes (x::(v.take 600).drop (k+1)) n=gGo bytes ((v.take 600).drop (k+1)) (n+ndN x+atsN x.attrs):=by simp only[gGo];rw[if_neg hc]
        rw[hg]at hinv
        have hn1:n+ndN x≤bytes:=by omega
        repeat' first|simp only[fins,mems,results5,ntmps5,wks,hat,ndC,h1,hki,d1,d2,d3,d4,m1,m2,m3,w1,w2,w3,e1,e2,q1,q2,Bt,Bf,Lm,vcs,seval,tys]|exact rfl|refine call_off (v:=.any) ?_|refine draw_end (by decide +kernel) ?_|((first|apply Ca|apply Cb)<;>intro hb)|refine Ai (by omega) ?_|(apply Ai<;>intro hb)
        (refine loop_can2 cxG (fun j:Nat=>x.attrs.length-j) (fun j=>j≤x.attrs.length) (b0+16) (fun j=>[(0,.sl false 6 (v.map ndC)),(1,.int .i64 most),(2,.int .i64 bytes),(7,.int .i64 ((n+ndN x+atsN (x.attrs.take j):Nat):Int)),(8,.int .i64 k),(9,.int .i64 j)]) (fun j=>[]) (0) [] ?_ ?_ ?_ ?_;rotate_left 1;(focus (show b0≤_;omega));(focus (refine⟨?_,?_⟩<;>(try simp only[cans,plain_nd,zero_ats,List.take_zero,Nat.add_zero,Lm,vcs,seval,tys,injs])<;>(try omega)));rotate_left 1)
        · exact Nat.zero_le _
        · intro j hj
          by_cases hja:j<x.attrs.length
          · obtain⟨a,ha⟩:∃ a,x.attrs[j]? = some a:=⟨_,List.getElem?_eq_getElem hja⟩
            obtain⟨p1,p2,p3⟩:=o5 a (List.mem_of_getElem? ha)
            unfold lim at p1 p2 p3
            have haa:=at_at ha
            have f1:decide ((j:Int)<(x.attrs.length:Int))=true:=decide_eq_true (by omega)
            have f2:decide (j<x.attrs.length)=true:=decide_eq_true hja
            have hji:(j:Int)<(x.attrs.length:Int):=by omega
            have hsum:=atsN_le (x.attrs.take j)
            have hjl:(x.attrs.take j).length≤30:=by rw[List.length_take];omega
            have hts:=atsN_take ha
            have haN:=atN_le a
            generalize hN:n+ndN x+atsN (x.attrs.take j)=N
            have hN1:n+ndN x+atsN (x.attrs.take (j+1))=N+atN a:=by omega
            have hNb:N≤bytes+1800000:=by omega
            have m4:min (a.name.length:Int) 20000=((min a.name.length 20000:Nat):Int):=by omega
            have m5:min (a.space.length:Int) 20000=((min a.space.length 20000:Nat):Int):=by omega
            have m6:min (a.value.length:Int) 20000=((min a.value.length 20000:Nat):Int):=by omega
            have had:atN a=min a.name.length 20000+min a.space.length 20000+min a.value.length 20000:=rfl
            generalize min a.name.length 20000=n4 at m4 had
            generalize min a.space.length 20000=n5 at m5 had
            generalize min a.value.length 20000=n6 at m6 had
            have v1:IntKind.i64.wrap ((N:Int)+n4)=((N+n4:Nat):Int):=by rw[wrap_in (by omega) (by omega)];omega
            have v2:IntKind.i64.wrap (((N+n4:Nat):Int)+n5)=((N+(n4+n5):Nat):Int):=by rw[wrap_in (by omega) (by omega)];omega
            have v3:IntKind.i64.wrap (((N+(n4+n5):Nat):Int)+n6)=((N+atN a:Nat):Int):=by rw[wrap_in (by omega) (by omega)];omega
            have hwj:IntKind.i64.wrap ((j:Int)+1)=((j+1:Nat):Int):=wrap_in (by omega) (by omega)
            repeat' first|simp only[fins,mems,results5,ntmps5,wks,hat,ndC,haa,atC,h1,hki,hja,hji,f1,f2,m4,m5,m6,v1,v2,v3,hwj,Lm,vcs,seval,tys]|exact rfl|refine call_off (v:=.any) ?_|refine draw_end (by decide +kernel) ?_|((first|apply Ca|apply Cb)<;>intro hb)|refine Ai (by omega) ?_|(apply Ai<;>intro hb)
            all_goals ((refine again_can2 cxG (j+1) [] ?_ ?_ ?_ ?_;rotate_left 2;(focus (show b0≤_;omega));(focus (refine⟨?_,?_⟩<;>(try simp only[cans,plain_nd,hwj,hN1,Lm,vcs,seval,tys,injs])<;>(try omega)))))
            all_goals (first|(show x.attrs.length-(j+1)<x.attrs.length-j;omega)|exact hja|skip)
          · have hje:j=x.attrs.length:=by omega
            subst hje
            have f1:decide ((x.attrs.length:Int)<(x.attrs.length:Int))=false:=decide_eq_false (by omega)
            have f2:decide (x.attrs.length<x.attrs.length)=false:=decide_eq_false (by omega)
            have hsum:=atsN_le x.attrs
            have htl:x.attrs.take x.attrs.length=x.attrs:=List.take_length
            rw[htl]
            repeat' first|simp only[fins,mems,results5,ntmps5,wks,hat,ndC,h1,hki,f1,f2,hwk,Lm,vcs,seval,tys]|exact rfl|refine call_off (v:=.any) ?_|refine draw_end (by decide +kernel) ?_|((first|apply Ca|apply Cb)<;>intro hb)|refine Ai (by omega) ?_|(apply Ai<;>intro hb)
            all_goals ((refine again_can2 cxG (⟨k+1,n+ndN x+atsN x.attrs⟩) [] ?_ ?_ ?_ ?_;rotate_left 2;(focus (show b0≤_;omega));(focus (refine⟨?_,?_⟩<;>(try simp only[cans,plain_nd,hwk,Lm,vcs,seval,tys,injs])<;>(try omega)))))
            all_goals (first|(show v.length-(k+1)<v.length-k;omega)|exact⟨h1,h2,hinv,by show n+ndN x+atsN x.attrs≤_;omega⟩|skip)
    · have hdr:(v.take 600).drop k=[]:=List.drop_of_length_le (by rw[List.length_take];omega)
      rw[hdr]at hinv
      have hg:gGo bytes (v.take 600) 0=(false,n):=hinv
      have hr:greatV v most bytes=(decide (most<v.length)||decide (bytes<n)):=by unfold greatV;rw[hg];rfl
      rw[hr]
      have e1:decide ((most:Int)<(v.length:Int))=decide (most<v.length):=by rw[Bool.eq_iff_iff];simp
      have e2:decide ((bytes:Int)<(n:Int))=decide (bytes<n):=by rw[Bool.eq_iff_iff];simp
      by_cases h1:k<v.length
      · have d1:decide ((k:Int)<(v.length:Int))=true:=decide_eq_true (by omega)
        have d2:decide (k<v.length)=true:=decide_eq_true h1
        have d3:decide ((k:Int)<600)=false:=decide_eq_false (by omega)
        have d4:decide (k<600)=false:=decide_eq_false (by omega)
        (repeat' first|simp only[fins,mems,results5,ntmps5,wks,d1,d2,d3,d4,e1,e2,Lm,vcs,seval,tys]|exact rfl|refine call_off (v:=.any) ?_|refine draw_end (by decide +kernel) ?_|((first|apply Ca|apply Cb)<;>intro hb)|refine Ai (by omega) ?_|(apply Ai<;>intro hb)|refine Fin.pure ?_ ?_ ?_|simp only[injs])
      · have d1:decide ((k:Int)<(v.length:Int))=false:=decide_eq_false (by omega)
        have d2:decide (k<v.length)=false:=decide_eq_false h1
        (repeat' first|simp only[fins,mems,results5,ntmps5,wks,d1,d2,e1,e2,Lm,vcs,seval,tys]|exact rfl|refine call_off (v:=.any) ?_|refine draw_end (by decide +kernel) ?_|((first|apply Ca|apply Cb)<;>intro hb)|refine Ai (by omega) ?_|(apply Ai<;>intro hb)|refine Fin.pure ?_ ?_ ?_|simp only[injs])
end Go.Proofs.Ytfcfldmioonipaa
namespace Go.Proofs.Ytfcfldmioonipaa
set_option maxRecDepth 100000
set_option maxHeartbeats 32000000
set_option linter.unusedSimpArgs false
set_option linter.unusedVariables false
open Go Go.RowKit Go.Lib
theorem dec_add {a b:List UInt8}(ha:(dec a).isSome=true)(hb:(dec b).isSome=true):(dec (a++b)).isSome=true:=by
 obtain⟨x,hx⟩:=Option.isSome_iff_exists.1 ha
 obtain⟨y,hy⟩:=Option.isSome_iff_exists.1 hb
 rw[dec_both hx hy];rfl
theorem flat_same:∀ {s:List UInt8},(∀ c∈s,c≠9∧c≠10∧c≠13)→s.map flatB=s
 | [],_=>rfl
 | c::s,h=>by
  have h1:=h c (by simp)
  rw[List.map_cons,flat_same fun x hx=>h x (by simp[hx])]
  congr 1
  unfold flatB blankB
  by_cases h32:c=32
  ·subst h32;rfl
  ·simp[h32,h1.1,h1.2.1,h1.2.2]
def endW (k:Nat):List UInt8:=if k=3 then [47,62] else [62]
end Go.Proofs.Ytfcfldmioonipaa
