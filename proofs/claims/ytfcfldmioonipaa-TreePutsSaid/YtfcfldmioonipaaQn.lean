/-
 Texts joined: XSn,XSo,XUc,XUd,XUe,XSp,XSg,XSq,XPa.
-/
import Derived.Test.YtfcfldmioonipaaQm
import Derived.Test.YtfcfldmioonipaaQh
import Derived.Test.YtfcfldmioonipaaQi
import Derived.Test.YtfcfldmioonipaaQl
import Derived.Test.YtfcfldmioonipaaQk
namespace Go.Proofs.Ytfcfldmioonipaa
set_option maxRecDepth 100000
set_option maxHeartbeats 32000000
set_option linter.unusedSimpArgs false
set_option linter.unusedVariables false
open Go Go.RowKit Vm Go.Lib Try
open Vm renaming cond_bool→Ca,cond_bit→Cb
open And renaming intro→Ai
open List renaming length_map→Lm,not_mem_nil→Ln,map_nil→Lo,map_cons→Lc,mem_cons→Lk
open Bool renaming not_false→Bf,not_true→Bt
def partV (v:List Nd):V:=.sl false 6 (v.map ndC)
def partC (v:List Nd):List V:=[.sl false 6 (v.map ndC)]
theorem plain_pt (l:List (List Nd)):plainLL (l.map partC)=true:=plainLL_map _ (fun v=>by simp[partC,plainL,V.plain,plain_nd]) l
theorem indexpt_ev (l:List (List Nd))(f:Nat)(caps:List V)(p:(List Nd)→Bool)(hf:∀ h∈l,∀ nm,Ev cx f nm (partV h::caps) Mem.nil (.bool (p h)) [])(hn:l.length≤lim)(hpl:plainL caps=true)(nm:Nat):Ev cx 57 nm [.sl false 1 (l.map partC),.fn f caps] Mem.nil (.int .i64 (idxI (l.findIdx? p))) []:=by
 unfold lim at hn
 refine ev_go rfl (fun cargs w=>call57 cargs w) func57 rfl mixed (by kernel_rfl) rfl ?_;intro b0 hb0
 repeat' first|simp only[fins,mems,results57,ntmps57,wks,vcs,seval,tys]|exact rfl|refine call_off (v:=.any) ?_|((first|(refine call_val (g:=?_) ?_ ?_)|(refine call_valg (g:=?_) ?_ ?_));rotate_left 1;(focus (simp only[results57,ntmps57,wks,vcs,seval,tys]<;>exact rfl)))|((first|apply Ca|apply Cb)<;>intro hb)|refine Ai (by omega) ?_|(apply Ai<;>intro hb)
 (refine loop_can2 cxG (fun x:Nat=>l.length-x) (fun x=>x≤l.length∧(l.take x).any p=false) (b0+16) (fun x=>[(0,.sl false 1 (l.map partC)),(1,.fn f caps),(7,.int .i64 l.length),(8,.int .i64 x)]) (fun x=>[]) (0) [] ?_ ?_ ?_ ?_;rotate_left 1;(focus (show b0≤_;omega));(focus (refine⟨?_,?_⟩<;>(try simp only[cans,Lm,plain_pt,finL_caps hpl,finLOk_caps hpl,vcs,seval,tys,injs])<;>(try omega)));rotate_left 1)
 ·exact⟨Nat.zero_le _,by simp⟩
 ·rintro k ⟨hk,hno⟩
  by_cases hlt:k<l.length
  ·obtain⟨h,hh⟩:∃ h,l[k]? = some h:=⟨_,List.getElem?_eq_getElem hlt⟩
   have hat:(l.map partC)[k]? = some (partC h):=by rw[List.getElem?_map,hh];rfl
   have hd:decide (k<l.length)=true:=decide_eq_true hlt
   have hwk:IntKind.i64.wrap ((k:Int)+1)=((k+1:Nat):Int):=wrap_in (by omega) (by omega)
   have hfh:=hf h (List.mem_of_getElem? hh)
   cases hp:p h with
   | true =>
    have hfd:=find_at2 hno hh hp
    rw[hp]at hfh
    (repeat' first|simp only[fins,mems,results57,ntmps57,wks,hat,partC,partV,hlt,hd,hwk,hfd,idxI_some,Lm,vcs,seval,tys]|exact rfl|refine call_off (v:=.any) ?_|refine call_pure (g:=f) (caps:=caps) (by simp only[results57,ntmps57,wks,hat,partC,partV,hlt,hd,hwk,hfd,idxI_some,Lm,vcs,seval,tys]<;>exact rfl) (by simp only[results57,ntmps57,wks,hat,partC,partV,hlt,hd,hwk,hfd,idxI_some,Lm,vcs,seval,tys]<;>exact rfl) (hfh _) ?_|((first|(refine call_val (g:=?_) ?_ ?_)|(refine call_valg (g:=?_) ?_ ?_));rotate_left 1;(focus (simp only[results57,ntmps57,wks,hat,partC,partV,hlt,hd,hwk,hfd,idxI_some,Lm,vcs,seval,tys]<;>exact rfl)))|((first|apply Ca|apply Cb)<;>intro hb)|refine Ai (by omega) ?_|(apply Ai<;>intro hb)|refine Fin.pure ?_ ?_ ?_|simp only[injs])
   | false =>
    have hn':=notany_succ (p:=p) hno hh hp
    rw[hp]at hfh
    repeat' first|simp only[fins,mems,results57,ntmps57,wks,hat,partC,partV,hlt,hd,hwk,Lm,vcs,seval,tys]|exact rfl|refine call_off (v:=.any) ?_|refine call_pure (g:=f) (caps:=caps) (by simp only[results57,ntmps57,wks,hat,partC,partV,hlt,hd,hwk,Lm,vcs,seval,tys]<;>exact rfl) (by simp only[results57,ntmps57,wks,hat,partC,partV,hlt,hd,hwk,Lm,vcs,seval,tys]<;>exact rfl) (hfh _) ?_|((first|(refine call_val (g:=?_) ?_ ?_)|(refine call_valg (g:=?_) ?_ ?_));rotate_left 1;(focus (simp only[results57,ntmps57,wks,hat,partC,partV,hlt,hd,hwk,Lm,vcs,seval,tys]<;>exact rfl)))|((first|apply Ca|apply Cb)<;>intro hb)|refine Ai (by omega) ?_|(apply Ai<;>intro hb)
    all_goals ((refine again_can2 cxG (k+1) [] ?_ ?_ ?_ ?_;rotate_left 2;(focus (show b0≤_;omega));(focus (refine⟨?_,?_⟩<;>(try simp only[cans,plain_pt,finL_caps hpl,finLOk_caps hpl,hwk,vcs,seval,tys,injs])<;>(try omega)))))
    all_goals (first|(show l.length-(k+1)<l.length-k;omega)|exact⟨hlt,hn'⟩|skip)
  ·have hke:k=l.length:=by omega
   subst hke
   rw[List.take_length]at hno
   have hfd:=find_none2 hno
   have hd:decide (l.length<l.length)=false:=decide_eq_false (by omega)
   (repeat' first|simp only[fins,mems,results57,ntmps57,wks,hd,hfd,idxI_none,Lm,vcs,seval,tys]|exact rfl|refine call_off (v:=.any) ?_|((first|(refine call_val (g:=?_) ?_ ?_)|(refine call_valg (g:=?_) ?_ ?_));rotate_left 1;(focus (simp only[results57,ntmps57,wks,hd,hfd,idxI_none,Lm,vcs,seval,tys]<;>exact rfl)))|((first|apply Ca|apply Cb)<;>intro hb)|refine Ai (by omega) ?_|(apply Ai<;>intro hb)|refine Fin.pure ?_ ?_ ?_|simp only[injs])
theorem containspt_ev (l:List (List Nd))(f:Nat)(caps:List V)(p:(List Nd)→Bool)(hf:∀ h∈l,∀ nm,Ev cx f nm (partV h::caps) Mem.nil (.bool (p h)) [])(hn:l.length≤lim)(hpl:plainL caps=true)(nm:Nat):Ev cx 28 nm [.sl false 1 (l.map partC),.fn f caps] Mem.nil (.bool (l.any p)) []:=by
 have hi:=indexpt_ev l f caps p hf hn hpl
 cases h:l.findIdx? p with
 | none =>
  have ha:l.any p=false:=any_none h
  rw[h]at hi
  refine ev_go rfl (fun cargs w=>call28 cargs w) func28 rfl mixed (by kernel_rfl) rfl ?_;intro b0 hb0
  (repeat' first|simp only[fins,mems,results28,ntmps28,wks,ha,idxI_none,vcs,seval,tys]|exact rfl|refine call_off (v:=.any) ?_|(first|(refine call_fn ?_ (hi _) ?_)|(refine call_fn_g ?_ (fun _=>hi _) ?_))|((first|apply Ca|apply Cb)<;>intro hb)|refine Ai (by omega) ?_|(apply Ai<;>intro hb)|refine Fin.pure ?_ ?_ ?_|simp only[injs])
 | some n =>
  have ha:l.any p=true:=any_some h
  rw[h]at hi
  have hz:decide ((0:Int)≤(n:Int))=true:=decide_eq_true (by omega)
  refine ev_go rfl (fun cargs w=>call28 cargs w) func28 rfl mixed (by kernel_rfl) rfl ?_;intro b0 hb0
  (repeat' first|simp only[fins,mems,results28,ntmps28,wks,ha,idxI_some,hz,vcs,seval,tys]|exact rfl|refine call_off (v:=.any) ?_|(first|(refine call_fn ?_ (hi _) ?_)|(refine call_fn_g ?_ (fun _=>hi _) ?_))|((first|apply Ca|apply Cb)<;>intro hb)|refine Ai (by omega) ?_|(apply Ai<;>intro hb)|refine Fin.pure ?_ ?_ ?_|simp only[injs])
theorem put1_ev (v:List Nd)(hv:v.length≤lim)(hok:∀ n∈v,n.okTo lim∧n.i64)(nm:Nat):Ev cx 26 nm [.sl false 6 (v.map ndC)] Mem.nil (.bool (txtPart v)) []:=by
 match v,hv,hok with
 | [],_,_ =>
  refine ev_go rfl (fun cargs w=>call26 cargs w) func26 rfl mixed (by kernel_rfl) rfl ?_;intro b0 hb0
  (repeat' first|simp only[fins,mems,results26,ntmps26,wks,txtPart,plain_nd,Lo,List.length_nil,vcs,seval,tys]|exact rfl|refine call_off (v:=.any) ?_|((first|apply Ca|apply Cb)<;>intro hb)|refine Ai (by omega) ?_|(apply Ai<;>intro hb)|refine Fin.pure ?_ ?_ ?_|simp only[injs])
 | [x],_,hok =>
  have hm:=may_ev x (hok x (.head _)).1
  have hk:((x.kind:Int)==2)=decide (x.kind=2):=by rw[Bool.eq_iff_iff];simp;omega
  have hpl:plainL (ndC x)=true:=by simp[ndC,plainL,V.plain,plain_at]
  refine ev_go rfl (fun cargs w=>call26 cargs w) func26 rfl mixed (by kernel_rfl) rfl ?_;intro b0 hb0
  (repeat' first|simp only[fins,mems,results26,ntmps26,wks,txtPart,hk,ndC,plain_at,Lc,Lo,List.length_cons,List.length_nil,vcs,seval,tys]|exact rfl|refine call_off (v:=.any) ?_|(first|(refine call_fn ?_ (hm _) ?_)|(refine call_fn_g ?_ (fun _=>hm _) ?_))|((first|apply Ca|apply Cb)<;>intro hb)|refine Ai (by omega) ?_|(apply Ai<;>intro hb)|refine Fin.pure ?_ ?_ ?_|simp only[injs])
 | x::y::r,hv,_ =>
  have h1:(((r.length+1+1:Nat):Int)==1)=false:=beq_false_of_ne (by omega)
  have h2:(((r.length:Int)+1+1)==1)=false:=beq_false_of_ne (by omega)
  have ht:txtPart (x::y::r)=false:=rfl
  rw[ht]
  have hln:((x::y::r).map ndC).length=r.length+1+1:=by simp
  have hpl:=plain_nd (x::y::r)
  generalize (x::y::r).map ndC=rows at hln hpl ⊢
  refine ev_go rfl (fun cargs w=>call26 cargs w) func26 rfl mixed (by kernel_rfl) rfl ?_;intro b0 hb0
  (repeat' first|simp only[fins,mems,results26,ntmps26,wks,h1,h2,hln,hpl,vcs,seval,tys]|exact rfl|refine call_off (v:=.any) ?_|((first|apply Ca|apply Cb)<;>intro hb)|refine Ai (by omega) ?_|(apply Ai<;>intro hb)|refine Fin.pure ?_ ?_ ?_|simp only[injs])
theorem put2_ev (v:List Nd)(hv:v.length≤lim)(hok:∀ n∈v,n.okTo lim∧n.i64)(nm:Nat):Ev cx 29 nm [partV v,.rp [.fn 26 []]] Mem.nil (.bool (partBad v)) []:=by
 have h1:=put1_ev v hv hok
 unfold partBad partV
 cases ht:txtPart v with
 | true =>
  rw[ht]at h1
  refine ev_go rfl (fun cargs w=>call29 cargs w) func29 rfl mixed (by kernel_rfl) rfl ?_;intro b0 hb0
  (repeat' first|simp only[fins,mems,results29,ntmps29,wks,plain_nd,Bt,Bf,Bool.false_and,vcs,seval,tys]|exact rfl|refine call_off (v:=.any) ?_|(first|(refine call_fn ?_ (h1 _) ?_)|(refine call_fn_g ?_ (fun _=>h1 _) ?_))|((first|(refine call_val (g:=?_) ?_ ?_)|(refine call_valg (g:=?_) ?_ ?_));rotate_left 1;(focus (simp only[results29,ntmps29,wks,plain_nd,Bt,Bf,Bool.false_and,vcs,seval,tys]<;>exact rfl)))|((first|apply Ca|apply Cb)<;>intro hb)|refine Ai (by omega) ?_|(apply Ai<;>intro hb)|refine Fin.pure ?_ ?_ ?_|simp only[injs])
 | false =>
  rw[ht]at h1
  cases hb:behindO v with
  | none =>
   have h2:=behind_none_ev v hv hok hb
   refine ev_go rfl (fun cargs w=>call29 cargs w) func29 rfl mixed (by kernel_rfl) rfl ?_;intro b0 hb0
   (repeat' first|simp only[fins,mems,results29,ntmps29,wks,plain_nd,Bt,Bf,Bool.true_and,Option.isNone_none,vcs,seval,tys]|exact rfl|refine call_off (v:=.any) ?_|((first|(refine call_fn ?_ (h1 _) ?_)|(refine call_fn_g ?_ (fun _=>h1 _) ?_));(focus (simp only[results29,ntmps29,wks,plain_nd,Bt,Bf,Bool.true_and,Option.isNone_none,vcs,seval,tys]<;>exact rfl)))|((first|(refine call_fn ?_ (h2 _) ?_)|(refine call_fn_g ?_ (fun _=>h2 _) ?_));(focus (simp only[results29,ntmps29,wks,plain_nd,Bt,Bf,Bool.true_and,Option.isNone_none,vcs,seval,tys]<;>exact rfl)))|((first|(refine call_val (g:=?_) ?_ ?_)|(refine call_valg (g:=?_) ?_ ?_));rotate_left 1;(focus (simp only[results29,ntmps29,wks,plain_nd,Bt,Bf,Bool.true_and,Option.isNone_none,vcs,seval,tys]<;>exact rfl)))|((first|apply Ca|apply Cb)<;>intro hb)|refine Ai (by omega) ?_|(apply Ai<;>intro hb)|refine Fin.pure ?_ ?_ ?_|simp only[injs])
  | some en =>
   have h2:=behind_some_ev v hv hok hb
   have h0:decide (v.length=0)=false:=decide_eq_false (by have:=(ends_ok hb).2.1;omega)
   simp only[Option.isNone_some,Bool.and_false]
   refine Ev.bit_false (b:=true) ?_
   refine ev_go rfl (fun cargs w=>call29 cargs w) func29 rfl mixed (by kernel_rfl) rfl ?_;intro b0 hb0
   repeat' first|simp only[fins,mems,results29,ntmps29,wks,h0,plain_nd,Bt,Bf,Bool.true_and,Option.isNone_none,vcs,seval,tys]|exact rfl|refine call_off (v:=.any) ?_|(first|(refine call_fn ?_ (h1 _) ?_)|(refine call_fn_g ?_ (fun _=>h1 _) ?_))|(refine call_on_fn ?_ [] (h2 _) ?_ ?_)|((first|(refine call_val (g:=?_) ?_ ?_)|(refine call_valg (g:=?_) ?_ ?_));rotate_left 1;(focus (simp only[results29,ntmps29,wks,h0,plain_nd,Bt,Bf,Bool.true_and,Option.isNone_none,vcs,seval,tys]<;>exact rfl)))|((first|apply Ca|apply Cb)<;>intro hb)|refine Ai (by omega) ?_|(apply Ai<;>intro hb)
   all_goals (first|omega|((refine Fin.pure ?_ ?_ ?_<;>simp only[wks,h0,plain_nd,results29,ntmps29,vcs,seval,tys])))
theorem flat_take {l:List (List Nd)}{k:Nat}{v:List Nd}(h:l[k]? = some v):(l.take (k+1)).flatten=(l.take k).flatten++v:=by
 obtain⟨hk,rfl⟩:=List.getElem?_eq_some_iff.1 h
 rw[List.take_succ_eq_append_getElem hk,List.flatten_append];simp
def outL (n:Nd)(l:List (List Nd))(k:Nat):List Nd:=n.to l.length::(l.take k).flatten
theorem outL_zero (n:Nd)(l:List (List Nd)):(outL n l 0).map ndC=[[.int .u8 n.kind,.str n.space,.str n.name,.sl false 3 (n.attrs.map atC),.str n.text,.int .i64 l.length]]:=rfl
theorem outL_len (n:Nd)(l:List (List Nd))(k:Nat):(outL n l k).length=1+((l.take k).flatten).length:=by unfold outL;rw[List.length_cons];omega
theorem outL_succ {n:Nd}{l:List (List Nd)}{k:Nat}{v:List Nd}(h:l[k]? = some v):outL n l (k+1)=outL n l k++v:=by unfold outL;rw[flat_take h];rfl
theorem outL_all (n:Nd)(l:List (List Nd)):outL n l l.length=n.to l.length::l.flatten:=by unfold outL;rw[List.take_length]
theorem pt_at {l:List (List Nd)}{k:Nat}{a:List Nd}(h:l[k]? = some a):(l.map partC)[k]? = some (partC a):=by rw[List.getElem?_map,h];rfl
theorem leLL_snoc (a:List (List V))(r s:List V):leLL (a++[r]) (a++[s])=leL r s:=by
 apply propext
 induction a with
 | nil=>simp[leLL]
 | cons x a ih =>
  simp only[List.cons_append,leLL,ih]
  exact⟨fun h=>h.2,fun h=>⟨leL_refl x,h⟩⟩
def atN (a:At):Nat:=min a.name.length 20000+min a.space.length 20000+min a.value.length 20000
def atsN (l:List At):Nat:=(l.map atN).sum
def ndN (x:Nd):Nat:=min x.name.length 20000+min x.space.length 20000+min x.text.length 20000
def gGo (bytes:Nat):List Nd→Nat→Bool×Nat
 | [],n=>(false,n)
 | x::r,n=>if 30<x.attrs.length∨bytes<n+ndN x then (true,n) else gGo bytes r (n+ndN x+atsN x.attrs)
def greatV (v:List Nd)(most bytes:Nat):Bool:=(gGo bytes (v.take 600) 0).1||decide (most<v.length)||decide (bytes<(gGo bytes (v.take 600) 0).2)
theorem atN_le (a:At):atN a≤60000:=by unfold atN;omega
theorem ndN_le (x:Nd):ndN x≤60000:=by unfold ndN;omega
theorem atsN_le (l:List At):atsN l≤60000*l.length:=by
 unfold atsN
 induction l with
 | nil=>simp
 | cons a l ih=>have:=atN_le a;simp only[Lc,List.sum_cons,List.length_cons];omega
theorem atsN_take {l:List At}{k:Nat}{a:At}(h:l[k]? = some a):atsN (l.take (k+1))=atsN (l.take k)+atN a:=by
 obtain⟨hk,rfl⟩:=List.getElem?_eq_some_iff.1 h
 unfold atsN
 rw[List.take_succ_eq_append_getElem hk,List.map_append,List.sum_append];simp
theorem atsN_mem {l:List At}{a:At}(h:a∈l):atN a≤atsN l:=by
 unfold atsN
 induction l with
 | nil=>cases h
 | cons b l ih =>
  simp only[Lc,List.sum_cons]
  rcases List.mem_cons.1 h with rfl|h
  ·omega
  ·have:=ih h;omega
theorem gGo_small {bytes:Nat} : ∀(v:List Nd) (n:Nat),(gGo bytes v n).1=false→n≤(gGo bytes v n).2 ∧ ∀ x∈v,x.attrs.length≤30∧ndN x+atsN x.attrs≤(gGo bytes v n).2
 | [],n,_=>⟨Nat.le_refl _,fun x hx=>by cases hx⟩
 | x::r,n,h=>by
  simp only[gGo]at h ⊢
  split at h
  ·cases h
  ·rename_i hc
   rw[if_neg hc]
   obtain⟨h1,h2⟩:=gGo_small r _ h
   refine⟨by omega,fun y hy=>?_⟩
   rcases List.mem_cons.1 hy with rfl|hy
   ·exact⟨by omega,by omega⟩
   ·exact h2 y hy
theorem great_small10 {v:List Nd}{most bytes:Nat}(hm:most≤600)(hb:bytes<20000)(h:greatV v most bytes=false):v.length≤most ∧ ∀ x∈v,x.attrs.length≤30∧x.okTo 20000∧x.name.length+x.space.length+x.text.length≤bytes:=by
 unfold greatV at h
 simp only[Bool.or_eq_false_iff,decide_eq_false_iff_not,Nat.not_lt]at h
 obtain⟨⟨h1,h2⟩,h3⟩:=h
 refine⟨h2,fun x hx=>?_⟩
 have ht:v.take 600=v:=List.take_of_length_le (by omega)
 rw[ht]at h1 h3
 obtain⟨_,h5⟩:=gGo_small v 0 h1
 obtain⟨h6,h7⟩:=h5 x hx
 have hn:ndN x≤bytes:=by omega
 have ha:atsN x.attrs≤bytes:=by omega
 unfold ndN at hn
 refine⟨h6,⟨?_,?_,?_,?_,fun a ha2=>?_⟩,by omega⟩
 ·omega
 ·omega
 ·omega
 ·omega
 ·have:=atsN_mem ha2
  unfold atN at this
  exact⟨by omega,by omega,by omega⟩
theorem zero_ats:atsN []=0:=rfl
structure GSt where
 k:Nat
 n:Nat
theorem great10_ev (v:List Nd)(most bytes:Nat)(hm:most≤1000)(hb:bytes≤1000000)(hv:v.length≤lim)(hok:∀ n∈v,n.okTo lim)(nm:Nat):Ev cx 5 nm [.sl false 6 (v.map ndC),.int .i64 most,.int .i64 bytes] Mem.nil (.bool (greatV v most bytes)) []:=by
  have hv':=hv
  unfold lim at hv'
  refine ev_go rfl (fun cargs w=>call5 cargs w) func5 rfl mixed (by kernel_rfl) rfl ?_;intro b0 hb0
  repeat' first|simp only[fins,mems,results5,ntmps5,wks,vcs,seval,tys]|exact rfl|refine call_off (v:=.any) ?_|refine draw_end (by decide +kernel) ?_|((first|apply Ca|apply Cb)<;>intro hb)|refine Ai (by omega) ?_|(apply Ai<;>intro hb)
  (refine loop_can2 cxG (fun s:GSt=>v.length-s.k) (fun s=>s.k≤v.length∧s.k≤600∧gGo bytes (v.take 600) 0=gGo bytes ((v.take 600).drop s.k) s.n∧s.n≤bytes+1800000) (b0+16) (fun s=>[(0,.sl false 6 (v.map ndC)),(1,.int .i64 most),(2,.int .i64 bytes),(7,.int .i64 s.n),(8,.int .i64 s.k)]) (fun s=>[]) (⟨0,0⟩) [] ?_ ?_ ?_ ?_;rotate_left 1;(focus (show b0≤_;omega));(focus (refine⟨?_,?_⟩<;>(try simp only[cans,plain_nd,Lm,vcs,seval,tys,injs])<;>(try omega)));rotate_left 1)
  · exact⟨Nat.zero_le _,Nat.zero_le _,rfl,Nat.zero_le _⟩
  · rintro ⟨k,n⟩ ⟨hk,hk6,hinv,hn⟩
    dsimp only at hk hk6 hinv hn ⊢
    by_cases hlt:k<v.length∧k<600
    · obtain⟨h1,h2⟩:=hlt
      obtain⟨x,hx⟩:∃ x,v[k]? = some x:=⟨_,List.getElem?_eq_getElem h1⟩
      obtain⟨o1,o2,o3,o4,o5⟩:=hok x (List.mem_of_getElem? hx)
      unfold lim at o1 o2 o3 o4
      have hat:=nd_at hx
      have hki:(k:Int)<(v.length:Int):=by omega
      have d1:decide ((k:Int)<(v.length:Int))=true:=decide_eq_true (by omega)
      have d2:decide (k<v.length)=true:=decide_eq_true h1
      have d3:decide ((k:Int)<600)=true:=decide_eq_true (by omega)
      have d4:decide (k<600)=true:=decide_eq_true h2
      have hdr:(v.take 600).drop k=x::(v.take 600).drop (k+1):=by
        have:(v.take 600)[k]? = some x:=by rw[List.getElem?_take,if_pos h2];exact hx
        obtain⟨hp,rfl⟩:=List.getElem?_eq_some_iff.1 this
        exact List.drop_eq_getElem_cons hp
      rw[hdr]at hinv
      have hnx:=ndN_le x
      have m1:min (x.name.length:Int) 20000=((min x.name.length 20000:Nat):Int):=by omega
      have m2:min (x.space.length:Int) 20000=((min x.space.length 20000:Nat):Int):=by omega
      have m3:min (x.text.length:Int) 20000=((min x.text.length 20000:Nat):Int):=by omega
      have hnd:ndN x=min x.name.length 20000+min x.space.length 20000+min x.text.length 20000:=rfl
      generalize min x.name.length 20000=n1 at m1 hnd
      generalize min x.space.length 20000=n2 at m2 hnd
      generalize min x.text.length 20000=n3 at m3 hnd
      have w1:IntKind.i64.wrap ((n:Int)+n1)=((n+n1:Nat):Int):=by rw[wrap_in (by omega) (by omega)];omega
      have w2:IntKind.i64.wrap (((n+n1:Nat):Int)+n2)=((n+(n1+n2):Nat):Int):=by rw[wrap_in (by omega) (by omega)];omega
      have w3:IntKind.i64.wrap (((n+(n1+n2):Nat):Int)+n3)=((n+ndN x:Nat):Int):=by rw[wrap_in (by omega) (by omega)];omega
      have hwk:IntKind.i64.wrap ((k:Int)+1)=((k+1:Nat):Int):=wrap_in (by omega) (by omega)
      by_cases hc:30<x.attrs.length∨bytes<n+ndN x
      · have hg:gGo bytes (v.take 600) 0=(true,n):=by rw[hinv];simp only[gGo];rw[if_pos hc]
        have hr:greatV v most bytes=true:=by unfold greatV;rw[hg];rfl
        rw[hr]
        have e1:decide ((30:Int)<(x.attrs.length:Int))=decide (30<x.attrs.length):=by rw[Bool.eq_iff_iff];simp;omega
        have e2:decide ((bytes:Int)<((n+ndN x:Nat):Int))=decide (bytes<n+ndN x):=by rw[Bool.eq_iff_iff];simp;omega
        by_cases hc1:30<x.attrs.length
        · have q1:decide (30<x.attrs.length)=true:=decide_eq_true hc1
          rw[q1]at e1
          (repeat' first|simp only[fins,mems,results5,ntmps5,wks,hat,ndC,h1,hki,d1,d2,d3,d4,m1,m2,m3,w1,w2,w3,e1,q1,Bt,Bf,Lm,vcs,seval,tys]|exact rfl|refine call_off (v:=.any) ?_|refine draw_end (by decide +kernel) ?_|((first|apply Ca|apply Cb)<;>intro hb)|refine Ai (by omega) ?_|(apply Ai<;>intro hb)|refine Fin.pure ?_ ?_ ?_|simp only[injs])
        · have q1:decide (30<x.attrs.length)=false:=decide_eq_false hc1
          have q2:decide (bytes<n+ndN x)=true:=decide_eq_true (by omega)
          rw[q1]at e1
          rw[q2]at e2
          (repeat' first|simp only[fins,mems,results5,ntmps5,wks,hat,ndC,h1,hki,d1,d2,d3,d4,m1,m2,m3,w1,w2,w3,e1,e2,q1,q2,Bt,Bf,Lm,vcs,seval,tys]|exact rfl|refine call_off (v:=.any) ?_|refine draw_end (by decide +kernel) ?_|((first|apply Ca|apply Cb)<;>intro hb)|refine Ai (by omega) ?_|(apply Ai<;>intro hb)|refine Fin.pure ?_ ?_ ?_|simp only[injs])
      · have e1:decide ((30:Int)<(x.attrs.length:Int))=false:=decide_eq_false (by omega)
        have e2:decide ((bytes:Int)<((n+ndN x:Nat):Int))=false:=decide_eq_false (by omega)
        have q1:decide (30<x.attrs.length)=false:=decide_eq_false (by omega)
        have q2:decide (bytes<n+ndN x)=false:=decide_eq_false (by omega)
        have hg:gGo bytes (x::(v.take 600).drop (k+1)) n=gGo bytes ((v.take 600).drop (k+1)) (n+ndN x+atsN x.attrs):=by simp only[gGo];rw[if_neg hc]
        rw[hg]at hinv
        have hn1:n+ndN x≤bytes:=by omega
        repeat' first|simp only[fins,mems,results5,ntmps5,wks,hat,ndC,h1,hki,d1,d2,d3,d4,m1,m2,m3,w1,w2,w3,e1,e2,q1,q2,Bt,Bf,Lm,vcs,seval,tys]|exact rfl|refine call_off (v:=.any) ?_|refine draw_end (by decide +kernel) ?_|((first|apply Ca|apply Cb)<;>intro hb)|refine Ai (by omega) ?_|(apply Ai<;>intro hb)
        (refine loop_can2 cxG (fun j:Nat=>x.attrs.length-j) (fun j=>j≤x.attrs.length) (b0+16) (fun j=>[(0,.sl false 6 (v.map ndC)),(1,.int .i64 most),(2,.int .i64 bytes),(7,.int .i64 ((n+ndN x+atsN (x.attrs.take j):Nat):Int)),(8,.int .i64 k),(9,.int .i64 j)]) (fun j=>[]) (0) [] ?_ ?_ ?_ ?_;rotate_left 1;(focus (show b0≤_;omega));(focus (refine⟨?_,?_⟩<;>(try simp only[cans,plain_nd,zero_ats,List.take_zero,Nat.add_zero,Lm,vcs,seval,tys,injs])<;>(try omega)));rotate_left 1)
        · exact Nat.zero_le _
        · intro j hj
          by_cases hja:j<x.attrs.length
          · obtain⟨a,ha⟩:∃ a,x.attrs[j]? = some a:=⟨_,List.getElem?_eq_getElem hja⟩
            obtain⟨p1,p2,p3⟩:=o5 a (List.mem_of_getElem? ha)
            unfold lim at p1 p2 p3
            have haa:=at_at ha
            have f1:decide ((j:Int)<(x.attrs.length:Int))=true:=decide_eq_true (by omega)
            have f2:decide (j<x.attrs.length)=true:=decide_eq_true hja
            have hji:(j:Int)<(x.attrs.length:Int):=by omega
            have hsum:=atsN_le (x.attrs.take j)
            have hjl:(x.attrs.take j).length≤30:=by rw[List.length_take];omega
            have hts:=atsN_take ha
            have haN:=atN_le a
            generalize hN:n+ndN x+atsN (x.attrs.take j)=N
            have hN1:n+ndN x+atsN (x.attrs.take (j+1))=N+atN a:=by omega
            have hNb:N≤bytes+1800000:=by omega
            have m4:min (a.name.length:Int) 20000=((min a.name.length 20000:Nat):Int):=by omega
            have m5:min (a.space.length:Int) 20000=((min a.space.length 20000:Nat):Int):=by omega
            have m6:min (a.value.length:Int) 20000=((min a.value.length 20000:Nat):Int):=by omega
            have had:atN a=min a.name.length 20000+min a.space.length 20000+min a.value.length 20000:=rfl
            generalize min a.name.length 20000=n4 at m4 had
            generalize min a.space.length 20000=n5 at m5 had
            generalize min a.value.length 20000=n6 at m6 had
            have v1:IntKind.i64.wrap ((N:Int)+n4)=((N+n4:Nat):Int):=by rw[wrap_in (by omega) (by omega)];omega
            have v2:IntKind.i64.wrap (((N+n4:Nat):Int)+n5)=((N+(n4+n5):Nat):Int):=by rw[wrap_in (by omega) (by omega)];omega
            have v3:IntKind.i64.wrap (((N+(n4+n5):Nat):Int)+n6)=((N+atN a:Nat):Int):=by rw[wrap_in (by omega) (by omega)];omega
            have hwj:IntKind.i64.wrap ((j:Int)+1)=((j+1:Nat):Int):=wrap_in (by omega) (by omega)
            repeat' first|simp only[fins,mems,results5,ntmps5,wks,hat,ndC,haa,atC,h1,hki,hja,hji,f1,f2,m4,m5,m6,v1,v2,v3,hwj,Lm,vcs,seval,tys]|exact rfl|refine call_off (v:=.any) ?_|refine draw_end (by decide +kernel) ?_|((first|apply Ca|apply Cb)<;>intro hb)|refine Ai (by omega) ?_|(apply Ai<;>intro hb)
            all_goals ((refine again_can2 cxG (j+1) [] ?_ ?_ ?_ ?_;rotate_left 2;(focus (show b0≤_;omega));(focus (refine⟨?_,?_⟩<;>(try simp only[cans,plain_nd,hwj,hN1,Lm,vcs,seval,tys,injs])<;>(try omega)))))
            all_goals (first|(show x.attrs.length-(j+1)<x.attrs.length-j;omega)|exact hja|skip)
          · have hje:j=x.attrs.length:=by omega
            subst hje
            have f1:decide ((x.attrs.length:Int)<(x.attrs.length:Int))=false:=decide_eq_false (by omega)
            have f2:decide (x.attrs.length<x.attrs.length)=false:=decide_eq_false (by omega)
            have hsum:=atsN_le x.attrs
            have htl:x.attrs.take x.attrs.length=x.attrs:=List.take_length
            rw[htl]
            repeat' first|simp only[fins,mems,results5,ntmps5,wks,hat,ndC,h1,hki,f1,f2,hwk,Lm,vcs,seval,tys]|exact rfl|refine call_off (v:=.any) ?_|refine draw_end (by decide +kernel) ?_|((first|apply Ca|apply Cb)<;>intro hb)|refine Ai (by omega) ?_|(apply Ai<;>intro hb)
            all_goals ((refine again_can2 cxG (⟨k+1,n+ndN x+atsN x.attrs⟩) [] ?_ ?_ ?_ ?_;rotate_left 2;(focus (show b0≤_;omega));(focus (refine⟨?_,?_⟩<;>(try simp only[cans,plain_nd,hwk,Lm,vcs,seval,tys,injs])<;>(try omega)))))
            all_goals (first|(show v.length-(k+1)<v.length-k;omega)|exact⟨h1,h2,hinv,by show n+ndN x+atsN x.attrs≤_;omega⟩|skip)
    · have hdr:(v.take 600).drop k=[]:=List.drop_of_length_le (by rw[List.length_take];omega)
      rw[hdr]at hinv
      have hg:gGo bytes (v.take 600) 0=(false,n):=hinv
      have hr:greatV v most bytes=(decide (most<v.length)||decide (bytes<n)):=by unfold greatV;rw[hg];rfl
      rw[hr]
      have e1:decide ((most:Int)<(v.length:Int))=decide (most<v.length):=by rw[Bool.eq_iff_iff];simp
      have e2:decide ((bytes:Int)<(n:Int))=decide (bytes<n):=by rw[Bool.eq_iff_iff];simp
      by_cases h1:k<v.length
      · have d1:decide ((k:Int)<(v.length:Int))=true:=decide_eq_true (by omega)
        have d2:decide (k<v.length)=true:=decide_eq_true h1
        have d3:decide ((k:Int)<600)=false:=decide_eq_false (by omega)
        have d4:decide (k<600)=false:=decide_eq_false (by omega)
        (repeat' first|simp only[fins,mems,results5,ntmps5,wks,d1,d2,d3,d4,e1,e2,Lm,vcs,seval,tys]|exact rfl|refine call_off (v:=.any) ?_|refine draw_end (by decide +kernel) ?_|((first|apply Ca|apply Cb)<;>intro hb)|refine Ai (by omega) ?_|(apply Ai<;>intro hb)|refine Fin.pure ?_ ?_ ?_|simp only[injs])
      · have d1:decide ((k:Int)<(v.length:Int))=false:=decide_eq_false (by omega)
        have d2:decide (k<v.length)=false:=decide_eq_false h1
        (repeat' first|simp only[fins,mems,results5,ntmps5,wks,d1,d2,e1,e2,Lm,vcs,seval,tys]|exact rfl|refine call_off (v:=.any) ?_|refine draw_end (by decide +kernel) ?_|((first|apply Ca|apply Cb)<;>intro hb)|refine Ai (by omega) ?_|(apply Ai<;>intro hb)|refine Fin.pure ?_ ?_ ?_|simp only[injs])
end Go.Proofs.Ytfcfldmioonipaa
namespace Go.Proofs.Ytfcfldmioonipaa
set_option maxRecDepth 100000
set_option maxHeartbeats 32000000
set_option linter.unusedSimpArgs false
set_option linter.unusedVariables false
open Go Go.RowKit Go.Lib
end Go.Proofs.Ytfcfldmioonipaa
