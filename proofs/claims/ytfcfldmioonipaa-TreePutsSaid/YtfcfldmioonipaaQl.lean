/-
 Texts joined: XSc,XSd,XSe,XSf,XSh,XTa,XSi,XTb,XJa.
-/
import Derived.Test.YtfcfldmioonipaaQh
import Derived.Test.YtfcfldmioonipaaQk
import Derived.Test.YtfcfldmioonipaaQe
import Derived.Test.YtfcfldmioonipaaQg
import Derived.Test.YtfcfldmioonipaaQi
namespace Go.Proofs.Ytfcfldmioonipaa
set_option maxRecDepth 100000
set_option maxHeartbeats 32000000
set_option linter.unusedSimpArgs false
set_option linter.unusedVariables false
open Go Go.RowKit Vm Go.Lib Try
open Vm renaming cond_bool→Ca,cond_bit→Cb
open And renaming intro→Ai
open List renaming length_map→Lm,not_mem_nil→Ln,map_nil→Lo,map_cons→Lc,mem_cons→Lk
open Bool renaming not_false→Bf,not_true→Bt
def txtPart (v:List Nd):Bool:=match v with
 | [x]=>decide (x.kind=2)&&mayN x
 | _=>false
def partBad (v:List Nd):Bool:=!txtPart v&&(behindO v).isNone
def Nd.to (n:Nd)(m:Int):Nd:={ n with many:=m }
def putEr (n:Nd)(l:List (List Nd)):Int :=
 if (behindO [n.to 0]).isNone=true then 8 else if l.any partBad=true then 8 else if 512<1+(l.map List.length).sum then 4
 else if (behindO (n.to l.length::l.flatten)).isNone=true then 8 else 0
def putTr (n:Nd)(l:List (List Nd)):List Nd:=if putEr n l=0 then n.to l.length::l.flatten else []
theorem behind_of {n:Nd}{k:Fo}{d:Nat}(hd:d≤12)(hk:n.kind=1)(h:(Fo.cons n k .nil).good d 0=true)(hl:k.size+1≤512):behindO (n::k.flat)=some ((1+k.size)::k.ends 1) :=
 behind_iff.2 ⟨n,k,hk,rfl,Fo.good_mono hd h,by simpa [Fo.flat_length] using hl,rfl⟩
theorem indexat_ev (l:List At)(f:Nat)(caps:List V)(p:At→Bool)(hf:∀ h∈l,∀ nm,Ev cx f nm (.agg (atC h)::caps) Mem.nil (.bool (p h)) [])(hn:l.length≤lim)(hpl:plainL caps=true)(nm:Nat):Ev cx 62 nm [.sl false 3 (l.map atC),.fn f caps] Mem.nil (.int .i64 (idxI (l.findIdx? p))) []:=by
 unfold lim at hn
 refine ev_go rfl (fun cargs w=>call62 cargs w) func62 rfl mixed (by kernel_rfl) rfl ?_;intro b0 hb0
 repeat' first|simp only[fins,mems,results62,ntmps62,wks,vcs,seval,tys]|exact rfl|refine call_off (v:=.any) ?_|((first|(refine call_val (g:=?_) ?_ ?_)|(refine call_valg (g:=?_) ?_ ?_));rotate_left 1;(focus (simp only[results62,ntmps62,wks,vcs,seval,tys]<;>exact rfl)))|((first|apply Ca|apply Cb)<;>intro hb)|refine Ai (by omega) ?_|(apply Ai<;>intro hb)
 (refine loop_can2 cxG (fun x:Nat=>l.length-x) (fun x=>x≤l.length∧(l.take x).any p=false) (b0+16) (fun x=>[(0,.sl false 3 (l.map atC)),(1,.fn f caps),(7,.int .i64 l.length),(8,.int .i64 x)]) (fun x=>[]) (0) [] ?_ ?_ ?_ ?_;rotate_left 1;(focus (show b0≤_;omega));(focus (refine⟨?_,?_⟩<;>(try simp only[cans,Lm,plain_at,finL_caps hpl,finLOk_caps hpl,vcs,seval,tys,injs])<;>(try omega)));rotate_left 1)
 ·exact⟨Nat.zero_le _,by simp⟩
 ·rintro k ⟨hk,hno⟩
  by_cases hlt:k<l.length
  ·obtain⟨h,hh⟩:∃ h,l[k]? = some h:=⟨_,List.getElem?_eq_getElem hlt⟩
   have hat:(l.map atC)[k]? = some (atC h):=by rw[List.getElem?_map,hh];rfl
   have hd:decide (k<l.length)=true:=decide_eq_true hlt
   have hwk:IntKind.i64.wrap ((k:Int)+1)=((k+1:Nat):Int):=wrap_in (by omega) (by omega)
   have hfh:=hf h (List.mem_of_getElem? hh)
   cases hp:p h with
   | true =>
    have hfd:=find_at2 hno hh hp
    rw[hp]at hfh
    (repeat' first|simp only[fins,mems,results62,ntmps62,wks,hat,atC,hlt,hd,hwk,hfd,idxI_some,Lm,vcs,seval,tys]|exact rfl|refine call_off (v:=.any) ?_|refine call_pure (g:=f) (caps:=caps) (by simp only[results62,ntmps62,wks,hat,atC,hlt,hd,hwk,hfd,idxI_some,Lm,vcs,seval,tys]<;>exact rfl) (by simp only[results62,ntmps62,wks,hat,atC,hlt,hd,hwk,hfd,idxI_some,Lm,vcs,seval,tys]<;>exact rfl) (hfh _) ?_|((first|(refine call_val (g:=?_) ?_ ?_)|(refine call_valg (g:=?_) ?_ ?_));rotate_left 1;(focus (simp only[results62,ntmps62,wks,hat,atC,hlt,hd,hwk,hfd,idxI_some,Lm,vcs,seval,tys]<;>exact rfl)))|((first|apply Ca|apply Cb)<;>intro hb)|refine Ai (by omega) ?_|(apply Ai<;>intro hb)|refine Fin.pure ?_ ?_ ?_|simp only[injs])
   | false =>
    have hn':=notany_succ (p:=p) hno hh hp
    rw[hp]at hfh
    repeat' first|simp only[fins,mems,results62,ntmps62,wks,hat,atC,hlt,hd,hwk,Lm,vcs,seval,tys]|exact rfl|refine call_off (v:=.any) ?_|refine call_pure (g:=f) (caps:=caps) (by simp only[results62,ntmps62,wks,hat,atC,hlt,hd,hwk,Lm,vcs,seval,tys]<;>exact rfl) (by simp only[results62,ntmps62,wks,hat,atC,hlt,hd,hwk,Lm,vcs,seval,tys]<;>exact rfl) (hfh _) ?_|((first|(refine call_val (g:=?_) ?_ ?_)|(refine call_valg (g:=?_) ?_ ?_));rotate_left 1;(focus (simp only[results62,ntmps62,wks,hat,atC,hlt,hd,hwk,Lm,vcs,seval,tys]<;>exact rfl)))|((first|apply Ca|apply Cb)<;>intro hb)|refine Ai (by omega) ?_|(apply Ai<;>intro hb)
    all_goals ((refine again_can2 cxG (k+1) [] ?_ ?_ ?_ ?_;rotate_left 2;(focus (show b0≤_;omega));(focus (refine⟨?_,?_⟩<;>(try simp only[cans,plain_at,finL_caps hpl,finLOk_caps hpl,hwk,vcs,seval,tys,injs])<;>(try omega)))))
    all_goals (first|(show l.length-(k+1)<l.length-k;omega)|exact⟨hlt,hn'⟩|skip)
  ·have hke:k=l.length:=by omega
   subst hke
   rw[List.take_length]at hno
   have hfd:=find_none2 hno
   have hd:decide (l.length<l.length)=false:=decide_eq_false (by omega)
   (repeat' first|simp only[fins,mems,results62,ntmps62,wks,hd,hfd,idxI_none,Lm,vcs,seval,tys]|exact rfl|refine call_off (v:=.any) ?_|((first|(refine call_val (g:=?_) ?_ ?_)|(refine call_valg (g:=?_) ?_ ?_));rotate_left 1;(focus (simp only[results62,ntmps62,wks,hd,hfd,idxI_none,Lm,vcs,seval,tys]<;>exact rfl)))|((first|apply Ca|apply Cb)<;>intro hb)|refine Ai (by omega) ?_|(apply Ai<;>intro hb)|refine Fin.pure ?_ ?_ ?_|simp only[injs])
theorem containsat_ev (l:List At)(f:Nat)(caps:List V)(p:At→Bool)(hf:∀ h∈l,∀ nm,Ev cx f nm (.agg (atC h)::caps) Mem.nil (.bool (p h)) [])(hn:l.length≤lim)(hpl:plainL caps=true)(nm:Nat):Ev cx 34 nm [.sl false 3 (l.map atC),.fn f caps] Mem.nil (.bool (l.any p)) []:=by
 have hi:=indexat_ev l f caps p hf hn hpl
 cases h:l.findIdx? p with
 | none =>
  have ha:l.any p=false:=any_none h
  rw[h]at hi
  refine ev_go rfl (fun cargs w=>call34 cargs w) func34 rfl mixed (by kernel_rfl) rfl ?_;intro b0 hb0
  (repeat' first|simp only[fins,mems,results34,ntmps34,wks,ha,idxI_none,vcs,seval,tys]|exact rfl|refine call_off (v:=.any) ?_|(first|(refine call_fn ?_ (hi _) ?_)|(refine call_fn_g ?_ (fun _=>hi _) ?_))|((first|apply Ca|apply Cb)<;>intro hb)|refine Ai (by omega) ?_|(apply Ai<;>intro hb)|refine Fin.pure ?_ ?_ ?_|simp only[injs])
 | some n =>
  have ha:l.any p=true:=any_some h
  rw[h]at hi
  have hz:decide ((0:Int)≤(n:Int))=true:=decide_eq_true (by omega)
  refine ev_go rfl (fun cargs w=>call34 cargs w) func34 rfl mixed (by kernel_rfl) rfl ?_;intro b0 hb0
  (repeat' first|simp only[fins,mems,results34,ntmps34,wks,ha,idxI_some,hz,vcs,seval,tys]|exact rfl|refine call_off (v:=.any) ?_|(first|(refine call_fn ?_ (hi _) ?_)|(refine call_fn_g ?_ (fun _=>hi _) ?_))|((first|apply Ca|apply Cb)<;>intro hb)|refine Ai (by omega) ?_|(apply Ai<;>intro hb)|refine Fin.pure ?_ ?_ ?_|simp only[injs])
theorem attrs1_ev (a b:At)(nm:Nat):Ev cx 70 nm [.agg (atC b),.rp (atC a)] Mem.nil (.bool (a.space==b.space&&a.name==b.name)) []:=by
 refine ev_go rfl (fun cargs w=>call70 cargs w) func70 rfl mixed (by kernel_rfl) rfl ?_;intro b0 hb0
 (repeat' first|simp only[fins,mems,results70,ntmps70,wks,atC,vcs,seval,tys]|exact rfl|refine call_off (v:=.any) ?_|((first|apply Ca|apply Cb)<;>intro hb)|refine Ai (by omega) ?_|(apply Ai<;>intro hb)|refine Fin.pure ?_ ?_ ?_|simp only[injs])
theorem attrs_ev (l:List At)(hl:l.length≤lim)(hs:∀ a∈l,a.space.length≤lim∧a.name.length≤lim∧a.value.length≤lim)(nm:Nat):Ev cx 56 nm [.sl false 3 (l.map atC)] Mem.nil (.bool (atsL l)) []:=by
 have hl':=hl
 unfold lim at hl'
 refine ev_go rfl (fun cargs w=>call56 cargs w) func56 rfl mixed (by kernel_rfl) rfl ?_;intro b0 hb0
 repeat' first|simp only[fins,mems,results56,ntmps56,wks,vcs,seval,tys]|exact rfl|refine call_off (v:=.any) ?_|((first|apply Ca|apply Cb)<;>intro hb)|refine Ai (by omega) ?_|(apply Ai<;>intro hb)
 (refine loop_can2 cxG (fun x:Nat=>l.length-x) (fun x=>x≤l.length∧atsTo l x) (b0+16) (fun x=>[(0,.sl false 3 (l.map atC)),(6,.sl false 3 (l.map atC)),(7,.int .i64 l.length),(8,.int .i64 x)]) (fun x=>[]) (0) [] ?_ ?_ ?_ ?_;rotate_left 1;(focus (show b0≤_;omega));(focus (refine⟨?_,?_⟩<;>(try simp only[cans,plain_at,Lm,vcs,seval,tys,injs])<;>(try omega)));rotate_left 1)
 ·exact⟨Nat.zero_le _,fun i a hi=>by omega⟩
 ·rintro k ⟨hk,hn⟩
  by_cases hlt:k<l.length
  ·obtain⟨a,ha⟩:∃ a,l[k]? = some a:=⟨_,List.getElem?_eq_getElem hlt⟩
   obtain⟨hs0,hs1,hs2⟩:=hs a (List.mem_of_getElem? ha)
   have hat:=at_at ha
   have hd:decide (k<l.length)=true:=decide_eq_true hlt
   have hwk:IntKind.i64.wrap ((k:Int)+1)=((k+1:Nat):Int):=wrap_in (by omega) (by omega)
   have hki:(k:Int)≤(l.length:Int):=by omega
   have htk:(l.map atC).take k=(l.take k).map atC:=by rw[List.map_take]
   have hlen:(l.take k).length≤lim:=by rw[List.length_take];unfold lim;omega
   have hf2:=full_ev a.name hs1
   have hc2:=tCheck_ev a.value hs2
   have hc3:=tCheck_ev a.space hs0
   have hh2:=containsat_ev (l.take k) 70 [.rp (atC a)] (fun b=>a.space==b.space&&a.name==b.name) (fun b _ nm=>attrs1_ev a b nm) hlen rfl
   have hok:okA (l.take k) a=(!((l.take k).any fun b=>a.space==b.space&&a.name==b.name)&&fullL a.name&&decide (ptsErr a.value=0)&&decide (ptsErr a.space=0)):=rfl
   have hz2:decide (ptsErr a.value=0) = !(ptsErr a.value != 0):=by rw[Bool.eq_iff_iff];simp
   have hz3:decide (ptsErr a.space=0) = !(ptsErr a.space != 0):=by rw[Bool.eq_iff_iff];simp
   rw[hz2,hz3]at hok
   generalize hb1:((l.take k).any fun b=>a.space==b.space&&a.name==b.name)=b1 at hh2 hok
   generalize hb2:fullL a.name=b2 at hf2 hok
   generalize hb3:(ptsErr a.value != 0)=b3 at hok
   generalize hb4:(ptsErr a.space != 0)=b4 at hok
   cases ho2:okA (l.take k) a with
   | false =>
    have hr:=ats_false ha ho2
    rw[ho2]at hok
    cases b1<;>cases b2<;>cases b3<;>cases b4
    all_goals (try (exfalso;simp at hok;done))
    all_goals ((repeat' first|simp only[results56,ntmps56,wks,plain_at,hat,atC,hd,hlt,hk,hki,htk,hb3,hb4,hr,Bt,Bf,Lm,Nat.zero_add,vcs,seval,tys]|exact rfl|((first|(refine call_fn ?_ (hf2 _) ?_)|(refine call_fn_g ?_ (fun _=>hf2 _) ?_)|(refine call_fn ?_ (hc2 _) ?_)|(refine call_fn_g ?_ (fun _=>hc2 _) ?_));(focus (simp only[results56,ntmps56,wks,plain_at,hat,atC,hd,hlt,hk,hki,htk,hb3,hb4,hr,Bt,Bf,Lm,Nat.zero_add,vcs,seval,tys]<;>exact rfl)))|((first|(refine call_fn ?_ (hc3 _) ?_)|(refine call_fn_g ?_ (fun _=>hc3 _) ?_));(focus (simp only[results56,ntmps56,wks,plain_at,hat,atC,hd,hlt,hk,hki,htk,hb3,hb4,hr,Bt,Bf,Lm,Nat.zero_add,vcs,seval,tys]<;>exact rfl)))|((refine call_fn_vx (xs:=?_) [b0+80] ?_ ?_ ?_ rfl (hh2 _) ?_);rotate_left 1;iterate 3 (focus (simp only[fins,mems,results56,ntmps56,wks,plain_at,hat,atC,hd,hlt,hk,hki,htk,hb3,hb4,hr,Bt,Bf,Lm,Nat.zero_add,vcs,seval,tys]<;>(first|exact rfl|omega))))|(refine call_off (v:=.any) ?_)|((first|apply Ca|apply Cb)<;>intro hb)|refine Ai (by omega) ?_|(apply Ai<;>intro hb)|refine Fin.pure ?_ ?_ ?_|simp only[injs]))
   | true =>
    have hn':=atsTo_succ hn ha ho2
    rw[ho2]at hok
    cases b1<;>cases b2<;>cases b3<;>cases b4
    all_goals (try (exfalso;simp at hok;done))
    all_goals (repeat' first|simp only[results56,ntmps56,wks,plain_at,hat,atC,hd,hlt,hk,hki,htk,hb3,hb4,hwk,Bt,Bf,Lm,Nat.zero_add,vcs,seval,tys]|exact rfl|((first|(refine call_fn ?_ (hf2 _) ?_)|(refine call_fn_g ?_ (fun _=>hf2 _) ?_)|(refine call_fn ?_ (hc2 _) ?_)|(refine call_fn_g ?_ (fun _=>hc2 _) ?_));(focus (simp only[results56,ntmps56,wks,plain_at,hat,atC,hd,hlt,hk,hki,htk,hb3,hb4,hwk,Bt,Bf,Lm,Nat.zero_add,vcs,seval,tys]<;>exact rfl)))|((first|(refine call_fn ?_ (hc3 _) ?_)|(refine call_fn_g ?_ (fun _=>hc3 _) ?_));(focus (simp only[results56,ntmps56,wks,plain_at,hat,atC,hd,hlt,hk,hki,htk,hb3,hb4,hwk,Bt,Bf,Lm,Nat.zero_add,vcs,seval,tys]<;>exact rfl)))|((refine call_fn_vx (xs:=?_) [b0+80] ?_ ?_ ?_ rfl (hh2 _) ?_);rotate_left 1;iterate 3 (focus (simp only[fins,mems,results56,ntmps56,wks,plain_at,hat,atC,hd,hlt,hk,hki,htk,hb3,hb4,hwk,Bt,Bf,Lm,Nat.zero_add,vcs,seval,tys]<;>(first|exact rfl|omega))))|((first|apply Ca|apply Cb)<;>intro hb)|refine Ai (by omega) ?_|(apply Ai<;>intro hb))
    all_goals ((refine again_can2 cxG (k+1) [] ?_ ?_ ?_ ?_;rotate_left 2;(focus (show b0≤_;omega));(focus (refine⟨?_,?_⟩<;>(try simp only[cans,plain_at,hwk,vcs,seval,tys,injs])<;>(try omega)))))
    all_goals (first|(show l.length-(k+1)<l.length-k;omega)|exact⟨hlt,hn'⟩|skip)
  ·have hke:k=l.length:=by omega
   subst hke
   have hd:decide (l.length<l.length)=false:=decide_eq_false (by omega)
   have hr:atsL l=decide (l.length≤16):=by
    rw[Bool.eq_iff_iff,ats_iff];simp[hn]
   have hi:decide ((l.length:Int)≤16)=decide (l.length≤16):=by rw[Bool.eq_iff_iff];simp;omega
   (repeat' first|simp only[fins,mems,results56,ntmps56,wks,hd,hr,hi,Lm,vcs,seval,tys]|exact rfl|refine call_off (v:=.any) ?_|((first|apply Ca|apply Cb)<;>intro hb)|refine Ai (by omega) ?_|(apply Ai<;>intro hb)|refine Fin.pure ?_ ?_ ?_|simp only[injs])
def Nd.okTo (n:Nd)(k:Nat):Prop:=n.attrs.length≤k∧n.space.length≤k∧n.name.length≤k∧n.text.length≤k ∧ ∀ a∈n.attrs,a.space.length≤k∧a.name.length≤k∧a.value.length≤k
theorem beq_nil (s:List UInt8):(s==[])=s.isEmpty:=by cases s<;>rfl
theorem may_two {n:Nd}(h:n.kind=2):mayN n=(n.name.isEmpty&&n.space.isEmpty&&((n.attrs.length:Int)==0)&&(n.many==0) && !n.text.isEmpty&&(ptsErr n.text==0)):=by
 unfold mayN
 rw[if_pos h]
 have h1:((n.attrs.length:Int)==0)=n.attrs.isEmpty:=len_zero _
 have h2:(n.many==0)=decide (n.many=0):=by rw[Bool.eq_iff_iff];simp
 have h3:(ptsErr n.text==0)=decide (ptsErr n.text=0):=by rw[Bool.eq_iff_iff];simp
 rw[h1,h2,h3]
theorem may_one {n:Nd}(h:¬ n.kind=2):mayN n=(((n.kind:Int)==1)&&n.text.isEmpty&&fullL n.name&&(ptsErr n.space==0)&&atsL n.attrs):=by
 unfold mayN
 rw[if_neg h]
 have h2:((n.kind:Int)==1)=decide (n.kind=1):=by rw[Bool.eq_iff_iff];simp;omega
 have h3:(ptsErr n.space==0)=decide (ptsErr n.space=0):=by rw[Bool.eq_iff_iff];simp
 rw[h2,h3]
theorem may_ev (n:Nd)(h:n.okTo lim)(nm:Nat):Ev cx 27 nm [.agg (ndC n)] Mem.nil (.bool (mayN n)) []:=by
 obtain⟨h1,h2,h3,h4,h5⟩:=h
 have hc:=tCheck_ev n.text h4
 have hc2:=tCheck_ev n.space h2
 have hf:=full_ev n.name h3
 have ha:=attrs_ev n.attrs h1 h5
 by_cases hk:n.kind=2
 ·have hkb:((n.kind:Int)==2)=true:=by rw[hk];rfl
  rw[may_two hk]
  refine ev_go rfl (fun cargs w=>call27 cargs w) func27 rfl mixed (by kernel_rfl) rfl ?_;intro b0 hb0
  (repeat' first|simp only[fins,mems,results27,ntmps27,wks,ndC,hkb,beq_nil,Lm,vcs,seval,tys]|exact rfl|refine call_off (v:=.any) ?_|(first|(refine call_fn ?_ (hc _) ?_)|(refine call_fn_g ?_ (fun _=>hc _) ?_))|((first|apply Ca|apply Cb)<;>intro hb)|refine Ai (by omega) ?_|(apply Ai<;>intro hb)|refine Fin.pure ?_ ?_ ?_|simp only[injs])
 ·have hkb:((n.kind:Int)==2)=false:=beq_false_of_ne (by omega)
  rw[may_one hk]
  refine ev_go rfl (fun cargs w=>call27 cargs w) func27 rfl mixed (by kernel_rfl) rfl ?_;intro b0 hb0
  (repeat' first|simp only[fins,mems,results27,ntmps27,wks,ndC,hkb,beq_nil,Lm,vcs,seval,tys]|exact rfl|refine call_off (v:=.any) ?_|(first|(refine call_fn ?_ (hc2 _) ?_)|(refine call_fn_g ?_ (fun _=>hc2 _) ?_)|(refine call_fn ?_ (hf _) ?_)|(refine call_fn_g ?_ (fun _=>hf _) ?_)|(refine call_fn ?_ (ha _) ?_)|(refine call_fn_g ?_ (fun _=>ha _) ?_))|((first|apply Ca|apply Cb)<;>intro hb)|refine Ai (by omega) ?_|(apply Ai<;>intro hb)|refine Fin.pure ?_ ?_ ?_|simp only[injs])
def nxI (o:Option Nat):Int:=match o with|some n=>n|none=>-1
theorem nxI_some (n:Nat):nxI (some n)=n:=rfl
theorem nxI_none:nxI none = -1:=rfl
def Nd.i64 (n:Nd):Prop:=-9223372036854775808≤n.many∧n.many≤9223372036854775807
structure WSt where
 k:Nat
 next:Option Nat
 last:Nat
 en:List Nat
theorem plain_vbox (v:List Nd):V.plain (.rp [.sl false 6 (v.map ndC)])=true:=by simp[V.plain,plainL,plain_nd]
def wkC (v:List Nd)(w eb:Nat):V:=.fn 53 [.rp [.sl false 6 (v.map ndC)],.ptr w 0 0,.ptr eb 0 0]
theorem node_ev (v:List Nd)(hv:v.length≤512)(hok:∀ n∈v,n.okTo lim∧n.i64)(d:Nat)(hd:d≤12)(dz:Bool)(hdz:dz=decide (d=0))(W:Nat→List Nat→Option Nat×List Nat)(hW:d≠0→WalkOk v (d-1) W)(w eb e:Nat)(n1:w≠eb)(n2:w≠e)(n3:eb≠e)
    (ih:d≠0 → ∀(p:Nat) (en:List Nat) (M:Mem) (nm:Nat),p<v.length→en.length=v.length→M w=some ⟨1,[[wkC v w eb]]⟩→M eb=some ⟨1,[[.own e 0 v.length]]⟩→M e=some ⟨1,en.map noC⟩→(∀ z,(M z).isSome=true→z∈[w,eb,e])→w<nm→eb<nm→e<nm →
      Ev cx 53 nm [.int .i64 p,.int .i64 ((d-1:Nat):Int),.rp [.sl false 6 (v.map ndC)],.ptr w 0 0,.ptr eb 0 0] M (.int .i64 (nxI (W p en).1)) [(w,some ⟨1,[[wkC v w eb]]⟩),(eb,some ⟨1,[[.own e 0 v.length]]⟩),(e,some ⟨1,(W p en).2.map noC⟩)])
    (p:Nat) (en:List Nat) (M:Mem) (nm:Nat) (hp:p<v.length) (hl:en.length=v.length) (hw:M w=some ⟨1,[[wkC v w eb]]⟩) (heb:M eb=some ⟨1,[[.own e 0 v.length]]⟩) (he:M e=some ⟨1,en.map noC⟩) (ho:∀ z,(M z).isSome=true→z∈[w,eb,e]) (lw:w<nm) (leb:eb<nm) (le:e<nm) :
    Ev cx 53 nm [.int .i64 p,.int .i64 d,.rp [.sl false 6 (v.map ndC)],.ptr w 0 0,.ptr eb 0 0] M (.int .i64 (nxI (nodeW W v dz p en).1)) [(w,some ⟨1,[[wkC v w eb]]⟩),(eb,some ⟨1,[[.own e 0 v.length]]⟩),(e,some ⟨1,(nodeW W v dz p en).2.map noC⟩)]:=by
  obtain⟨x,hx⟩:∃ x,v[p]? = some x:=⟨_,List.getElem?_eq_getElem hp⟩
  obtain⟨hxo,hx1,hx2⟩:=hok x (List.mem_of_getElem? hx)
  have hat:=nd_at hx
  have hmx:=may_ev x hxo
  have b1:decide ((p:Int)<0)=false:=decide_eq_false (by omega)
  have b2:decide (v.length≤p)=false:=decide_eq_false (by omega)
  have hpi:(p:Int)<(v.length:Int):=by omega
  have b4:((d:Int)==0)=dz:=by rw[hdz,Bool.eq_iff_iff];simp
  have hkx:okW x dz=(mayN x && !decide (x.many<0) && !(((x.kind:Int)==1)&&dz)):=by
    unfold okW
    have h1:decide (0≤x.many) = !decide (x.many<0):=by rw[Bool.eq_iff_iff];simp
    have h2:((x.kind:Int)==1)=(x.kind==1):=by rw[Bool.eq_iff_iff];simp;omega
    rw[h1,h2]
  have hwalk:nodeW W v dz p en=if okW x dz=true then endWk p (loopW W v x.many.toNat (some (p+1)) 1 en) else (none,en):=by
    unfold nodeW;rw[hx]
  have hroom:okW x dz=true→x.many.toNat≠0→d≠0:=by
    rintro h1 h2 rfl
    unfold okW at h1
    simp only[Bool.and_eq_true,decide_eq_true_eq,Bool.not_eq_true',Bool.and_eq_false_iff,beq_eq_false_iff_ne]at h1
    obtain⟨⟨a1,a2⟩,a3⟩:=h1
    rw[hdz]at a3
    simp at a3
    rcases mayN_kind a1 with h|h
    · exact a3 h
    · rw[(mayN_text a1 h).2.2.2.1]at h2;exact h2 rfl
  rw[hwalk]
  clear hwalk
  have w1:IntKind.i64.wrap ((p:Int)+1)=((p+1:Nat):Int):=wrap_in (by omega) (by omega)
  have m1:=eq_false n1;have m2:=eq_false n2;have m3:=eq_false n3
  have m4:=eq_false (Ne.symm n1);have m5:=eq_false (Ne.symm n2);have m6:=eq_false (Ne.symm n3)
  unfold wkC at hw ⊢
  by_cases hkk:okW x dz=true
  · rw [if_pos hkk]
    have hroom:=hroom hkk
    rw[hkk]at hkx
    generalize hB1:mayN x=B1 at hmx hkx
    generalize hB2:decide (x.many<0)=B2 at hkx
    generalize hB3:((x.kind:Int)==1)=B3 at hkx
    have hB:B1=true∧B2=false∧(B3&&dz)=false:=by cases B1<;>cases B2<;>cases B3<;>cases dz<;>simp at hkx ⊢
    obtain⟨rfl,rfl,hB4⟩:=hB
    have h0:0≤x.many:=by simpa using hB2
    obtain⟨m,hm⟩:∃ m:Nat,x.many=(m:Int):=⟨x.many.toNat,by omega⟩
    rw[hm]at hx2 hB2 hroom ⊢
    rw[Int.toNat_natCast]at hroom ⊢
    have hroom:∀ k,k<m→d≠0:=fun k hk=>hroom (by omega)
    refine ev_go rfl (fun cargs w=>call53 cargs w) func53 rfl mixed (by kernel_rfl) rfl ?_;intro b0 hb0
    have l1:w<b0:=below_of hb0 (by rw[hw];rfl)
    have z0:=lt_ne l1;have z1:=lt_ne_add l1;have z2:=lt_ne' l1;have z3:=lt_ne_add' l1
    have l2:eb<b0:=below_of hb0 (by rw[heb];rfl)
    have y0:=lt_ne l2;have y1:=lt_ne_add l2;have y2:=lt_ne' l2;have y3:=lt_ne_add' l2
    have l3:e<b0:=below_of hb0 (by rw[he];rfl)
    have x0:=lt_ne l3;have x1:=lt_ne_add l3;have x2:=lt_ne' l3;have x3:=lt_ne_add' l3
    repeat' first|simp only[fins,mems,results53,ntmps53,wks,hat,ndC,hm,b1,b2,b4,hB2,hB3,hB4,hpi,w1,hw,heb,he,Bt,Bf,Bool.and_false,Lm,vcs,seval,tys]|exact rfl|refine call_off (v:=.any) ?_|(first|(refine call_fn ?_ (hmx _) ?_)|(refine call_fn_g ?_ (fun _=>hmx _) ?_))|refine Ai (by omega) ?_
    (refine loop_can2 cxG (fun s:WSt=>m-s.k) (fun s=>s.k≤m∧s.en.length=v.length∧(∀ q,s.next=some q→q≤v.length)∧loopW W v m (some (p+1)) 1 en=loopW W v (m-s.k) s.next s.last s.en) (b0+16) (fun s=>[(0,.int .i64 p),(1,.int .i64 (d:Int)),(2,.rp [.sl false 6 (v.map ndC)]),(3,.ptr w 0 0),(4,.ptr eb 0 0),(8,.int .i64 (nxI s.next)),(9,.int .u8 s.last),(52,.int .i64 m),(53,.int .i64 s.k)]) (fun s=>[(w,⟨1,[[.fn 53 [.rp [.sl false 6 (v.map ndC)],.ptr w 0 0,.ptr eb 0 0]]]⟩),(eb,⟨1,[[.own e 0 v.length]]⟩),(e,⟨1,s.en.map noC⟩)]) (⟨0,some (p+1),1,en⟩) [some w,some eb,some e] ?_ ?_ ?_ ?_;rotate_left 1;(focus (show b0≤_;omega));(focus (refine⟨?_,?_⟩<;>(try simp only[cans,plain_nd,plain_no,plain_vbox v,hw,heb,he,z0,z1,z2,z3,y0,y1,y2,y3,x0,x1,x2,x3,m1,m2,m3,m4,m5,m6,nxI_some,Bool.and_self,Bool.and_false,Bool.false_and,Lm,vcs,seval,tys,injs])<;>(try omega)));rotate_left 1)
    · exact⟨Nat.zero_le _,hl,fun q hq=>by cases hq;omega,rfl⟩
    · rintro ⟨k,next,last,en1⟩ ⟨hk,hl1,hq,hinv⟩
      dsimp only at hk hl1 hq hinv ⊢
      rw[hinv]
      by_cases hlt:k<m
      · have hd1:decide ((k:Int)<(m:Int))=true:=decide_eq_true (by omega)
        have hd2:decide (k<m)=true:=decide_eq_true hlt
        obtain⟨c,hc⟩:∃ c,m-k=c+1:=⟨m-k-1,by omega⟩
        have hc2:m-(k+1)=c:=by omega
        rw[hc]at hinv ⊢
        have hwk:IntKind.i64.wrap ((k:Int)+1)=((k+1:Nat):Int):=wrap_in (by omega) (by omega)
        cases next with
        | none =>
          have hr:loopW W v (c+1) none last en1=(none,en1):=rfl
          rw[hr]
          have q0:decide ((-1:Int)<0)=true:=rfl
          repeat' first|simp only[fins,mems,results53,ntmps53,wks,hd1,hd2,q0,nxI_none,endWk,Bt,Bf,Bool.and_false,Lm,vcs,seval,tys]|exact rfl|refine call_off (v:=.any) ?_|((first|apply Ca|apply Cb)<;>intro hb)|refine Ai (by omega) ?_|(apply Ai<;>intro hb)
          all_goals ((refine Fin.give [(w,none),(eb,none),(e,none)] [] ?_ ?_ ?_ ?_ ?_ (fun q hq=>by have hqq:=ho q hq;first|(simp only[gives,tgt,Lc,Lo,Lk,Ln,or_false]at hqq ⊢;omega)|(simp only[gives,tgt,Lc,Lo,Lk,Ln,or_false]at hqq))<;>(try simp only[results53,ntmps53,wks,hw,heb,he,nxI_none,endWk,plain_vbox v,z0,z1,z2,z3,y0,y1,y2,y3,x0,x1,x2,x3,m1,m2,m3,m4,m5,m6,Bool.and_self,Bool.and_false,Bool.false_and,plain_nd,plain_no,Lm,giv,vcs,seval,tys])<;>(try simp only[injs])<;>(try omega)))
        | some q =>
          have hqv:=hq q rfl
          have q0:decide ((q:Int)<0)=false:=decide_eq_false (by omega)
          cases hy:v[q]? with
          | none =>
            have hge:v.length≤q:=List.getElem?_eq_none_iff.1 hy
            have q1:decide (v.length≤q)=true:=decide_eq_true hge
            have hr:loopW W v (c+1) (some q) last en1=(none,en1):=by simp[loopW,hy]
            rw[hr]
            repeat' first|simp only[fins,mems,results53,ntmps53,wks,hd1,hd2,q0,q1,nxI_some,nxI_none,endWk,Bt,Bf,Bool.and_false,Lm,vcs,seval,tys]|exact rfl|refine call_off (v:=.any) ?_|((first|apply Ca|apply Cb)<;>intro hb)|refine Ai (by omega) ?_|(apply Ai<;>intro hb)
            all_goals ((refine Fin.give [(w,none),(eb,none),(e,none)] [] ?_ ?_ ?_ ?_ ?_ (fun q hq=>by have hqq:=ho q hq;first|(simp only[gives,tgt,Lc,Lo,Lk,Ln,or_false]at hqq ⊢;omega)|(simp only[gives,tgt,Lc,Lo,Lk,Ln,or_false]at hqq))<;>(try simp only[results53,ntmps53,wks,hw,heb,he,nxI_none,endWk,plain_vbox v,z0,z1,z2,z3,y0,y1,y2,y3,x0,x1,x2,x3,m1,m2,m3,m4,m5,m6,Bool.and_self,Bool.and_false,Bool.false_and,plain_nd,plain_no,Lm,giv,vcs,seval,tys])<;>(try simp only[injs])<;>(try omega)))
          | some y =>
            have hql:=(List.getElem?_eq_some_iff.1 hy).1
            have q1:decide (v.length≤q)=false:=decide_eq_false (by omega)
            have hay:=nd_at hy
            have hqi:(q:Int)<(v.length:Int):=by omega
            have hbb:(((last:Int)==2)&&((y.kind:Int)==(last:Int)))=(last==2&&y.kind==2):=by
              rw[Bool.eq_iff_iff];simp;omega
            have hd0:=hroom k hlt
            have hwd:IntKind.i64.wrap ((d:Int)-1)=((d-1:Nat):Int):=by rw[wrap_in (by omega) (by omega)];omega
            cases hB:(last==2&&y.kind==2) with
            | true =>
              rw[hB]at hbb
              simp only[Bool.and_eq_true]at hbb
              obtain⟨q2,q3⟩:=hbb
              have hr:loopW W v (c+1) (some q) last en1=(none,en1):=by simp[loopW,hy,hB]
              rw[hr]
              repeat' first|simp only[fins,mems,results53,ntmps53,wks,hd1,hd2,q0,q1,q2,q3,hay,ndC,hql,hqi,nxI_some,nxI_none,endWk,Bt,Bf,Bool.and_false,Lm,vcs,seval,tys]|exact rfl|refine call_off (v:=.any) ?_|((first|apply Ca|apply Cb)<;>intro hb)|refine Ai (by omega) ?_|(apply Ai<;>intro hb)
              all_goals ((refine Fin.give [(w,none),(eb,none),(e,none)] [] ?_ ?_ ?_ ?_ ?_ (fun q hq=>by have hqq:=ho q hq;first|(simp only[gives,tgt,Lc,Lo,Lk,Ln,or_false]at hqq ⊢;omega)|(simp only[gives,tgt,Lc,Lo,Lk,Ln,or_false]at hqq))<;>(try simp only[results53,ntmps53,wks,hw,heb,he,nxI_none,endWk,plain_vbox v,z0,z1,z2,z3,y0,y1,y2,y3,x0,x1,x2,x3,m1,m2,m3,m4,m5,m6,Bool.and_self,Bool.and_false,Bool.false_and,plain_nd,plain_no,Lm,giv,vcs,seval,tys])<;>(try simp only[injs])<;>(try omega)))
            | false =>
              rw[hB]at hbb
              have hr:loopW W v (c+1) (some q) last en1=loopW W v c (W q en1).1 y.kind (W q en1).2:=by simp[loopW,hy,hB]
              rw[hr]at hinv ⊢
              have hcall:=fun (M':Mem) (a1:M' w=some ⟨1,[[wkC v w eb]]⟩) (a2:M' eb=some ⟨1,[[.own e 0 v.length]]⟩) (a3:M' e=some ⟨1,en1.map noC⟩) (a4:∀ z,(M' z).isSome=true→z∈[w,eb,e]) (n:Nat) (k1:w<n) (k2:eb<n) (k3:e<n)=>ih hd0 q en1 M' n hql hl1 a1 a2 a3 a4 k1 k2 k3
              unfold wkC at hcall
              obtain⟨t1,t2⟩:=(hW hd0) q en1 hl1 |>.1
              generalize hB2:((last:Int)==2)=g2 at hbb
              generalize hB3:((y.kind:Int)==(last:Int))=g3 at hbb
              have hcs:(g2=true∧g3=false)∨g2=false:=by cases g2<;>cases g3<;>simp at hbb ⊢
              rcases hcs with ⟨rfl,rfl⟩|rfl
              all_goals (
                repeat' first|simp only[fins,mems,results53,ntmps53,wks,hd1,hd2,q0,q1,hB2,hB3,hay,ndC,hql,hqi,hwd,hwk,z0,z1,z2,z3,y0,y1,y2,y3,x0,x1,x2,x3,m1,m2,m3,m4,m5,m6,nxI_some,nxI_none,Bt,Bf,Bool.and_false,Lm,vcs,seval,tys]|exact rfl|refine call_off (v:=.any) ?_|((refine call_full (caps:=?_) ?_ ?_ [w,eb,e] (hcall _ ?_ ?_ ?_ only_mem _ (by omega) (by omega) (by omega)) ?_ ?_);rotate_left 1)|((first|apply Ca|apply Cb)<;>intro hb)|refine Ai (by omega) ?_|(apply Ai<;>intro hb)
                all_goals ((refine again_can2 cxG (⟨k+1,(W q en1).1,y.kind,(W q en1).2⟩) [some w,some eb,some e] ?_ ?_ ?_ ?_;rotate_left 2;(focus (show b0≤_;omega));(focus (refine⟨?_,?_⟩<;>(try simp only[cans,plain_nd,plain_no,plain_vbox v,hwk,z0,z1,z2,z3,y0,y1,y2,y3,x0,x1,x2,x3,m1,m2,m3,m4,m5,m6,Bool.and_self,Bool.and_false,Bool.false_and,Lm,vcs,seval,tys,injs])<;>(try omega)))))
                all_goals (first|(show m-(k+1)<c+1;omega)|exact⟨hlt,t1,fun q' hq'=>by obtain⟨_,_,_,_,_,h4,_⟩:=t2 q' hq';exact h4,by show _=loopW _ _ (m-(k+1)) _ _ _;rw[hc2]⟩|skip))
      · have hkm:k=m:=by omega
        subst hkm
        have hd1:decide ((k:Int)<(k:Int))=false:=decide_eq_false (by omega)
        have hd2:decide (k<k)=false:=decide_eq_false (by omega)
        have hr:loopW W v (k-k) next last en1=(next,en1):=by rw[Nat.sub_self];rfl
        rw[hr]
        cases next with
        | none =>
          have q0:decide ((0:Int) ≤ -1)=false:=rfl
          repeat' first|simp only[fins,mems,results53,ntmps53,wks,hd1,hd2,q0,nxI_none,endWk,Bt,Bf,Bool.and_false,Lm,vcs,seval,tys]|exact rfl|refine call_off (v:=.any) ?_|((first|apply Ca|apply Cb)<;>intro hb)|refine Ai (by omega) ?_|(apply Ai<;>intro hb)
          all_goals ((refine Fin.give [(w,none),(eb,none),(e,none)] [] ?_ ?_ ?_ ?_ ?_ (fun q hq=>by have hqq:=ho q hq;first|(simp only[gives,tgt,Lc,Lo,Lk,Ln,or_false]at hqq ⊢;omega)|(simp only[gives,tgt,Lc,Lo,Lk,Ln,or_false]at hqq))<;>(try simp only[results53,ntmps53,wks,hw,heb,he,nxI_none,endWk,plain_vbox v,z0,z1,z2,z3,y0,y1,y2,y3,x0,x1,x2,x3,m1,m2,m3,m4,m5,m6,Bool.and_self,Bool.and_false,Bool.false_and,plain_nd,plain_no,Lm,giv,vcs,seval,tys])<;>(try simp only[injs])<;>(try omega)))
        | some q =>
          have q0:decide ((0:Int)≤(q:Int))=true:=decide_eq_true (by omega)
          have hset:(en1.map noC).set p [.int .i64 q]=(en1.set p q).map noC:=by rw[List.map_set];rfl
          have hpl:p<en1.length:=by omega
          have hgp:(en1.map noC)[p]? = some (noC (en1[p]'hpl)):=by rw[List.getElem?_map,List.getElem?_eq_getElem hpl];rfl
          repeat' first|simp only[fins,mems,results53,ntmps53,wks,hd1,hd2,q0,hset,hgp,noC,hpi,hp,z0,z1,z2,z3,y0,y1,y2,y3,x0,x1,x2,x3,m1,m2,m3,m4,m5,m6,nxI_some,endWk,Bt,Bf,Bool.and_false,Lm,vcs,seval,tys]|exact rfl|refine call_off (v:=.any) ?_|((first|apply Ca|apply Cb)<;>intro hb)|refine Ai (by omega) ?_|(apply Ai<;>intro hb)
          all_goals ((refine Fin.give [(w,none),(eb,none),(e,none)] [] ?_ ?_ ?_ ?_ ?_ (fun q hq=>by have hqq:=ho q hq;first|(simp only[gives,tgt,Lc,Lo,Lk,Ln,or_false]at hqq ⊢;omega)|(simp only[gives,tgt,Lc,Lo,Lk,Ln,or_false]at hqq))<;>(try simp only[results53,ntmps53,wks,hw,heb,he,nxI_some,endWk,plain_vbox v,z0,z1,z2,z3,y0,y1,y2,y3,x0,x1,x2,x3,m1,m2,m3,m4,m5,m6,Bool.and_self,Bool.and_false,Bool.false_and,plain_nd,plain_no,Lm,giv,vcs,seval,tys])<;>(try simp only[injs])<;>(try omega)))
  · rw[if_neg hkk]
    have hkk':okW x dz=false:=by simpa using hkk
    rw[hkk']at hkx
    generalize hB1:mayN x=B1 at hmx hkx
    generalize hB2:decide (x.many<0)=B2 at hkx
    generalize hB3:((x.kind:Int)==1)=B3 at hkx
    have hB:B1=false∨(B1=true∧B2=true)∨(B1=true∧B2=false∧B3=true∧dz=true):=by cases B1<;>cases B2<;>cases B3<;>cases dz<;>simp at hkx ⊢
    clear hdz
    rcases hB with rfl|⟨rfl,rfl⟩|⟨rfl,rfl,rfl,rfl⟩
    all_goals (
      refine ev_go rfl (fun cargs w=>call53 cargs w) func53 rfl mixed (by kernel_rfl) rfl ?_;intro b0 hb0
      have l1:w<b0:=below_of hb0 (by rw[hw];rfl)
      have z0:=lt_ne l1;have z1:=lt_ne_add l1;have z2:=lt_ne' l1;have z3:=lt_ne_add' l1
      have l2:eb<b0:=below_of hb0 (by rw[heb];rfl)
      have y0:=lt_ne l2;have y1:=lt_ne_add l2;have y2:=lt_ne' l2;have y3:=lt_ne_add' l2
      have l3:e<b0:=below_of hb0 (by rw[he];rfl)
      have x0:=lt_ne l3;have x1:=lt_ne_add l3;have x2:=lt_ne' l3;have x3:=lt_ne_add' l3
      repeat' first|simp only[fins,mems,results53,ntmps53,wks,hat,ndC,b1,b2,b4,hB2,hB3,hpi,w1,hw,heb,he,Bt,Bf,Bool.and_false,Bool.and_true,Lm,vcs,seval,tys]|exact rfl|refine call_off (v:=.any) ?_|(first|(refine call_fn ?_ (hmx _) ?_)|(refine call_fn_g ?_ (fun _=>hmx _) ?_))|refine Ai (by omega) ?_
      all_goals ((refine Fin.give [(w,none),(eb,none),(e,none)] [] ?_ ?_ ?_ ?_ ?_ (fun q hq=>by have hqq:=ho q hq;first|(simp only[gives,tgt,Lc,Lo,Lk,Ln,or_false]at hqq ⊢;omega)|(simp only[gives,tgt,Lc,Lo,Lk,Ln,or_false]at hqq))<;>(try simp only[results53,ntmps53,wks,hw,heb,he,nxI_none,plain_vbox v,z0,z1,z2,z3,y0,y1,y2,y3,x0,x1,x2,x3,m1,m2,m3,m4,m5,m6,Bool.and_self,Bool.and_false,Bool.false_and,plain_nd,plain_no,Lm,giv,vcs,seval,tys])<;>(try simp only[injs])<;>(try omega))))
theorem walk_ev (v:List Nd)(hv:v.length≤512)(hok:∀ n∈v,n.okTo lim∧n.i64)(w eb e:Nat)(n1:w≠eb)(n2:w≠e)(n3:eb≠e):∀(d:Nat),d≤12 → ∀(p:Nat) (en:List Nat) (M:Mem) (nm:Nat),p<v.length→en.length=v.length→M w=some ⟨1,[[wkC v w eb]]⟩→M eb=some ⟨1,[[.own e 0 v.length]]⟩→M e=some ⟨1,en.map noC⟩→(∀ z,(M z).isSome=true→z∈[w,eb,e])→w<nm→eb<nm→e<nm →
   Ev cx 53 nm [.int .i64 p,.int .i64 (d:Int),.rp [.sl false 6 (v.map ndC)],.ptr w 0 0,.ptr eb 0 0] M (.int .i64 (nxI (walkW v d p en).1)) [(w,some ⟨1,[[wkC v w eb]]⟩),(eb,some ⟨1,[[.own e 0 v.length]]⟩),(e,some ⟨1,(walkW v d p en).2.map noC⟩)]
 | 0,hd=>node_ev v hv hok 0 hd true rfl _ (fun h=>absurd rfl h) w eb e n1 n2 n3 (fun h=>absurd rfl h)
 | d+1,hd=>node_ev v hv hok (d+1) hd false (by simp) (walkW v d) (fun _=>walk_ok v d) w eb e n1 n2 n3 (fun _=>walk_ev v hv hok w eb e n1 n2 n3 d (by omega))
theorem nil_mem:∀ q,(Mem.nil q).isSome=true→q∈([]:List Nat):=fun q h=>by cases h
theorem made_no (n:Nat):madeK cx.P 42 n=⟨1,(List.replicate n 0).map noC⟩:=by
 unfold madeK
 rw[show elInfo cx.P 42=some ([.int .i64 0],8) by kernel_rfl]
 simp[noC]
theorem behind_all (v:List Nd)(hv:v.length≤lim)(hok:∀ n∈v,n.okTo lim∧n.i64)(r:V)(eff:List (Nat×Option Blk))(nm:Nat)(hr:(behindO v=none∧r = .nils∧eff=[]) ∨ ∃ en,behindO v=some en∧r = .own nm 0 v.length∧eff=[(nm,some ⟨1,en.map noC⟩)]) :
  Ev cx 25 nm [.sl false 6 (v.map ndC)] Mem.nil r eff:=by
 unfold lim at hv
 by_cases h0:v.length=0
 ·have hb:behindO v=none:=by unfold behindO;rw[if_pos (by rw[List.length_eq_zero_iff.1 h0];rfl)]
  have hre:r = .nils∧eff=[]:=by
   rcases hr with ⟨_,h⟩|⟨en,h,_⟩
   ·exact h
   ·rw[hb]at h;cases h
  obtain⟨rfl,rfl⟩:=hre
  have q0:((v.length:Int)==0)=true:=by rw[h0];rfl
  refine ev_go rfl (fun cargs w=>call25 cargs w) func25 rfl mixed (by kernel_rfl) rfl ?_;intro b0 hb0
  (repeat' first|simp only[fins,mems,results25,ntmps25,wks,q0,plain_nd,Bt,Lm,vcs,seval,tys]|exact rfl|refine call_off (v:=.any) ?_|refine draw_end' (ps:=[(1,2)]) (by decide +kernel) (by simp only[List.forall_mem_cons,List.getD_cons_zero,List.getD_cons_succ,results25,ntmps25,wks,q0,plain_nd,Bt,Lm,vcs,seval,tys]<;>(try simp)<;>(try omega)) ?_|refine draw_end (by decide +kernel) ?_|((first|apply Ca|apply Cb)<;>intro hb)|refine Ai (by omega) ?_|(apply Ai<;>intro hb)|refine Fin.pure ?_ ?_ ?_|simp only[injs])
 have q0:((v.length:Int)==0)=false:=beq_false_of_ne (by omega)
 by_cases h1:512<v.length
 ·have hb:behindO v=none:=by unfold behindO;rw[if_pos (by simp[h1])]
  have hre:r = .nils∧eff=[]:=by
   rcases hr with ⟨_,h⟩|⟨en,h,_⟩
   ·exact h
   ·rw[hb]at h;cases h
  obtain⟨rfl,rfl⟩:=hre
  have q1:decide ((512:Int)<(v.length:Int))=true:=decide_eq_true (by omega)
  have q2:decide (512<v.length)=true:=decide_eq_true h1
  refine ev_go rfl (fun cargs w=>call25 cargs w) func25 rfl mixed (by kernel_rfl) rfl ?_;intro b0 hb0
  (repeat' first|simp only[fins,mems,results25,ntmps25,wks,q0,q1,q2,plain_nd,Bt,Bf,Lm,vcs,seval,tys]|exact rfl|refine call_off (v:=.any) ?_|refine draw_end' (ps:=[(1,2)]) (by decide +kernel) (by simp only[List.forall_mem_cons,List.getD_cons_zero,List.getD_cons_succ,results25,ntmps25,wks,q0,q1,q2,plain_nd,Bt,Bf,Lm,vcs,seval,tys]<;>(try simp)<;>(try omega)) ?_|refine draw_end (by decide +kernel) ?_|((first|apply Ca|apply Cb)<;>intro hb)|refine Ai (by omega) ?_|(apply Ai<;>intro hb)|refine Fin.pure ?_ ?_ ?_|simp only[injs])
 have q1:decide ((512:Int)<(v.length:Int))=false:=decide_eq_false (by omega)
 have q2:decide (512<v.length)=false:=decide_eq_false h1
 obtain⟨x,hx⟩:∃ x,v[0]? = some x:=⟨_,List.getElem?_eq_getElem (by omega)⟩
 have hat:=nd_at hx
 have hp0:0<v.length:=by omega
 have hpi:(0:Int)<(v.length:Int):=by omega
 by_cases hk:x.kind=1
 ·have q3:((x.kind:Int) != 1)=false:=by rw[hk];rfl
  have hbo:behindO v=finO v.length (walkW v 12 0 (List.replicate v.length 0)):=by
   have hc:(v.isEmpty||decide (512<v.length) || !((v[0]?).map Nd.kind==some 1))=false:=by
    rw[q2,hx]
    simp only[Option.map_some,hk,beq_self_eq_true,Bt,Bool.or_false]
    cases v with
    | nil=>simp at h0
    | cons _ _=>rfl
   unfold behindO
   rw[if_neg (by rw[hc];simp)]
  rw[hbo]at hr
  clear hbo
  have hcall:=fun (M':Mem) (n:Nat) (w eb e:Nat) (n1:w≠eb) (n2:w≠e) (n3:eb≠e) a1 a2 a3 a4 k1 k2 k3=>walk_ev v (by omega) hok w eb e n1 n2 n3 12 (by omega) 0 (List.replicate v.length 0) M' n hp0 (by simp) a1 a2 a3 a4 k1 k2 k3
  unfold wkC at hcall
  have hlen:=walkW_len v 12 0 (List.replicate v.length 0)
  rw[List.length_replicate]at hlen
  generalize walkW v 12 0 (List.replicate v.length 0)=R at hr hcall hlen
  obtain⟨o,en⟩:=R
  simp only at hcall hlen
  by_cases ho:o=some v.length
  ·subst ho
   simp only[finO,if_pos]at hr
   have hre:r = .own nm 0 v.length∧eff=[(nm,some ⟨1,en.map noC⟩)]:=by
    rcases hr with ⟨h,_⟩|⟨en',h,h2⟩
    ·cases h
    ·cases h;exact h2
   obtain⟨rfl,rfl⟩:=hre
   have q4:((v.length:Int) !=(v.length:Int))=false:=by simp
   have q5:=nxI_some v.length
   refine ev_goW rfl (fun cargs w=>call25 cargs w) func25 rfl mixed (by kernel_rfl) rfl ?_;intro b0 hb0
   repeat' first|simp only[fins,mems,results25,ntmps25,wks,vcs,seval,tys]|exact rfl|refine call_off (v:=.any) ?_|refine draw_end' (ps:=[(1,2)]) (by decide +kernel) (by simp only[List.forall_mem_cons,List.getD_cons_zero,List.getD_cons_succ,results25,ntmps25,wks,vcs,seval,tys]<;>(try simp)<;>(try omega)) ?_|refine draw_end (by decide +kernel) ?_|((first|apply Ca|apply Cb)<;>intro hb)|refine Ai (by omega) ?_|(apply Ai<;>intro hb)
   (refine mid_can cxG (b0+16) ([(1,.rp [.sl false 6 (v.map ndC)]),(2,.nils)]) ([]) [] ?_ ?_ ?_;(focus (show b0≤_;omega));(focus (refine⟨?_,?_⟩<;>(try simp only[cans,plain_nd,vcs,seval,tys,injs])<;>(try omega))))
   repeat' first|simp only[fins,mems,results25,ntmps25,wks,q0,q1,q2,q3,q4,q5,hat,ndC,hp0,hpi,made_no,plain_nd,plain_no,List.length_replicate,Bt,Bf,Lm,vcs,seval,tys]|exact rfl|refine call_off (v:=.any) ?_|((refine call_full (caps:=?_) ?_ ?_ [b0+336,b0+304,b0+288] (hcall _ _ (b0+336) (b0+304) (b0+288) (by omega) (by omega) (by omega) ?_ ?_ ?_ only_mem (by omega) (by omega) (by omega)) ?_ ?_);rotate_left 1)|(refine ext_make (n:=?_) (c:=?_) (kx:=?_) (ky:=?_) ?_ ?_ ?_ ?_ ?_ ?_;rotate_left 4;(iterate 2 (focus (simp only[results25,ntmps25,wks,q0,q1,q2,q3,q4,q5,hat,ndC,hp0,hpi,made_no,plain_nd,plain_no,List.length_replicate,Bt,Bf,Lm,vcs,seval,tys]<;>exact rfl)));(iterate 2 (focus (simp only[results25,ntmps25,wks,q0,q1,q2,q3,q4,q5,hat,ndC,hp0,hpi,made_no,plain_nd,plain_no,List.length_replicate,Bt,Bf,Lm,vcs,seval,tys]<;>omega)));(focus (simp only[madeOk,results25,ntmps25,wks,q0,q1,q2,q3,q4,q5,hat,ndC,hp0,hpi,made_no,plain_nd,plain_no,List.length_replicate,Bt,Bf,Lm,vcs,seval,tys]<;>omega)))|(refine extG_true ?_)|(refine extG_false ?_)|refine draw_end' (ps:=[(1,2)]) (by decide +kernel) (by simp only[List.forall_mem_cons,List.getD_cons_zero,List.getD_cons_succ,results25,ntmps25,wks,q0,q1,q2,q3,q4,q5,hat,ndC,hp0,hpi,made_no,plain_nd,plain_no,List.length_replicate,Bt,Bf,Lm,vcs,seval,tys]<;>(try simp)<;>(try omega)) ?_|refine draw_end (by decide +kernel) ?_|((first|apply Ca|apply Cb)<;>intro hb)|refine Ai (by omega) ?_|(apply Ai<;>intro hb)
   all_goals ((refine Fin.give [(b0+288,some 0)] [] ?_ ?_ ?_ ?_ ?_ (fun q hq=>by have hqq:=nil_mem q hq;first|(simp only[gives,tgt,Lc,Lo,Lk,Ln,or_false]at hqq ⊢;omega)|(simp only[gives,tgt,Lc,Lo,Lk,Ln,or_false]at hqq))<;>(try simp only[results25,ntmps25,wks,hlen,plain_no,Lm,giv,vcs,seval,tys])<;>(try simp only[injs])<;>(try omega)))
  ·have hre:r = .nils∧eff=[]:=by
    rcases hr with ⟨_,h⟩|⟨en',h,h2⟩
    ·exact h
    ·cases o with
     | none=>cases h
     | some e =>
      simp only[finO]at h
      split at h
      ·rename_i he;exact absurd (by rw[he]) ho
      ·cases h
   obtain⟨rfl,rfl⟩:=hre
   have q4:(nxI o !=(v.length:Int))=true:=by
    cases o with
    | none=>simp only[nxI,bne_iff_ne,ne_eq];omega
    | some e =>
     have:e≠v.length:=fun h=>ho (by rw[h])
     simp only[nxI,bne_iff_ne,ne_eq];omega
   have q5:True:=trivial
   refine ev_goW rfl (fun cargs w=>call25 cargs w) func25 rfl mixed (by kernel_rfl) rfl ?_;intro b0 hb0
   repeat' first|simp only[fins,mems,results25,ntmps25,wks,vcs,seval,tys]|exact rfl|refine call_off (v:=.any) ?_|refine draw_end' (ps:=[(1,2)]) (by decide +kernel) (by simp only[List.forall_mem_cons,List.getD_cons_zero,List.getD_cons_succ,results25,ntmps25,wks,vcs,seval,tys]<;>(try simp)<;>(try omega)) ?_|refine draw_end (by decide +kernel) ?_|((first|apply Ca|apply Cb)<;>intro hb)|refine Ai (by omega) ?_|(apply Ai<;>intro hb)
   (refine mid_can cxG (b0+16) ([(1,.rp [.sl false 6 (v.map ndC)]),(2,.nils)]) ([]) [] ?_ ?_ ?_;(focus (show b0≤_;omega));(focus (refine⟨?_,?_⟩<;>(try simp only[cans,plain_nd,vcs,seval,tys,injs])<;>(try omega))))
   repeat' first|simp only[fins,mems,results25,ntmps25,wks,q0,q1,q2,q3,q4,q5,hat,ndC,hp0,hpi,made_no,plain_nd,plain_no,List.length_replicate,Bt,Bf,Lm,vcs,seval,tys]|exact rfl|refine call_off (v:=.any) ?_|((refine call_full (caps:=?_) ?_ ?_ [b0+336,b0+304,b0+288] (hcall _ _ (b0+336) (b0+304) (b0+288) (by omega) (by omega) (by omega) ?_ ?_ ?_ only_mem (by omega) (by omega) (by omega)) ?_ ?_);rotate_left 1)|(refine ext_make (n:=?_) (c:=?_) (kx:=?_) (ky:=?_) ?_ ?_ ?_ ?_ ?_ ?_;rotate_left 4;(iterate 2 (focus (simp only[results25,ntmps25,wks,q0,q1,q2,q3,q4,q5,hat,ndC,hp0,hpi,made_no,plain_nd,plain_no,List.length_replicate,Bt,Bf,Lm,vcs,seval,tys]<;>exact rfl)));(iterate 2 (focus (simp only[results25,ntmps25,wks,q0,q1,q2,q3,q4,q5,hat,ndC,hp0,hpi,made_no,plain_nd,plain_no,List.length_replicate,Bt,Bf,Lm,vcs,seval,tys]<;>omega)));(focus (simp only[madeOk,results25,ntmps25,wks,q0,q1,q2,q3,q4,q5,hat,ndC,hp0,hpi,made_no,plain_nd,plain_no,List.length_replicate,Bt,Bf,Lm,vcs,seval,tys]<;>omega)))|(refine extG_true ?_)|(refine extG_false ?_)|refine draw_end' (ps:=[(1,2)]) (by decide +kernel) (by simp only[List.forall_mem_cons,List.getD_cons_zero,List.getD_cons_succ,results25,ntmps25,wks,q0,q1,q2,q3,q4,q5,hat,ndC,hp0,hpi,made_no,plain_nd,plain_no,List.length_replicate,Bt,Bf,Lm,vcs,seval,tys]<;>(try simp)<;>(try omega)) ?_|refine draw_end (by decide +kernel) ?_|((first|apply Ca|apply Cb)<;>intro hb)|refine Ai (by omega) ?_|(apply Ai<;>intro hb)
   all_goals ((refine Fin.pure ?_ ?_ ?_<;>simp only[Lm,results25,ntmps25,vcs,seval,tys]))
 ·have hb:behindO v=none:=by
   unfold behindO
   rw[if_pos (by rw[hx];simp[hk])]
  have hre:r = .nils∧eff=[]:=by
   rcases hr with ⟨_,h⟩|⟨en,h,_⟩
   ·exact h
   ·rw[hb]at h;cases h
  obtain⟨rfl,rfl⟩:=hre
  have q3:((x.kind:Int) != 1)=true:=by simp;omega
  refine ev_go rfl (fun cargs w=>call25 cargs w) func25 rfl mixed (by kernel_rfl) rfl ?_;intro b0 hb0
  (repeat' first|simp only[fins,mems,results25,ntmps25,wks,q0,q1,q2,q3,hat,ndC,hp0,hpi,plain_nd,Bt,Bf,Lm,vcs,seval,tys]|exact rfl|refine call_off (v:=.any) ?_|refine draw_end' (ps:=[(1,2)]) (by decide +kernel) (by simp only[List.forall_mem_cons,List.getD_cons_zero,List.getD_cons_succ,results25,ntmps25,wks,q0,q1,q2,q3,hat,ndC,hp0,hpi,plain_nd,Bt,Bf,Lm,vcs,seval,tys]<;>(try simp)<;>(try omega)) ?_|refine draw_end (by decide +kernel) ?_|((first|apply Ca|apply Cb)<;>intro hb)|refine Ai (by omega) ?_|(apply Ai<;>intro hb)|refine Fin.pure ?_ ?_ ?_|simp only[injs])
theorem behind_none_ev (v:List Nd)(hv:v.length≤lim)(hok:∀ n∈v,n.okTo lim∧n.i64)(h:behindO v=none)(nm:Nat):Ev cx 25 nm [.sl false 6 (v.map ndC)] Mem.nil .nils [] :=
 behind_all v hv hok .nils [] nm (.inl ⟨h,rfl,rfl⟩)
theorem behind_some_ev (v:List Nd)(hv:v.length≤lim)(hok:∀ n∈v,n.okTo lim∧n.i64){en:List Nat}(h:behindO v=some en)(nm:Nat):Ev cx 25 nm [.sl false 6 (v.map ndC)] Mem.nil (.own nm 0 v.length) [(nm,some ⟨1,en.map noC⟩)] :=
 behind_all v hv hok _ _ nm (.inr ⟨en,h,rfl,rfl⟩)
def xmlU:List UInt8:=[104,116,116,112,58,47,47,119,119,119,46,119,51,46,111,114,103,47,88,77,76,47,49,57,57,56,47,110,97,109,101,115,112,97,99,101]
def checkB (v:List Nd):Int:=if (behindO v).isNone=true then 8 else 0
theorem ends_ok {v:List Nd}{en:List Nat}(h:behindO v=some en):en.length=v.length∧0<v.length∧v.length≤512 ∧ ∀ i e,en[i]? = some e→i<e∧e≤v.length:=by
 obtain⟨n,k,h1,h2,h3,h4,h5⟩:=behind_iff.1 h
 have hl:v.length=k.size+1:=by rw[h2];simp[Fo.flat_length]
 have he:en=(Fo.cons n k .nil).ends 0:=by rw[h5];simp[Fo.ends]
 refine⟨by rw[h5];simp[Fo.ends_length,hl],by omega,h4,fun i e hi=>?_⟩
 rw[he]at hi
 have:=ends_up _ _ _ _ hi
 simp only[Fo.size]at this
 omega
theorem checkT_ev (v:List Nd)(hv:v.length≤lim)(hok:∀ n∈v,n.okTo lim∧n.i64)(nm:Nat):Ev cx 22 nm [.sl false 6 (v.map ndC)] Mem.nil (.int .i64 (checkB v)) []:=by
 unfold checkB
 cases h:behindO v with
 | none =>
  have hb:=behind_none_ev v hv hok h
  refine ev_go rfl (fun cargs w=>call22 cargs w) func22 rfl mixed (by kernel_rfl) rfl ?_;intro b0 hb0
  (repeat' first|simp only[fins,mems,results22,ntmps22,wks,Option.isNone_none,if_true,plain_nd,vcs,seval,tys]|exact rfl|refine call_off (v:=.any) ?_|(first|(refine call_fn ?_ (hb _) ?_)|(refine call_fn_g ?_ (fun _=>hb _) ?_))|((first|apply Ca|apply Cb)<;>intro hb)|refine Ai (by omega) ?_|(apply Ai<;>intro hb)|refine Fin.pure ?_ ?_ ?_|simp only[injs])
 | some en =>
  have hb:=behind_some_ev v hv hok h
  have h0:decide (v.length=0)=false:=decide_eq_false (by have:=(ends_ok h).2.1;omega)
  refine ev_go rfl (fun cargs w=>call22 cargs w) func22 rfl mixed (by kernel_rfl) rfl ?_;intro b0 hb0
  repeat' first|simp only[fins,mems,results22,ntmps22,wks,Option.isNone_some,Bool.false_eq_true,if_false,plain_nd,plain_no,h0,vcs,seval,tys]|exact rfl|refine call_off (v:=.any) ?_|(refine call_fn_new ?_ (hb _) ?_ ?_)|omega|((first|apply Ca|apply Cb)<;>intro hb)|refine Ai (by omega) ?_|(apply Ai<;>intro hb)
  all_goals (first|(cases hb;done)|((refine Fin.pure ?_ ?_ ?_<;>simp only[Option.isNone_some,Bool.false_eq_true,if_false,plain_nd,results22,ntmps22,vcs,seval,tys])))
theorem rMayA_ev (l:List At)(hl:l.length≤lim)(hs:∀ a∈l,a.space.length≤lim∧a.name.length≤lim∧a.value.length≤lim)(nm:Nat):Ev cx 61 nm [.sl false 3 (l.map atC)] Mem.nil (.bool (atsL l)) []:=by
  have hl':=hl
  unfold lim at hl'
  refine ev_go rfl (fun cargs w=>call61 cargs w) func61 rfl mixed (by kernel_rfl) rfl ?_;intro b0 hb0
  repeat' first|simp only[fins,mems,results61,ntmps61,wks,vcs,seval,tys]|exact rfl|refine call_off (v:=.any) ?_|refine draw_end (by decide +kernel) ?_|((first|apply Ca|apply Cb)<;>intro hb)|refine Ai (by omega) ?_|(apply Ai<;>intro hb)
  (refine loop_can2 cxG (fun x:Nat=>l.length-x) (fun x=>x≤l.length∧atsTo l x) (b0+16) (fun x=>[(0,.sl false 3 (l.map atC)),(3,.int .i64 x)]) (fun x=>[]) (0) [] ?_ ?_ ?_ ?_;rotate_left 1;(focus (show b0≤_;omega));(focus (refine⟨?_,?_⟩<;>(try simp only[cans,plain_at,vcs,seval,tys,injs])<;>(try omega)));rotate_left 1)
  · exact⟨Nat.zero_le _,fun i a hi=>by omega⟩
  · rintro k ⟨hk,hn⟩
    by_cases hlt:k<l.length
    · obtain ⟨a,ha⟩:∃ a,l[k]? = some a:=⟨_,List.getElem?_eq_getElem hlt⟩
      obtain⟨hs0,hs1,hs2⟩:=hs a (List.mem_of_getElem? ha)
      have hat:=at_at ha
      have hd:decide (k<l.length)=true:=decide_eq_true hlt
      have hd2:decide ((k:Int)<(l.length:Int))=true:=decide_eq_true (by omega)
      have hki:(k:Int)<(l.length:Int):=by omega
      have hwk:IntKind.i64.wrap ((k:Int)+1)=((k+1:Nat):Int):=wrap_in (by omega) (by omega)
      repeat' first|simp only[fins,mems,results61,ntmps61,wks,hat,hd,hd2,hlt,hki,Lm,vcs,seval,tys]|exact rfl|refine call_off (v:=.any) ?_|refine draw_end (by decide +kernel) ?_|((first|apply Ca|apply Cb)<;>intro hb)|refine Ai (by omega) ?_|(apply Ai<;>intro hb)
      (refine loop_can2 cxG (fun x:Nat=>k-x) (fun x=>x≤k ∧ ∀(i:Nat) (b:At),i<x→l[i]? = some b → ¬(a.space=b.space∧a.name=b.name)) (b0+16) (fun x=>[(0,.sl false 3 (l.map atC)),(3,.int .i64 k),(4,.int .i64 x)]) (fun x=>[]) (0) [] ?_ ?_ ?_ ?_;rotate_left 1;(focus (show b0≤_;omega));(focus (refine⟨?_,?_⟩<;>(try simp only[cans,plain_at,vcs,seval,tys,injs])<;>(try omega)));rotate_left 1)
      · exact⟨Nat.zero_le _,fun i b hi=>by omega⟩
      · rintro j ⟨hj,hno⟩
        by_cases hjk:j<k
        · obtain⟨b,hb⟩:∃ b,l[j]? = some b:=⟨_,List.getElem?_eq_getElem (by omega)⟩
          have hbt:=at_at hb
          have e1:decide (j<k)=true:=decide_eq_true hjk
          have e2:decide ((j:Int)<(k:Int))=true:=decide_eq_true (by omega)
          have e3:j<l.length:=by omega
          have e4:(j:Int)<(l.length:Int):=by omega
          have hwj:IntKind.i64.wrap ((j:Int)+1)=((j+1:Nat):Int):=wrap_in (by omega) (by omega)
          by_cases hsp:a.space=b.space
          · have c1:(b.space==a.space)=true:=by rw[hsp];simp
            by_cases hnm:a.name=b.name
            · have c2:(b.name==a.name)=true:=by rw[hnm];simp
              have hr:atsL l=false:=ats_false ha (by
                unfold okA
                have:((l.take k).any fun b=>a.space==b.space&&a.name==b.name)=true:=List.any_eq_true.2 ⟨b,List.mem_of_getElem? (by rw[List.getElem?_take,if_pos hjk];exact hb),by rw[hsp,hnm];simp⟩
                rw[this];rfl)
              (repeat' first|simp only[fins,mems,results61,ntmps61,wks,hat,hbt,atC,e1,e2,e3,e4,hlt,hki,c1,c2,hr,Lm,vcs,seval,tys]|exact rfl|refine call_off (v:=.any) ?_|refine draw_end (by decide +kernel) ?_|((first|apply Ca|apply Cb)<;>intro hb)|refine Ai (by omega) ?_|(apply Ai<;>intro hb)|refine Fin.pure ?_ ?_ ?_|simp only[injs])
            · have c2:(b.name==a.name)=false:=beq_false_of_ne (Ne.symm hnm)
              repeat' first|simp only[fins,mems,results61,ntmps61,wks,hat,hbt,atC,e1,e2,e3,e4,hlt,hki,hwj,c1,c2,Lm,vcs,seval,tys]|exact rfl|refine call_off (v:=.any) ?_|refine draw_end (by decide +kernel) ?_|((first|apply Ca|apply Cb)<;>intro hb)|refine Ai (by omega) ?_|(apply Ai<;>intro hb)
              all_goals ((refine again_can2 cxG (j+1) [] ?_ ?_ ?_ ?_;rotate_left 2;(focus (show b0≤_;omega));(focus (refine⟨?_,?_⟩<;>(try simp only[cans,plain_at,hwj,vcs,seval,tys,injs])<;>(try omega)))))
              all_goals (first|(show k-(j+1)<k-j;omega)|(exact⟨hjk,fun i x hi hx h=>by
                by_cases e:i=j
                · subst e;rw[hb]at hx;cases hx;exact hnm h.2
                · exact hno i x (by omega) hx h⟩)|skip)
          · have c1:(b.space==a.space)=false:=beq_false_of_ne (Ne.symm hsp)
            repeat' first|simp only[fins,mems,results61,ntmps61,wks,hat,hbt,atC,e1,e2,e3,e4,hlt,hki,hwj,c1,Lm,vcs,seval,tys]|exact rfl|refine call_off (v:=.any) ?_|refine draw_end (by decide +kernel) ?_|((first|apply Ca|apply Cb)<;>intro hb)|refine Ai (by omega) ?_|(apply Ai<;>intro hb)
            all_goals ((refine again_can2 cxG (j+1) [] ?_ ?_ ?_ ?_;rotate_left 2;(focus (show b0≤_;omega));(focus (refine⟨?_,?_⟩<;>(try simp only[cans,plain_at,hwj,vcs,seval,tys,injs])<;>(try omega)))))
            all_goals (first|(show k-(j+1)<k-j;omega)|(exact⟨hjk,fun i x hi hx h=>by
              by_cases e:i=j
              · subst e;rw[hb]at hx;cases hx;exact hsp h.1
              · exact hno i x (by omega) hx h⟩)|skip)
        · have hje:j=k:=by omega
          subst hje
          have e1:decide (j<j)=false:=decide_eq_false (by omega)
          have e2:decide ((j:Int)<(j:Int))=false:=decide_eq_false (by omega)
          have hany:((l.take j).any fun b=>a.space==b.space&&a.name==b.name)=false:=by
            rw[List.any_eq_false]
            intro b hb hc
            obtain⟨i,hi⟩:=List.mem_iff_getElem?.1 hb
            have hij:i<j:=by have:=(List.getElem?_eq_some_iff.1 hi).1;rw[List.length_take]at this;omega
            rw[List.getElem?_take,if_pos hij]at hi
            simp only[Bool.and_eq_true,beq_iff_eq]at hc
            exact hno i b hij hi hc
          have hf:=rFull_ev a.name hs1
          have hc:=rCheck_ev a.value hs2
          have hc2:=rCheck_ev a.space hs0
          have hok:okA (l.take j) a=((fullL a.name&&decide (ptsErr a.value=0))&&decide (ptsErr a.space=0)):=by unfold okA;rw[hany];rfl
          generalize h1:fullL a.name=b1 at hf hok
          have h3:(ptsErr a.value != 0) = !decide (ptsErr a.value=0):=by rw[Bool.eq_iff_iff];simp
          have h4:(ptsErr a.space != 0) = !decide (ptsErr a.space=0):=by rw[Bool.eq_iff_iff];simp
          generalize decide (ptsErr a.value=0)=b3 at h3 hok
          generalize decide (ptsErr a.space=0)=b4 at h4 hok
          cases ho:okA (l.take j) a with
          | false =>
            have hr:=ats_false ha ho
            rw[ho]at hok
            cases b1<;>cases b3<;>cases b4
            all_goals (try (exfalso;simp at hok;done))
            all_goals ((repeat' first|simp only[fins,mems,results61,ntmps61,wks,hat,atC,e1,e2,hlt,hki,h3,h4,hr,Bt,Bf,Lm,vcs,seval,tys]|exact rfl|refine call_off (v:=.any) ?_|((first|(refine call_fn ?_ (hc _) ?_)|(refine call_fn_g ?_ (fun _=>hc _) ?_));(focus (simp only[results61,ntmps61,wks,hat,atC,e1,e2,hlt,hki,h3,h4,hr,Bt,Bf,Lm,vcs,seval,tys]<;>exact rfl)))|((first|(refine call_fn ?_ (hc2 _) ?_)|(refine call_fn_g ?_ (fun _=>hc2 _) ?_));(focus (simp only[results61,ntmps61,wks,hat,atC,e1,e2,hlt,hki,h3,h4,hr,Bt,Bf,Lm,vcs,seval,tys]<;>exact rfl)))|(first|(refine call_fn ?_ (hf _) ?_)|(refine call_fn_g ?_ (fun _=>hf _) ?_))|(refine call_off (v:=.any) ?_)|refine draw_end (by decide +kernel) ?_|((first|apply Ca|apply Cb)<;>intro hb)|refine Ai (by omega) ?_|(apply Ai<;>intro hb)|refine Fin.pure ?_ ?_ ?_|simp only[injs]))
          | true =>
            have hn':=atsTo_succ hn ha ho
            rw[ho]at hok
            cases b1<;>cases b3<;>cases b4
            all_goals (try (exfalso;simp at hok;done))
            all_goals (repeat' first|simp only[fins,mems,results61,ntmps61,wks,hat,atC,e1,e2,hlt,hki,h3,h4,hwk,Bt,Bf,Lm,vcs,seval,tys]|exact rfl|refine call_off (v:=.any) ?_|((first|(refine call_fn ?_ (hc _) ?_)|(refine call_fn_g ?_ (fun _=>hc _) ?_));(focus (simp only[results61,ntmps61,wks,hat,atC,e1,e2,hlt,hki,h3,h4,hwk,Bt,Bf,Lm,vcs,seval,tys]<;>exact rfl)))|((first|(refine call_fn ?_ (hc2 _) ?_)|(refine call_fn_g ?_ (fun _=>hc2 _) ?_));(focus (simp only[results61,ntmps61,wks,hat,atC,e1,e2,hlt,hki,h3,h4,hwk,Bt,Bf,Lm,vcs,seval,tys]<;>exact rfl)))|(first|(refine call_fn ?_ (hf _) ?_)|(refine call_fn_g ?_ (fun _=>hf _) ?_))|refine draw_end (by decide +kernel) ?_|((first|apply Ca|apply Cb)<;>intro hb)|refine Ai (by omega) ?_|(apply Ai<;>intro hb))
            all_goals ((refine again_can2 cxG (j+1) [] ?_ ?_ ?_ ?_;rotate_left 2;(focus (show b0≤_;omega));(focus (refine⟨?_,?_⟩<;>(try simp only[cans,plain_at,hwk,vcs,seval,tys,injs])<;>(try omega)))))
            all_goals (first|(show l.length-(j+1)<l.length-j;omega)|exact⟨hlt,hn'⟩|skip)
    · have hke:k=l.length:=by omega
      subst hke
      have hd:decide (l.length<l.length)=false:=decide_eq_false (by omega)
      have hd2:decide ((l.length:Int)<(l.length:Int))=false:=decide_eq_false (by omega)
      have hr:atsL l=decide (l.length≤16):=by
        rw[Bool.eq_iff_iff,ats_iff,decide_eq_true_eq]
        exact⟨fun h=>h.1,fun h=>⟨h,hn⟩⟩
      have hz:decide ((l.length:Int)≤16)=decide (l.length≤16):=by
        rw[Bool.eq_iff_iff,decide_eq_true_eq,decide_eq_true_eq];omega
      (repeat' first|simp only[fins,mems,results61,ntmps61,wks,hd,hd2,hr,hz,Lm,vcs,seval,tys]|exact rfl|refine call_off (v:=.any) ?_|refine draw_end (by decide +kernel) ?_|((first|apply Ca|apply Cb)<;>intro hb)|refine Ai (by omega) ?_|(apply Ai<;>intro hb)|refine Fin.pure ?_ ?_ ?_|simp only[injs])
theorem rMayN_ev (x:Nd)(hx:x.okTo lim)(nm:Nat):Ev cx 31 nm [.agg (ndC x)] Mem.nil (.bool (mayN x)) []:=by
 obtain⟨h0,h1,h2,h3,h4⟩:=hx
 have hf:=rFull_ev x.name h2
 have hc1:=rCheck_ev x.space h1
 have hc2:=rCheck_ev x.text h3
 have ha:=rMayA_ev x.attrs h0 h4
 unfold mayN
 have e0:(x.attrs.length==0)=x.attrs.isEmpty:=by cases x.attrs<;>rfl
 have e0i:((x.attrs.length:Int)==0)=x.attrs.isEmpty:=len_zero _
 have e1:(ptsErr x.space==0)=decide (ptsErr x.space=0):=by rw[Bool.eq_iff_iff];simp
 have e2:(ptsErr x.text==0)=decide (ptsErr x.text=0):=by rw[Bool.eq_iff_iff];simp
 have e3:(x.name==[])=x.name.isEmpty:=by cases x.name<;>rfl
 have e4:(x.space==[])=x.space.isEmpty:=by cases x.space<;>rfl
 have e5:(x.text==[])=x.text.isEmpty:=by cases x.text<;>rfl
 have e6:(x.text != []) = !x.text.isEmpty:=by cases x.text<;>rfl
 have e7:(x.many==0)=decide (x.many=0):=by rw[Bool.eq_iff_iff];simp
 by_cases hk:x.kind=1
 ·rw[if_neg (by omega)]
  have k1:((x.kind:Int)==1)=true:=by rw[hk];rfl
  have k2:decide (x.kind=1)=true:=decide_eq_true hk
  rw[k2,Bool.true_and]
  rw[show(x.text.isEmpty&&fullL x.name&&decide (ptsErr x.space=0)&&atsL x.attrs)=(((fullL x.name&&x.text.isEmpty)&&decide (ptsErr x.space=0))&&atsL x.attrs) by rw[Bool.and_comm x.text.isEmpty]]
  generalize fullL x.name=b1 at hf ⊢
  generalize atsL x.attrs=b2 at ha ⊢
  generalize x.text.isEmpty=b3 at e5 ⊢
  generalize decide (ptsErr x.space=0)=b4 at e1 ⊢
  cases b1<;>cases b2<;>cases b3<;>cases b4
  all_goals (
   refine ev_go rfl (fun cargs w=>call31 cargs w) func31 rfl mixed (by kernel_rfl) rfl ?_;intro b0 hb0
   (repeat' first|simp only[fins,mems,results31,ntmps31,wks,ndC,k1,e1,e5,plain_at,Bool.and_self,Bool.and_false,Bool.false_and,vcs,seval,tys]|exact rfl|refine call_off (v:=.any) ?_|(first|(refine call_fn ?_ (hf _) ?_)|(refine call_fn_g ?_ (fun _=>hf _) ?_)|(refine call_fn ?_ (hc1 _) ?_)|(refine call_fn_g ?_ (fun _=>hc1 _) ?_)|(refine call_fn ?_ (ha _) ?_)|(refine call_fn_g ?_ (fun _=>ha _) ?_))|(refine call_off (v:=.any) ?_)|((first|apply Ca|apply Cb)<;>intro hb)|refine Ai (by omega) ?_|(apply Ai<;>intro hb)|refine Fin.pure ?_ ?_ ?_|simp only[injs]))
 ·have k1:((x.kind:Int)==1)=false:=beq_false_of_ne (by omega)
  have k2:decide (x.kind=1)=false:=decide_eq_false hk
  by_cases hk2:x.kind=2
  ·rw[if_pos hk2]
   have k3:((x.kind:Int)==2)=true:=by rw[hk2];rfl
   generalize x.name.isEmpty=b1 at e3 ⊢
   generalize x.space.isEmpty=b2 at e4 ⊢
   generalize x.attrs.isEmpty=b3 at e0 e0i ⊢
   generalize decide (x.many=0)=b4 at e7 ⊢
   generalize x.text.isEmpty=b5 at e5 e6 ⊢
   generalize decide (ptsErr x.text=0)=b6 at e2 ⊢
   refine ev_go rfl (fun cargs w=>call31 cargs w) func31 rfl mixed (by kernel_rfl) rfl ?_;intro b0 hb0
   (repeat' first|simp only[fins,mems,results31,ntmps31,wks,ndC,k1,k3,e0,e0i,e2,e3,e4,e5,e6,e7,plain_at,Bool.and_self,Bool.and_false,Bool.false_and,Bool.true_and,Lm,vcs,seval,tys]|exact rfl|refine call_off (v:=.any) ?_|(first|(refine call_fn ?_ (hc2 _) ?_)|(refine call_fn_g ?_ (fun _=>hc2 _) ?_))|((first|apply Ca|apply Cb)<;>intro hb)|refine Ai (by omega) ?_|(apply Ai<;>intro hb)|refine Fin.pure ?_ ?_ ?_|simp only[injs])
  ·rw[if_neg hk2,k2]
   have k3:((x.kind:Int)==2)=false:=beq_false_of_ne (by omega)
   refine ev_go rfl (fun cargs w=>call31 cargs w) func31 rfl mixed (by kernel_rfl) rfl ?_;intro b0 hb0
   (repeat' first|simp only[fins,mems,results31,ntmps31,wks,ndC,k1,k3,plain_at,Bool.and_self,Bool.and_false,Bool.false_and,vcs,seval,tys]|exact rfl|refine call_off (v:=.any) ?_|(refine call_off (v:=.any) ?_)|((first|apply Ca|apply Cb)<;>intro hb)|refine Ai (by omega) ?_|(apply Ai<;>intro hb)|refine Fin.pure ?_ ?_ ?_|simp only[injs])
end Go.Proofs.Ytfcfldmioonipaa
