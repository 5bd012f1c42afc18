/-
 Texts joined: XSw.
-/
import Derived.Test.YtjdjclecdfhciaaGreatDoorQy
import Derived.Test.YtjdjclecdfhciaaGreatDoorQx
namespace Go.Proofs.YtjdjclecdfhciaaGreatDoor
set_option maxRecDepth 100000
set_option maxHeartbeats 32000000
set_option linter.unusedSimpArgs false
set_option linter.unusedVariables false
open Go Go.RowKit Vm Go.Lib Go.Proofs.Tryz
open Vm renaming cond_bool→Ca,cond_bit→Cb
open And renaming intro→Ai
open List renaming length_map→Lm,not_mem_nil→Ln,map_nil→Lo,map_cons→Lc,mem_cons→Lk
open Bool renaming not_false→Bf,not_true→Bt
theorem treeWhole_main (v:List Nd)(hv:v.length≤lim)(hok:∀ x∈v,x.okTo lim∧x.i64)(nm:Nat):Ev cx 7 nm [.sl false 6 (v.map ndC)] Mem.nil (.bool true) []:=by
 have hgr:=great10_ev v 100 3000 (by omega) (by omega) hv (fun x hx=>(hok x hx).1)
 have hal:=alive10_ev
 cases hg:greatV v 100 3000 with
 | true =>
  rw[hg]at hgr
  refine ev_go rfl (fun cargs w=>call7 cargs w) func7 rfl mixed (by kernel_rfl) rfl ?_;intro b0 hb0
  (repeat' first|simp only[fins,mems,results7,ntmps7,wks,plain_nd,vcs,seval,tys]|exact rfl|refine call_off (v:=.any) ?_|(first|(refine call_fn ?_ (hal _) ?_)|(refine call_fn_g ?_ (fun _=>hal _) ?_)|(refine call_fn ?_ (hgr _) ?_)|(refine call_fn_g ?_ (fun _=>hgr _) ?_))|((first|apply Ca|apply Cb)<;>intro hb)|refine Ai (by omega) ?_|(apply Ai<;>intro hb)|refine Fin.pure ?_ ?_ ?_|simp only[injs])
 | false =>
  rw[hg]at hgr
  obtain⟨hv1,_⟩:=great_small10 (by omega) (by omega) hg
  cases hbo:behindO v with
  | none =>
   have hE:askedE v ((0:Nat):Int)=8:=by unfold askedE;rw[hbo];rfl
   have hki:=kids_no v hv hok ((0:Nat):Int) (by rw[hE];decide)
   rw[hE]at hki
   have hck:=checkT_ev v hv hok
   have hcE:checkB v=8:=by unfold checkB;rw[hbo];rfl
   rw[hcE]at hck
   refine ev_go rfl (fun cargs w=>call7 cargs w) func7 rfl mixed (by kernel_rfl) rfl ?_;intro b0 hb0
   (repeat' first|simp only[fins,mems,results7,ntmps7,wks,plain_nd,Lo,List.length_nil,Bt,vcs,seval,tys]|exact rfl|refine call_off (v:=.any) ?_|(first|(refine call_fn ?_ (hal _) ?_)|(refine call_fn_g ?_ (fun _=>hal _) ?_)|(refine call_fn ?_ (hgr _) ?_)|(refine call_fn_g ?_ (fun _=>hgr _) ?_)|(refine call_fn ?_ (hki _) ?_)|(refine call_fn_g ?_ (fun _=>hki _) ?_)|(refine call_fn ?_ (hck _) ?_)|(refine call_fn_g ?_ (fun _=>hck _) ?_))|((first|apply Ca|apply Cb)<;>intro hb)|refine Ai (by omega) ?_|(apply Ai<;>intro hb)|refine Fin.pure ?_ ?_ ?_|simp only[injs])
  | some en =>
   obtain⟨n,k,h1,h2,h3,h4,h5⟩:=behind_iff.1 hbo
   have hvl:v.length=k.size+1:=by rw[h2];simp[Fo.flat_length]
   have hen0:en[0]? = some (1+k.size):=by rw[h5];rfl
   have hki:=kids_fz v hv hok hbo 0 (1+k.size) (by omega) hen0
   have hel:en.length=v.length:=(ends_ok hbo).1
   have hen1:en.drop 1=k.ends 1++[]:=by rw[h5];simp
   rw[show hopL en (1+k.size) (0+1)=k.tops 1 from hopL_tops hen1]at hki
   have hTl:(k.tops 1).length=k.count:=Fo.tops_length k 1
   have hcs:=Fo.count_size k
   generalize hTd:k.tops 1=T at hki hTl
   obtain⟨g1,g2,g3,g4,g5,g6⟩:=Fo.good_cons.1 h3
   have hat0:(v.map ndC)[0]? = some (ndC n):=by rw[h2];rfl
   have hsm:=back_same hv (fun x hx=>(hok x hx).1)
   obtain⟨hpE,hpT⟩:=putr_parts h1 h3 (by omega)
   rw[← h2]at hpT
   have hpu:=putr_fz n k.parts (hok n (by rw[h2];simp)).1 (by rw[Fo.parts_length];unfold lim;omega) (fun w hw=>⟨by have:=Fo.parts_small hw;unfold lim;omega,fun x hx=>hok x (by rw[h2];exact List.mem_cons_of_mem _ (Fo.parts_mem hw x hx))⟩) hpE hpT (by omega)
   simp only[ndC]at hpu
   have hv0:0<v.length:=by omega
   have hv0i:(0:Int)<(v.length:Int):=by omega
   refine ev_go rfl (fun cargs w=>call7 cargs w) func7 rfl mixed (by kernel_rfl) rfl ?_;intro b0 hb0
   repeat' first|simp only[fins,mems,results7,ntmps7,wks,plain_nd,plain_no,Lm,Bt,vcs,seval,tys]|exact rfl|refine call_off (v:=.any) ?_|(first|(refine call_fn ?_ (hal _) ?_)|(refine call_fn_g ?_ (fun _=>hal _) ?_)|(refine call_fn ?_ (hgr _) ?_)|(refine call_fn_g ?_ (fun _=>hgr _) ?_)|(refine call_fn ?_ (hki _) ?_)|(refine call_fn_g ?_ (fun _=>hki _) ?_))|((first|apply Ca|apply Cb)<;>intro hb)|refine Ai (by omega) ?_|(apply Ai<;>intro hb)
   (refine loop_can2F cxG (fun x:Wh=>k.count-x.i) (fun x=>x.inv k) (b0+16) (fun x=>[(0,.sl false 6 (v.map ndC)),(3,.bool true),(4,.sl false 1 (T.map noC)),(6,.own b0 0 x.D.parts.length),(7,.int .i64 x.q),(8,.int .i64 x.i)]) (fun x=>[(b0,⟨1,x.D.parts.map partC⟩)]) ((Wh.mk .nil k 1 0)) [none] ?_ ?_ ?_ ?_;rotate_left 1;(focus (show b0≤_;omega));(focus (refine⟨?_,?_⟩<;>(try simp only[cans,canfs,plain_nd,plain_no,plain_pt,isRow_inst,Fo.parts,Fo.size,Fo.count,Nat.add_zero,Lo,List.length_nil,Lm,vcs,seval,tys,injs])<;>(try omega)));rotate_left 1)
   ·exact⟨rfl,rfl,rfl⟩
   ·rintro ⟨D,R,q,i⟩ ⟨hi1,hi2,hi3⟩
    simp only at hi1 hi2 hi3 ⊢
    cases R with
    | nil =>
     rw[Fo.app_nil]at hi1
     subst hi1
     have d1:decide ((i:Int)<(T.length:Int))=false:=decide_eq_false (by omega)
     have d2:decide (i<T.length)=false:=decide_eq_false (by omega)
     have e1:((q:Int)==(v.length:Int))=true:=by rw[beq_iff_eq];omega
     have e2:(q==v.length)=true:=by rw[beq_iff_eq];omega
     have e3:((T.length:Int)==n.many)=true:=by rw[beq_iff_eq];omega
     have htk:(D.parts.map partC).take D.parts.length=D.parts.map partC:=take_map_len _ _
     (repeat' first|simp only[fins,mems,results7,ntmps7,wks,lostN_nil,lostN_cons,List.cons_append,List.nil_append,d1,d2,e1,e2,e3,htk,hat0,hv0,hv0i,ndC,plain_at,plain_nd,plain_pt,Lm,Bool.and_self,vcs,seval,tys]|exact rfl|refine call_off (v:=.any) ?_|(first|(refine call_fn ?_ (hsm _) ?_)|(refine call_fn_g ?_ (fun _=>hsm _) ?_))|((refine call_fn_lose (xs:=?_) [b0] ?_ ?_ ?_ ?_ (hpu _) ?_ ?_);rotate_left 1)|omega|((first|apply Ca|apply Cb)<;>intro hb)|refine Ai (by omega) ?_|(apply Ai<;>intro hb)|refine Fin.pure ?_ ?_ ?_|simp only[injs])
    | cons m c r =>
     have hi1':(D.app (.cons m c .nil)).app r=k:=by rw[Fo.app_assoc];exact hi1
     have hpa:=Fo.parts_app D (.cons m c .nil)
     have hsz:=Fo.app_size D (.cons m c .nil)
     have hct:=Fo.app_count D (.cons m c .nil)
     simp only[Fo.parts,Fo.size,Fo.count,Nat.zero_add,Nat.add_zero]at hpa hsz hct
     have hks:k.size=D.size+(c.size+r.size+1):=by rw[← hi1,Fo.app_size];rfl
     have hkc:k.count=D.count+(r.count+1):=by rw[← hi1,Fo.app_count];rfl
     have hvq:v=(n::D.flat)++m::(c.flat++r.flat):=by rw[h2,← hi1,Fo.app_flat];rfl
     have hmq:v[q]? = some m:=by rw[hvq];exact at_app (by simp[Fo.flat_length];omega)
     have hTq:T[i]? = some q:=by
      rw[← hTd,← hi1,Fo.tops_app]
      simp only[Fo.tops]
      rw[show 1+D.size=q by omega]
      exact at_app (by rw[Fo.tops_length];omega)
     have heq:en[q]? = some (q+1+c.size):=by
      have:en=(((1+k.size)::D.ends 1))++(q+1+c.size)::(c.ends (q+1)++r.ends (q+1+c.size)):=by
       rw[h5,← hi1,Fo.ends_app,hi2];rfl
      rw[this];exact at_app (by simp[Fo.ends_length];omega)
     have hXd:(v.drop q).take (q+1+c.size-q)=m::c.flat:=by
      rw[hvq,List.drop_left' (by simp[Fo.flat_length];omega),show q+1+c.size-q=c.flat.length+1 by rw[Fo.flat_length];omega,List.take_succ_cons,take_app _ _ rfl]
     obtain⟨hat1,hil⟩:=noC_at hTq
     have hgk:(D.app (.cons m c r)).good 11 1=true:=by rw[hi1];exact g5
     rw[Fo.app_good,Bool.and_eq_true]at hgk
     have hgm:=Fo.good_cons.1 hgk.2
     have hat2:=nd_at hmq
     have hql:=(List.getElem?_eq_some_iff.1 hmq).1
     have hqi:(q:Int)<(v.length:Int):=by omega
     have d1:decide ((i:Int)<(T.length:Int))=true:=decide_eq_true (by omega)
     have d2:decide (i<T.length)=true:=decide_eq_true hil
     have d3:decide ((v.length:Int)≤(q:Int))=false:=decide_eq_false (by omega)
     have d4:decide (v.length≤q)=false:=decide_eq_false (by omega)
     have e1:((q:Int) !=(q:Int))=false:=by simp
     have e2:(q != q)=false:=by simp
     have hwk:IntKind.i64.wrap ((i:Int)+1)=((i+1:Nat):Int):=wrap_in (by omega) (by omega)
     have hili:(i:Int)<(T.length:Int):=by omega
     have htk:(D.parts.map partC).take D.parts.length=D.parts.map partC:=take_map_len _ _
     have hpl:=D.parts_length
     by_cases hm2:m.kind=2
     ·have hst:=sub_text v hv hok hbo q hmq hm2
      have q3:((m.kind:Int)==2)=true:=by rw[hm2];rfl
      have hwq:IntKind.i64.wrap ((q:Int)+1)=((q+1:Nat):Int):=wrap_in (by omega) (by omega)
      repeat' first|simp only[fins,mems,results7,ntmps7,wks,d1,d2,d3,d4,e1,e2,q3,hat1,hat2,htk,hil,hili,hql,hqi,hwk,hwq,noC,ndC,plain_at,plain_no,plain_nd,plain_pt,Lm,Bt,Bf,vcs,seval,tys]|exact rfl|refine call_off (v:=.any) ?_|(first|(refine call_fn ?_ (hst _) ?_)|(refine call_fn_g ?_ (fun _=>hst _) ?_))|((first|apply Ca|apply Cb)<;>intro hb)|refine Ai (by omega) ?_|(apply Ai<;>intro hb)
      have hcn:=Fo.text_leaf hgk.2 hm2
      subst hcn
      simp only[Fo.flat]at hpa
      simp only[Fo.size,Nat.zero_add]at hsz
      all_goals ((refine again_can2F cxG (Wh.mk (D.app (.cons m .nil .nil)) r (q+1) (i+1)) [some (b0+944)] ?_ ?_ ?_ ?_;rotate_left 2;(focus (show b0≤_;omega));(focus (refine⟨?_,?_⟩<;>(try simp only[cans,canfs,hwk,hwq,hpa,htk,partC,ndC,plain_at,plain_nd,plain_no,plain_pt,isRow_inst,finLL_append,finLL_plain _ _ (plain_pt _),finLLOk_append,finLLOk_plain _ _ (plain_pt _),leLL_snoc,List.map_append,Lc,Lo,List.length_append,List.length_cons,List.length_nil,Lm,vcs,seval,tys,injs])<;>(try omega)))))
      all_goals (first|(show k.count-(i+1)<k.count-i;omega)|(refine⟨hi1',?_,?_⟩<;>simp only<;>omega)|skip)
     ·obtain⟨X,hX⟩:∃ X,X=m::c.flat:=⟨_,rfl⟩
      rw[← hX]at hXd hpa
      have hXl:X.length=c.size+1:=by rw[hX];simp[Fo.flat_length]
      have hsb:=sub_fz v hv hok hbo q _ hmq hm2 heq hXd
      have q3:((m.kind:Int)==2)=false:=beq_false_of_ne (by omega)
      have q4:decide ((X.length:Int)<1)=false:=decide_eq_false (by omega)
      have q5:decide (X.length<1)=false:=decide_eq_false (by omega)
      have hwq:IntKind.i64.wrap ((q:Int)+(X.length:Int))=((q+X.length:Nat):Int):=by rw[wrap_in (by omega) (by omega)];omega
      repeat' first|simp only[fins,mems,results7,ntmps7,wks,d1,d2,d3,d4,e1,e2,q3,q4,q5,hat1,hat2,htk,hil,hili,hql,hqi,hwk,hwq,noC,ndC,plain_at,plain_no,plain_nd,plain_pt,Lm,Bt,Bf,vcs,seval,tys]|exact rfl|refine call_off (v:=.any) ?_|(first|(refine call_fn ?_ (hsb _) ?_)|(refine call_fn_g ?_ (fun _=>hsb _) ?_))|((first|apply Ca|apply Cb)<;>intro hb)|refine Ai (by omega) ?_|(apply Ai<;>intro hb)
      all_goals ((refine again_can2F cxG (Wh.mk (D.app (.cons m c .nil)) r (q+X.length) (i+1)) [some (b0+752)] ?_ ?_ ?_ ?_;rotate_left 2;(focus (show b0≤_;omega));(focus (refine⟨?_,?_⟩<;>(try simp only[cans,canfs,hwk,hwq,hpa,htk,partC,plain_at,plain_nd,plain_no,plain_pt,isRow_inst,finLL_append,finLL_plain _ _ (plain_pt _),finLLOk_append,finLLOk_plain _ _ (plain_pt _),leLL_snoc,List.map_append,Lc,Lo,List.length_append,List.length_cons,List.length_nil,Lm,vcs,seval,tys,injs])<;>(try omega)))))
      all_goals (first|(show k.count-(i+1)<k.count-i;omega)|(refine⟨hi1',?_,?_⟩<;>simp only<;>omega)|skip)
theorem treeWhole_args (xs:List V)(h:ShapeArgs cx.P Tryz.f7.params.toList xs):Ev cx 7 0 xs Mem.nil (.bool true) []:=by
 rw[Tryz.params7]at h
 obtain⟨_,v1,_,rfl,h1,h2⟩:=h
 obtain rfl:=args_nil h2
 obtain⟨l,rfl,hl,hs⟩:=nds_shape h1
 rw[argV_one kind_22 (by simp)]
 exact treeWhole_main l hl hs 0
end Go.Proofs.YtjdjclecdfhciaaGreatDoor
