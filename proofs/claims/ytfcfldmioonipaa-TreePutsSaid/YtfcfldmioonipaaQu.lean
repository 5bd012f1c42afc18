/-
 Texts joined: XKo,XKp.
-/
import Derived.Test.YtfcfldmioonipaaQs
import Derived.Test.YtfcfldmioonipaaQn
import Derived.Test.YtfcfldmioonipaaQr
import Derived.Test.YtfcfldmioonipaaQp
namespace Go.Proofs.Ytfcfldmioonipaa
set_option linter.unusedSimpArgs false
set_option linter.unusedVariables false
open Go Go.RowKit Vm Go.Lib Try
open Vm renaming cond_bool→Ca,cond_bit→Cb
open And renaming intro→Ai
open List renaming length_map→Lm,not_mem_nil→Ln,map_nil→Lo,map_cons→Lc,mem_cons→Lk
open Bool renaming not_false→Bf,not_true→Bt
set_option maxRecDepth 100000 in
set_option maxHeartbeats 16000000 in
theorem putY_all (L:Nat)(n:Nd)(l:List (List Nd))(hn:n.okTo lim)(hl:l.length≤lim)(hok:∀ v∈l,v.length≤lim ∧ ∀ x∈v,x.okTo lim∧x.i64)(r:V)(eff:List (Nat×Option Blk))(nm:Nat)
  (hr:(putEr n l≠0∧r = .tup [.nils,.int .i64 (putEr n l)]∧eff=[])∨(putEr n l=0∧r = .tup [.ys L 6 ((putTr n l).map (ndE L)),.int .i64 0]∧eff=[])) :
  Ev (cx.at L) 7 nm [.agg (ndC n),.sl false 1 (l.map partC)] Mem.nil r eff:=by
 have hok0:∀ x∈[n.to 0],x.okTo lim∧x.i64:=fun x hx=>by
  simp at hx;subst hx
  exact⟨hn,by simp[Nd.i64,Nd.to]⟩
 have hl':=hl
 unfold lim at hl'
 have hrow0:([n.to 0].map ndC)=[[.int .u8 n.kind,.str n.space,.str n.name,.sl false 3 (n.attrs.map atC),.str n.text,.int .i64 0]]:=rfl
 have hpl0:=plain_nd [n.to 0]
 rw[hrow0]at hpl0
 cases hb:behindO [n.to 0] with
 | none =>
  have hE:putEr n l=8:=by unfold putEr;rw[hb];rfl
  have hre:r = .tup [.nils,.int .i64 8]∧eff=[]:=by
   rcases hr with ⟨_,h⟩|⟨h,_⟩
   ·rw[hE]at h;exact h
   ·rw[hE]at h;cases h
  obtain⟨rfl,rfl⟩:=hre
  have h1:=fun nm=>(behind_none_ev [n.to 0] (by simp[lim]) hok0 hb nm).at L
  rw[hrow0]at h1
  refine ev_go rfl (fun cargs w=>call7 cargs w) func7 rfl mixed (by kernel_rfl) rfl ?_;intro b0 hb0
  (repeat' first|simp only[fins,mems,results7,ntmps7,wks,ndC,plain_at,plain_pt,hpl0,vcs,seval,tys,Cx.at_P]|exact rfl|refine call_off (v:=.any) ?_|((refine call_fn_vx (xs:=?_) [b0+96] ?_ ?_ ?_ rfl (h1 _) ?_);rotate_left 1)|omega|((first|apply Ca|apply Cb)<;>intro hb)|refine Ai (by omega) ?_|(apply Ai<;>intro hb)|refine Fin.pure ?_ ?_ ?_|simp only[injs])
 | some en0 =>
  have h1:=fun nm=>(behind_some_ev [n.to 0] (by simp[lim]) hok0 hb nm).at L
  rw[hrow0]at h1
  simp only[List.length_cons,List.length_nil]at h1
  have hcon:=fun nm=>(containspt_ev l 29 [.rp [.fn 26 []]] partBad (fun v hv nm=>put2_ev v (hok v hv).1 (hok v hv).2 nm) hl rfl nm).at L
  cases ha:l.any partBad with
  | true =>
   rw[ha]at hcon
   have hE:putEr n l=8:=by unfold putEr;rw[hb,ha];rfl
   have hre:r = .tup [.nils,.int .i64 8]∧eff=[]:=by
    rcases hr with ⟨_,h⟩|⟨h,_⟩
    ·rw[hE]at h;exact h
    ·rw[hE]at h;cases h
   obtain⟨rfl,rfl⟩:=hre
   refine ev_go rfl (fun cargs w=>call7 cargs w) func7 rfl mixed (by kernel_rfl) rfl ?_;intro b0 hb0
   repeat' first|simp only[fins,mems,results7,ntmps7,wks,lostN_nil,lostN_cons,List.cons_append,List.nil_append,ndC,plain_at,plain_pt,hpl0,Lm,vcs,seval,tys,Cx.at_P]|exact rfl|refine call_off (v:=.any) ?_|((refine call_fn_lose (xs:=?_) [b0+96] ?_ ?_ ?_ ?_ (h1 _) ?_ ?_);rotate_left 1)|((refine call_fn_vx (xs:=?_) [b0+144] ?_ ?_ ?_ rfl (hcon _) ?_);rotate_left 1)|omega|((first|apply Ca|apply Cb)<;>intro hb)|refine Ai (by omega) ?_|(apply Ai<;>intro hb)
   all_goals (first|(cases hb;done)|((refine Fin.pure ?_ ?_ ?_<;>simp only[wks,plain_nd,results7,ntmps7,vcs,seval,tys,Cx.at_P])))
  | false =>
   rw[ha]at hcon
   have hp5:∀ v∈l,v.length≤512:=fun v hv=>by
    have h:=List.any_eq_false.1 ha v hv
    simp only[partBad,Bool.and_eq_true,Bool.not_eq_true',not_and,Bool.not_eq_true]at h
    cases ht:txtPart v with
    | true =>
     match v,ht with
     | [x],_=>simp
    | false =>
     have:=h ht
     cases hbv:behindO v with
     | none=>rw[hbv]at this;cases this
     | some en=>exact(ends_ok hbv).2.2.1
   have hE:putEr n l=if 512<1+(l.map List.length).sum then 4 else if (behindO (n.to l.length::l.flatten)).isNone=true then 8 else 0:=by unfold putEr;rw[hb,ha];rfl
   have hsum:∀ k,((l.take k).flatten).length≤(l.map List.length).sum:=fun k=>by
    rw[← List.length_flatten]
    have:l.flatten=(l.take k).flatten++(l.drop k).flatten:=by rw[← List.flatten_append,List.take_append_drop]
    rw[this,List.length_append];omega
   have hsum2:(l.flatten).length=(l.map List.length).sum:=List.length_flatten
   have hrowl:ndC (n.to l.length)=[.int .u8 n.kind,.str n.space,.str n.name,.sl false 3 (n.attrs.map atC),.str n.text,.int .i64 l.length]:=rfl
   refine ev_go rfl (fun cargs w=>call7 cargs w) func7 rfl mixed (by kernel_rfl) rfl ?_;intro b0 hb0
   repeat' first|simp only[fins,mems,results7,ntmps7,wks,lostN_nil,lostN_cons,List.cons_append,List.nil_append,ndC,plain_at,plain_pt,hpl0,Lm,vcs,seval,tys,Cx.at_P]|exact rfl|refine call_off (v:=.any) ?_|((refine call_fn_lose (xs:=?_) [b0+96] ?_ ?_ ?_ ?_ (h1 _) ?_ ?_);rotate_left 1)|((refine call_fn_vx (xs:=?_) [b0+144] ?_ ?_ ?_ rfl (hcon _) ?_);rotate_left 1)|omega|((first|apply Ca|apply Cb)<;>intro hb)|refine Ai (by omega) ?_|(apply Ai<;>intro hb)
   ·cases hb
   have hz1:(outL n l 0).length=1:=rfl
   (refine loop_can2 (cyG L) (fun x:Nat=>l.length-x) (fun x=>x≤l.length∧(outL n l x).length≤512) (b0+16) (fun x=>[(7,.own b0 0 (outL n l x).length),(24,.sl false 1 (l.map partC)),(25,.int .i64 l.length),(26,.int .i64 x)]) (fun x=>[(b0,⟨6,(outL n l x).map ndC⟩)]) (0) [some (b0+304)] ?_ ?_ ?_ ?_;rotate_left 1;(focus (show b0≤_;omega));(focus (refine⟨?_,?_⟩<;>(try simp only[cans,outL_zero,hz1,ndC,Nd.to,plain_at,plain_pt,plain_nd,isRow_inst,Lc,Lo,Lm,vcs,seval,tys,Cx.at_P,injs])<;>(try omega)));rotate_left 1)
   ·exact⟨Nat.zero_le _,by rw[hz1];omega⟩
   ·rintro k ⟨hk,hk5⟩
    by_cases hlt:k<l.length
    ·obtain⟨v,hv⟩:∃ v,l[k]? = some v:=⟨_,List.getElem?_eq_getElem hlt⟩
     have hvl:=hp5 v (List.mem_of_getElem? hv)
     have hat:=pt_at hv
     have d1:decide ((k:Int)<(l.length:Int))=true:=decide_eq_true (by omega)
     have d2:decide (k<l.length)=true:=decide_eq_true hlt
     have hwk:IntKind.i64.wrap ((k:Int)+1)=((k+1:Nat):Int):=wrap_in (by omega) (by omega)
     have hsk:=hsum (k+1)
     have hlen1:=outL_len n l (k+1)
     have hsc:=outL_succ (n:=n) hv
     have hlen:(outL n l (k+1)).length=(outL n l k).length+v.length:=by rw[hsc,List.length_append]
     have hrows:(outL n l k).map ndC++v.map ndC=(outL n l (k+1)).map ndC:=by rw[hsc,List.map_append]
     have hsw:512<(outL n l (k+1)).length→putEr n l=4:=fun h=>by rw[hE,if_pos (by omega)]
     clear hsc
     have htk:((outL n l k).map ndC).take (outL n l k).length=(outL n l k).map ndC:=take_map_len _ _
     have hon:=one_ndL v
     have hf1:(outL n l k).length+v.length≤9223372036854775807:=by omega
     have hf2:((outL n l k).length+v.length)*88≤140737488355328:=by omega
     by_cases h5:512<(outL n l k).length+v.length
     ·have hre:r = .tup [.nils,.int .i64 4]∧eff=[]:=by
       have hE4:=hsw (by omega)
       rcases hr with ⟨_,h⟩|⟨h,_⟩
       ·rw[hE4]at h;exact h
       ·rw[hE4]at h;cases h
      obtain⟨rfl,rfl⟩:=hre
      have q1:decide ((512:Int)<(((outL n l k).length+v.length:Nat):Int))=true:=decide_eq_true (by omega)
      have q2:decide (512<(outL n l k).length+v.length)=true:=decide_eq_true h5
      repeat' first|simp only[fins,mems,results7,ntmps7,wks,hat,partC,hlt,d1,d2,htk,hon,hf1,hf2,q1,q2,plain_nd,Lm,vcs,seval,tys,Cx.at_P]|exact rfl|refine call_off (v:=.any) ?_|((first|apply Ca|apply Cb)<;>intro hb)|refine Ai (by omega) ?_|(apply Ai<;>intro hb)
      all_goals ((refine Fin.pure ?_ ?_ ?_<;>simp only[wks,plain_nd,results7,ntmps7,vcs,seval,tys,Cx.at_P]))
     ·have q1:decide ((512:Int)<(((outL n l k).length+v.length:Nat):Int))=false:=decide_eq_false (by omega)
      have q2:decide (512<(outL n l k).length+v.length)=false:=decide_eq_false h5
      repeat' first|simp only[fins,mems,results7,ntmps7,wks,hat,partC,hlt,d1,d2,htk,hon,hf1,hf2,hrows,hwk,q1,q2,plain_nd,Lm,vcs,seval,tys,Cx.at_P]|exact rfl|refine call_off (v:=.any) ?_|((first|apply Ca|apply Cb)<;>intro hb)|refine Ai (by omega) ?_|(apply Ai<;>intro hb)
      all_goals ((refine again_can2 (cyG L) (k+1) [some (b0+112)] ?_ ?_ ?_ ?_;rotate_left 2;(focus (show b0≤_;omega));(focus (refine⟨?_,?_⟩<;>(try simp only[cans,hwk,hlen,plain_at,plain_pt,plain_nd,Lm,vcs,seval,tys,Cx.at_P,injs])<;>(try omega)))))
      all_goals (first|(show l.length-(k+1)<l.length-k;omega)|exact⟨hlt,by rw[hlen];omega⟩|skip)
    ·have hkl:k=l.length:=by omega
     subst hkl
     have d1:decide ((l.length:Int)<(l.length:Int))=false:=decide_eq_false (by omega)
     have d2:decide (l.length<l.length)=false:=decide_eq_false (by omega)
     have hlen1:=outL_len n l l.length
     rw[List.take_length,hsum2]at hlen1
     have hE2:putEr n l=checkB (outL n l l.length):=by rw[hE,if_neg (by omega),outL_all];rfl
     have hT:putEr n l=0→putTr n l=outL n l l.length:=fun h=>by unfold putTr;rw[if_pos h,outL_all]
     have hoko:∀ x∈outL n l l.length,x.okTo lim∧x.i64:=fun x hx=>by
      rw[outL_all]at hx
      rcases List.mem_cons.1 hx with rfl|hx
      ·exact⟨hn,by simp only[Nd.i64,Nd.to];omega⟩
      ·obtain⟨v,hv,hxv⟩:=List.mem_flatten.1 hx
       exact(hok v hv).2 x hxv
     have hck:=fun nm=>(checkT_ev (outL n l l.length) (by unfold lim;omega) hoko nm).at L
     rw[← hE2]at hck
     have htw:=fun (h:putEr n l=0)=>twinYs_ev L (outL n l l.length) (by omega) (fun x hx=>by
      rw[hE2]at h
      unfold checkB at h
      cases hbo:behindO (outL n l l.length) with
      | none=>rw[hbo]at h;cases h
      | some en=>have:=(mayN_attrs (ends_may hbo x hx)).1;omega)
     have hpl1:=plain_nd (outL n l l.length)
     have htk:((outL n l l.length).map ndC).take (outL n l l.length).length=(outL n l l.length).map ndC:=take_map_len _ _
     generalize hOUT:outL n l l.length=OUT at hk5 hck htw hT hpl1 htk ⊢
     by_cases hz:putEr n l=0
     ·have hre:r = .tup [.ys L 6 (OUT.map (ndE L)),.int .i64 0]∧eff=[]:=by
       rcases hr with ⟨h,_⟩|⟨_,h⟩
       ·exact absurd hz h
       ·rw[hT hz]at h;exact h
      obtain⟨rfl,rfl⟩:=hre
      have htw:=htw hz
      rw[hz]at hck
      repeat' first|simp only[fins,mems,results7,ntmps7,wks,lostN_nil,lostN_cons,List.cons_append,List.nil_append,d1,d2,htk,plain_nd,Lm,vcs,seval,tys,Cx.at_P]|exact rfl|refine call_off (v:=.any) ?_|((refine call_fn_vx (xs:=?_) [b0] ?_ ?_ ?_ rfl (hck _) ?_);rotate_left 1)|((refine call_fn_lose (xs:=?_) [b0] ?_ ?_ ?_ ?_ (htw _) ?_ ?_);rotate_left 1)|omega|((first|apply Ca|apply Cb)<;>intro hb)|refine Ai (by omega) ?_|(apply Ai<;>intro hb)
      all_goals ((refine Fin.pure ?_ ?_ ?_<;>simp only[wks,plain_ne,plain_nd,results7,ntmps7,vcs,seval,tys,Cx.at_P]))
     ·have hre:r = .tup [.nils,.int .i64 (putEr n l)]∧eff=[]:=by
       rcases hr with ⟨_,h⟩|⟨h,_⟩
       ·exact h
       ·exact absurd h hz
      obtain⟨rfl,rfl⟩:=hre
      have q3:(putEr n l != 0)=true:=by simpa using hz
      repeat' first|simp only[fins,mems,results7,ntmps7,wks,d1,d2,htk,q3,plain_nd,Bt,Bf,Lm,vcs,seval,tys,Cx.at_P]|exact rfl|refine call_off (v:=.any) ?_|((refine call_fn_vx (xs:=?_) [b0] ?_ ?_ ?_ rfl (hck _) ?_);rotate_left 1)|omega|((first|apply Ca|apply Cb)<;>intro hb)|refine Ai (by omega) ?_|(apply Ai<;>intro hb)
      all_goals ((refine Fin.pure ?_ ?_ ?_<;>simp only[wks,plain_nd,results7,ntmps7,vcs,seval,tys,Cx.at_P]))
theorem putYU_ev (L:Nat)(n:Nd)(l:List (List Nd))(hn:n.okTo lim)(hl:l.length≤lim)(hok:∀ v∈l,v.length≤lim ∧ ∀ x∈v,x.okTo lim∧x.i64)(nm:Nat) :
  Ev (cx.at L) 7 nm [.agg (ndC n),.sl false 1 (l.map partC)] Mem.nil (.tup [.ys L 6 ((putTr n l).map (ndE L)),.int .i64 (putEr n l)]) []:=by
 by_cases h:putEr n l=0
 ·rw[h]
  exact putY_all L n l hn hl hok _ _ nm (.inr ⟨h,rfl,rfl⟩)
 ·have hT:putTr n l=[]:=by unfold putTr;rw[if_neg h]
  rw[hT]
  exact Ev.res_le (putY_all L n l hn hl hok _ _ nm (.inl ⟨h,rfl,rfl⟩)) (by simp only[le_tup,leL_cons,leL_nil,le_nils_ys,le_int,Lo,and_self])
theorem part_bad (v:List Nd):partBad v=(!txtPart v && !mayT v):=by
 unfold partBad mayT checkB
 cases behindO v<;>simp
theorem txt_len {v:List Nd}(h:v.length≠1):txtPart v=false:=by
 match v,h with
 | [],_=>rfl
 | [x],h=>exact absurd rfl h
 | x::y::r,_=>rfl
def allN (l:List (List Nd))(k:Nat):Nat:=1+((l.take k).map List.length).sum
theorem allN_succ {l:List (List Nd)}{k:Nat}{v:List Nd}(h:l[k]? = some v):allN l (k+1)=allN l k+v.length:=by
 obtain⟨hk,rfl⟩:=List.getElem?_eq_some_iff.1 h
 unfold allN
 rw[List.take_succ_eq_append_getElem hk]
 simp only[List.map_append,Lc,Lo,List.sum_append,List.sum_cons,List.sum_nil]
 omega
theorem allN_le {l:List (List Nd)}{B:Nat}(hB:∀ v∈l,v.length≤B):∀ k,allN l k≤1+B*k
 | 0=>by simp[allN]
 | k+1=>by
  have ih:=allN_le hB k
  cases h:l[k]? with
  | some v =>
   rw[allN_succ h]
   have:=hB v (List.mem_of_getElem? h)
   rw[Nat.mul_succ];omega
  | none =>
   have hk:=List.getElem?_eq_none_iff.1 h
   have:allN l (k+1)=allN l k:=by unfold allN;rw[List.take_of_length_le (by omega),List.take_of_length_le hk]
   rw[this,Nat.mul_succ];omega
theorem nd1_at (x:Nd):(List.map ndC [x])[0]? = some (ndC x):=rfl
set_option maxRecDepth 100000 in
set_option maxHeartbeats 16000000 in
theorem rPut_ev (n:Nd)(l:List (List Nd))(hn:n.okTo 1000000)(ha:n.attrs.length≤1000)(hl:l.length≤8)(hok:∀ v∈l,v.length≤600 ∧ ∀ x∈v,x.okTo 1000000)(nm:Nat) :
    Ev cx 8 nm [.agg (ndC n),.sl false 1 (l.map partC)] Mem.nil (.tup [.sl false 6 ((putTr n l).map ndC),.int .i64 (putEr n l)]) []:=by
  have hnl:n.okTo lim:=okTo_nd hn (by decide)
  have hok0:∀ x∈[n.to 0],x.okTo lim:=fun x hx=>by
    simp at hx;subst hx;exact hnl
  have hrow0:([n.to 0].map ndC)=[[.int .u8 n.kind,.str n.space,.str n.name,.sl false 3 (n.attrs.map atC),.str n.text,.int .i64 0]]:=rfl
  have hpl0:=plain_nd [n.to 0]
  have h1:=rMayV_ev [n.to 0] (by simp) hok0
  rw[hrow0]at hpl0 h1
  cases hm0:mayT [n.to 0] with
  | false =>
    have hE:putEr n l=8:=by
      unfold putEr
      rw[if_pos]
      unfold mayT checkB at hm0
      cases hb:behindO [n.to 0] with
      | none=>rfl
      | some en=>rw[hb]at hm0;cases hm0
    have hT:putTr n l=[]:=by unfold putTr;rw[hE];rfl
    rw[hm0]at h1
    rw[hE,hT]
    refine Ev.res_le (v:=.tup [.nils,.int .i64 8]) ?_ (by simp only[le_tup,leL_cons,leL_nil,le_nils_sl,le_int,Lo,and_self])
    refine ev_go rfl (fun cargs w=>call8 cargs w) func8 rfl mixed (by kernel_rfl) rfl ?_;intro b0 hb0
    (repeat' first|simp only[fins,mems,results8,ntmps8,wks,ndC,plain_at,plain_pt,hpl0,Bf,vcs,seval,tys]|exact rfl|refine call_off (v:=.any) ?_|((refine call_fn_vx (xs:=?_) [b0+96] ?_ ?_ ?_ rfl (h1 _) ?_);rotate_left 1)|omega|((first|apply Ca|apply Cb)<;>intro hb)|refine Ai (by omega) ?_|(apply Ai<;>intro hb)|refine Fin.pure ?_ ?_ ?_|simp only[injs])
  | true =>
    rw[hm0]at h1
    have hE0:putEr n l=if l.any partBad=true then 8 else if 512<1+(l.map List.length).sum then 4 else if (behindO (n.to l.length::l.flatten)).isNone=true then 8 else 0:=by
      unfold putEr
      rw[if_neg]
      unfold mayT checkB at hm0
      cases hb:behindO [n.to 0] with
      | none=>rw[hb]at hm0;cases hm0
      | some en=>simp
    refine ev_go rfl (fun cargs w=>call8 cargs w) func8 rfl mixed (by kernel_rfl) rfl ?_;intro b0 hb0
    repeat' first|simp only[fins,mems,results8,ntmps8,wks,ndC,plain_at,plain_pt,hpl0,Bt,vcs,seval,tys]|exact rfl|refine call_off (v:=.any) ?_|((refine call_fn_vx (xs:=?_) [b0+96] ?_ ?_ ?_ rfl (h1 _) ?_);rotate_left 1)|omega|((first|apply Ca|apply Cb)<;>intro hb)|refine Ai (by omega) ?_|(apply Ai<;>intro hb)
    (refine loop_can2 cxG (fun x:Nat=>l.length-x) (fun x=>x≤l.length ∧ ∀ v∈l.take x,partBad v=false) (b0+16) (fun x=>[(1,.sl false 1 (l.map partC)),(2,.ptr b0 0 0),(6,.int .i64 1),(7,.int .i64 x)]) (fun x=>[(b0,⟨6,[[.int .u8 n.kind,.str n.space,.str n.name,.sl false 3 (n.attrs.map atC),.str n.text,.int .i64 0]]⟩)]) (0) [some b0] ?_ ?_ ?_ ?_;rotate_left 1;(focus (show b0≤_;omega));(focus (refine⟨?_,?_⟩<;>(try simp only[cans,ndC,plain_at,plain_pt,plain_nd,isRow_inst,Lm,vcs,seval,tys,injs])<;>(try omega)));rotate_left 1)
    · exact⟨Nat.zero_le _,fun v hv=>by simp at hv⟩
    · rintro k ⟨hk,hbad⟩
      by_cases hlt:k<l.length
      · obtain ⟨v,hv⟩:∃ v,l[k]? = some v:=⟨_,List.getElem?_eq_getElem hlt⟩
        have hvm:=List.mem_of_getElem? hv
        obtain⟨hvl,hvo⟩:=hok v hvm
        have hat:=pt_at hv
        have d1:decide ((k:Int)<(l.length:Int))=true:=decide_eq_true (by omega)
        have d2:decide (k<l.length)=true:=decide_eq_true hlt
        have hki:(k:Int)<(l.length:Int):=by omega
        have hwk:IntKind.i64.wrap ((k:Int)+1)=((k+1:Nat):Int):=wrap_in (by omega) (by omega)
        have hmv:=rMayV_ev v (by omega) (fun x hx=>okTo_nd (hvo x hx) (by decide))
        have hpb:=part_bad v
        have hE8:partBad v=true→putEr n l=8:=fun h=>by
          rw[hE0,if_pos]
          exact List.any_eq_true.2 ⟨v,hvm,h⟩
        have hT8:putEr n l=8→putTr n l=[]:=fun h=>by unfold putTr;rw[h];rfl
        have hnx:partBad v=false → ∀ u∈l.take (k+1),partBad u=false:=fun h u hu=>by
          rw[List.take_succ_eq_append_getElem hlt]at hu
          rcases List.mem_append.1 hu with hu|hu
          · exact hbad u hu
          · rw[List.mem_singleton]at hu
            have:l[k]=v:=by rw[List.getElem?_eq_getElem hlt]at hv;exact Option.some.inj hv
            rw[hu,this];exact h
        by_cases h1l:v.length=1
        · obtain⟨x,rfl⟩:∃ x,v=[x]:=by
            match v,h1l with
            | [x],_=>exact⟨x,rfl⟩
          have hx1:=nd1_at x
          have hmn:=rMayN_ev x (okTo_nd (hvo x (by simp)) (by decide))
          have htx:txtPart [x]=(decide (x.kind=2)&&mayN x):=rfl
          rw[htx]at hpb
          have e1:((([x]:List Nd).length:Int)==1)=true:=rfl
          have hrx:([x].map ndC)=[ndC x]:=rfl
          have hat2:(l.map partC)[k]? = some [.sl false 6 [ndC x]]:=hat
          clear hat
          rw[hrx]at hmv
          generalize mayT [x]=mv at hmv hpb
          by_cases hk2:x.kind=2
          · have q2:((x.kind:Int)==2)=true:=by rw[hk2];rfl
            rw[decide_eq_true hk2]at hpb
            generalize mayN x=mx at hmn hpb
            unfold ndC at hmn hmv
            cases mx with
            | true =>
              repeat' first|simp only[fins,mems,results8,ntmps8,wks,hat2,hx1,hlt,hki,d1,d2,hwk,e1,q2,ndC,List.length_cons,List.length_nil,Bf,Bt,plain_nd,plain_pt,plain_at,Lm,vcs,seval,tys]|exact rfl|refine call_off (v:=.any) ?_|(first|(refine call_fn ?_ (hmn _) ?_)|(refine call_fn_g ?_ (fun _=>hmn _) ?_)|(refine call_fn ?_ (hmv _) ?_)|(refine call_fn_g ?_ (fun _=>hmv _) ?_))|((first|apply Ca|apply Cb)<;>intro hb)|refine Ai (by omega) ?_|(apply Ai<;>intro hb)
              all_goals ((refine again_can2 cxG (k+1) [some b0] ?_ ?_ ?_ ?_;rotate_left 2;(focus (show b0≤_;omega));(focus (refine⟨?_,?_⟩<;>(try simp only[cans,hwk,plain_at,plain_pt,plain_nd,Lm,vcs,seval,tys,injs])<;>(try omega)))))
              all_goals (first|(show l.length-(k+1)<l.length-k;omega)|exact⟨hlt,hnx hpb⟩|skip)
            | false =>
              cases mv with
              | false =>
                have hb:=hE8 hpb
                rw[hb,hT8 hb]
                repeat' first|simp only[fins,mems,results8,ntmps8,wks,hat2,hx1,hlt,hki,d1,d2,hwk,e1,q2,ndC,List.length_cons,List.length_nil,Bf,Bt,plain_nd,plain_pt,plain_at,Lm,vcs,seval,tys]|exact rfl|refine call_off (v:=.any) ?_|(first|(refine call_fn ?_ (hmn _) ?_)|(refine call_fn_g ?_ (fun _=>hmn _) ?_)|(refine call_fn ?_ (hmv _) ?_)|(refine call_fn_g ?_ (fun _=>hmv _) ?_))|((first|apply Ca|apply Cb)<;>intro hb)|refine Ai (by omega) ?_|(apply Ai<;>intro hb)
                all_goals ((refine Fin.pure ?_ ?_ ?_<;>simp only[wks,plain_nd,results8,ntmps8,vcs,seval,tys]))
              | true =>
                repeat' first|simp only[fins,mems,results8,ntmps8,wks,hat2,hx1,hlt,hki,d1,d2,hwk,e1,q2,ndC,List.length_cons,List.length_nil,Bf,Bt,plain_nd,plain_pt,plain_at,Lm,vcs,seval,tys]|exact rfl|refine call_off (v:=.any) ?_|(first|(refine call_fn ?_ (hmn _) ?_)|(refine call_fn_g ?_ (fun _=>hmn _) ?_)|(refine call_fn ?_ (hmv _) ?_)|(refine call_fn_g ?_ (fun _=>hmv _) ?_))|((first|apply Ca|apply Cb)<;>intro hb)|refine Ai (by omega) ?_|(apply Ai<;>intro hb)
                all_goals ((refine again_can2 cxG (k+1) [some b0] ?_ ?_ ?_ ?_;rotate_left 2;(focus (show b0≤_;omega));(focus (refine⟨?_,?_⟩<;>(try simp only[cans,hwk,plain_at,plain_pt,plain_nd,Lm,vcs,seval,tys,injs])<;>(try omega)))))
                all_goals (first|(show l.length-(k+1)<l.length-k;omega)|exact⟨hlt,hnx hpb⟩|skip)
          · have q2:((x.kind:Int)==2)=false:=beq_false_of_ne (by omega)
            rw[decide_eq_false hk2]at hpb
            unfold ndC at hmv
            cases mv with
            | false =>
              have hb:=hE8 hpb
              rw[hb,hT8 hb]
              repeat' first|simp only[fins,mems,results8,ntmps8,wks,hat2,hx1,hlt,hki,d1,d2,hwk,e1,q2,ndC,List.length_cons,List.length_nil,Bf,Bt,plain_nd,plain_pt,plain_at,Lm,vcs,seval,tys]|exact rfl|refine call_off (v:=.any) ?_|(first|(refine call_fn ?_ (hmv _) ?_)|(refine call_fn_g ?_ (fun _=>hmv _) ?_))|((first|apply Ca|apply Cb)<;>intro hb)|refine Ai (by omega) ?_|(apply Ai<;>intro hb)
              all_goals ((refine Fin.pure ?_ ?_ ?_<;>simp only[wks,plain_nd,results8,ntmps8,vcs,seval,tys]))
            | true =>
              repeat' first|simp only[fins,mems,results8,ntmps8,wks,hat2,hx1,hlt,hki,d1,d2,hwk,e1,q2,ndC,List.length_cons,List.length_nil,Bf,Bt,plain_nd,plain_pt,plain_at,Lm,vcs,seval,tys]|exact rfl|refine call_off (v:=.any) ?_|(first|(refine call_fn ?_ (hmv _) ?_)|(refine call_fn_g ?_ (fun _=>hmv _) ?_))|((first|apply Ca|apply Cb)<;>intro hb)|refine Ai (by omega) ?_|(apply Ai<;>intro hb)
              all_goals ((refine again_can2 cxG (k+1) [some b0] ?_ ?_ ?_ ?_;rotate_left 2;(focus (show b0≤_;omega));(focus (refine⟨?_,?_⟩<;>(try simp only[cans,hwk,plain_at,plain_pt,plain_nd,Lm,vcs,seval,tys,injs])<;>(try omega)))))
              all_goals (first|(show l.length-(k+1)<l.length-k;omega)|exact⟨hlt,hnx hpb⟩|skip)
        · have e1:((v.length:Int)==1)=false:=beq_false_of_ne (by omega)
          rw[txt_len h1l]at hpb
          generalize mayT v=mv at hmv hpb
          cases mv with
          | false =>
            have hb:=hE8 hpb
            rw[hb,hT8 hb]
            refine ?_
            repeat' first|simp only[fins,mems,results8,ntmps8,wks,hat,partC,hlt,hki,d1,d2,hwk,e1,Bf,Bt,plain_nd,plain_pt,plain_at,Lm,vcs,seval,tys]|exact rfl|refine call_off (v:=.any) ?_|(first|(refine call_fn ?_ (hmv _) ?_)|(refine call_fn_g ?_ (fun _=>hmv _) ?_))|((first|apply Ca|apply Cb)<;>intro hb)|refine Ai (by omega) ?_|(apply Ai<;>intro hb)
            all_goals ((refine Fin.pure ?_ ?_ ?_<;>simp only[wks,plain_nd,results8,ntmps8,vcs,seval,tys]))
          | true =>
            repeat' first|simp only[fins,mems,results8,ntmps8,wks,hat,partC,hlt,hki,d1,d2,hwk,e1,Bf,Bt,plain_nd,plain_pt,plain_at,Lm,vcs,seval,tys]|exact rfl|refine call_off (v:=.any) ?_|(first|(refine call_fn ?_ (hmv _) ?_)|(refine call_fn_g ?_ (fun _=>hmv _) ?_))|((first|apply Ca|apply Cb)<;>intro hb)|refine Ai (by omega) ?_|(apply Ai<;>intro hb)
            all_goals ((refine again_can2 cxG (k+1) [some b0] ?_ ?_ ?_ ?_;rotate_left 2;(focus (show b0≤_;omega));(focus (refine⟨?_,?_⟩<;>(try simp only[cans,hwk,plain_at,plain_pt,plain_nd,Lm,vcs,seval,tys,injs])<;>(try omega)))))
            all_goals (first|(show l.length-(k+1)<l.length-k;omega)|exact⟨hlt,hnx hpb⟩|skip)
      · have hkl:k=l.length:=by omega
        subst hkl
        rw[List.take_length]at hbad
        have d1:decide ((l.length:Int)<(l.length:Int))=false:=decide_eq_false (by omega)
        have d2:decide (l.length<l.length)=false:=decide_eq_false (by omega)
        have hany:l.any partBad=false:=by
          rw[List.any_eq_false]
          intro v hv
          rw[hbad v hv];decide
        rw[hany]at hE0
        simp only[Bool.false_eq_true,if_false]at hE0
        have hal:=allN_le (B:=600) (fun v hv=>(hok v hv).1)
        have hall:allN l l.length=1+(l.map List.length).sum:=by unfold allN;rw[List.take_length]
        have hz:allN l 0=1:=rfl
        repeat' first|simp only[fins,mems,results8,ntmps8,wks,d1,d2,plain_nd,plain_pt,plain_at,Lm,vcs,seval,tys]|exact rfl|refine call_off (v:=.any) ?_|((first|apply Ca|apply Cb)<;>intro hb)|refine Ai (by omega) ?_|(apply Ai<;>intro hb)
        (refine loop_can2 cxG (fun x:Nat=>l.length-x) (fun x=>x≤l.length) (b0+16) (fun x=>[(1,.sl false 1 (l.map partC)),(2,.ptr b0 0 0),(6,.int .i64 (allN l x)),(9,.int .i64 x)]) (fun x=>[(b0,⟨6,[[.int .u8 n.kind,.str n.space,.str n.name,.sl false 3 (n.attrs.map atC),.str n.text,.int .i64 0]]⟩)]) (0) [some b0] ?_ ?_ ?_ ?_;rotate_left 1;(focus (show b0≤_;omega));(focus (refine⟨?_,?_⟩<;>(try simp only[cans,hz,ndC,plain_at,plain_pt,plain_nd,isRow_inst,Lm,vcs,seval,tys,injs])<;>(try omega)));rotate_left 1)
        · exact Nat.zero_le _
        · intro k hk
          by_cases hlt:k<l.length
          · obtain⟨v,hv⟩:∃ v,l[k]? = some v:=⟨_,List.getElem?_eq_getElem hlt⟩
            have hvl:=(hok v (List.mem_of_getElem? hv)).1
            have hat:=pt_at hv
            have q1:decide ((k:Int)<(l.length:Int))=true:=decide_eq_true (by omega)
            have q2:decide (k<l.length)=true:=decide_eq_true hlt
            have hki:(k:Int)<(l.length:Int):=by omega
            have hwk:IntKind.i64.wrap ((k:Int)+1)=((k+1:Nat):Int):=wrap_in (by omega) (by omega)
            have hs:=allN_succ hv
            have hak:=hal k
            have hws:IntKind.i64.wrap ((allN l k:Int)+(v.length:Int))=((allN l (k+1):Nat):Int):=by rw[hs];exact wrap_in (by omega) (by omega)
            repeat' first|simp only[fins,mems,results8,ntmps8,wks,hat,partC,hlt,hki,q1,q2,hwk,hws,plain_nd,plain_pt,plain_at,Lm,vcs,seval,tys]|exact rfl|refine call_off (v:=.any) ?_|((first|apply Ca|apply Cb)<;>intro hb)|refine Ai (by omega) ?_|(apply Ai<;>intro hb)
            all_goals ((refine again_can2 cxG (k+1) [some b0] ?_ ?_ ?_ ?_;rotate_left 2;(focus (show b0≤_;omega));(focus (refine⟨?_,?_⟩<;>(try simp only[cans,hwk,hws,plain_at,plain_pt,plain_nd,Lm,vcs,seval,tys,injs])<;>(try omega)))))
            all_goals (first|(show l.length-(k+1)<l.length-k;omega)|exact hlt|skip)
          · have hkl:k=l.length:=by omega
            subst hkl
            by_cases hbig:512<allN l l.length
            · have hE4:putEr n l=4:=by rw[hE0,if_pos (by omega)]
              have hT4:putTr n l=[]:=by unfold putTr;rw[hE4];rfl
              have q3:decide ((512:Int)<(allN l l.length:Int))=true:=decide_eq_true (by omega)
              rw[hE4,hT4]
              repeat' first|simp only[fins,mems,results8,ntmps8,wks,d1,d2,q3,plain_nd,plain_pt,plain_at,Lm,vcs,seval,tys]|exact rfl|refine call_off (v:=.any) ?_|((first|apply Ca|apply Cb)<;>intro hb)|refine Ai (by omega) ?_|(apply Ai<;>intro hb)
              all_goals ((refine Fin.pure ?_ ?_ ?_<;>simp only[wks,plain_nd,results8,ntmps8,vcs,seval,tys]))
            · have q3:decide ((512:Int)<(allN l l.length:Int))=false:=decide_eq_false (by omega)
              have hE5:putEr n l=checkB (outL n l l.length):=by rw[hE0,if_neg (by omega),outL_all];rfl
              have hz1:(outL n l 0).length=1:=rfl
              repeat' first|simp only[fins,mems,results8,ntmps8,wks,d1,d2,q3,plain_nd,plain_pt,plain_at,Lm,vcs,seval,tys]|exact rfl|refine call_off (v:=.any) ?_|((first|apply Ca|apply Cb)<;>intro hb)|refine Ai (by omega) ?_|(apply Ai<;>intro hb)
              (refine loop_can2 cxG (fun x:Nat=>l.length-x) (fun x=>x≤l.length) (b0+16) (fun x=>[(1,.sl false 1 (l.map partC)),(10,.own b0 0 (outL n l x).length),(11,.int .i64 x)]) (fun x=>[(b0,⟨6,(outL n l x).map ndC⟩)]) (0) [some (b0+192)] ?_ ?_ ?_ ?_;rotate_left 1;(focus (show b0≤_;omega));(focus (refine⟨?_,?_⟩<;>(try simp only[cans,outL_zero,hz1,ndC,Nd.to,plain_at,plain_pt,plain_nd,isRow_inst,Lc,Lo,Lm,vcs,seval,tys,injs])<;>(try omega)));rotate_left 1)
              · exact Nat.zero_le _
              · intro k hk
                by_cases hlt:k<l.length
                · obtain⟨v,hv⟩:∃ v,l[k]? = some v:=⟨_,List.getElem?_eq_getElem hlt⟩
                  have hvl:=(hok v (List.mem_of_getElem? hv)).1
                  have hat:=pt_at hv
                  have q1:decide ((k:Int)<(l.length:Int))=true:=decide_eq_true (by omega)
                  have q2:decide (k<l.length)=true:=decide_eq_true hlt
                  have hki:(k:Int)<(l.length:Int):=by omega
                  have hwk:IntKind.i64.wrap ((k:Int)+1)=((k+1:Nat):Int):=wrap_in (by omega) (by omega)
                  have hsc:=outL_succ (n:=n) hv
                  have hlen:(outL n l (k+1)).length=(outL n l k).length+v.length:=by rw[hsc,List.length_append]
                  have hrows:(outL n l k).map ndC++v.map ndC=(outL n l (k+1)).map ndC:=by rw[hsc,List.map_append]
                  clear hsc
                  have hlo:(outL n l k).length≤10000:=by
                    have h1:=outL_len n l k
                    have h2:((l.take k).flatten).length≤(l.flatten).length:=by
                      have:l.flatten=(l.take k).flatten++(l.drop k).flatten:=by rw[← List.flatten_append,List.take_append_drop]
                      rw[this,List.length_append];omega
                    rw[List.length_flatten (L:=l)]at h2
                    omega
                  have htk:((outL n l k).map ndC).take (outL n l k).length=(outL n l k).map ndC:=take_map_len _ _
                  have hon:=one_ndL v
                  have hf1:(outL n l k).length+v.length≤9223372036854775807:=by omega
                  have hf2:((outL n l k).length+v.length)*88≤140737488355328:=by omega
                  repeat' first|simp only[fins,mems,results8,ntmps8,wks,hat,partC,hlt,hki,q1,q2,htk,hon,hf1,hf2,hrows,hwk,plain_nd,Lm,vcs,seval,tys]|exact rfl|refine call_off (v:=.any) ?_|((first|apply Ca|apply Cb)<;>intro hb)|refine Ai (by omega) ?_|(apply Ai<;>intro hb)
                  all_goals ((refine again_can2 cxG (k+1) [some (b0+160)] ?_ ?_ ?_ ?_;rotate_left 2;(focus (show b0≤_;omega));(focus (refine⟨?_,?_⟩<;>(try simp only[cans,hwk,hlen,plain_at,plain_pt,plain_nd,Lm,vcs,seval,tys,injs])<;>(try omega)))))
                  all_goals (first|(show l.length-(k+1)<l.length-k;omega)|exact hlt|skip)
                · have hkl:k=l.length:=by omega
                  subst hkl
                  have hlen1:=outL_len n l l.length
                  rw[List.take_length,List.length_flatten]at hlen1
                  have hT:putEr n l=0→putTr n l=outL n l l.length:=fun h=>by unfold putTr;rw[if_pos h,outL_all]
                  have hoko:∀ x∈outL n l l.length,x.okTo lim:=fun x hx=>by
                    rw[outL_all]at hx
                    rcases List.mem_cons.1 hx with rfl|hx
                    · exact hnl
                    · obtain⟨v,hv,hxv⟩:=List.mem_flatten.1 hx
                      exact okTo_nd ((hok v hv).2 x hxv) (by decide)
                  have hck:=rMayV_ev (outL n l l.length) (by omega) hoko
                  have htw:=fun (h:putEr n l=0)=>rTwin_fz (outL n l l.length) (by omega) (fun x hx=>by
                    rw[hE5]at h
                    unfold checkB at h
                    cases hbo:behindO (outL n l l.length) with
                    | none=>rw[hbo]at h;cases h
                    | some en=>have:=(mayN_attrs (ends_may hbo x hx)).1;omega)
                  have hmt:mayT (outL n l l.length)=decide (putEr n l=0):=by rw[hE5];rfl
                  have hE8:putEr n l≠0→putEr n l=8:=fun h=>by rw[hE5,checkB_8]at h ⊢;split at h<;>first|exact absurd rfl h|(rw[if_neg];assumption)
                  rw[hmt]at hck
                  have hpl1:=plain_nd (outL n l l.length)
                  have htk:((outL n l l.length).map ndC).take (outL n l l.length).length=(outL n l l.length).map ndC:=take_map_len _ _
                  generalize hOUT:outL n l l.length=OUT at hck htw hT hpl1 htk ⊢
                  by_cases hz0:putEr n l=0
                  · have htw:=htw hz0
                    rw[decide_eq_true hz0]at hck
                    rw[hz0,hT hz0]
                    repeat' first|simp only[fins,mems,results8,ntmps8,wks,lostN_nil,lostN_cons,List.cons_append,List.nil_append,d1,d2,htk,plain_nd,Bt,Lm,vcs,seval,tys]|exact rfl|refine call_off (v:=.any) ?_|((refine call_fn_vx (xs:=?_) [b0] ?_ ?_ ?_ rfl (hck _) ?_);rotate_left 1)|((refine call_fn_lose (xs:=?_) [b0] ?_ ?_ ?_ ?_ (htw _) ?_ ?_);rotate_left 1)|omega|((first|apply Ca|apply Cb)<;>intro hb)|refine Ai (by omega) ?_|(apply Ai<;>intro hb)
                    all_goals ((refine Fin.pure ?_ ?_ ?_<;>simp only[wks,plain_nd,results8,ntmps8,vcs,seval,tys]))
                  · rw[decide_eq_false hz0]at hck
                    have hTn:putTr n l=[]:=by unfold putTr;rw[if_neg hz0]
                    rw[hTn,hE8 hz0]
                    repeat' first|simp only[fins,mems,results8,ntmps8,wks,d1,d2,htk,plain_nd,Bf,Lm,vcs,seval,tys]|exact rfl|refine call_off (v:=.any) ?_|((refine call_fn_vx (xs:=?_) [b0] ?_ ?_ ?_ rfl (hck _) ?_);rotate_left 1)|omega|((first|apply Ca|apply Cb)<;>intro hb)|refine Ai (by omega) ?_|(apply Ai<;>intro hb)
                    all_goals ((refine Fin.pure ?_ ?_ ?_<;>simp only[wks,plain_nd,results8,ntmps8,vcs,seval,tys]))
end Go.Proofs.Ytfcfldmioonipaa
