/-
 Texts joined: XGo,XJo,XJp,XJq,XJr,XJv,XKa,XKb,XKc,XKd.
-/
import Derived.Test.YtfcfldmioonipaaGreatDoorQi
import Derived.Test.YtfcfldmioonipaaGreatDoorQq
import Derived.Test.YtfcfldmioonipaaGreatDoorQl
import Derived.Test.YtfcfldmioonipaaGreatDoorQp
import Derived.Test.YtfcfldmioonipaaGreatDoorQm
import Derived.Test.YtfcfldmioonipaaGreatDoorQe
namespace Go.Proofs.YtfcfldmioonipaaGreatDoor
set_option maxRecDepth 100000
set_option maxHeartbeats 32000000
set_option linter.unusedSimpArgs false
set_option linter.unusedVariables false
open Go Go.RowKit Vm Go.Lib Tryz
open Vm renaming cond_bool→Ca,cond_bit→Cb
open And renaming intro→Ai
open List renaming length_map→Lm,not_mem_nil→Ln,map_nil→Lo,map_cons→Lc,mem_cons→Lk
open Bool renaming not_false→Bf,not_true→Bt
theorem digits_len:∀(k n:Nat),n<10 ^ (k+1)→(digitsL n).length≤k+1
 | 0,n,h=>by rw[digits_low (by omega)];simp
 | k+1,n,h=>by
  by_cases h9:n≤9
  ·rw[digits_low h9];simp
  ·rw[digits_high (by omega),List.length_append,List.length_singleton]
   have:=digits_len k (n / 10) (by rw[Nat.pow_succ]at h;omega)
   omega
theorem digB {d:Nat}(h:d≤9):((UInt8.ofNat (48+d)).toNat:Int)=48+(d:Int):=by simp;omega
theorem rDigits_ev (n:Nat)(hn:n<10 ^ 17)(nm:Nat):Ev cx 85 nm [.int .i64 n] Mem.nil (.str (digitsL n)) []:=by
 have hl:=digits_len 16 n hn
 have hn':n<100000000000000000:=hn
 refine ev_go rfl (fun cargs w=>call85 cargs w) func85 rfl mixed (by kernel_rfl) rfl ?_;intro b0 hb0
 repeat' first|simp only[fins,mems,results85,ntmps85,wks,vcs,seval,tys]|exact rfl|refine call_off (v:=.any) ?_|((first|apply Ca|apply Cb)<;>intro hb)|refine Ai (by omega) ?_|(apply Ai<;>intro hb)
 (refine loop_can2 cxG (fun x:Nat×List UInt8=>x.1) (fun x=>x.1≤n∧digitsL n=digitsL x.1++x.2) (b0+16) (fun x=>[(0,.int .i64 x.1),(3,.str x.2)]) (fun x=>[]) ((n,[])) [] ?_ ?_ ?_ ?_;rotate_left 1;(focus (show b0≤_;omega));(focus (refine⟨?_,?_⟩<;>(try simp only[cans,vcs,seval,tys,injs])<;>(try omega)));rotate_left 1)
 ·exact⟨Nat.le_refl _,(List.append_nil _).symm⟩
 ·rintro ⟨m,acc⟩ ⟨h1,h2⟩
  simp only at h1 h2
  have hal:acc.length≤17:=by
   have:=congrArg List.length h2
   rw[List.length_append]at this;omega
  by_cases h9:9<m
  ·have hd:decide ((9:Int)<(m:Int))=true:=decide_eq_true (by omega)
   have q1:(m:Int).tmod 10=((m % 10:Nat):Int):=by rw[Int.tmod_eq_emod_of_nonneg (by omega)];rfl
   have q2:(m:Int).tdiv 10=((m / 10:Nat):Int):=by rw[Int.tdiv_eq_ediv_of_nonneg (by omega)];rfl
   have w1:IntKind.i64.wrap ((m % 10:Nat):Int)=((m % 10:Nat):Int):=wrap_in (by omega) (by omega)
   have w2:IntKind.i64.wrap (48+((m % 10:Nat):Int))=48+((m % 10:Nat):Int):=wrap_in (by omega) (by omega)
   have w3:IntKind.u8.wrap (48+((m % 10:Nat):Int))=((UInt8.ofNat (48+m % 10)).toNat:Int):=by rw[IntWalk.u8_in _ (by omega),digB (by omega)]
   have w4:IntKind.i64.wrap ((m / 10:Nat):Int)=((m / 10:Nat):Int):=wrap_in (by omega) (by omega)
   generalize hg:UInt8.ofNat (48+m % 10)=g at w3
   have hcl:([g]++acc).length=acc.length+1:=by simp
   repeat' first|simp only[fins,mems,results85,ntmps85,wks,hd,q1,q2,w1,w2,w3,w4,hcl,byteRow,vcs,seval,tys]|exact rfl|refine call_off (v:=.any) ?_|(refine ext_toStr (v:=?_) (bs:=[g]) ?_ ?_ ?_ ?_ ?_ ?_ ?_;rotate_left 1;(iterate 2 (focus (simp only[results85,ntmps85,wks,hd,q1,q2,w1,w2,w3,w4,hcl,byteRow,vcs,seval,tys];done)));(focus (simp only[results85,ntmps85,wks,hd,q1,q2,w1,w2,w3,w4,hcl,byteRow,vcs,seval,tys]<;>exact rfl));(focus (exact rfl));(focus (simp only[mems,results85,ntmps85,wks,hd,q1,q2,w1,w2,w3,w4,hcl,byteRow,vcs,seval,tys];done));(focus (simp only[results85,ntmps85,wks,hd,q1,q2,w1,w2,w3,w4,hcl,byteRow,vcs,seval,tys]<;>exact rfl)))|(refine extG_true ?_)|(refine extG_false ?_)|((first|apply Ca|apply Cb)<;>intro hb)|refine Ai (by omega) ?_|(apply Ai<;>intro hb)
   all_goals ((refine again_can2 cxG ((m / 10,[g]++acc)) [] ?_ ?_ ?_ ?_;rotate_left 2;(focus (show b0≤_;omega));(focus (refine⟨?_,?_⟩<;>(try simp only[cans,vcs,seval,tys,injs])<;>(try omega)))))
   all_goals (first|(show m / 10<m;omega)|(refine⟨by show m / 10≤n;omega,?_⟩;rw[h2,digits_high h9,hg,List.append_assoc])|skip)
  ·have hd:decide ((9:Int)<(m:Int))=false:=decide_eq_false (by omega)
   have w2:IntKind.i64.wrap (48+(m:Int))=48+(m:Int):=wrap_in (by omega) (by omega)
   have w3:IntKind.u8.wrap (48+(m:Int))=((UInt8.ofNat (48+m)).toNat:Int):=by rw[IntWalk.u8_in _ (by omega),digB (by omega)]
   have hr:digitsL n=[UInt8.ofNat (48+m)]++acc:=by rw[h2,digits_low (by omega)]
   generalize hg:UInt8.ofNat (48+m)=g at w3 hr
   have hcl:([g]++acc).length=acc.length+1:=by simp
   (repeat' first|simp only[fins,mems,results85,ntmps85,wks,hd,w2,w3,hr,hcl,byteRow,vcs,seval,tys]|exact rfl|refine call_off (v:=.any) ?_|(refine ext_toStr (v:=?_) (bs:=[g]) ?_ ?_ ?_ ?_ ?_ ?_ ?_;rotate_left 1;(iterate 2 (focus (simp only[results85,ntmps85,wks,hd,w2,w3,hr,hcl,byteRow,vcs,seval,tys];done)));(focus (simp only[results85,ntmps85,wks,hd,w2,w3,hr,hcl,byteRow,vcs,seval,tys]<;>exact rfl));(focus (exact rfl));(focus (simp only[mems,results85,ntmps85,wks,hd,w2,w3,hr,hcl,byteRow,vcs,seval,tys];done));(focus (simp only[results85,ntmps85,wks,hd,w2,w3,hr,hcl,byteRow,vcs,seval,tys]<;>exact rfl)))|(refine extG_true ?_)|(refine extG_false ?_)|((first|apply Ca|apply Cb)<;>intro hb)|refine Ai (by omega) ?_|(apply Ai<;>intro hb)|refine Fin.pure ?_ ?_ ?_|simp only[injs])
theorem digits_itoa {n:Nat}(h:n<100):digitsL n=itoaU n:=by
 unfold itoaU
 by_cases h1:n<10
 ·rw[if_pos h1,digits_low (by omega)]
  try rfl
 ·rw[if_neg h1,digits_high (by omega),digits_low (by omega)]
  try rfl
theorem which_ix {S:List (List UInt8)}{s:List UInt8}(h:s∈S):whichN S s=ixU S s+1∧ixU S s<S.length:=by
 obtain⟨_,h2⟩:=ix_get h
 refine⟨?_,h2⟩
 unfold whichN ixU at *
 cases hf:S.findIdx? (· == s) with
 | none=>rw[hf]at h2;simp at h2
 | some i=>rfl
theorem decs_take {S:List (List UInt8)}{i:Nat}{s:List UInt8}(h:S[i]? = some s):(decsU S).take (i+1)=(decsU S).take i++[decU i s]:=by
 have hq:(decsU S)[i]? = some (decU i s):=by unfold decsU;rw[List.getElem?_mapIdx,h];rfl
 obtain⟨h2,h3⟩:=List.getElem?_eq_some_iff.1 hq
 rw[List.take_succ_eq_append_getElem h2,h3]
theorem map_take12 {f:At→At}{l:List At}{k:Nat}{a:At}(h:l[k]? = some a):(l.take (k+1)).map f=(l.take k).map f++[f a]:=map_take_snoc h
theorem rTold_own (n:Nd)(sp:List UInt8)(hk:n.kind=1)(hn:n.okTo 1000000)(ha:n.attrs.length≤30)(nm:Nat) :
  Ev cx 73 nm [.agg (ndC n),.str sp] Mem.nil (.agg [.int .u8 1,.str [],.str n.name,.own nm 0 (toldU n sp).attrs.length,.str [],.int .i64 n.many]) [(nm,some ⟨3,(toldU n sp).attrs.map atC⟩)]:=by
 have hspc:=rSpaces_fz n.attrs (by omega)
 have hSl:=seenL_len n.attrs
 have hseen:∀ a∈n.attrs,a.space≠[]→a.space≠xmlU→a.space∈seenL n.attrs:=fun a h1 h2 h3=>seen_has h1 h2 h3
 have hat0:(toldU n sp).attrs=(hdU n sp++decsU (seenL n.attrs))++n.attrs.map (relU (seenL n.attrs)):=rfl
 rw[hat0]
 generalize seenL n.attrs=S at hspc hSl hseen ⊢
 have hdl:(decsU S).length=S.length:=decs_len S
 have hhl:(hdU n sp).length≤1:=by unfold hdU;split<;>simp
 obtain⟨Z,hZ⟩:∃ Z,Z=(hdU n sp++decsU S)++n.attrs.map (relU S):=⟨_,rfl⟩
 rw[← hZ]
 have hcase:((n.space==sp)=true∧hdU n sp=[])∨((n.space==sp)=false∧hdU n sp=[⟨[],[120,109,108,110,115],n.space⟩]):=by
  unfold hdU
  cases h:(n.space==sp) with
  | true=>exact .inl ⟨rfl,rfl⟩
  | false=>exact .inr ⟨rfl,rfl⟩
 have hx1:[[V.str [],.str [120,109,108,110,115],.str n.space]]=([⟨[],[120,109,108,110,115],n.space⟩]:List At).map atC:=rfl
 rcases hcase with ⟨hs1,hs2⟩|⟨hs1,hs2⟩
 ·generalize hdU n sp=H at hs2 hZ hhl
  refine ev_go rfl (fun cargs w=>call73 cargs w) func73 rfl mixed (by kernel_rfl) rfl ?_;intro b0 hb0
  repeat' first|simp only[fins,mems,results73,ntmps73,wks,hs1,ndC,plain_at,Bt,Bf,Lm,vcs,seval,tys]|exact rfl|refine call_off (v:=.any) ?_|(first|(refine call_fn ?_ (hspc _) ?_)|(refine call_fn_g ?_ (fun _=>hspc _) ?_))|refine draw_end' (ps:=[(1,4),(4,8),(4,9),(1,11)]) (by decide +kernel) (by simp only[List.forall_mem_cons,List.getD_cons_zero,List.getD_cons_succ,results73,ntmps73,wks,hs1,ndC,plain_at,Bt,Bf,Lm,vcs,seval,tys]<;>(try simp)<;>(try omega)) ?_|refine draw_end' (ps:=[(1,13),(3,13),(5,13),(7,13),(9,13),(11,13)]) (by decide +kernel) (by simp only[List.forall_mem_cons,List.getD_cons_zero,List.getD_cons_succ,results73,ntmps73,wks,hs1,ndC,plain_at,Bt,Bf,Lm,vcs,seval,tys]<;>(try simp)<;>(try omega)) ?_|refine draw_end' (ps:=[(7,12),(8,12)]) (by decide +kernel) (by simp only[List.forall_mem_cons,List.getD_cons_zero,List.getD_cons_succ,results73,ntmps73,wks,hs1,ndC,plain_at,Bt,Bf,Lm,vcs,seval,tys]<;>(try simp)<;>(try omega)) ?_|refine draw_end (by decide +kernel) ?_|((first|apply Ca|apply Cb)<;>intro hb)|refine Ai (by omega) ?_|(apply Ai<;>intro hb)
  (refine loop_can2 cxG (fun x:Nat=>S.length-x) (fun x=>x≤S.length) (b0+16) (fun x=>[(2,.ptr b0 0 0),(4,.ptr (b0+1) 0 0),(5,.ptr (b0+2) 0 0),(6,.sl false 1 (S.map tsC)),(7,.int .i64 x)]) (fun x=>[(b0,⟨6,[ndC n]⟩),(b0+1,⟨6,[[.int .u8 0,.str [],.str [],.nils,.str [],.int .i64 0]]⟩),(b0+2,⟨6,[[.int .u8 1,.str [],.str n.name,.own (b0+3) 0 (H++(decsU S).take x).length,.str [],.int .i64 n.many]]⟩),(b0+3,⟨3,(H++(decsU S).take x).map atC⟩)]) (0) [some b0,some (b0+16),some (b0+112),none] ?_ ?_ ?_ ?_;rotate_left 1;(focus (show b0≤_;omega));(focus (refine⟨?_,?_⟩<;>(try simp only[cans,hs2,atC,ndC,Lc,List.append_nil,plain_at,plain_ts,isRow_inst,leLL_same,leLL_cons,leL_cons,leL_nil,le_nils_sl,leLL,List.take_zero,List.append_nil,Lo,List.length_nil,List.length_cons,Lm,vcs,seval,tys,injs])<;>(try omega)));rotate_left 1)
  ·exact Nat.zero_le _
  ·intro i hi
   by_cases hlt:i<S.length
   ·obtain⟨s,hs⟩:∃ s,S[i]? = some s:=⟨_,List.getElem?_eq_getElem hlt⟩
    have hts:=ts_at hs
    have hii:(i:Int)<(S.length:Int):=by omega
    have d1:decide ((i:Int)<(S.length:Int))=true:=decide_eq_true hii
    have d2:decide (i<S.length)=true:=decide_eq_true hlt
    have wi:IntKind.i64.wrap ((i:Int)+1)=((i+1:Nat):Int):=wrap_in (by omega) (by omega)
    have hdg:=rDigits_ev (i+1) (by rw[show(10:Nat) ^ 17=100000000000000000 by decide];omega)
    rw[digits_itoa (by omega)]at hdg
    have hil:=itoa_len (i+1)
    have hdt:=decs_take hs
    have hsn:=at_snoc (H++(decsU S).take i) (decU i s)
    rw[List.append_assoc,← hdt]at hsn
    have hsnl:=congrArg List.length hsn
    unfold decU at hsn
    simp only[List.length_append,Lm,List.length_cons,List.length_nil]at hsnl
    have hAl:(H++(decsU S).take i).length≤100:=by rw[List.length_append,List.length_take];omega
    have htk:=tak_at (H++(decsU S).take i)
    have hAl2:(H++(decsU S).take (i+1)).length=(H++(decsU S).take i).length+1:=by rw[hdt,← List.append_assoc,List.length_append (bs:=[decU i s])];rfl
    generalize H++(decsU S).take i=A at hsn hAl htk hAl2
    simp only[List.cons_append,List.nil_append]at hsn
    generalize itoaU (i+1)=dg at hdg hil hsn
    repeat' first|simp only[fins,mems,results73,ntmps73,wks,d1,d2,hts,hlt,hii,wi,htk,hsn,ndC,plain_at,plain_ts,Lm,vcs,seval,tys]|exact rfl|refine call_off (v:=.any) ?_|(first|(refine call_fn ?_ (hdg _) ?_)|(refine call_fn_g ?_ (fun _=>hdg _) ?_))|refine draw_end' (ps:=[(1,4),(4,8),(4,9),(1,11)]) (by decide +kernel) (by simp only[List.forall_mem_cons,List.getD_cons_zero,List.getD_cons_succ,results73,ntmps73,wks,d1,d2,hts,hlt,hii,wi,htk,hsn,ndC,plain_at,plain_ts,Lm,vcs,seval,tys]<;>(try simp)<;>(try omega)) ?_|refine draw_end' (ps:=[(1,13),(3,13),(5,13),(7,13),(9,13),(11,13)]) (by decide +kernel) (by simp only[List.forall_mem_cons,List.getD_cons_zero,List.getD_cons_succ,results73,ntmps73,wks,d1,d2,hts,hlt,hii,wi,htk,hsn,ndC,plain_at,plain_ts,Lm,vcs,seval,tys]<;>(try simp)<;>(try omega)) ?_|refine draw_end' (ps:=[(7,12),(8,12)]) (by decide +kernel) (by simp only[List.forall_mem_cons,List.getD_cons_zero,List.getD_cons_succ,results73,ntmps73,wks,d1,d2,hts,hlt,hii,wi,htk,hsn,ndC,plain_at,plain_ts,Lm,vcs,seval,tys]<;>(try simp)<;>(try omega)) ?_|refine draw_end (by decide +kernel) ?_|((first|apply Ca|apply Cb)<;>intro hb)|refine Ai (by omega) ?_|(apply Ai<;>intro hb)
    all_goals ((refine again_can2 cxG (i+1) [some b0,some (b0+1),some (b0+2),some (b0+272)] ?_ ?_ ?_ ?_;rotate_left 2;(focus (show b0≤_;omega));(focus (refine⟨?_,?_⟩<;>(try simp only[cans,wi,hAl2,hsn,ndC,plain_at,plain_ts,leLL_same,isRow_inst,Lm,vcs,seval,tys,injs])<;>(try omega)))))
    all_goals (first|(show S.length-(i+1)<S.length-i;omega)|exact hlt|skip)
   ·have hie:i=S.length:=by omega
    subst hie
    have d1:decide ((S.length:Int)<(S.length:Int))=false:=decide_eq_false (by omega)
    have d2:decide (S.length<S.length)=false:=decide_eq_false (by omega)
    rw[List.take_of_length_le (show(decsU S).length≤S.length by omega)]
    have htk0:=tak_at (H++decsU S)
    have hBl:(H++decsU S).length≤100:=by rw[List.length_append];omega
    generalize H++decsU S=B at hZ htk0 hBl
    have hz0:([]:List At).map (relU S)=[]:=rfl
    repeat' first|simp only[fins,mems,results73,ntmps73,wks,d1,d2,htk0,ndC,plain_at,plain_ts,Lm,vcs,seval,tys]|exact rfl|refine call_off (v:=.any) ?_|refine draw_end' (ps:=[(1,4),(4,8),(4,9),(1,11)]) (by decide +kernel) (by simp only[List.forall_mem_cons,List.getD_cons_zero,List.getD_cons_succ,results73,ntmps73,wks,d1,d2,htk0,ndC,plain_at,plain_ts,Lm,vcs,seval,tys]<;>(try simp)<;>(try omega)) ?_|refine draw_end' (ps:=[(1,13),(3,13),(5,13),(7,13),(9,13),(11,13)]) (by decide +kernel) (by simp only[List.forall_mem_cons,List.getD_cons_zero,List.getD_cons_succ,results73,ntmps73,wks,d1,d2,htk0,ndC,plain_at,plain_ts,Lm,vcs,seval,tys]<;>(try simp)<;>(try omega)) ?_|refine draw_end' (ps:=[(7,12),(8,12)]) (by decide +kernel) (by simp only[List.forall_mem_cons,List.getD_cons_zero,List.getD_cons_succ,results73,ntmps73,wks,d1,d2,htk0,ndC,plain_at,plain_ts,Lm,vcs,seval,tys]<;>(try simp)<;>(try omega)) ?_|refine draw_end (by decide +kernel) ?_|((first|apply Ca|apply Cb)<;>intro hb)|refine Ai (by omega) ?_|(apply Ai<;>intro hb)
    (refine loop_can2 cxG (fun x:Nat=>n.attrs.length-x) (fun x=>x≤n.attrs.length) (b0+16) (fun x=>[(2,.ptr b0 0 0),(4,.ptr (b0+1) 0 0),(5,.ptr (b0+2) 0 0),(6,.sl false 1 (S.map tsC)),(8,.int .i64 x)]) (fun x=>[(b0,⟨6,[ndC n]⟩),(b0+1,⟨6,[[.int .u8 0,.str [],.str [],.nils,.str [],.int .i64 0]]⟩),(b0+2,⟨6,[[.int .u8 1,.str [],.str n.name,.own (b0+3) 0 (B++(n.attrs.take x).map (relU S)).length,.str [],.int .i64 n.many]]⟩),(b0+3,⟨3,(B++(n.attrs.take x).map (relU S)).map atC⟩)]) (0) [some b0,some (b0+1),some (b0+2),some (b0+3)] ?_ ?_ ?_ ?_;rotate_left 1;(focus (show b0≤_;omega));(focus (refine⟨?_,?_⟩<;>(try simp only[cans,hz0,ndC,plain_at,plain_ts,isRow_inst,leLL_same,List.take_zero,List.append_nil,Lo,List.length_nil,Lm,vcs,seval,tys,injs])<;>(try omega)));rotate_left 1)
    ·exact Nat.zero_le _
    ·intro k hk2
     by_cases hkl:k<n.attrs.length
     ·obtain⟨a,haa⟩:∃ a,n.attrs[k]? = some a:=⟨_,List.getElem?_eq_getElem hkl⟩
      have hata:=at_at haa
      have ham:=List.mem_of_getElem? haa
      obtain⟨o1,o2,o3⟩:=hn.2.2.2.2 a ham
      have hki:(k:Int)<(n.attrs.length:Int):=by omega
      have f1:decide ((k:Int)<(n.attrs.length:Int))=true:=decide_eq_true hki
      have f2:decide (k<n.attrs.length)=true:=decide_eq_true hkl
      have wk:IntKind.i64.wrap ((k:Int)+1)=((k+1:Nat):Int):=wrap_in (by omega) (by omega)
      have hmt:=map_take12 (f:=relU S) haa
      have hsn:=at_snoc (B++(n.attrs.take k).map (relU S)) (relU S a)
      rw[List.append_assoc,← hmt]at hsn
      have hAl:(B++(n.attrs.take k).map (relU S)).length≤200:=by rw[List.length_append,Lm,List.length_take];omega
      have htk:=tak_at (B++(n.attrs.take k).map (relU S))
      have hAl2:(B++(n.attrs.take (k+1)).map (relU S)).length=(B++(n.attrs.take k).map (relU S)).length+1:=by rw[hmt,← List.append_assoc,List.length_append (bs:=[relU S a])];rfl
      generalize B++(n.attrs.take k).map (relU S)=A at hsn hAl htk hAl2
      have hsee:=hseen a ham
      generalize hA':(B++(n.attrs.take (k+1)).map (relU S)).map atC=R' at hsn
      unfold relU preU at hsn
      unfold xmlU at hsn hsee
      simp only at hsn
      cases c1:(a.space==[104,116,116,112,58,47,47,119,119,119,46,119,51,46,111,114,103,47,88,77,76,47,49,57,57,56,47,110,97,109,101,115,112,97,99,101]) with
      | true =>
       have c0:(a.space==[])=false:=by rw[eq_of_beq c1];rfl
       rw[c0,c1]at hsn
       simp only[Bool.false_eq_true,if_false,if_true,List.cons_append,List.nil_append]at hsn
       subst hA'
       repeat' first|simp only[fins,mems,results73,ntmps73,wks,f1,f2,hata,atC,hkl,hki,c1,wk,htk,hsn,ndC,List.cons_append,List.nil_append,List.append_eq,plain_at,plain_ts,Lm,vcs,seval,tys]|exact rfl|refine call_off (v:=.any) ?_|refine draw_end' (ps:=[(1,4),(4,8),(4,9),(1,11)]) (by decide +kernel) (by simp only[List.forall_mem_cons,List.getD_cons_zero,List.getD_cons_succ,results73,ntmps73,wks,f1,f2,hata,atC,hkl,hki,c1,wk,htk,hsn,ndC,List.cons_append,List.nil_append,List.append_eq,plain_at,plain_ts,Lm,vcs,seval,tys]<;>(try simp)<;>(try omega)) ?_|refine draw_end' (ps:=[(1,13),(3,13),(5,13),(7,13),(9,13),(11,13)]) (by decide +kernel) (by simp only[List.forall_mem_cons,List.getD_cons_zero,List.getD_cons_succ,results73,ntmps73,wks,f1,f2,hata,atC,hkl,hki,c1,wk,htk,hsn,ndC,List.cons_append,List.nil_append,List.append_eq,plain_at,plain_ts,Lm,vcs,seval,tys]<;>(try simp)<;>(try omega)) ?_|refine draw_end' (ps:=[(7,12),(8,12)]) (by decide +kernel) (by simp only[List.forall_mem_cons,List.getD_cons_zero,List.getD_cons_succ,results73,ntmps73,wks,f1,f2,hata,atC,hkl,hki,c1,wk,htk,hsn,ndC,List.cons_append,List.nil_append,List.append_eq,plain_at,plain_ts,Lm,vcs,seval,tys]<;>(try simp)<;>(try omega)) ?_|refine draw_end (by decide +kernel) ?_|((first|apply Ca|apply Cb)<;>intro hb)|refine Ai (by omega) ?_|(apply Ai<;>intro hb)
       all_goals ((refine again_can2 cxG (k+1) [some b0,some (b0+1),some (b0+2),some (b0+592)] ?_ ?_ ?_ ?_;rotate_left 2;(focus (show b0≤_;omega));(focus (refine⟨?_,?_⟩<;>(try simp only[cans,wk,hAl2,hsn,ndC,plain_at,plain_ts,leLL_same,isRow_inst,Lm,vcs,seval,tys,injs])<;>(try omega)))))
       all_goals (first|(show n.attrs.length-(k+1)<n.attrs.length-k;omega)|exact hkl|skip)
      | false =>
       cases c0:(a.space==[]) with
       | true =>
        rw[c0]at hsn
        simp only[if_true]at hsn
        subst hA'
        repeat' first|simp only[fins,mems,results73,ntmps73,wks,f1,f2,hata,atC,hkl,hki,c0,c1,wk,htk,hsn,ndC,Bt,Bf,plain_at,plain_ts,Lm,vcs,seval,tys]|exact rfl|refine call_off (v:=.any) ?_|refine draw_end' (ps:=[(1,4),(4,8),(4,9),(1,11)]) (by decide +kernel) (by simp only[List.forall_mem_cons,List.getD_cons_zero,List.getD_cons_succ,results73,ntmps73,wks,f1,f2,hata,atC,hkl,hki,c0,c1,wk,htk,hsn,ndC,Bt,Bf,plain_at,plain_ts,Lm,vcs,seval,tys]<;>(try simp)<;>(try omega)) ?_|refine draw_end' (ps:=[(1,13),(3,13),(5,13),(7,13),(9,13),(11,13)]) (by decide +kernel) (by simp only[List.forall_mem_cons,List.getD_cons_zero,List.getD_cons_succ,results73,ntmps73,wks,f1,f2,hata,atC,hkl,hki,c0,c1,wk,htk,hsn,ndC,Bt,Bf,plain_at,plain_ts,Lm,vcs,seval,tys]<;>(try simp)<;>(try omega)) ?_|refine draw_end' (ps:=[(7,12),(8,12)]) (by decide +kernel) (by simp only[List.forall_mem_cons,List.getD_cons_zero,List.getD_cons_succ,results73,ntmps73,wks,f1,f2,hata,atC,hkl,hki,c0,c1,wk,htk,hsn,ndC,Bt,Bf,plain_at,plain_ts,Lm,vcs,seval,tys]<;>(try simp)<;>(try omega)) ?_|refine draw_end (by decide +kernel) ?_|((first|apply Ca|apply Cb)<;>intro hb)|refine Ai (by omega) ?_|(apply Ai<;>intro hb)
        all_goals ((refine again_can2 cxG (k+1) [some b0,some (b0+1),some (b0+2),some (b0+624)] ?_ ?_ ?_ ?_;rotate_left 2;(focus (show b0≤_;omega));(focus (refine⟨?_,?_⟩<;>(try simp only[cans,wk,hAl2,hsn,ndC,plain_at,plain_ts,leLL_same,isRow_inst,Lm,vcs,seval,tys,injs])<;>(try omega)))))
        all_goals (first|(show n.attrs.length-(k+1)<n.attrs.length-k;omega)|exact hkl|skip)
       | false =>
        rw[c0,c1]at hsn
        simp only[Bool.false_eq_true,if_false]at hsn
        obtain⟨w1,w2⟩:=which_ix (hsee (by simpa using c0) (by simpa using c1))
        have hw:=rWhich_ev S a.space (by omega)
        rw[w1]at hw
        have hdg:=rDigits_ev (ixU S a.space+1) (by rw[show(10:Nat) ^ 17=100000000000000000 by decide];omega)
        rw[digits_itoa (by omega)]at hdg
        have hil:=itoa_len (ixU S a.space+1)
        generalize itoaU (ixU S a.space+1)=dg at hdg hil hsn
        have hcat:(([110]++dg)++[58])++a.name=(110::dg)++58::a.name:=by simp
        rw[← hcat]at hsn
        have hl1:([110]++dg).length=dg.length+1:=by simp
        have hl2:(dg++[58]).length=dg.length+1:=by simp
        simp only[List.cons_append,List.nil_append]at hsn
        subst hA'
        repeat' first|simp only[fins,mems,results73,ntmps73,wks,f1,f2,hata,atC,hkl,hki,c0,c1,wk,htk,hsn,ndC,Bt,Bf,plain_at,plain_ts,Lm,vcs,seval,tys]|exact rfl|refine call_off (v:=.any) ?_|(first|(refine call_fn ?_ (hw _) ?_)|(refine call_fn_g ?_ (fun _=>hw _) ?_)|(refine call_fn ?_ (hdg _) ?_)|(refine call_fn_g ?_ (fun _=>hdg _) ?_))|refine draw_end' (ps:=[(1,4),(4,8),(4,9),(1,11)]) (by decide +kernel) (by simp only[List.forall_mem_cons,List.getD_cons_zero,List.getD_cons_succ,results73,ntmps73,wks,f1,f2,hata,atC,hkl,hki,c0,c1,wk,htk,hsn,ndC,Bt,Bf,plain_at,plain_ts,Lm,vcs,seval,tys]<;>(try simp)<;>(try omega)) ?_|refine draw_end' (ps:=[(1,13),(3,13),(5,13),(7,13),(9,13),(11,13)]) (by decide +kernel) (by simp only[List.forall_mem_cons,List.getD_cons_zero,List.getD_cons_succ,results73,ntmps73,wks,f1,f2,hata,atC,hkl,hki,c0,c1,wk,htk,hsn,ndC,Bt,Bf,plain_at,plain_ts,Lm,vcs,seval,tys]<;>(try simp)<;>(try omega)) ?_|refine draw_end' (ps:=[(7,12),(8,12)]) (by decide +kernel) (by simp only[List.forall_mem_cons,List.getD_cons_zero,List.getD_cons_succ,results73,ntmps73,wks,f1,f2,hata,atC,hkl,hki,c0,c1,wk,htk,hsn,ndC,Bt,Bf,plain_at,plain_ts,Lm,vcs,seval,tys]<;>(try simp)<;>(try omega)) ?_|refine draw_end (by decide +kernel) ?_|((first|apply Ca|apply Cb)<;>intro hb)|refine Ai (by omega) ?_|(apply Ai<;>intro hb)
        all_goals ((refine again_can2 cxG (k+1) [some b0,some (b0+1),some (b0+2),some (b0+880)] ?_ ?_ ?_ ?_;rotate_left 2;(focus (show b0≤_;omega));(focus (refine⟨?_,?_⟩<;>(try simp only[cans,wk,hAl2,hsn,ndC,plain_at,plain_ts,leLL_same,isRow_inst,Lm,vcs,seval,tys,injs])<;>(try omega)))))
        all_goals (first|(show n.attrs.length-(k+1)<n.attrs.length-k;omega)|exact hkl|skip)
     ·have hke:k=n.attrs.length:=by omega
      subst hke
      have f1:decide ((n.attrs.length:Int)<(n.attrs.length:Int))=false:=decide_eq_false (by omega)
      have f2:decide (n.attrs.length<n.attrs.length)=false:=decide_eq_false (by omega)
      rw[List.take_length,← hZ]
      have htk:=tak_at Z
      repeat' first|simp only[fins,mems,results73,ntmps73,wks,f1,f2,htk,ndC,plain_at,plain_ts,Lm,vcs,seval,tys]|exact rfl|refine call_off (v:=.any) ?_|refine draw_end' (ps:=[(1,4),(4,8),(4,9),(1,11)]) (by decide +kernel) (by simp only[List.forall_mem_cons,List.getD_cons_zero,List.getD_cons_succ,results73,ntmps73,wks,f1,f2,htk,ndC,plain_at,plain_ts,Lm,vcs,seval,tys]<;>(try simp)<;>(try omega)) ?_|refine draw_end' (ps:=[(1,13),(3,13),(5,13),(7,13),(9,13),(11,13)]) (by decide +kernel) (by simp only[List.forall_mem_cons,List.getD_cons_zero,List.getD_cons_succ,results73,ntmps73,wks,f1,f2,htk,ndC,plain_at,plain_ts,Lm,vcs,seval,tys]<;>(try simp)<;>(try omega)) ?_|refine draw_end' (ps:=[(7,12),(8,12)]) (by decide +kernel) (by simp only[List.forall_mem_cons,List.getD_cons_zero,List.getD_cons_succ,results73,ntmps73,wks,f1,f2,htk,ndC,plain_at,plain_ts,Lm,vcs,seval,tys]<;>(try simp)<;>(try omega)) ?_|refine draw_end (by decide +kernel) ?_|((first|apply Ca|apply Cb)<;>intro hb)|refine Ai (by omega) ?_|(apply Ai<;>intro hb)
      all_goals ((refine Fin.give [(b0+3,some 0)] [] ?_ ?_ ?_ ?_ ?_ (fun q hq=>by have hqq:=nil_mem q hq;first|(simp only[gives,tgt,Lc,Lo,Lk,Ln,or_false]at hqq ⊢;omega)|(simp only[gives,tgt,Lc,Lo,Lk,Ln,or_false]at hqq))<;>(try simp only[results73,ntmps73,wks,ren_map,renOk_map,plain_at,plain_ts,Lm,giv,vcs,seval,tys])<;>(try simp only[injs])<;>(try omega)))
 ·generalize hdU n sp=H at hs2 hZ hhl
  refine ev_go rfl (fun cargs w=>call73 cargs w) func73 rfl mixed (by kernel_rfl) rfl ?_;intro b0 hb0
  repeat' first|simp only[fins,mems,results73,ntmps73,wks,hs1,ndC,plain_at,Bt,Bf,Lm,vcs,seval,tys]|exact rfl|refine call_off (v:=.any) ?_|(first|(refine call_fn ?_ (hspc _) ?_)|(refine call_fn_g ?_ (fun _=>hspc _) ?_))|refine draw_end' (ps:=[(1,4),(4,8),(4,9),(1,11)]) (by decide +kernel) (by simp only[List.forall_mem_cons,List.getD_cons_zero,List.getD_cons_succ,results73,ntmps73,wks,hs1,ndC,plain_at,Bt,Bf,Lm,vcs,seval,tys]<;>(try simp)<;>(try omega)) ?_|refine draw_end' (ps:=[(1,13),(3,13),(5,13),(7,13),(9,13),(11,13)]) (by decide +kernel) (by simp only[List.forall_mem_cons,List.getD_cons_zero,List.getD_cons_succ,results73,ntmps73,wks,hs1,ndC,plain_at,Bt,Bf,Lm,vcs,seval,tys]<;>(try simp)<;>(try omega)) ?_|refine draw_end' (ps:=[(7,12),(8,12)]) (by decide +kernel) (by simp only[List.forall_mem_cons,List.getD_cons_zero,List.getD_cons_succ,results73,ntmps73,wks,hs1,ndC,plain_at,Bt,Bf,Lm,vcs,seval,tys]<;>(try simp)<;>(try omega)) ?_|refine draw_end (by decide +kernel) ?_|((first|apply Ca|apply Cb)<;>intro hb)|refine Ai (by omega) ?_|(apply Ai<;>intro hb)
  (refine loop_can2 cxG (fun x:Nat=>S.length-x) (fun x=>x≤S.length) (b0+16) (fun x=>[(2,.ptr b0 0 0),(4,.ptr (b0+1) 0 0),(5,.ptr (b0+2) 0 0),(6,.sl false 1 (S.map tsC)),(7,.int .i64 x)]) (fun x=>[(b0,⟨6,[ndC n]⟩),(b0+1,⟨6,[[.int .u8 0,.str [],.str [],.nils,.str [],.int .i64 0]]⟩),(b0+2,⟨6,[[.int .u8 1,.str [],.str n.name,.own (b0+3) 0 (H++(decsU S).take x).length,.str [],.int .i64 n.many]]⟩),(b0+3,⟨3,(H++(decsU S).take x).map atC⟩)]) (0) [some b0,some (b0+16),some (b0+112),some (b0+304)] ?_ ?_ ?_ ?_;rotate_left 1;(focus (show b0≤_;omega));(focus (refine⟨?_,?_⟩<;>(try simp only[cans,hs2,atC,ndC,Lc,List.append_nil,plain_at,plain_ts,isRow_inst,leLL_same,leLL_cons,leL_cons,leL_nil,le_nils_sl,leLL,List.take_zero,List.append_nil,Lo,List.length_nil,List.length_cons,Lm,vcs,seval,tys,injs])<;>(try omega)));rotate_left 1)
  ·exact Nat.zero_le _
  ·intro i hi
   by_cases hlt:i<S.length
   ·obtain⟨s,hs⟩:∃ s,S[i]? = some s:=⟨_,List.getElem?_eq_getElem hlt⟩
    have hts:=ts_at hs
    have hii:(i:Int)<(S.length:Int):=by omega
    have d1:decide ((i:Int)<(S.length:Int))=true:=decide_eq_true hii
    have d2:decide (i<S.length)=true:=decide_eq_true hlt
    have wi:IntKind.i64.wrap ((i:Int)+1)=((i+1:Nat):Int):=wrap_in (by omega) (by omega)
    have hdg:=rDigits_ev (i+1) (by rw[show(10:Nat) ^ 17=100000000000000000 by decide];omega)
    rw[digits_itoa (by omega)]at hdg
    have hil:=itoa_len (i+1)
    have hdt:=decs_take hs
    have hsn:=at_snoc (H++(decsU S).take i) (decU i s)
    rw[List.append_assoc,← hdt]at hsn
    have hsnl:=congrArg List.length hsn
    unfold decU at hsn
    simp only[List.length_append,Lm,List.length_cons,List.length_nil]at hsnl
    have hAl:(H++(decsU S).take i).length≤100:=by rw[List.length_append,List.length_take];omega
    have htk:=tak_at (H++(decsU S).take i)
    have hAl2:(H++(decsU S).take (i+1)).length=(H++(decsU S).take i).length+1:=by rw[hdt,← List.append_assoc,List.length_append (bs:=[decU i s])];rfl
    generalize H++(decsU S).take i=A at hsn hAl htk hAl2
    simp only[List.cons_append,List.nil_append]at hsn
    generalize itoaU (i+1)=dg at hdg hil hsn
    repeat' first|simp only[fins,mems,results73,ntmps73,wks,d1,d2,hts,hlt,hii,wi,htk,hsn,ndC,plain_at,plain_ts,Lm,vcs,seval,tys]|exact rfl|refine call_off (v:=.any) ?_|(first|(refine call_fn ?_ (hdg _) ?_)|(refine call_fn_g ?_ (fun _=>hdg _) ?_))|refine draw_end' (ps:=[(1,4),(4,8),(4,9),(1,11)]) (by decide +kernel) (by simp only[List.forall_mem_cons,List.getD_cons_zero,List.getD_cons_succ,results73,ntmps73,wks,d1,d2,hts,hlt,hii,wi,htk,hsn,ndC,plain_at,plain_ts,Lm,vcs,seval,tys]<;>(try simp)<;>(try omega)) ?_|refine draw_end' (ps:=[(1,13),(3,13),(5,13),(7,13),(9,13),(11,13)]) (by decide +kernel) (by simp only[List.forall_mem_cons,List.getD_cons_zero,List.getD_cons_succ,results73,ntmps73,wks,d1,d2,hts,hlt,hii,wi,htk,hsn,ndC,plain_at,plain_ts,Lm,vcs,seval,tys]<;>(try simp)<;>(try omega)) ?_|refine draw_end' (ps:=[(7,12),(8,12)]) (by decide +kernel) (by simp only[List.forall_mem_cons,List.getD_cons_zero,List.getD_cons_succ,results73,ntmps73,wks,d1,d2,hts,hlt,hii,wi,htk,hsn,ndC,plain_at,plain_ts,Lm,vcs,seval,tys]<;>(try simp)<;>(try omega)) ?_|refine draw_end (by decide +kernel) ?_|((first|apply Ca|apply Cb)<;>intro hb)|refine Ai (by omega) ?_|(apply Ai<;>intro hb)
    all_goals ((refine again_can2 cxG (i+1) [some b0,some (b0+1),some (b0+2),some (b0+272)] ?_ ?_ ?_ ?_;rotate_left 2;(focus (show b0≤_;omega));(focus (refine⟨?_,?_⟩<;>(try simp only[cans,wi,hAl2,hsn,ndC,plain_at,plain_ts,leLL_same,isRow_inst,Lm,vcs,seval,tys,injs])<;>(try omega)))))
    all_goals (first|(show S.length-(i+1)<S.length-i;omega)|exact hlt|skip)
   ·have hie:i=S.length:=by omega
    subst hie
    have d1:decide ((S.length:Int)<(S.length:Int))=false:=decide_eq_false (by omega)
    have d2:decide (S.length<S.length)=false:=decide_eq_false (by omega)
    rw[List.take_of_length_le (show(decsU S).length≤S.length by omega)]
    have htk0:=tak_at (H++decsU S)
    have hBl:(H++decsU S).length≤100:=by rw[List.length_append];omega
    generalize H++decsU S=B at hZ htk0 hBl
    have hz0:([]:List At).map (relU S)=[]:=rfl
    repeat' first|simp only[fins,mems,results73,ntmps73,wks,d1,d2,htk0,ndC,plain_at,plain_ts,Lm,vcs,seval,tys]|exact rfl|refine call_off (v:=.any) ?_|refine draw_end' (ps:=[(1,4),(4,8),(4,9),(1,11)]) (by decide +kernel) (by simp only[List.forall_mem_cons,List.getD_cons_zero,List.getD_cons_succ,results73,ntmps73,wks,d1,d2,htk0,ndC,plain_at,plain_ts,Lm,vcs,seval,tys]<;>(try simp)<;>(try omega)) ?_|refine draw_end' (ps:=[(1,13),(3,13),(5,13),(7,13),(9,13),(11,13)]) (by decide +kernel) (by simp only[List.forall_mem_cons,List.getD_cons_zero,List.getD_cons_succ,results73,ntmps73,wks,d1,d2,htk0,ndC,plain_at,plain_ts,Lm,vcs,seval,tys]<;>(try simp)<;>(try omega)) ?_|refine draw_end' (ps:=[(7,12),(8,12)]) (by decide +kernel) (by simp only[List.forall_mem_cons,List.getD_cons_zero,List.getD_cons_succ,results73,ntmps73,wks,d1,d2,htk0,ndC,plain_at,plain_ts,Lm,vcs,seval,tys]<;>(try simp)<;>(try omega)) ?_|refine draw_end (by decide +kernel) ?_|((first|apply Ca|apply Cb)<;>intro hb)|refine Ai (by omega) ?_|(apply Ai<;>intro hb)
    (refine loop_can2 cxG (fun x:Nat=>n.attrs.length-x) (fun x=>x≤n.attrs.length) (b0+16) (fun x=>[(2,.ptr b0 0 0),(4,.ptr (b0+1) 0 0),(5,.ptr (b0+2) 0 0),(6,.sl false 1 (S.map tsC)),(8,.int .i64 x)]) (fun x=>[(b0,⟨6,[ndC n]⟩),(b0+1,⟨6,[[.int .u8 0,.str [],.str [],.nils,.str [],.int .i64 0]]⟩),(b0+2,⟨6,[[.int .u8 1,.str [],.str n.name,.own (b0+3) 0 (B++(n.attrs.take x).map (relU S)).length,.str [],.int .i64 n.many]]⟩),(b0+3,⟨3,(B++(n.attrs.take x).map (relU S)).map atC⟩)]) (0) [some b0,some (b0+1),some (b0+2),some (b0+3)] ?_ ?_ ?_ ?_;rotate_left 1;(focus (show b0≤_;omega));(focus (refine⟨?_,?_⟩<;>(try simp only[cans,hz0,ndC,plain_at,plain_ts,isRow_inst,leLL_same,List.take_zero,List.append_nil,Lo,List.length_nil,Lm,vcs,seval,tys,injs])<;>(try omega)));rotate_left 1)
    ·exact Nat.zero_le _
    ·intro k hk2
     by_cases hkl:k<n.attrs.length
     ·obtain⟨a,haa⟩:∃ a,n.attrs[k]? = some a:=⟨_,List.getElem?_eq_getElem hkl⟩
      have hata:=at_at haa
      have ham:=List.mem_of_getElem? haa
      obtain⟨o1,o2,o3⟩:=hn.2.2.2.2 a ham
      have hki:(k:Int)<(n.attrs.length:Int):=by omega
      have f1:decide ((k:Int)<(n.attrs.length:Int))=true:=decide_eq_true hki
      have f2:decide (k<n.attrs.length)=true:=decide_eq_true hkl
      have wk:IntKind.i64.wrap ((k:Int)+1)=((k+1:Nat):Int):=wrap_in (by omega) (by omega)
      have hmt:=map_take12 (f:=relU S) haa
      have hsn:=at_snoc (B++(n.attrs.take k).map (relU S)) (relU S a)
      rw[List.append_assoc,← hmt]at hsn
      have hAl:(B++(n.attrs.take k).map (relU S)).length≤200:=by rw[List.length_append,Lm,List.length_take];omega
      have htk:=tak_at (B++(n.attrs.take k).map (relU S))
      have hAl2:(B++(n.attrs.take (k+1)).map (relU S)).length=(B++(n.attrs.take k).map (relU S)).length+1:=by rw[hmt,← List.append_assoc,List.length_append (bs:=[relU S a])];rfl
      generalize B++(n.attrs.take k).map (relU S)=A at hsn hAl htk hAl2
      have hsee:=hseen a ham
      generalize hA':(B++(n.attrs.take (k+1)).map (relU S)).map atC=R' at hsn
      unfold relU preU at hsn
      unfold xmlU at hsn hsee
      simp only at hsn
      cases c1:(a.space==[104,116,116,112,58,47,47,119,119,119,46,119,51,46,111,114,103,47,88,77,76,47,49,57,57,56,47,110,97,109,101,115,112,97,99,101]) with
      | true =>
       have c0:(a.space==[])=false:=by rw[eq_of_beq c1];rfl
       rw[c0,c1]at hsn
       simp only[Bool.false_eq_true,if_false,if_true,List.cons_append,List.nil_append]at hsn
       subst hA'
       repeat' first|simp only[fins,mems,results73,ntmps73,wks,f1,f2,hata,atC,hkl,hki,c1,wk,htk,hsn,ndC,List.cons_append,List.nil_append,List.append_eq,plain_at,plain_ts,Lm,vcs,seval,tys]|exact rfl|refine call_off (v:=.any) ?_|refine draw_end' (ps:=[(1,4),(4,8),(4,9),(1,11)]) (by decide +kernel) (by simp only[List.forall_mem_cons,List.getD_cons_zero,List.getD_cons_succ,results73,ntmps73,wks,f1,f2,hata,atC,hkl,hki,c1,wk,htk,hsn,ndC,List.cons_append,List.nil_append,List.append_eq,plain_at,plain_ts,Lm,vcs,seval,tys]<;>(try simp)<;>(try omega)) ?_|refine draw_end' (ps:=[(1,13),(3,13),(5,13),(7,13),(9,13),(11,13)]) (by decide +kernel) (by simp only[List.forall_mem_cons,List.getD_cons_zero,List.getD_cons_succ,results73,ntmps73,wks,f1,f2,hata,atC,hkl,hki,c1,wk,htk,hsn,ndC,List.cons_append,List.nil_append,List.append_eq,plain_at,plain_ts,Lm,vcs,seval,tys]<;>(try simp)<;>(try omega)) ?_|refine draw_end' (ps:=[(7,12),(8,12)]) (by decide +kernel) (by simp only[List.forall_mem_cons,List.getD_cons_zero,List.getD_cons_succ,results73,ntmps73,wks,f1,f2,hata,atC,hkl,hki,c1,wk,htk,hsn,ndC,List.cons_append,List.nil_append,List.append_eq,plain_at,plain_ts,Lm,vcs,seval,tys]<;>(try simp)<;>(try omega)) ?_|refine draw_end (by decide +kernel) ?_|((first|apply Ca|apply Cb)<;>intro hb)|refine Ai (by omega) ?_|(apply Ai<;>intro hb)
       all_goals ((refine again_can2 cxG (k+1) [some b0,some (b0+1),some (b0+2),some (b0+592)] ?_ ?_ ?_ ?_;rotate_left 2;(focus (show b0≤_;omega));(focus (refine⟨?_,?_⟩<;>(try simp only[cans,wk,hAl2,hsn,ndC,plain_at,plain_ts,leLL_same,isRow_inst,Lm,vcs,seval,tys,injs])<;>(try omega)))))
       all_goals (first|(show n.attrs.length-(k+1)<n.attrs.length-k;omega)|exact hkl|skip)
      | false =>
       cases c0:(a.space==[]) with
       | true =>
        rw[c0]at hsn
        simp only[if_true]at hsn
        subst hA'
        repeat' first|simp only[fins,mems,results73,ntmps73,wks,f1,f2,hata,atC,hkl,hki,c0,c1,wk,htk,hsn,ndC,Bt,Bf,plain_at,plain_ts,Lm,vcs,seval,tys]|exact rfl|refine call_off (v:=.any) ?_|refine draw_end' (ps:=[(1,4),(4,8),(4,9),(1,11)]) (by decide +kernel) (by simp only[List.forall_mem_cons,List.getD_cons_zero,List.getD_cons_succ,results73,ntmps73,wks,f1,f2,hata,atC,hkl,hki,c0,c1,wk,htk,hsn,ndC,Bt,Bf,plain_at,plain_ts,Lm,vcs,seval,tys]<;>(try simp)<;>(try omega)) ?_|refine draw_end' (ps:=[(1,13),(3,13),(5,13),(7,13),(9,13),(11,13)]) (by decide +kernel) (by simp only[List.forall_mem_cons,List.getD_cons_zero,List.getD_cons_succ,results73,ntmps73,wks,f1,f2,hata,atC,hkl,hki,c0,c1,wk,htk,hsn,ndC,Bt,Bf,plain_at,plain_ts,Lm,vcs,seval,tys]<;>(try simp)<;>(try omega)) ?_|refine draw_end' (ps:=[(7,12),(8,12)]) (by decide +kernel) (by simp only[List.forall_mem_cons,List.getD_cons_zero,List.getD_cons_succ,results73,ntmps73,wks,f1,f2,hata,atC,hkl,hki,c0,c1,wk,htk,hsn,ndC,Bt,Bf,plain_at,plain_ts,Lm,vcs,seval,tys]<;>(try simp)<;>(try omega)) ?_|refine draw_end (by decide +kernel) ?_|((first|apply Ca|apply Cb)<;>intro hb)|refine Ai (by omega) ?_|(apply Ai<;>intro hb)
        all_goals ((refine again_can2 cxG (k+1) [some b0,some (b0+1),some (b0+2),some (b0+624)] ?_ ?_ ?_ ?_;rotate_left 2;(focus (show b0≤_;omega));(focus (refine⟨?_,?_⟩<;>(try simp only[cans,wk,hAl2,hsn,ndC,plain_at,plain_ts,leLL_same,isRow_inst,Lm,vcs,seval,tys,injs])<;>(try omega)))))
        all_goals (first|(show n.attrs.length-(k+1)<n.attrs.length-k;omega)|exact hkl|skip)
       | false =>
        rw[c0,c1]at hsn
        simp only[Bool.false_eq_true,if_false]at hsn
        obtain⟨w1,w2⟩:=which_ix (hsee (by simpa using c0) (by simpa using c1))
        have hw:=rWhich_ev S a.space (by omega)
        rw[w1]at hw
        have hdg:=rDigits_ev (ixU S a.space+1) (by rw[show(10:Nat) ^ 17=100000000000000000 by decide];omega)
        rw[digits_itoa (by omega)]at hdg
        have hil:=itoa_len (ixU S a.space+1)
        generalize itoaU (ixU S a.space+1)=dg at hdg hil hsn
        have hcat:(([110]++dg)++[58])++a.name=(110::dg)++58::a.name:=by simp
        rw[← hcat]at hsn
        have hl1:([110]++dg).length=dg.length+1:=by simp
        have hl2:(dg++[58]).length=dg.length+1:=by simp
        simp only[List.cons_append,List.nil_append]at hsn
        subst hA'
        repeat' first|simp only[fins,mems,results73,ntmps73,wks,f1,f2,hata,atC,hkl,hki,c0,c1,wk,htk,hsn,ndC,Bt,Bf,plain_at,plain_ts,Lm,vcs,seval,tys]|exact rfl|refine call_off (v:=.any) ?_|(first|(refine call_fn ?_ (hw _) ?_)|(refine call_fn_g ?_ (fun _=>hw _) ?_)|(refine call_fn ?_ (hdg _) ?_)|(refine call_fn_g ?_ (fun _=>hdg _) ?_))|refine draw_end' (ps:=[(1,4),(4,8),(4,9),(1,11)]) (by decide +kernel) (by simp only[List.forall_mem_cons,List.getD_cons_zero,List.getD_cons_succ,results73,ntmps73,wks,f1,f2,hata,atC,hkl,hki,c0,c1,wk,htk,hsn,ndC,Bt,Bf,plain_at,plain_ts,Lm,vcs,seval,tys]<;>(try simp)<;>(try omega)) ?_|refine draw_end' (ps:=[(1,13),(3,13),(5,13),(7,13),(9,13),(11,13)]) (by decide +kernel) (by simp only[List.forall_mem_cons,List.getD_cons_zero,List.getD_cons_succ,results73,ntmps73,wks,f1,f2,hata,atC,hkl,hki,c0,c1,wk,htk,hsn,ndC,Bt,Bf,plain_at,plain_ts,Lm,vcs,seval,tys]<;>(try simp)<;>(try omega)) ?_|refine draw_end' (ps:=[(7,12),(8,12)]) (by decide +kernel) (by simp only[List.forall_mem_cons,List.getD_cons_zero,List.getD_cons_succ,results73,ntmps73,wks,f1,f2,hata,atC,hkl,hki,c0,c1,wk,htk,hsn,ndC,Bt,Bf,plain_at,plain_ts,Lm,vcs,seval,tys]<;>(try simp)<;>(try omega)) ?_|refine draw_end (by decide +kernel) ?_|((first|apply Ca|apply Cb)<;>intro hb)|refine Ai (by omega) ?_|(apply Ai<;>intro hb)
        all_goals ((refine again_can2 cxG (k+1) [some b0,some (b0+1),some (b0+2),some (b0+880)] ?_ ?_ ?_ ?_;rotate_left 2;(focus (show b0≤_;omega));(focus (refine⟨?_,?_⟩<;>(try simp only[cans,wk,hAl2,hsn,ndC,plain_at,plain_ts,leLL_same,isRow_inst,Lm,vcs,seval,tys,injs])<;>(try omega)))))
        all_goals (first|(show n.attrs.length-(k+1)<n.attrs.length-k;omega)|exact hkl|skip)
     ·have hke:k=n.attrs.length:=by omega
      subst hke
      have f1:decide ((n.attrs.length:Int)<(n.attrs.length:Int))=false:=decide_eq_false (by omega)
      have f2:decide (n.attrs.length<n.attrs.length)=false:=decide_eq_false (by omega)
      rw[List.take_length,← hZ]
      have htk:=tak_at Z
      repeat' first|simp only[fins,mems,results73,ntmps73,wks,f1,f2,htk,ndC,plain_at,plain_ts,Lm,vcs,seval,tys]|exact rfl|refine call_off (v:=.any) ?_|refine draw_end' (ps:=[(1,4),(4,8),(4,9),(1,11)]) (by decide +kernel) (by simp only[List.forall_mem_cons,List.getD_cons_zero,List.getD_cons_succ,results73,ntmps73,wks,f1,f2,htk,ndC,plain_at,plain_ts,Lm,vcs,seval,tys]<;>(try simp)<;>(try omega)) ?_|refine draw_end' (ps:=[(1,13),(3,13),(5,13),(7,13),(9,13),(11,13)]) (by decide +kernel) (by simp only[List.forall_mem_cons,List.getD_cons_zero,List.getD_cons_succ,results73,ntmps73,wks,f1,f2,htk,ndC,plain_at,plain_ts,Lm,vcs,seval,tys]<;>(try simp)<;>(try omega)) ?_|refine draw_end' (ps:=[(7,12),(8,12)]) (by decide +kernel) (by simp only[List.forall_mem_cons,List.getD_cons_zero,List.getD_cons_succ,results73,ntmps73,wks,f1,f2,htk,ndC,plain_at,plain_ts,Lm,vcs,seval,tys]<;>(try simp)<;>(try omega)) ?_|refine draw_end (by decide +kernel) ?_|((first|apply Ca|apply Cb)<;>intro hb)|refine Ai (by omega) ?_|(apply Ai<;>intro hb)
      all_goals ((refine Fin.give [(b0+3,some 0)] [] ?_ ?_ ?_ ?_ ?_ (fun q hq=>by have hqq:=nil_mem q hq;first|(simp only[gives,tgt,Lc,Lo,Lk,Ln,or_false]at hqq ⊢;omega)|(simp only[gives,tgt,Lc,Lo,Lk,Ln,or_false]at hqq))<;>(try simp only[results73,ntmps73,wks,ren_map,renOk_map,plain_at,plain_ts,Lm,giv,vcs,seval,tys])<;>(try simp only[injs])<;>(try omega)))
theorem checkU_may (v:List Nd):decide (checkU v=0)=(!(v.any badNd)&&mayT v):=by
 unfold checkU mayT
 cases v.any badNd<;>simp
theorem rMayU_ev (v:List Nd)(hv:v.length≤1000)(hok:∀ n∈v,n.okTo lim)(nm:Nat):Ev cx 30 nm [.sl false 6 (v.map ndC)] Mem.nil (.bool (decide (checkU v=0))) []:=by
  rw[checkU_may]
  have hmt:=rMayV_ev v (by omega) hok
  refine ev_go rfl (fun cargs w=>call30 cargs w) func30 rfl mixed (by kernel_rfl) rfl ?_;intro b0 hb0
  repeat' first|simp only[fins,mems,results30,ntmps30,wks,vcs,seval,tys]|exact rfl|refine call_off (v:=.any) ?_|((first|apply Ca|apply Cb)<;>intro hb)|refine Ai (by omega) ?_|(apply Ai<;>intro hb)
  (refine loop_can2 cxG (fun x:Nat=>v.length-x) (fun x=>x≤v.length∧(v.take x).any badNd=false) (b0+16) (fun x=>[(0,.sl false 6 (v.map ndC)),(3,.int .i64 x)]) (fun x=>[]) (0) [] ?_ ?_ ?_ ?_;rotate_left 1;(focus (show b0≤_;omega));(focus (refine⟨?_,?_⟩<;>(try simp only[cans,plain_nd,Lm,vcs,seval,tys,injs])<;>(try omega)));rotate_left 1)
  · exact⟨Nat.zero_le _,rfl⟩
  · rintro i ⟨hi,hno⟩
    by_cases hlt:i<v.length
    · obtain⟨x,hx⟩:∃ x,v[i]? = some x:=⟨_,List.getElem?_eq_getElem hlt⟩
      have hat:=nd_at hx
      have hxo:=hok x (List.mem_of_getElem? hx)
      have hxl:=hxo.1
      unfold lim at hxl
      have hii:(i:Int)<(v.length:Int):=by omega
      have d1:decide ((i:Int)<(v.length:Int))=true:=decide_eq_true hii
      have d2:decide (i<v.length)=true:=decide_eq_true hlt
      have wi:IntKind.i64.wrap ((i:Int)+1)=((i+1:Nat):Int):=wrap_in (by omega) (by omega)
      have hnm:=rName_ev x.name hxo.2.2.1
      have hkk:((x.kind:Int)==1)=decide (x.kind=1):=by rw[Bool.eq_iff_iff];simp;omega
      obtain⟨bk,hbk⟩:∃ b,b=decide (x.kind=1):=⟨_,rfl⟩
      obtain⟨bn,hbn⟩:∃ b,b=nameL x.name:=⟨_,rfl⟩
      rw[← hbk]at hkk
      rw[← hbn]at hnm
      have hbad:badNd x=(((bk && !bn)||givenU x.space)||x.attrs.any badAt):=by rw[hbk,hbn];rfl
      unfold givenU xmlU xmlnsU at hbad
      cases c1:(x.space==[104,116,116,112,58,47,47,119,119,119,46,119,51,46,111,114,103,47,88,77,76,47,49,57,57,56,47,110,97,109,101,115,112,97,99,101])<;>cases c2:(x.space==[104,116,116,112,58,47,47,119,119,119,46,119,51,46,111,114,103,47,50,48,48,48,47,120,109,108,110,115,47])<;>cases bk<;>cases bn
      all_goals (rw[c1,c2]at hbad;simp only[Bool.and_self,Bool.and_false,Bool.false_and,Bool.or_false,Bool.false_or,Bool.or_true,Bool.true_or,Bt,Bf]at hbad)
      all_goals first
        | (have hr:v.any badNd=true:=any_here12 hx hbad
           rw[hr]
           simp only[Bt,Bool.false_and]
           (repeat' first|simp only[fins,mems,results30,ntmps30,wks,d1,d2,hat,ndC,hlt,hii,hkk,c1,c2,strip_gdf,Bt,Bf,Lm,vcs,seval,tys]|exact rfl|refine call_off (v:=.any) ?_|(first|(refine call_fn ?_ (hnm _) ?_)|(refine call_fn_g ?_ (fun _=>hnm _) ?_))|(refine call_off (v:=.any) ?_)|((first|apply Ca|apply Cb)<;>intro hb)|refine Ai (by omega) ?_|(apply Ai<;>intro hb)|refine Fin.pure ?_ ?_ ?_|simp only[injs]))
        | skip
      all_goals (
        repeat' first|simp only[fins,mems,results30,ntmps30,wks,d1,d2,hat,ndC,hlt,hii,hkk,c1,c2,strip_gdf,Bt,Bf,Lm,vcs,seval,tys]|exact rfl|refine call_off (v:=.any) ?_|(first|(refine call_fn ?_ (hnm _) ?_)|(refine call_fn_g ?_ (fun _=>hnm _) ?_))|(refine call_off (v:=.any) ?_)|((first|apply Ca|apply Cb)<;>intro hb)|refine Ai (by omega) ?_|(apply Ai<;>intro hb)
        (refine loop_can2 cxG (fun j:Nat=>x.attrs.length-j) (fun j=>j≤x.attrs.length∧(x.attrs.take j).any badAt=false) (b0+16) (fun j=>[(0,.sl false 6 (v.map ndC)),(3,.int .i64 i),(4,.int .i64 j)]) (fun j=>[]) (0) [] ?_ ?_ ?_ ?_;rotate_left 1;(focus (show b0≤_;omega));(focus (refine⟨?_,?_⟩<;>(try simp only[cans,plain_nd,plain_at,Lm,vcs,seval,tys,injs])<;>(try omega)));rotate_left 1))
      all_goals first
        | exact⟨Nat.zero_le _,rfl⟩
        | skip
      all_goals (
        rintro j ⟨hj,hna⟩
        by_cases hja:j<x.attrs.length
        · obtain⟨a,ha⟩:∃ a,x.attrs[j]? = some a:=⟨_,List.getElem?_eq_getElem hja⟩
          have haa:=at_at ha
          have hao:=hxo.2.2.2.2 a (List.mem_of_getElem? ha)
          have hji:(j:Int)<(x.attrs.length:Int):=by omega
          have f1:decide ((j:Int)<(x.attrs.length:Int))=true:=decide_eq_true hji
          have f2:decide (j<x.attrs.length)=true:=decide_eq_true hja
          have wj:IntKind.i64.wrap ((j:Int)+1)=((j+1:Nat):Int):=wrap_in (by omega) (by omega)
          have hna2:=rName_ev a.name hao.2.1
          obtain⟨an,han⟩:∃ b,b=nameL a.name:=⟨_,rfl⟩
          rw[← han]at hna2
          have hba:badAt a=((!an||((a.space==[])&&(a.name==[120,109,108,110,115])))||(a.space==[104,116,116,112,58,47,47,119,119,119,46,119,51,46,111,114,103,47,50,48,48,48,47,120,109,108,110,115,47])):=by rw[han];rfl
          cases e1:(a.space==[])<;>cases e2:(a.name==[120,109,108,110,115])<;>cases e3:(a.space==[104,116,116,112,58,47,47,119,119,119,46,119,51,46,111,114,103,47,50,48,48,48,47,120,109,108,110,115,47])<;>cases an
          all_goals (rw[e1,e2,e3]at hba;simp only[Bool.and_self,Bool.and_false,Bool.false_and,Bool.or_false,Bool.false_or,Bool.or_true,Bool.true_or,Bt,Bf]at hba)
          all_goals first
            | (have hr:v.any badNd=true:=any_here12 hx (by rw[hbad,any_here12 ha hba])
               rw[hr]
               simp only[Bt,Bool.false_and]
               (repeat' first|simp only[fins,mems,results30,ntmps30,wks,f1,f2,hat,haa,ndC,atC,hlt,hii,hja,hji,e1,e2,e3,strip_gdf,Bt,Bf,Lm,vcs,seval,tys]|exact rfl|refine call_off (v:=.any) ?_|(first|(refine call_fn ?_ (hna2 _) ?_)|(refine call_fn_g ?_ (fun _=>hna2 _) ?_))|(refine call_off (v:=.any) ?_)|((first|apply Ca|apply Cb)<;>intro hb)|refine Ai (by omega) ?_|(apply Ai<;>intro hb)|refine Fin.pure ?_ ?_ ?_|simp only[injs]))
            | (have hna':=any_snoc12 ha hna hba
               repeat' first|simp only[fins,mems,results30,ntmps30,wks,f1,f2,hat,haa,ndC,atC,hlt,hii,hja,hji,e1,e2,e3,wj,strip_gdf,Bt,Bf,Lm,vcs,seval,tys]|exact rfl|refine call_off (v:=.any) ?_|(first|(refine call_fn ?_ (hna2 _) ?_)|(refine call_fn_g ?_ (fun _=>hna2 _) ?_))|(refine call_off (v:=.any) ?_)|((first|apply Ca|apply Cb)<;>intro hb)|refine Ai (by omega) ?_|(apply Ai<;>intro hb)
               all_goals ((refine again_can2 cxG (j+1) [] ?_ ?_ ?_ ?_;rotate_left 2;(focus (show b0≤_;omega));(focus (refine⟨?_,?_⟩<;>(try simp only[cans,plain_nd,wj,Lm,vcs,seval,tys,injs])<;>(try omega)))))
               all_goals (first|(show x.attrs.length-(j+1)<x.attrs.length-j;omega)|exact⟨hja,hna'⟩|skip))
        · have hje:j=x.attrs.length:=by omega
          subst hje
          have f1:decide ((x.attrs.length:Int)<(x.attrs.length:Int))=false:=decide_eq_false (by omega)
          have f2:decide (x.attrs.length<x.attrs.length)=false:=decide_eq_false (by omega)
          rw[List.take_length]at hna
          have hno':=any_snoc12 hx hno (hbad.trans hna)
          repeat' first|simp only[fins,mems,results30,ntmps30,wks,f1,f2,hat,ndC,hlt,hii,wi,Lm,vcs,seval,tys]|exact rfl|refine call_off (v:=.any) ?_|((first|apply Ca|apply Cb)<;>intro hb)|refine Ai (by omega) ?_|(apply Ai<;>intro hb)
          all_goals ((refine again_can2 cxG (i+1) [] ?_ ?_ ?_ ?_;rotate_left 2;(focus (show b0≤_;omega));(focus (refine⟨?_,?_⟩<;>(try simp only[cans,plain_nd,wi,Lm,vcs,seval,tys,injs])<;>(try omega)))))
          all_goals (first|(show v.length-(i+1)<v.length-i;omega)|exact⟨hlt,hno'⟩|skip))
    · have hie:i=v.length:=by omega
      subst hie
      have d1:decide ((v.length:Int)<(v.length:Int))=false:=decide_eq_false (by omega)
      have d2:decide (v.length<v.length)=false:=decide_eq_false (by omega)
      rw[List.take_length]at hno
      rw[hno]
      simp only[Bf,Bool.true_and]
      (repeat' first|simp only[fins,mems,results30,ntmps30,wks,d1,d2,plain_nd,Lm,vcs,seval,tys]|exact rfl|refine call_off (v:=.any) ?_|(first|(refine call_fn ?_ (hmt _) ?_)|(refine call_fn_g ?_ (fun _=>hmt _) ?_))|((first|apply Ca|apply Cb)<;>intro hb)|refine Ai (by omega) ?_|(apply Ai<;>intro hb)|refine Fin.pure ?_ ?_ ?_|simp only[injs])
theorem rTold_fz (n:Nd)(sp:List UInt8)(hk:n.kind=1)(hn:n.okTo 1000000)(ha:n.attrs.length≤30)(nm:Nat) :
  Ev cx 73 nm [.agg (ndC n),.str sp] Mem.nil (.agg (ndC (toldU n sp))) []:=by
 have h:=rTold_own n sp hk hn ha nm
 have hc:ndC (toldU n sp)=[.int .u8 1,.str [],.str n.name,.sl false 3 ((toldU n sp).attrs.map atC),.str [],.int .i64 n.many]:=by
  have:(toldU n sp).kind=1:=hk
  unfold ndC;rw[this];rfl
 rw[hc]
 generalize (toldU n sp).attrs=A at h ⊢
 have hpl:=plain_at A
 have htk:=tak_at A
 refine Ev.freeze h ?_ ?_
 ·simp only[fins,mems,wks,hpl,htk,Lm,vcs,seval,tys]<;>omega
 ·simp only[fins,mems,wks,hpl,htk,Lm,vcs,seval,tys]
theorem Fo.bare_app:∀(F G:Fo) (sp:List UInt8),(F.app G).bare sp=F.bare sp++G.bare sp
 | .nil,_,_=>rfl
 | .cons n k r,G,sp=>by simp only[Fo.app,Fo.bare,r.bare_app G sp,List.append_assoc]
def DnOk (v:List Nd)(n:Nd)(k:Fo):Prop:=∀(p:Nat) (rest:List Nd) (sp:List UInt8),v.drop p=n::(k.flat++rest) →
 ∀ nm,Ev cx 54 nm [.sl false 6 (v.map ndC),.int .i64 p,.str sp] Mem.nil (.sl false 6 (((Fo.cons n k .nil).bare sp).map ndC)) []
theorem down_text (v:List Nd)(n:Nd)(hk:n.kind=2):DnOk v n .nil:=by
 intro p rest sp hd nm
 obtain⟨hx,hpl,hd1⟩:=at_drop hd
 have hat:=nd_at hx
 have hpi:(p:Int)<(v.length:Int):=by omega
 have k1:((n.kind:Int)==2)=true:=by rw[hk];rfl
 have hr:(Fo.cons n .nil .nil).bare sp=[n]:=by simp[Fo.bare,hk]
 rw[hr]
 refine Ev.rows_fz (R:=[ndC n]) ?_ (leLL_refl _) (plain_nd _)
 show Ev cx _ nm _ Mem.nil (.own nm 0 1) _
 simp only[ndC]
 refine ev_go rfl (fun cargs w=>call54 cargs w) func54 rfl mixed (by kernel_rfl) rfl ?_;intro b0 hb0
 ((repeat' first|simp only[fins,mems,results54,ntmps54,wks,hat,ndC,hpl,hpi,k1,plain_nd,plain_at,plainL,V.plain,Bool.and_self,Lm,vcs,seval,tys]|exact rfl|refine call_off (v:=.any) ?_|refine draw_end (by decide +kernel) ?_|((first|apply Ca|apply Cb)<;>intro hb)|refine Ai (by omega) ?_|(apply Ai<;>intro hb));(all_goals (first|(refine Fin.auto (r:=?_) (l:=?_) ?_ ?_ ?_ ?_ ?_ ?_ ?_;rotate_left 1;(simp only[results54,ntmps54,envL_cons,envL_nil,memL_cons,memL_nil,hat,ndC,hpl,hpi,k1,plain_nd,plain_at,plainL,V.plain,Bool.and_self,Lm,vcs,seval,tys]);(exact rfl);rotate_left 1;(simp only[V.owns,ownsL,List.cons_append,List.nil_append]);(exact rfl);all_goals (try simp only[results54,ntmps54,envL_cons,envL_nil,memL_cons,memL_nil,hat,ndC,hpl,hpi,k1,plain_nd,plain_at,plainL,V.plain,Bool.and_self,Lm,ownx,vcs,seval,tys]);all_goals (try simp only[injs]))|skip)))
theorem down_elem (v:List Nd)(hv:v.length≤1000)(hokv:∀ n∈v,n.okTo 1000000)(n:Nd)(k:Fo)(hk:n.kind=1)(d:Nat)(hd12:d≤12)(hg:(Fo.cons n k .nil).good d 0=true)(ih:AllF (DnOk v) k):DnOk v n k:=by
 intro p rest sp hd nm
 have hokl:∀ x∈v,x.okTo lim:=fun x hx=>okTo_nd (hokv x hx) (by decide)
 obtain⟨hx,hpl,hd1⟩:=at_drop hd
 have hat:=nd_at hx
 have hpi:(p:Int)<(v.length:Int):=by omega
 obtain⟨g1,g2,g3,g4,g5,g6⟩:=Fo.good_cons.1 hg
 have hkl:=flat_len hd1
 have hkc:=count_le_size k
 have k1:((n.kind:Int)==2)=false:=by rw[hk];rfl
 have k2:¬ n.kind=2:=by omega
 have ha16:=(mayN_attrs g1).1
 have hto:=rTold_fz n sp hk (hokv n (List.mem_of_getElem? hx)) (by omega)
 have hun:=rUnder_fz v hv hokl hd hg hd12
 have hTl:=Fo.tops_length k (p+1)
 generalize hTd:k.tops (p+1)=T at hun hTl
 have hres:(Fo.cons n k .nil).bare sp=toldU n sp::k.bare n.space:=by simp[Fo.bare,k2]
 rw[hres]
 clear hres
 generalize toldU n sp=X at hto ⊢
 have hr1:(k.bare n.space).length≤1000:=by
  have:=Fo.tell_flat n.space g5
  rw[← this,Fo.flat_length,Fo.tell_size]
  omega
 have hX1:[(.int .u8 X.kind),(.str X.space),(.str X.name),(.sl false 3 (X.attrs.map atC)),(.str X.text),(.int .i64 X.many)]=ndC X:=rfl
 have hpX:plainL (ndC X)=true:=by simp[ndC,plainL,V.plain,plain_at]
 obtain⟨Z,hZ⟩:∃ Z,Z=(X::k.bare n.space).map ndC:=⟨_,rfl⟩
 obtain⟨N,hN⟩:∃ N,N=(X::k.bare n.space).length:=⟨_,rfl⟩
 refine Ev.rows_fz (R:=Z) ?_ (by rw[hZ];exact leLL_refl _) (plain_nd _)
 rw[Lm,← hN]
 refine ev_go rfl (fun cargs w=>call54 cargs w) func54 rfl mixed (by kernel_rfl) rfl ?_;intro b0 hb0
 repeat' first|simp only[fins,mems,results54,ntmps54,wks,hat,ndC,hpl,hpi,k1,plain_nd,plain_at,plainL,V.plain,Bool.and_self,Lm,vcs,seval,tys]|exact rfl|refine call_off (v:=.any) ?_|(first|(refine call_fn ?_ (hto _) ?_)|(refine call_fn_g ?_ (fun _=>hto _) ?_)|(refine call_fn ?_ (hun _) ?_)|(refine call_fn_g ?_ (fun _=>hun _) ?_))|refine draw_end (by decide +kernel) ?_|((first|apply Ca|apply Cb)<;>intro hb)|refine Ai (by omega) ?_|(apply Ai<;>intro hb)
 (refine loop_can2 cxG (fun x:UnSt=>k.count-x.D.count) (fun x=>x.inv k p) (b0+16) (fun x=>[(0,.sl false 6 (v.map ndC)),(1,.int .i64 p),(7,.own b0 0 (X::x.D.bare n.space).length),(8,.sl false 1 (T.map noC)),(9,.int .i64 x.D.count)]) (fun x=>[(b0,⟨6,(X::x.D.bare n.space).map ndC⟩)]) ((UnSt.mk .nil k (p+1))) [some (b0+208)] ?_ ?_ ?_ ?_;rotate_left 1;(focus (show b0≤_;omega));(focus (refine⟨?_,?_⟩<;>(try simp only[cans,hX1,hpX,Bool.true_or,if_true,plain_nd,plain_no,plain_at,isRow_inst,leLL_same,Fo.bare,Fo.count,Lc,Lo,List.length_cons,List.length_nil,Lm,vcs,seval,tys,injs])<;>(try omega)));rotate_left 1)
 ·exact⟨rfl,rfl⟩
 ·rintro ⟨D,R,q⟩ ⟨hi1,hi2⟩
  simp only at hi1 hi2 ⊢
  obtain⟨L,hL⟩:∃ L,L=X::D.bare n.space:=⟨_,rfl⟩
  rw[← hL]
  have htk:(L.map ndC).take L.length=L.map ndC:=take_map_len _ _
  cases R with
  | nil =>
   rw[Fo.app_nil]at hi1
   subst hi1
   rw[← hL]at hZ hN
   have hLl:L.length≤1001:=by rw[hL];simp;omega
   have d1:decide ((D.count:Int)<(T.length:Int))=false:=decide_eq_false (by omega)
   have d2:decide (D.count<T.length)=false:=decide_eq_false (by omega)
   subst hZ;subst hN
   ((repeat' first|simp only[fins,mems,results54,ntmps54,wks,d1,d2,htk,plain_no,plain_nd,Lm,vcs,seval,tys]|exact rfl|refine call_off (v:=.any) ?_|refine draw_end (by decide +kernel) ?_|((first|apply Ca|apply Cb)<;>intro hb)|refine Ai (by omega) ?_|(apply Ai<;>intro hb));(all_goals (first|(refine Fin.auto (r:=?_) (l:=?_) ?_ ?_ ?_ ?_ ?_ ?_ ?_;rotate_left 1;(simp only[results54,ntmps54,envL_cons,envL_nil,memL_cons,memL_nil,d1,d2,htk,plain_no,plain_nd,Lm,vcs,seval,tys]);(exact rfl);rotate_left 1;(simp only[V.owns,ownsL,List.cons_append,List.nil_append]);(exact rfl);all_goals (try simp only[results54,ntmps54,envL_cons,envL_nil,memL_cons,memL_nil,d1,d2,htk,plain_no,plain_nd,Lm,ownx,vcs,seval,tys]);all_goals (try simp only[injs]))|skip)))
  | cons m c r =>
   have hi1':(D.app (.cons m c .nil)).app r=k:=by rw[Fo.app_assoc];exact hi1
   have hkc2:k.count=D.count+(r.count+1):=by rw[← hi1,Fo.app_count];rfl
   have hks2:k.size=D.size+(c.size+r.size+1):=by rw[← hi1,Fo.app_size];rfl
   have hdq:=part_drop hd1 hi1
   rw[← hi2]at hdq
   have hTq:=part_top hi1 p
   rw[hTd,← hi2]at hTq
   obtain⟨hat1,hil⟩:=noC_at hTq
   have hili:(D.count:Int)<(T.length:Int):=by omega
   have d1:decide ((D.count:Int)<(T.length:Int))=true:=decide_eq_true hili
   have d2:decide (D.count<T.length)=true:=decide_eq_true hil
   have w2:IntKind.i64.wrap ((D.count:Int)+1)=((D.count+1:Nat):Int):=wrap_in (by omega) (by omega)
   rw[← hi1]at ih
   have hrc:=(allF_app ih) q _ n.space hdq
   have hct:=Fo.app_count D (.cons m c .nil)
   simp only[Fo.count,Nat.zero_add]at hct
   have ra1:=Fo.bare_app D (.cons m c .nil) n.space
   have hra:=Fo.bare_app (D.app (.cons m c .nil)) r n.space
   rw[hi1',ra1]at hra
   have hkl2:=congrArg List.length hra
   simp only[List.length_append]at hkl2
   have hL2:X::(D.app (.cons m c .nil)).bare n.space=L++(Fo.cons m c .nil).bare n.space:=by rw[ra1,hL];rfl
   have hLl:L.length≤1001:=by rw[hL];simp;omega
   generalize (Fo.cons m c .nil).bare n.space=Y at hrc hkl2 hL2
   have hLX:L.map ndC++Y.map ndC=(L++Y).map ndC:=List.map_append.symm
   have hL2m:ndC X::((D.app (.cons m c .nil)).bare n.space).map ndC=(L++Y).map ndC:=by rw[← hL2];rfl
   have hL2l:((D.app (.cons m c .nil)).bare n.space).length+1=L.length+Y.length:=by have:=congrArg List.length hL2;simpa using this
   have hatn:(v.map ndC)[p]? = some [.int .u8 n.kind,.str n.space,.str n.name,.sl false 3 (n.attrs.map atC),.str n.text,.int .i64 n.many]:=hat
   repeat' first|simp only[fins,mems,results54,ntmps54,wks,d1,d2,htk,hatn,hat1,hil,hili,hpl,hpi,one_ndL,noC,plain_nd,plain_no,Lm,vcs,seval,tys]|exact rfl|refine call_off (v:=.any) ?_|(first|(refine call_fn ?_ (hrc _) ?_)|(refine call_fn_g ?_ (fun _=>hrc _) ?_))|refine draw_end (by decide +kernel) ?_|((first|apply Ca|apply Cb)<;>intro hb)|refine Ai (by omega) ?_|(apply Ai<;>intro hb)
   all_goals ((refine again_can2 cxG (UnSt.mk (D.app (.cons m c .nil)) r (q+1+c.size)) [some (b0+272)] ?_ ?_ ?_ ?_;rotate_left 2;(focus (show b0≤_;omega));(focus (refine⟨?_,?_⟩<;>(try simp only[cans,w2,hct,hLX,hL2m,hL2l,plain_nd,plain_no,isRow_inst,leLL_same,Lm,vcs,seval,tys,injs])<;>(try omega)))))
   all_goals (first|(show k.count-(D.app (.cons m c .nil)).count<k.count-D.count;omega)|(refine⟨hi1',?_⟩;simp only[Fo.app_size,Fo.size];omega)|skip)
theorem down_all (v:List Nd)(hv:v.length≤1000)(hok:∀ n∈v,n.okTo 1000000):∀(F:Fo) (d last:Nat),d≤12→F.good d last=true→AllF (DnOk v) F
 | .nil,_,_,_,_=>trivial
 | .cons n k r,d,last,hd,hg=>by
  obtain⟨h1,h2,h3,h4,h5,h6⟩:=Fo.good_cons.1 hg
  refine⟨?_,down_all v hv hok r d n.kind hd h6⟩
  by_cases hk:n.kind=2
  ·have:=Fo.text_leaf hg hk
   subst this
   exact down_text v n hk
  ·have hk1:n.kind=1:=by rcases mayN_kind h1 with e|e;exact e;exact absurd e hk
   exact down_elem v hv hok n k hk1 d hd (Fo.good_cons.2 ⟨h1,h2,by omega,h4,h5,rfl⟩) (down_all v hv hok k (d-1) 1 (by omega) h5)
theorem rTold11_ev (v:List Nd)(hv:v.length≤1000)(hok:∀ n∈v,n.okTo 1000000){n:Nd}{k:Fo}(hvv:v=n::k.flat)(hg:(Fo.cons n k .nil).good 12 0=true)(sp:List UInt8)(nm:Nat) :
  Ev cx 32 nm [.sl false 6 (v.map ndC),.str sp] Mem.nil (.sl false 6 (((Fo.cons n k .nil).bare sp).map ndC)) []:=by
 have hd:=(down_all v hv hok (.cons n k .nil) 12 0 (Nat.le_refl _) hg).1 0 [] sp (by rw[List.drop_zero,List.append_nil];exact hvv)
 simp only[Int.ofNat_zero]at hd
 have hpl:=plain_nd ((Fo.cons n k .nil).bare sp)
 refine ev_go rfl (fun cargs w=>call32 cargs w) func32 rfl mixed (by kernel_rfl) rfl ?_;intro b0 hb0
 (repeat' first|simp only[fins,mems,results32,ntmps32,wks,hpl,plain_nd,vcs,seval,tys]|exact rfl|refine call_off (v:=.any) ?_|(first|(refine call_fn ?_ (hd _) ?_)|(refine call_fn_g ?_ (fun _=>hd _) ?_))|((first|apply Ca|apply Cb)<;>intro hb)|refine Ai (by omega) ?_|(apply Ai<;>intro hb)|refine Fin.pure ?_ ?_ ?_|simp only[injs])
theorem rBare_ev (v:List Nd)(sp:List UInt8)(hv:v.length≤1000)(hok:∀ n∈v,n.okTo 1000000∧n.i64)(hs:sp.length≤lim)(nm:Nat) :
    Ev cx 9 nm [.sl false 6 (v.map ndC),.str sp] Mem.nil (treeV (bareU v sp).1 (bareU v sp).2) []:=by
  have hokl:∀ x∈v,x.okTo lim:=fun x hx=>okTo_nd (hok x hx).1 (by decide)
  have hm:=rMayU_ev v hv hokl
  have hc:=rCheck_ev sp hs
  unfold treeV
  by_cases h1:checkU v=0
  · rw [decide_eq_true h1]at hm
    by_cases h2:ptsErr sp=0
    · rw [h2]at hc
      cases c1:(sp==[104,116,116,112,58,47,47,119,119,119,46,119,51,46,111,114,103,47,88,77,76,47,49,57,57,56,47,110,97,109,101,115,112,97,99,101]) with
      | true =>
        have hg:givenU sp=true:=by unfold givenU xmlU;rw[c1];rfl
        have hb:bareU v sp=([],8):=by unfold bareU;rw[if_neg (by simp[h1]),if_pos (.inr hg)]
        rw[hb]
        simp only[Lo]
        refine ev_go rfl (fun cargs w=>call9 cargs w) func9 rfl mixed (by kernel_rfl) rfl ?_;intro b0 hb0
        (repeat' first|simp only[fins,mems,results9,ntmps9,wks,c1,strip_gdf,plain_nd,Bt,Bf,vcs,seval,tys]|exact rfl|refine call_off (v:=.any) ?_|(first|(refine call_fn ?_ (hm _) ?_)|(refine call_fn_g ?_ (fun _=>hm _) ?_)|(refine call_fn ?_ (hc _) ?_)|(refine call_fn_g ?_ (fun _=>hc _) ?_))|(refine call_off (v:=.any) ?_)|((first|apply Ca|apply Cb)<;>intro hb)|refine Ai (by omega) ?_|(apply Ai<;>intro hb)|refine Fin.pure ?_ ?_ ?_|simp only[injs])
      | false =>
        cases c2:(sp==[104,116,116,112,58,47,47,119,119,119,46,119,51,46,111,114,103,47,50,48,48,48,47,120,109,108,110,115,47]) with
        | true =>
          have hg:givenU sp=true:=by unfold givenU xmlU xmlnsU;rw[c1,c2];rfl
          have hb:bareU v sp=([],8):=by unfold bareU;rw[if_neg (by simp[h1]),if_pos (.inr hg)]
          rw[hb]
          simp only[Lo]
          refine ev_go rfl (fun cargs w=>call9 cargs w) func9 rfl mixed (by kernel_rfl) rfl ?_;intro b0 hb0
          (repeat' first|simp only[fins,mems,results9,ntmps9,wks,c1,c2,strip_gdf,plain_nd,Bt,Bf,vcs,seval,tys]|exact rfl|refine call_off (v:=.any) ?_|(first|(refine call_fn ?_ (hm _) ?_)|(refine call_fn_g ?_ (fun _=>hm _) ?_)|(refine call_fn ?_ (hc _) ?_)|(refine call_fn_g ?_ (fun _=>hc _) ?_))|(refine call_off (v:=.any) ?_)|((first|apply Ca|apply Cb)<;>intro hb)|refine Ai (by omega) ?_|(apply Ai<;>intro hb)|refine Fin.pure ?_ ?_ ?_|simp only[injs])
        | false =>
          have hg:givenU sp=false:=by unfold givenU xmlU xmlnsU;rw[c1,c2];rfl
          obtain⟨n,k,hk,hvv,hgd,hl⟩:=tree_ofB (checkU_ok h1).2
          have hf:foOf v = .cons n k .nil:=by rw[hvv];exact foOf_of hgd
          have hto:=rTold11_ev v hv (fun x hx=>(hok x hx).1) hvv hgd sp
          have hb:bareU v sp=if wideU ((Fo.cons n k .nil).bare sp)=true then ([],4) else ((Fo.cons n k .nil).bare sp,0):=by
            unfold bareU
            rw[if_neg (by simp[h1]),if_neg (by simp[h2,hg]),hf]
          rw[hb]
          clear hb
          have hTl:((Fo.cons n k .nil).bare sp).length≤1000:=by
            rw[← Fo.tell_flat sp hgd,Fo.flat_length,Fo.tell_size];simp only[Fo.size];omega
          have hpl:=plain_nd ((Fo.cons n k .nil).bare sp)
          generalize (Fo.cons n k .nil).bare sp=T at hto hTl hpl ⊢
          refine ev_go rfl (fun cargs w=>call9 cargs w) func9 rfl mixed (by kernel_rfl) rfl ?_;intro b0 hb0
          repeat' first|simp only[fins,mems,results9,ntmps9,wks,c1,c2,strip_gdf,plain_nd,hpl,Bt,Bf,vcs,seval,tys]|exact rfl|refine call_off (v:=.any) ?_|(first|(refine call_fn ?_ (hm _) ?_)|(refine call_fn_g ?_ (fun _=>hm _) ?_)|(refine call_fn ?_ (hc _) ?_)|(refine call_fn_g ?_ (fun _=>hc _) ?_)|(refine call_fn ?_ (hto _) ?_)|(refine call_fn_g ?_ (fun _=>hto _) ?_))|((first|apply Ca|apply Cb)<;>intro hb)|refine Ai (by omega) ?_|(apply Ai<;>intro hb)
          (refine loop_can2 cxG (fun x:Nat=>T.length-x) (fun x=>x≤T.length∧(T.take x).any (fun n=>decide (16<n.attrs.length))=false) (b0+16) (fun x=>[(6,.sl false 6 (T.map ndC)),(7,.int .i64 x)]) (fun x=>[]) (0) [] ?_ ?_ ?_ ?_;rotate_left 1;(focus (show b0≤_;omega));(focus (refine⟨?_,?_⟩<;>(try simp only[cans,hpl,plain_nd,Lm,vcs,seval,tys,injs])<;>(try omega)));rotate_left 1)
          · exact⟨Nat.zero_le _,rfl⟩
          · rintro i ⟨hi,hno⟩
            by_cases hlt:i<T.length
            · obtain⟨x,hx⟩:∃ x,T[i]? = some x:=⟨_,List.getElem?_eq_getElem hlt⟩
              have hat:=nd_at hx
              have hii:(i:Int)<(T.length:Int):=by omega
              have d1:decide ((i:Int)<(T.length:Int))=true:=decide_eq_true hii
              have d2:decide (i<T.length)=true:=decide_eq_true hlt
              have wi:IntKind.i64.wrap ((i:Int)+1)=((i+1:Nat):Int):=wrap_in (by omega) (by omega)
              by_cases hw:16<x.attrs.length
              · have e1:decide ((16:Int)<(x.attrs.length:Int))=true:=decide_eq_true (by omega)
                have e2:decide (16<x.attrs.length)=true:=decide_eq_true hw
                have hr:wideU T=true:=by unfold wideU;exact any_here12 hx e2
                rw[if_pos hr]
                simp only[Lo]
                (repeat' first|simp only[fins,mems,results9,ntmps9,wks,d1,d2,hat,ndC,hlt,hii,e1,e2,Lm,vcs,seval,tys]|exact rfl|refine call_off (v:=.any) ?_|((first|apply Ca|apply Cb)<;>intro hb)|refine Ai (by omega) ?_|(apply Ai<;>intro hb)|refine Fin.pure ?_ ?_ ?_|simp only[injs])
              · have e1:decide ((16:Int)<(x.attrs.length:Int))=false:=decide_eq_false (by omega)
                have e2:decide (16<x.attrs.length)=false:=decide_eq_false hw
                have hno':=any_snoc12 hx hno e2
                repeat' first|simp only[fins,mems,results9,ntmps9,wks,d1,d2,hat,ndC,hlt,hii,e1,e2,wi,Lm,vcs,seval,tys]|exact rfl|refine call_off (v:=.any) ?_|((first|apply Ca|apply Cb)<;>intro hb)|refine Ai (by omega) ?_|(apply Ai<;>intro hb)
                all_goals ((refine again_can2 cxG (i+1) [] ?_ ?_ ?_ ?_;rotate_left 2;(focus (show b0≤_;omega));(focus (refine⟨?_,?_⟩<;>(try simp only[cans,hpl,plain_nd,wi,Lm,vcs,seval,tys,injs])<;>(try omega)))))
                all_goals (first|(show T.length-(i+1)<T.length-i;omega)|exact⟨hlt,hno'⟩|skip)
            · have hie:i=T.length:=by omega
              subst hie
              have d1:decide ((T.length:Int)<(T.length:Int))=false:=decide_eq_false (by omega)
              have d2:decide (T.length<T.length)=false:=decide_eq_false (by omega)
              rw[List.take_length]at hno
              have hr:wideU T=false:=hno
              rw[hr]
              simp only[Bool.false_eq_true,if_false]
              (repeat' first|simp only[fins,mems,results9,ntmps9,wks,d1,d2,hpl,plain_nd,Lm,vcs,seval,tys]|exact rfl|refine call_off (v:=.any) ?_|((first|apply Ca|apply Cb)<;>intro hb)|refine Ai (by omega) ?_|(apply Ai<;>intro hb)|refine Fin.pure ?_ ?_ ?_|simp only[injs])
    · have hb:bareU v sp=([],8):=by unfold bareU;rw[if_neg (by simp[h1]),if_pos (.inl h2)]
      have q:(ptsErr sp != 0)=true:=by simpa using h2
      rw[hb]
      simp only[Lo]
      generalize ptsErr sp=E at hc q
      refine ev_go rfl (fun cargs w=>call9 cargs w) func9 rfl mixed (by kernel_rfl) rfl ?_;intro b0 hb0
      (repeat' first|simp only[fins,mems,results9,ntmps9,wks,q,strip_gdf,plain_nd,Bt,Bf,vcs,seval,tys]|exact rfl|refine call_off (v:=.any) ?_|(first|(refine call_fn ?_ (hm _) ?_)|(refine call_fn_g ?_ (fun _=>hm _) ?_)|(refine call_fn ?_ (hc _) ?_)|(refine call_fn_g ?_ (fun _=>hc _) ?_))|(refine call_off (v:=.any) ?_)|((first|apply Ca|apply Cb)<;>intro hb)|refine Ai (by omega) ?_|(apply Ai<;>intro hb)|refine Fin.pure ?_ ?_ ?_|simp only[injs])
  · rw [decide_eq_false h1]at hm
    have h8:checkU v=8:=by
      unfold checkU at h1 ⊢
      split
      · rfl
      · rename_i h;rw[if_neg h]at h1
        unfold checkB at h1 ⊢
        split
        · rfl
        · rename_i h2;rw[if_neg h2]at h1;exact absurd rfl h1
    have hb:bareU v sp=([],8):=by unfold bareU;rw[if_pos h1,h8]
    rw[hb]
    simp only[Lo]
    refine ev_go rfl (fun cargs w=>call9 cargs w) func9 rfl mixed (by kernel_rfl) rfl ?_;intro b0 hb0
    (repeat' first|simp only[fins,mems,results9,ntmps9,wks,strip_gdf,plain_nd,Bt,Bf,vcs,seval,tys]|exact rfl|refine call_off (v:=.any) ?_|(first|(refine call_fn ?_ (hm _) ?_)|(refine call_fn_g ?_ (fun _=>hm _) ?_))|(refine call_off (v:=.any) ?_)|((first|apply Ca|apply Cb)<;>intro hb)|refine Ai (by omega) ?_|(apply Ai<;>intro hb)|refine Fin.pure ?_ ?_ ?_|simp only[injs])
theorem rTwin_own (v:List Nd)(hv:v.length≤1000)(ha:∀ n∈v,n.attrs.length≤1000)(nm:Nat):Ev cx 5 nm [.sl false 6 (v.map ndC)] Mem.nil (.own nm 0 v.length) [(nm,some ⟨6,v.map ndC⟩)]:=by
 refine ev_go rfl (fun cargs w=>call5 cargs w) func5 rfl mixed (by kernel_rfl) rfl ?_;intro b0 hb0
 repeat' first|simp only[fins,mems,results5,ntmps5,wks,vcs,seval,tys]|exact rfl|refine call_off (v:=.any) ?_|((first|apply Ca|apply Cb)<;>intro hb)|refine Ai (by omega) ?_|(apply Ai<;>intro hb)
 (refine loop_can2F cxG (fun x:Nat=>v.length-x) (fun x=>x≤v.length) (b0+16) (fun x=>[(0,.sl false 6 (v.map ndC)),(3,.own b0 0 x),(4,.int .i64 x)]) (fun x=>[(b0,⟨6,(v.take x).map ndC⟩)]) (0) [none] ?_ ?_ ?_ ?_;rotate_left 1;(focus (show b0≤_;omega));(focus (refine⟨?_,?_⟩<;>(try simp only[cans,canfs,plain_nd,isRow_inst,List.take_zero,Lo,List.length_nil,Lm,vcs,seval,tys,injs])<;>(try omega)));rotate_left 1)
 ·exact Nat.zero_le _
 ·intro k hk
  by_cases hlt:k<v.length
  ·obtain⟨x,hx⟩:∃ x,v[k]? = some x:=⟨_,List.getElem?_eq_getElem hlt⟩
   have hat:=nd_at hx
   have hxa:=ha x (List.mem_of_getElem? hx)
   have d1:decide ((k:Int)<(v.length:Int))=true:=decide_eq_true (by omega)
   have d2:decide (k<v.length)=true:=decide_eq_true hlt
   have hki:(k:Int)<(v.length:Int):=by omega
   have hwk:IntKind.i64.wrap ((k:Int)+1)=((k+1:Nat):Int):=wrap_in (by omega) (by omega)
   have hkl:(v.take k).length=k:=by rw[List.length_take];omega
   have htk:((v.take k).map ndC).take k=(v.take k).map ndC:=List.take_of_length_le (by rw[Lm,hkl];omega)
   have hta:(x.attrs.map atC).take x.attrs.length=x.attrs.map atC:=take_map_len _ _
   have hsn:(v.take (k+1)).map ndC=(v.take k).map ndC++[ndC x]:=by
    obtain⟨h1,h2⟩:=List.getElem?_eq_some_iff.1 hx
    rw[List.take_succ_eq_append_getElem h1,h2];simp
   repeat' first|simp only[fins,mems,results5,ntmps5,wks,plain_nd,plain_at,hat,ndC,hlt,hki,d1,d2,hwk,htk,hkl,hta,one_atL,List.nil_append,List.length_nil,Nat.zero_add,Lm,vcs,seval,tys]|exact rfl|refine call_off (v:=.any) ?_|((first|apply Ca|apply Cb)<;>intro hb)|refine Ai (by omega) ?_|(apply Ai<;>intro hb)
   all_goals ((refine again_can2F cxG (k+1) [some (b0+320)] ?_ ?_ ?_ ?_;rotate_left 2;(focus (show b0≤_;omega));(focus (refine⟨?_,?_⟩<;>(try simp only[cans,canfs,hwk,hsn,htk,hkl,hta,ndC,isRow_inst,plain_nd,plain_at,finLL_append,finLL_plain _ _ (plain_nd _),finLLOk_append,finLLOk_plain _ _ (plain_nd _),leLL_snoc,leLL_same,List.length_append,List.length_cons,List.length_nil,Lm,vcs,seval,tys,injs])<;>(try omega)))))
   all_goals (first|(show v.length-(k+1)<v.length-k;omega)|exact hlt|skip)
  ·have hkm:k=v.length:=by omega
   subst hkm
   have d1:decide ((v.length:Int)<(v.length:Int))=false:=decide_eq_false (by omega)
   have d2:decide (v.length<v.length)=false:=decide_eq_false (by omega)
   ((repeat' first|simp only[fins,mems,results5,ntmps5,wks,d1,d2,plain_nd,List.take_length,Lm,vcs,seval,tys]|exact rfl|refine call_off (v:=.any) ?_|((first|apply Ca|apply Cb)<;>intro hb)|refine Ai (by omega) ?_|(apply Ai<;>intro hb));(all_goals (first|(refine Fin.auto (r:=?_) (l:=?_) ?_ ?_ ?_ ?_ ?_ ?_ ?_;rotate_left 1;(simp only[results5,ntmps5,envL_cons,envL_nil,memL_cons,memL_nil,d1,d2,plain_nd,List.take_length,Lm,vcs,seval,tys]);(exact rfl);rotate_left 1;(simp only[V.owns,ownsL,List.cons_append,List.nil_append]);(exact rfl);all_goals (try simp only[results5,ntmps5,envL_cons,envL_nil,memL_cons,memL_nil,d1,d2,plain_nd,List.take_length,Lm,ownx,vcs,seval,tys]);all_goals (try simp only[injs]))|skip)))
theorem rTwin_fz (v:List Nd)(hv:v.length≤1000)(ha:∀ n∈v,n.attrs.length≤1000)(nm:Nat):Ev cx 5 nm [.sl false 6 (v.map ndC)] Mem.nil (.sl false 6 (v.map ndC)) []:=by
 have hpl:=plain_nd v
 have htk:(v.map ndC).take v.length=v.map ndC:=take_map_len _ _
 refine Ev.freeze (rTwin_own v hv ha nm) ?_ ?_
 ·simp only[fins,mems,wks,hpl,htk,Lm,vcs,seval,tys]<;>omega
 ·simp only[fins,mems,wks,hpl,htk,Lm,vcs,seval,tys]
theorem atG (L:Nat)(_hL:True):L=0 ∨ ∃ cs,(cx.at L).G (L-1) = .rp cs:=by
 rcases Nat.eq_zero_or_pos L with h0|h0
 ·exact .inl h0
 refine .inr ⟨[],?_⟩
 show(if L-1+1=L then V.rp [] else V.any)=V.rp []
 rw[if_pos (by omega)]
theorem cyG (L:Nat):∀ g,((cx.at L).G g).plain=true:=Cx.at_plain cxG L
def ndE (L:Nat)(n:Nd):List V:=[.int .u8 n.kind,.str n.space,.str n.name,.ys L 3 (n.attrs.map atC),.str n.text,.int .i64 n.many]
def ndY (L:Nat)(n:Nd):List V:=if n.kind=2 then ndC n else ndE L n
theorem plain_ndE (L:Nat)(n:Nd):plainL (ndE L n)=true:=by
 simp only[ndE,plainL,V.plain,plain_at,Bool.and_self]
theorem plain_ndC (n:Nd):plainL (ndC n)=true:=by
 simp only[ndC,plainL,V.plain,plain_at,Bool.and_self]
theorem plain_ny (L:Nat)(l:List Nd):plainLL (l.map (ndY L))=true:=by
 rw[plainLL_all,List.all_eq_true]
 intro r hr
 obtain⟨n,_,rfl⟩:=List.mem_map.1 hr
 unfold ndY
 split
 ·exact plain_ndC n
 ·exact plain_ndE L n
theorem ny_text {n:Nd}(L:Nat)(h:n.kind=2):ndY L n=ndC n:=if_pos h
theorem ny_elem {n:Nd}(L:Nat)(h:n.kind≠2):ndY L n=ndE L n:=if_neg h
theorem ny_snoc {L:Nat}{r:List V}(l:List Nd)(n:Nd)(h:ndY L n=r):l.map (ndY L)++[r]=(l++[n]).map (ndY L):=by subst h;simp
theorem ny_le (L:Nat):∀ l:List Nd,leLL (l.map (ndY L)) (l.map ndC)
 | []=>trivial
 | n::l=>by
  refine⟨?_,ny_le L l⟩
  unfold ndY
  split
  ·exact leL_refl _
  ·simp only[ndE,ndC,leL_cons,leL_nil,le_int,le_str,le_ys_sl,and_self]
theorem tak_ny (L:Nat)(l:List Nd):(l.map (ndY L)).take l.length=l.map (ndY L):=take_map_len _ _
theorem spy_ev (L:Nat)(hL:True)(n:Nd)(K:KnT)(hn:n.okTo 1000000)(ha16:n.attrs.length≤1000)(q:Nat)(M:Mem)(nm:Nat)(hM:M q=some (mapK (knV K)))(ho:∀ z,(M z).isSome=true→z∈[q])(hlt:q<nm) :
  Ev (cx.at L) 21 nm [.agg (ndC n),.mp q] M (.tup [.agg (ndE L (namU K n).1),.bool (namU K n).2]) []:=by
 have h:=(named_own n K hn ha16 q M nm hM ho hlt).eff_eq (eff':=[(nm,some ⟨3,(namU K n).1.attrs.map atC⟩)]) (app_same hM _)
 have hMn:M nm=none:=by
  cases h:M nm with
  | none=>rfl
  | some k=>have:=ho nm (by rw[h];rfl);simp at this;omega
 have hpl:=plain_at (namU K n).1.attrs
 have htk:=tak_at (namU K n).1.attrs
 refine(h.at L).youngM (L:=L) (atG L hL) (fun x hx=>?_) (fun x hx k hk=>?_) ?_ ?_ ?_
 ·simp only[effNames,Lc,Lo,List.mem_singleton]at hx
  subst hx;exact hMn
 ·rw[List.mem_singleton]at hx;subst hx
  simp only[Option.some.injEq]at hk;subst hk
  exact⟨rfl,flatLL_map _ (fun _=>rfl) _⟩
 ·simp only[V.flatO,flatOL,effNames,Lc,Lo,List.mem_singleton,and_self]
  exact⟨⟨rfl,rfl,rfl,trivial,rfl,rfl,trivial⟩,rfl,trivial⟩
 ·simp only[fins,mems,wks,hpl,htk,Lm,vcs,seval,tys,Cx.at_P]<;>omega
 ·simp only[V.you,youL,fins,mems,wks,ndE,szOf,hpl,htk,Lm,vcs,seval,tys,Cx.at_P]
  exact⟨rfl,rfl,rfl⟩
theorem toldy_ev (L:Nat)(hL:True)(n:Nd)(sp:List UInt8)(hn:n.attrs.length≤16)(hl:∀ a∈n.attrs,a.name.length≤1000000)(nm:Nat):Ev (cx.at L) 28 nm [.agg (ndC n),.str sp] Mem.nil (.agg (ndE L (toldU n sp))) []:=by
 have hpl:=plain_at (toldU n sp).attrs
 have htk:=tak_at (toldU n sp).attrs
 refine((told_own n sp hn hl nm).at L).young (L:=L) (atG L hL) (fun x hx k hk=>?_) ?_ ?_
 ·rw[List.mem_singleton]at hx;subst hx
  simp only[Option.some.injEq]at hk;subst hk
  rfl
 ·simp only[fins,mems,wks,hpl,htk,Lm,vcs,seval,tys,Cx.at_P]<;>omega
 ·simp only[V.you,youL,fins,mems,wks,ndE,szOf,hpl,htk,Lm,vcs,seval,tys,Cx.at_P]
  repeat' first|exact rfl|apply Ai
section
variable {L:Nat} {Q:Post} {st:List Frm} {nm:Nat} {e:Env} {M:Mem} {d:Bool} {fs:List (List Nat)} {ops r:List Oper} {dst:Option Tmp} {t:TypeId} {pos:String} {af:Array Edge} {gd:Option (Nat×Bool)} {i:Nat}
theorem update_ky {m k x:Operand}(y:Nat)(K:KnT){p v:List UInt8}(hm:evalV (cx.at L).G true e m = .mp y)(hM:M y=some (mapK (knV K)))(hk:evalV (cx.at L).G true e k = .str p)(hx:evalV (cx.at L).G true e x = .agg [.str v])
  (h:goOps (cx.at L) Q st nm (e.putD dst .any) (M.app [(y,some (mapK (knV (putK p v K))))]) d (fs++[[y]]) ops r (i+1)):goExt (cx.at L) Q st nm e M d fs ops ⟨dst,.mapUpdate 45 m k x,t,pos,af,gd⟩ r i:=by
 refine ext_mapPut (cx:=cx.at L) hm hM hk hx knM (knK p) rfl rfl (find_kn p K) ?_
 rw[put_kn];exact h
end
def ResYk (L:Nat)(v:List Nd)(ob rb pb:Nat)(n:Nd)(k:Fo):Prop :=
  ∀(p:Nat) (K:KnT) (r:List Nd) (W:List Nd) (b:Bool) (lk mk:Nat) (M:Mem) (nm:Nat),v.drop p=n::(k.flat++r)→W.length+k.size+1≤600 →
    ob≠lk→rb≠lk→pb≠lk→mk≠lk→mk≠ob→mk≠rb→mk≠pb→M mk=some (mapK (knV K))→M rb=some ⟨1,[[.bool b]]⟩→M ob=some ⟨1,[[.own lk 0 W.length]]⟩→M lk=some ⟨6,W.map (ndY L)⟩→M pb=some ⟨1,[[rsC v ob rb pb]]⟩ →
    (∀ z,(M z).isSome=true→z∈[mk,rb,ob,lk,pb])→mk<nm→rb<nm→ob<nm→lk<nm→pb<nm →
    Ev (cx.at L) 17 nm [.int .i64 p,.mp mk,.rp [.sl false 6 (v.map ndC)],.ptr ob 0 0,.ptr rb 0 0,.ptr pb 0 0] M (.int .i64 ((p+1+k.size:Nat):Int))
      [(lk,none),(mk,some (mapK (knV K))),(rb,some ⟨1,[[.bool (b&&((Fo.cons n k .nil).res K).2)]]⟩),(ob,some ⟨1,[[.own nm 0 (W++((Fo.cons n k .nil).res K).1).length]]⟩),(pb,some ⟨1,[[rsC v ob rb pb]]⟩),(nm,some ⟨6,(W++((Fo.cons n k .nil).res K).1).map (ndY L)⟩)]
theorem resy_text (L:Nat)(hL:True)(v:List Nd)(hv:v.length≤512)(ob rb pb:Nat)(d1:ob≠pb)(d2:ob≠rb)(d3:rb≠pb)(n:Nd)(hk:n.kind=2):ResYk L v ob rb pb n .nil:=by
 intro p K r W b lk mk M nm hvd hW e1 e2 e3 e4 e5 e6 e7 hmk hrb hob hlk hpb ho l1 l2 l3 l4 l5
 obtain⟨hx,_,hp⟩:=drop_at hvd
 have hat:=nd_at hx
 have hpi:(p:Int)<(v.length:Int):=by omega
 have hkb:((n.kind:Int)==2)=true:=by rw[hk];rfl
 have hres:(Fo.cons n .nil .nil).res K=([n],true):=by simp[Fo.res,hk]
 have hw1:IntKind.i64.wrap ((p:Int)+1)=((p+1:Nat):Int):=wrap_in (by omega) (by omega)
 rw[hres]
 simp only[Fo.size,Nat.add_zero,Bool.and_true]at hW ⊢
 have hsn:=ny_snoc W n (ny_text L hk)
 unfold ndC at hsn
 have hll:(W++[n]).length=W.length+1:=by simp
 rw[hll]
 have G:=Ai (apart (show nm≠ob by omega)) (Ai (apart (show nm≠pb by omega)) (Ai (apart (show nm≠rb by omega)) (apart (show nm≠mk by omega))))
 unfold rsC at hpb ⊢
 have Z:=Ai (apart d1) (Ai (apart d2) (Ai (apart d3) (Ai (apart e1) (Ai (apart e2) (Ai (apart e3) (Ai (apart e4) (Ai (apart e5) (Ai (apart e6) (apart e7)))))))))
 refine ev_go rfl (fun cargs w=>call17 cargs w) func17 rfl mixed (by kernel_rfl) rfl ?_;intro b0 hb0
 have U:=Ai (under (below_of hb0 (by rw[hob];rfl))) (Ai (under (below_of hb0 (by rw[hlk];rfl))) (Ai (under (below_of hb0 (by rw[hpb];rfl))) (Ai (under (below_of hb0 (by rw[hrb];rfl))) (under (below_of hb0 (by rw[hmk];rfl))))))
 repeat' first|simp only[fins,mems,results17,ntmps17,wks,hat,ndC,hkb,hp,hpi,hob,hlk,hpb,hrb,hmk,hw1,hsn,tak_nd,tak_ny,plain_ny,plain_ny,plain_nd,plain_at,Z,U,Lm,vcs,seval,tys,Cx.at_P]|exact rfl|refine call_off (v:=.any) ?_|((first|apply Ca|apply Cb)<;>intro hb)|refine Ai (by omega) ?_|(apply Ai<;>intro hb)
 all_goals ((refine Fin.give [(mk,none),(rb,none),(ob,none),(pb,none),(b0+208,some 0)] [lk] ?_ ?_ ?_ ?_ ?_ (fun q hq=>by have hqq:=ho q hq;first|(simp only[gives,tgt,Lc,Lo,Lk,Ln,or_false]at hqq ⊢;omega)|(simp only[gives,tgt,Lc,Lo,Lk,Ln,or_false]at hqq))<;>(try simp only[results17,ntmps17,wks,hob,hlk,hpb,hrb,hmk,G,Z,U,plain_ny,plain_nd,ren_map,renOk_map,Bool.and_self,Bool.and_false,Bool.false_and,Lm,giv,vcs,seval,tys,Cx.at_P])<;>(try simp only[injs])<;>(try omega)))
theorem resy_elem (L:Nat)(hL:True)(v:List Nd)(hv:v.length≤512)(ob rb pb:Nat)(d1:ob≠pb)(d2:ob≠rb)(d3:rb≠pb)(n:Nd)(k:Fo)(hn:n.okTo 1000000)(ha16:n.attrs.length≤16)(hk:n.kind≠2)(hm:n.many=(k.count:Int))(ih:AllO (ResYk L v ob rb pb) k):ResYk L v ob rb pb n k:=by
 intro p K r W b lk mk M nm hvd hW e1 e2 e3 e4 e5 e6 e7 hmk hrb hob hlk hpb ho l1 l2 l3 l4 l5
 obtain⟨hx,hvd1,hp⟩:=drop_at hvd
 have hat:=nd_at hx
 have hpi:(p:Int)<(v.length:Int):=by omega
 have hkb:((n.kind:Int)==2)=false:=beq_false_of_ne (by omega)
 have hw1:IntKind.i64.wrap ((p:Int)+1)=((p+1:Nat):Int):=wrap_in (by omega) (by omega)
 have hrF:(b&&((Fo.cons n k .nil).res K).2)=(((knL K b n.attrs).2&&(namU (knL K b n.attrs).1 n).2)&&(k.res (knL K b n.attrs).1).2):=by rw[knL_b];simp[Fo.res,hk,Bool.and_assoc]
 have hrT:((Fo.cons n k .nil).res K).1=(namU (knL K b n.attrs).1 n).1::(k.res (knL K b n.attrs).1).1:=by rw[knL_b];simp[Fo.res,hk]
 rw[hrF,hrT]
 clear hrF hrT
 have hcs:=k.cnt_size
 have G:=Ai (apart (show nm≠ob by omega)) (Ai (apart (show nm≠pb by omega)) (Ai (apart (show nm≠rb by omega)) (apart (show nm≠mk by omega))))
 unfold rsC at hpb ⊢
 have Z:=Ai (apart d1) (Ai (apart d2) (Ai (apart d3) (Ai (apart e1) (Ai (apart e2) (Ai (apart e3) (Ai (apart e4) (Ai (apart e5) (Ai (apart e6) (apart e7)))))))))
 have hmc:=fun y K M nm h1 h2 h3=>(mclone2_ev y K M nm h1 h2 h3).at L
 refine ev_go rfl (fun cargs w=>call17 cargs w) func17 rfl mixed (by kernel_rfl) rfl ?_;intro b0 hb0
 have U:=Ai (under (below_of hb0 (by rw[hob];rfl))) (Ai (under (below_of hb0 (by rw[hlk];rfl))) (Ai (under (below_of hb0 (by rw[hpb];rfl))) (Ai (under (below_of hb0 (by rw[hrb];rfl))) (under (below_of hb0 (by rw[hmk];rfl))))))
 have k5:mk<b0:=below_of hb0 (by rw[hmk];rfl)
 have k1:ob<b0:=below_of hb0 (by rw[hob];rfl)
 have k2:rb<b0:=below_of hb0 (by rw[hrb];rfl)
 have k3:pb<b0:=below_of hb0 (by rw[hpb];rfl)
 have k4:lk<b0:=below_of hb0 (by rw[hlk];rfl)
 repeat' first|simp only[fins,mems,results17,ntmps17,wks,hat,ndC,hkb,hp,hpi,hob,hlk,hpb,hrb,hmk,tak_nd,tak_ny,plain_ny,plain_ny,plain_nd,plain_at,Z,U,fresh_self,Lm,vcs,seval,tys,Cx.at_P]|exact rfl|refine call_off (v:=.any) ?_|(refine call_fn_full ?_ [mk] (hmc _ K _ _ ?_ only_mem (by omega)) ?_ ?_)|((first|apply Ca|apply Cb)<;>intro hb)|refine Ai (by omega) ?_|(apply Ai<;>intro hb)
 (refine loop_can2 (cyG L) (fun x:Nat=>n.attrs.length-x) (fun x=>x≤n.attrs.length) (b0+16) (fun x=>[(0,.int .i64 p),(1,.mp (b0+1)),(3,.ptr ob 0 0),(4,.ptr rb 0 0),(5,.ptr pb 0 0),(9,.ptr b0 0 0),(33,.sl false 3 (n.attrs.map atC)),(34,.int .i64 n.attrs.length),(35,.int .i64 x)]) (fun x=>[(b0,⟨6,[ndC n]⟩),(b0+1,mapK (knV (knL K b (n.attrs.take x)).1)),(rb,⟨1,[[.bool (knL K b (n.attrs.take x)).2]]⟩),(ob,⟨1,[[.own lk 0 W.length]]⟩),(lk,⟨6,W.map (ndY L)⟩),(pb,⟨1,[[.fn 17 [.rp [.sl false 6 (v.map ndC)],.ptr ob 0 0,.ptr rb 0 0,.ptr pb 0 0]]]⟩),(mk,mapK (knV K))]) (0) [some (b0+80),some (b0+176),some rb,some ob,some lk,some pb,some mk] ?_ ?_ ?_ ?_;rotate_left 1;(focus (show b0≤_;omega));(focus (refine⟨?_,?_⟩<;>(try simp only[cans,ndC,hob,hlk,hpb,hrb,hmk,knL,List.foldl_nil,List.take_zero,plain_ny,plain_nd,plain_at,ren_map,renOk_map,isRow_inst,Z,U,Bool.and_self,Bool.and_false,Bool.false_and,Lm,vcs,seval,tys,Cx.at_P,injs])<;>(try omega)));rotate_left 1)
 ·exact Nat.zero_le _
 ·intro i hi
  by_cases hlt:i<n.attrs.length
  ·obtain⟨a,ha⟩:∃ a,n.attrs[i]? = some a:=⟨_,List.getElem?_eq_getElem hlt⟩
   have haa:=at_at ha
   have hok:=hn.2.2.2.2 a (List.mem_of_getElem? ha)
   have q1:decide ((i:Int)<(n.attrs.length:Int))=true:=decide_eq_true (by omega)
   have q2:decide (i<n.attrs.length)=true:=decide_eq_true hlt
   have hwk:IntKind.i64.wrap ((i:Int)+1)=((i+1:Nat):Int):=wrap_in (by omega) (by omega)
   have hst:=knL_take (K:=K) (r:=b) ha
   have hde:=fun nm=>(declares_ev a (by have:=hok.2.1;unfold lim;omega) nm).at L
   rw[declU_eq]at hde
   unfold atC at hde
   generalize hA:knL K b (n.attrs.take i)=acc at hst
   obtain⟨K2,b2⟩:=acc
   unfold knF at hst
   cases hd:declO a.name with
   | none =>
    rw[hd]at hst hde
    repeat' first|simp only[fins,mems,results17,ntmps17,wks,haa,atC,hlt,q1,q2,hwk,hA,Z,U,Option.isSome_none,plain_ny,plain_nd,plain_at,Lm,vcs,seval,tys,Cx.at_P]|exact rfl|refine call_off (v:=.any) ?_|(first|(refine call_fn ?_ (hde _) ?_)|(refine call_fn_g ?_ (fun _=>hde _) ?_))|((first|apply Ca|apply Cb)<;>intro hb)|refine Ai (by omega) ?_|(apply Ai<;>intro hb)
    all_goals ((refine again_can2 (cyG L) (i+1) [some b0,some (b0+1),some rb,some ob,some lk,some pb,some mk] ?_ ?_ ?_ ?_;rotate_left 2;(focus (show b0≤_;omega));(focus (refine⟨?_,?_⟩<;>(try simp only[cans,hst,hA,hwk,ndC,Z,U,plain_ny,plain_nd,plain_at,ren_map,renOk_map,isRow_inst,Bool.and_self,Bool.and_false,Bool.false_and,Lm,vcs,seval,tys,Cx.at_P,injs])<;>(try omega)))))
    all_goals (first|(show n.attrs.length-(i+1)<n.attrs.length-i;omega)|exact hlt|skip)
   | some pf =>
    rw[hd]at hst hde
    simp only at hst
    have hmy:=fun nm=>(mayU_ev pf a.value nm).at L
    generalize mayU pf a.value=my at hst hmy
    repeat' first|simp only[fins,mems,results17,ntmps17,wks,haa,atC,hlt,q1,q2,hwk,hA,Z,U,Option.isSome_some,Option.getD_some,plain_ny,plain_nd,plain_at,Lm,vcs,seval,tys,Cx.at_P]|exact rfl|refine call_off (v:=.any) ?_|(first|(refine call_fn ?_ (hde _) ?_)|(refine call_fn_g ?_ (fun _=>hde _) ?_)|(refine call_fn ?_ (hmy _) ?_)|(refine call_fn_g ?_ (fun _=>hmy _) ?_))|(refine update_ky (b0+1) K2 (p:=?_) (v:=?_) ?_ ?_ ?_ ?_ ?_;rotate_left 2;iterate 4 (focus (simp only[results17,ntmps17,wks,haa,atC,hlt,q1,q2,hwk,hA,Z,U,Option.isSome_some,Option.getD_some,plain_ny,plain_nd,plain_at,Lm,vcs,seval,tys,Cx.at_P]<;>exact rfl)))|((first|apply Ca|apply Cb)<;>intro hb)|refine Ai (by omega) ?_|(apply Ai<;>intro hb)
    all_goals ((refine again_can2 (cyG L) (i+1) [some b0,some (b0+1),some rb,some ob,some lk,some pb,some mk] ?_ ?_ ?_ ?_;rotate_left 2;(focus (show b0≤_;omega));(focus (refine⟨?_,?_⟩<;>(try simp only[cans,hst,hA,hwk,ndC,Z,U,plain_ny,plain_nd,plain_at,ren_map,renOk_map,isRow_inst,Bool.and_self,Bool.and_false,Bool.false_and,Lm,vcs,seval,tys,Cx.at_P,injs])<;>(try omega)))))
    all_goals (first|(show n.attrs.length-(i+1)<n.attrs.length-i;omega)|exact hlt|skip)
  ·have hie:i=n.attrs.length:=by omega
   subst hie
   have q1:decide ((n.attrs.length:Int)<(n.attrs.length:Int))=false:=decide_eq_false (by omega)
   have q2:decide (n.attrs.length<n.attrs.length)=false:=decide_eq_false (by omega)
   simp only[List.take_length]
   generalize knL K b n.attrs=KB
   obtain⟨K2,b1⟩:=KB
   have hnm:=fun (M':Mem) (m:Nat) h1 h2 h3=>spy_ev L hL n K2 hn (by omega) (b0+1) M' m h1 h2 h3
   have hk1:(namU K2 n).1.kind≠2:=hk
   generalize namU K2 n=N at hnm hk1 ⊢
   obtain⟨n1,b2⟩:=N
   dsimp only at hnm hk1 ⊢
   have hsn:=ny_snoc W n1 (ny_elem L hk1)
   have hll:(W++[n1]).length=W.length+1:=by simp
   unfold ndC ndE at hnm
   unfold ndE at hsn
   repeat' first|simp only[fins,mems,results17,ntmps17,wks,q1,q2,ndC,hw1,hm,hsn,tak_nd,tak_ny,plain_ny,plain_ny,plain_nd,plain_at,Z,U,Lm,vcs,seval,tys,Cx.at_P]|exact rfl|refine call_off (v:=.any) ?_|(refine call_fn_full ?_ [b0+1] (hnm _ _ ?_ only_mem (by omega)) ?_ ?_)|((first|apply Ca|apply Cb)<;>intro hb)|refine Ai (by omega) ?_|(apply Ai<;>intro hb)
   (refine loop_can2 (cyG L) (fun x:ReSt=>x.R.size) (fun x=>AllO (ResYk L v ob rb pb) x.R∧x.c+x.R.count=k.count∧(∃ r',v.drop x.q=x.R.flat++r')∧x.q+x.R.size=p+1+k.size∧x.L++(x.R.res K2).1=W++n1::(k.res K2).1∧x.L.length+x.R.size≤600∧(x.b&&(x.R.res K2).2)=((b1&&b2)&&(k.res K2).2)) (b0+16) (fun x=>[(1,.mp b0),(5,.ptr pb 0 0),(16,.int .i64 x.q),(75,.int .i64 k.count),(76,.int .i64 x.c)]) (fun x=>[(b0,mapK (knV K2)),(rb,⟨1,[[.bool x.b]]⟩),(ob,⟨1,[[.own (b0+1) 0 x.L.length]]⟩),(b0+1,⟨6,x.L.map (ndY L)⟩),(pb,⟨1,[[.fn 17 [.rp [.sl false 6 (v.map ndC)],.ptr ob 0 0,.ptr rb 0 0,.ptr pb 0 0]]]⟩),(mk,mapK (knV K))]) (⟨k,0,p+1,W++[n1],b1&&b2⟩) [some (b0+1),some rb,some ob,some (b0+288),some pb,some mk] ?_ ?_ ?_ ?_;rotate_left 1;(focus (show b0≤_;omega));(focus (refine⟨?_,?_⟩<;>(try simp only[cans,hll,ndC,plain_ny,plain_nd,plain_at,ren_map,renOk_map,isRow_inst,Z,U,Bool.and_self,Bool.and_false,Bool.false_and,Lm,vcs,seval,tys,Cx.at_P,injs])<;>(try omega)));rotate_left 1)
   ·exact⟨ih,Nat.zero_add _,⟨r,hvd1⟩,rfl,by simp,by simp only[hll];omega,rfl⟩
   ·rintro ⟨R,c,q,Lx,bx⟩ ⟨i1,i2,⟨r',i3⟩,i4,i5,i6,i7⟩
    dsimp only at i1 i2 i3 i4 i5 i6 i7 ⊢
    cases R with
    | nil =>
     simp only[Fo.size,Fo.count,Nat.add_zero]at i4 i2
     subst i4;subst i2
     simp only[Fo.res,List.append_nil,Bool.and_true]at i5 i7
     rw[← i5,← i7]
     have q1:decide ((k.count:Int)<(k.count:Int))=false:=decide_eq_false (by omega)
     have q2:decide (k.count<k.count)=false:=decide_eq_false (by omega)
     repeat' first|simp only[fins,mems,results17,ntmps17,wks,q1,q2,plain_ny,plain_nd,plain_at,Z,U,Lm,vcs,seval,tys,Cx.at_P]|exact rfl|refine call_off (v:=.any) ?_|((first|apply Ca|apply Cb)<;>intro hb)|refine Ai (by omega) ?_|(apply Ai<;>intro hb)
     all_goals ((refine Fin.give [(mk,none),(rb,none),(ob,none),(pb,none),(b0+1,some 0)] [lk] ?_ ?_ ?_ ?_ ?_ (fun q hq=>by have hqq:=ho q hq;first|(simp only[gives,tgt,Lc,Lo,Lk,Ln,or_false]at hqq ⊢;omega)|(simp only[gives,tgt,Lc,Lo,Lk,Ln,or_false]at hqq))<;>(try simp only[results17,ntmps17,wks,hob,hlk,hpb,hrb,hmk,G,Z,U,plain_ny,plain_nd,ren_map,renOk_map,Bool.and_self,Bool.and_false,Bool.false_and,Lm,giv,vcs,seval,tys,Cx.at_P])<;>(try simp only[injs])<;>(try omega)))
    | cons u2 j2 R2 =>
     obtain⟨hp2,hr2⟩:=i1
     have hd2:v.drop q=u2::(j2.flat++(R2.flat++r')):=by rw[i3];simp[Fo.flat]
     have hb2:((Fo.cons u2 j2 R2).res K2).1=((Fo.cons u2 j2 .nil).res K2).1++(R2.res K2).1:=by
      simp only[Fo.res]
      split<;>simp
     have hb3:((Fo.cons u2 j2 R2).res K2).2=(((Fo.cons u2 j2 .nil).res K2).2&&(R2.res K2).2):=by
      simp only[Fo.res]
      split<;>simp
     rw[hb2,← List.append_assoc]at i5
     rw[hb3,← Bool.and_assoc]at i7
     simp only[Fo.size,Fo.count]at i4 i2 i6
     have q1:decide ((c:Int)<(k.count:Int))=true:=decide_eq_true (by omega)
     have q2:decide (c<k.count)=true:=decide_eq_true (by omega)
     have hwc:IntKind.i64.wrap ((c:Int)+1)=((c+1:Nat):Int):=wrap_in (by omega) (by omega)
     have hcall:=fun (M':Mem) a0 a1 a2 a3 a4 a5 (m:Nat) l1 l2 l3 l4 l5=>hp2 q K2 (R2.flat++r') Lx bx (b0+1) b0 M' m hd2 (by omega) (by omega) (by omega) (by omega) (by omega) (by omega) (by omega) (by omega) a0 a1 a2 a3 a4 a5 l1 l2 l3 l4 l5
     unfold rsC at hcall
     have hd3:v.drop (q+1+j2.size)=R2.flat++r':=by
      have:=drop_more (v:=v) (p:=q) (a:=u2::j2.flat) (r:=R2.flat++r') (by rw[hd2];simp)
      rw[List.length_cons,Fo.flat_length]at this
      rw[show q+1+j2.size=q+(j2.size+1) by omega];exact this
     have hTl:(Lx++((Fo.cons u2 j2 .nil).res K2).1).length+R2.size≤600:=by
      have:=Fo.res_len (.cons u2 j2 .nil) K2
      simp only[Fo.size]at this
      rw[List.length_append];omega
     generalize hT:Lx++((Fo.cons u2 j2 .nil).res K2).1=T at hcall i5 hTl
     generalize hS:(bx&&((Fo.cons u2 j2 .nil).res K2).2)=S2 at hcall i7
     repeat' first|simp only[fins,mems,results17,ntmps17,wks,q1,q2,ndC,plain_ny,plain_nd,plain_at,fresh_self,ren_map,renOk_map,Z,U,Lm,vcs,seval,tys,Cx.at_P]|exact rfl|refine call_off (v:=.any) ?_|((refine call_full (caps:=?_) ?_ ?_ [b0,rb,ob,b0+1,pb] (hcall _ ?_ ?_ ?_ ?_ ?_ only_mem _ (by omega) (by omega) (by omega) (by omega) (by omega)) ?_ ?_);rotate_left 1)|((first|apply Ca|apply Cb)<;>intro hb)|refine Ai (by omega) ?_|(apply Ai<;>intro hb)
     all_goals ((refine again_can2 (cyG L) (ReSt.mk R2 (c+1) (q+1+j2.size) T S2) [some b0,some rb,some ob,some (b0+80),some pb,some mk] ?_ ?_ ?_ ?_;rotate_left 2;(focus (show b0≤_;omega));(focus (refine⟨?_,?_⟩<;>(try simp only[cans,hwc,ndC,Z,U,plain_ny,plain_nd,plain_at,ren_map,renOk_map,isRow_inst,Bool.and_self,Bool.and_false,Bool.false_and,Lm,vcs,seval,tys,Cx.at_P,injs])<;>(try omega)))))
     all_goals (first|(show R2.size<j2.size+R2.size+1;omega)|exact⟨hr2,by show c+1+R2.count=_;omega,⟨r',hd3⟩,by show q+1+j2.size+R2.size=_;omega,i5,hTl,i7⟩|skip)
theorem resy_all (L:Nat)(hL:True)(v:List Nd)(hv:v.length≤512)(hok:∀ n∈v,n.okTo 1000000∧n.i64)(ob rb pb:Nat)(d1:ob≠pb)(d2:ob≠rb)(d3:rb≠pb):∀(F:Fo) (d last:Nat),F.good d last=true→(∀ n∈F.flat,n∈v)→AllO (ResYk L v ob rb pb) F
 | .nil,_,_,_,_=>trivial
 | .cons n k r,d,last,h,hin=>by
  obtain⟨h1,h2,h3,h4,h5,h6⟩:=Fo.good_cons.1 h
  have hno:=hok n (hin n (by simp[Fo.flat]))
  refine⟨?_,resy_all L hL v hv hok ob rb pb d1 d2 d3 r d n.kind h6 (fun x hx=>hin x (by simp[Fo.flat,hx]))⟩
  by_cases hk:n.kind=2
  ·have:=Fo.text_leaf h hk
   subst this
   exact resy_text L hL v hv ob rb pb d1 d2 d3 n hk
  ·exact resy_elem L hL v hv ob rb pb d1 d2 d3 n k hno.1 (mayN_attrs h1).1 hk h2 (resy_all L hL v hv hok ob rb pb d1 d2 d3 k (d-1) 1 h5 (fun x hx=>hin x (by simp[Fo.flat,hx])))
def treeY (L:Nat)(l:List Nd)(e:Int):V:=.tup [.ys L 6 (l.map (ndY L)),.int .i64 e]
theorem resy_good (L:Nat)(hL:True)(n:Nd)(k:Fo)(hk1:n.kind=1)(hg:(Fo.cons n k .nil).good 12 0=true)(hl:k.size+1≤512)(hok:∀ x∈n::k.flat,x.okTo 1000000∧x.i64)(hs0:(n::k.flat).any spcNd=false)(r:V)(eff:List (Nat×Option Blk))(nm:Nat)
  (hr:(((Fo.cons n k .nil).res knZ).2=false∧r = .tup [.nils,.int .i64 110]∧eff=[])∨(((Fo.cons n k .nil).res knZ).2=true∧r = .tup [.own nm 0 ((Fo.cons n k .nil).res knZ).1.length,.int .i64 0]∧eff=[(nm,some ⟨6,((Fo.cons n k .nil).res knZ).1.map (ndY L)⟩)])) :
  Ev (cx.at L) 6 nm [.sl false 6 ((n::k.flat).map ndC)] Mem.nil r eff:=by
 have hlen:(n::k.flat).length≤512:=by simp[Fo.flat_length];omega
 have hokL:∀ x∈n::k.flat,x.okTo lim∧x.i64:=fun x hx=>⟨okTo_nd (hok x hx).1 (by decide),(hok x hx).2⟩
 have hc0:=checkT_ev (n::k.flat) (by unfold lim;omega) hokL
 rw[checkB_of hk1 hg hl]at hc0
 have hc:=fun nm=>(hc0 nm).at L
 clear hc0
 have hs1:=containsnd_ev (n::k.flat) 16 [] spcNd (fun n hn nm=>spaced_ev n (hokL n hn).1.1 nm) (by unfold lim;omega) rfl
 rw[hs0]at hs1
 have hs:=fun nm=>(hs1 nm).at L
 clear hs1
 have hbl:=Fo.res_len (.cons n k .nil) knZ
 simp only[Fo.size]at hbl
 have hcall:=fun (ob rb pb lk mk:Nat) (d1:ob≠pb) (d2:ob≠rb) (d3:rb≠pb) (M:Mem) (m:Nat) e1 e2 e3 e4 e5 e6 e7 a0 a1 a2 a3 a4 a5 l1 l2 l3 l4 l5=>(resy_all L hL (n::k.flat) hlen hok ob rb pb d1 d2 d3 (.cons n k .nil) 12 0 hg (fun x hx=>by simpa [Fo.flat] using hx)).1 0 knZ [] [] true lk mk M m (by simp) (by simp;omega) e1 e2 e3 e4 e5 e6 e7 a0 a1 a2 a3 a4 a5 l1 l2 l3 l4 l5
 simp only[List.nil_append,List.length_nil,Lo,Bool.true_and]at hcall
 unfold rsC at hcall
 generalize (Fo.cons n k .nil).res knZ=T at hcall hr hbl
 obtain⟨T,bT⟩:=T
 generalize n::k.flat=v at hc hs hcall ⊢
 dsimp only at hcall hr hbl
 have htt:(T.map (ndY L)).take T.length=T.map (ndY L):=take_map_len _ _
 refine ev_goW rfl (fun cargs w=>call6 cargs w) func6 rfl mixed (by kernel_rfl) rfl ?_;intro b0 hb0
 repeat' first|simp only[fins,mems,results6,ntmps6,wks,vcs,seval,tys,Cx.at_P]|exact rfl|refine call_off (v:=.any) ?_|((first|apply Ca|apply Cb)<;>intro hb)|refine Ai (by omega) ?_|(apply Ai<;>intro hb)
 (refine mid_can_on (cyG L) (b0+16) ([(1,.rp [.sl false 6 (v.map ndC)]),(2,.ptr b0 0 0)]) ([(b0,⟨1,[[.nils]]⟩)]) [some (b0+16)] ?_ ?_ ?_;(focus (show b0≤_;omega));(focus (refine⟨?_,?_⟩<;>(try simp only[cans,canfs,plain_ny,plain_nd,isRow_inst,leLL_same,vcs,seval,tys,Cx.at_P,injs])<;>(try omega))))
 repeat' first|simp only[fins,mems,results6,ntmps6,wks,plain_ny,plain_nd,vcs,seval,tys,Cx.at_P]|exact rfl|refine call_off (v:=.any) ?_|(first|(refine call_fn ?_ (hc _) ?_)|(refine call_fn_g ?_ (fun _=>hc _) ?_))|((first|apply Ca|apply Cb)<;>intro hb)|refine Ai (by omega) ?_|(apply Ai<;>intro hb)
 refine mid_skip ?_
 repeat' first|simp only[fins,mems,results6,ntmps6,wks,plain_ny,plain_nd,Bt,Bf,vcs,seval,tys,Cx.at_P]|exact rfl|refine call_off (v:=.any) ?_|(first|(refine call_fn ?_ (hs _) ?_)|(refine call_fn_g ?_ (fun _=>hs _) ?_))|((first|apply Ca|apply Cb)<;>intro hb)|refine Ai (by omega) ?_|(apply Ai<;>intro hb)
 refine mid_skip ?_
 repeat' first|simp only[fins,mems,results6,ntmps6,wks,plain_ny,plain_nd,vcs,seval,tys,Cx.at_P]|exact rfl|refine call_off (v:=.any) ?_|((first|apply Ca|apply Cb)<;>intro hb)|refine Ai (by omega) ?_|(apply Ai<;>intro hb)
 refine mid_skip ?_
 repeat' first|simp only[fins,mems,results6,ntmps6,wks,plain_ny,plain_nd,vcs,seval,tys,Cx.at_P]|exact rfl|refine call_off (v:=.any) ?_|((first|apply Ca|apply Cb)<;>intro hb)|refine Ai (by omega) ?_|(apply Ai<;>intro hb)
 refine mid_skip ?_
 repeat' first|simp only[fins,mems,results6,ntmps6,wks,plain_ny,plain_nd,vcs,seval,tys,Cx.at_P]|exact rfl|refine call_off (v:=.any) ?_|((first|apply Ca|apply Cb)<;>intro hb)|refine Ai (by omega) ?_|(apply Ai<;>intro hb)
 (refine mid_can (cyG L) (b0+16) ([(2,.ptr b0 0 0),(5,.ptr (b0+1) 0 0),(6,.ptr (b0+2) 0 0)]) ([(b0,⟨1,[[.own (b0+3) 0 0]]⟩),(b0+1,⟨1,[[.bool true]]⟩),(b0+2,⟨1,[[.fn 17 [.rp [.sl false 6 (v.map ndC)],.ptr b0 0 0,.ptr (b0+1) 0 0,.ptr (b0+2) 0 0]]]⟩),(b0+3,⟨6,[]⟩)]) [some b0,some (b0+128),some (b0+160),none] ?_ ?_ ?_;(focus (show b0≤_;omega));(focus (refine⟨?_,?_⟩<;>(try simp only[cans,plain_ny,plain_nd,isRow_inst,leLL_same,Bool.and_self,Bool.and_false,Bool.false_and,Lm,vcs,seval,tys,Cx.at_P,injs])<;>(try omega))))
 have hcl:=fun (M:Mem) (m:Nat) a0 a1 a2 a3 a4 a5 l1 l2 l3 l4 l5=>hcall b0 (b0+1) (b0+2) (b0+3) (b0+32) (by omega) (by omega) (by omega) M m (by omega) (by omega) (by omega) (by omega) (by omega) (by omega) (by omega) a0 a1 a2 a3 a4 a5 l1 l2 l3 l4 l5
 cases bT with
 | false =>
  have hre:r = .tup [.nils,.int .i64 110]∧eff=[]:=by
   rcases hr with ⟨_,h⟩|⟨h,_⟩
   ·exact h
   ·cases h
  obtain⟨rfl,rfl⟩:=hre
  repeat' first|simp only[fins,mems,results6,ntmps6,wks,knZF,htt,plain_ny,plain_nd,fresh_self,ren_map,renOk_map,Bf,Lm,vcs,seval,tys,Cx.at_P]|exact rfl|refine call_off (v:=.any) ?_|((refine call_full (caps:=?_) ?_ ?_ [b0+32,b0+1,b0,b0+3,b0+2] (hcl _ _ ?_ ?_ ?_ ?_ ?_ only_mem (by omega) (by omega) (by omega) (by omega) (by omega)) ?_ ?_);rotate_left 1)|(refine ext_makeMap ?_)|(refine extG_true ?_)|(refine extG_false ?_)|(refine ext_insert (y:=?_) (kv:=?_) (xv:=?_) (kvs:=?_) ?_ ?_ ?_ ?_ knM ?_ ?_ ?_ ?_ ?_;rotate_left 4;(iterate 4 (focus (simp only[results6,ntmps6,wks,knZF,htt,plain_ny,plain_nd,fresh_self,ren_map,renOk_map,Bf,Lm,vcs,seval,tys,Cx.at_P]<;>exact rfl)));(focus (kernel_rfl));(iterate 3 (focus (exact rfl))))|refine mid_skip ?_|((first|apply Ca|apply Cb)<;>intro hb)|refine Ai (by omega) ?_|(apply Ai<;>intro hb)
  all_goals ((refine Fin.pure ?_ ?_ ?_<;>simp only[wks,plain_ny,plain_nd,results6,ntmps6,vcs,seval,tys,Cx.at_P]))
 | true =>
  have hre:r = .tup [.own nm 0 T.length,.int .i64 0]∧eff=[(nm,some ⟨6,T.map (ndY L)⟩)]:=by
   rcases hr with ⟨h,_⟩|⟨_,h⟩
   ·cases h
   ·exact h
  obtain⟨rfl,rfl⟩:=hre
  repeat' first|simp only[fins,mems,results6,ntmps6,wks,knZF,htt,plain_ny,plain_nd,fresh_self,ren_map,renOk_map,Bt,Lm,vcs,seval,tys,Cx.at_P]|exact rfl|refine call_off (v:=.any) ?_|((refine call_full (caps:=?_) ?_ ?_ [b0+32,b0+1,b0,b0+3,b0+2] (hcl _ _ ?_ ?_ ?_ ?_ ?_ only_mem (by omega) (by omega) (by omega) (by omega) (by omega)) ?_ ?_);rotate_left 1)|(refine ext_makeMap ?_)|(refine extG_true ?_)|(refine extG_false ?_)|(refine ext_insert (y:=?_) (kv:=?_) (xv:=?_) (kvs:=?_) ?_ ?_ ?_ ?_ knM ?_ ?_ ?_ ?_ ?_;rotate_left 4;(iterate 4 (focus (simp only[results6,ntmps6,wks,knZF,htt,plain_ny,plain_nd,fresh_self,ren_map,renOk_map,Bt,Lm,vcs,seval,tys,Cx.at_P]<;>exact rfl)));(focus (kernel_rfl));(iterate 3 (focus (exact rfl))))|refine mid_skip ?_|((first|apply Ca|apply Cb)<;>intro hb)|refine Ai (by omega) ?_|(apply Ai<;>intro hb)
  all_goals ((refine Fin.give [(b0+128,some 0)] [] ?_ ?_ ?_ ?_ ?_ (fun q hq=>by have hqq:=nil_mem q hq;first|(simp only[gives,tgt,Lc,Lo,Lk,Ln,or_false]at hqq ⊢;omega)|(simp only[gives,tgt,Lc,Lo,Lk,Ln,or_false]at hqq))<;>(try simp only[results6,ntmps6,wks,plain_ny,plain_nd,Lm,giv,vcs,seval,tys,Cx.at_P])<;>(try simp only[injs])<;>(try omega)))
theorem resolveY_ev (L:Nat)(hL:True)(v:List Nd)(hv:v.length≤lim)(hok:∀ n∈v,n.okTo 1000000∧n.i64)(nm:Nat) :
  Ev (cx.at L) 6 nm [.sl false 6 (v.map ndC)] Mem.nil (treeY L (resolveU v).1 (resolveU v).2) []:=by
 by_cases hbad:checkB v≠0∨v.any spcNd=true
 ·have hb:resolveU v=([],8):=by
   unfold resolveU
   by_cases h1:checkB v≠0
   ·rw[if_pos h1]
   ·rw[if_neg h1,if_pos (hbad.resolve_left h1)]
  rw[hb]
  refine Ev.res_le ((res_bad v hv (fun x hx=>⟨okTo_nd (hok x hx).1 (by decide),(hok x hx).2⟩) hbad nm).at L) ?_
  unfold treeY
  simp only[le_tup,leL_cons,leL_nil,le_nils_ys,le_int,Lo,and_self]
 ·have h1:checkB v=0:=Decidable.not_not.1 fun h=>hbad (.inl h)
  have h2:v.any spcNd=false:=by
   cases h:v.any spcNd with
   | false=>rfl
   | true=>exact absurd (.inr h) hbad
  obtain⟨n,k,hk,rfl,hg,hl⟩:=tree_ofB h1
  have hb:resolveU (n::k.flat)=if ((Fo.cons n k .nil).res knZ).2=true then (((Fo.cons n k .nil).res knZ).1,0) else ([],110):=by
   unfold resolveU
   rw[if_neg (by simpa using h1),if_neg (by rw[h2];decide),foOf_of hg]
  rw[hb]
  have hgood:=resy_good L hL n k hk hg hl hok h2
  generalize (Fo.cons n k .nil).res knZ=T at hgood ⊢
  obtain⟨T,bT⟩:=T
  dsimp only at hgood ⊢
  cases bT with
  | false =>
   rw[if_neg (by decide)]
   refine Ev.res_le (hgood _ _ nm (.inl ⟨rfl,rfl,rfl⟩)) ?_
   unfold treeY
   simp only[le_tup,leL_cons,leL_nil,le_nils_ys,le_int,Lo,and_self]
  | true =>
   rw[if_pos rfl]
   have hpl:=plain_ny L T
   have htk:(T.map (ndY L)).take T.length=T.map (ndY L):=take_map_len _ _
   refine Ev.young (hgood _ _ nm (.inr ⟨rfl,rfl,rfl⟩)) (L:=L) (atG L hL) (fun x hx k hk=>?_) ?_ ?_
   ·rw[List.mem_singleton]at hx;subst hx
    simp only[Option.some.injEq]at hk;subst hk
    rfl
   ·simp only[fins,mems,wks,hpl,htk,Lm,vcs,seval,tys,Cx.at_P]<;>omega
   ·unfold treeY
    simp only[V.you,youL,szOf,fins,mems,wks,hpl,htk,Lm,vcs,seval,tys,Cx.at_P]
def BareYk (L:Nat)(v:List Nd)(ob pb:Nat)(n:Nd)(k:Fo):Prop :=
  ∀(p:Nat) (sp:List UInt8) (r:List Nd) (W:List Nd) (lk:Nat) (M:Mem) (nm:Nat),v.drop p=n::(k.flat++r)→W.length+k.size+1≤600 →
    ob≠lk→pb≠lk→M ob=some ⟨1,[[.own lk 0 W.length]]⟩→M lk=some ⟨6,W.map (ndY L)⟩→M pb=some ⟨1,[[bkC v ob pb]]⟩→(∀ z,(M z).isSome=true→z∈[ob,lk,pb])→ob<nm→lk<nm→pb<nm →
    Ev (cx.at L) 27 nm [.int .i64 p,.str sp,.rp [.sl false 6 (v.map ndC)],.ptr ob 0 0,.ptr pb 0 0] M (.int .i64 ((p+1+k.size:Nat):Int))
      [(lk,none),(ob,some ⟨1,[[.own nm 0 (W++(Fo.cons n k .nil).bare sp).length]]⟩),(pb,some ⟨1,[[bkC v ob pb]]⟩),(nm,some ⟨6,(W++(Fo.cons n k .nil).bare sp).map (ndY L)⟩)]
theorem barey_text (L:Nat)(hL:True)(v:List Nd)(hv:v.length≤512)(ob pb:Nat)(d1:ob≠pb)(n:Nd)(hk:n.kind=2):BareYk L v ob pb n .nil:=by
 intro p sp r W lk M nm hvd hW e1 e2 hob hlk hpb ho l1 l2 l3
 obtain⟨hx,_,hp⟩:=drop_at hvd
 have hat:=nd_at hx
 have hpi:(p:Int)<(v.length:Int):=by omega
 have hkb:((n.kind:Int)==2)=true:=by rw[hk];rfl
 have hres:(Fo.cons n .nil .nil).bare sp=[n]:=by simp[Fo.bare,hk]
 have hw1:IntKind.i64.wrap ((p:Int)+1)=((p+1:Nat):Int):=wrap_in (by omega) (by omega)
 rw[hres]
 simp only[Fo.size,Nat.add_zero]at hW ⊢
 have hsn:=ny_snoc W n (ny_text L hk)
 unfold ndC at hsn
 have hll:(W++[n]).length=W.length+1:=by simp
 rw[hll]
 have g1:(nm=ob)=False:=eq_false (by omega);have g2:(nm=pb)=False:=eq_false (by omega)
 unfold bkC at hpb ⊢
 have n1:=eq_false d1;have n2:=eq_false e1;have n3:=eq_false e2;have n4:=eq_false (Ne.symm d1);have n5:=eq_false (Ne.symm e1);have n6:=eq_false (Ne.symm e2)
 refine ev_go rfl (fun cargs w=>call27 cargs w) func27 rfl mixed (by kernel_rfl) rfl ?_;intro b0 hb0
 have k1:ob<b0:=below_of hb0 (by rw[hob];rfl)
 have k2:lk<b0:=below_of hb0 (by rw[hlk];rfl)
 have k3:pb<b0:=below_of hb0 (by rw[hpb];rfl)
 have z0:=lt_ne k1;have z1:=lt_ne_add k1;have z2:=lt_ne' k1;have z3:=lt_ne_add' k1
 have y0:=lt_ne k2;have y1:=lt_ne_add k2;have y2:=lt_ne' k2;have y3:=lt_ne_add' k2
 have x0:=lt_ne k3;have x1:=lt_ne_add k3;have x2:=lt_ne' k3;have x3:=lt_ne_add' k3
 repeat' first|simp only[fins,mems,results27,ntmps27,wks,hat,ndC,hkb,hp,hpi,hob,hlk,hpb,hw1,hsn,tak_nd,tak_ny,plain_ny,plain_nd,plain_at,n1,n2,n3,n4,n5,n6,z0,z1,z2,z3,y0,y1,y2,y3,x0,x1,x2,x3,Lm,vcs,seval,tys,Cx.at_P]|exact rfl|refine call_off (v:=.any) ?_|refine draw_at' (ps:=[(0,3),(0,4)]) (by decide +kernel) (by simp only[List.forall_mem_cons,List.getD_cons_zero,List.getD_cons_succ,results27,ntmps27,wks,hat,ndC,hkb,hp,hpi,hob,hlk,hpb,hw1,hsn,tak_nd,tak_ny,plain_ny,plain_nd,plain_at,n1,n2,n3,n4,n5,n6,z0,z1,z2,z3,y0,y1,y2,y3,x0,x1,x2,x3,Lm,vcs,seval,tys,Cx.at_P]<;>(try simp)<;>(try omega)) ?_|refine draw_at (by decide +kernel) ?_|((first|apply Ca|apply Cb)<;>intro hb)|refine Ai (by omega) ?_|(apply Ai<;>intro hb)
 all_goals ((refine Fin.give [(ob,none),(pb,none),(b0+208,some 0)] [lk] ?_ ?_ ?_ ?_ ?_ (fun q hq=>by have hqq:=ho q hq;first|(simp only[gives,tgt,Lc,Lo,Lk,Ln,or_false]at hqq ⊢;omega)|(simp only[gives,tgt,Lc,Lo,Lk,Ln,or_false]at hqq))<;>(try simp only[results27,ntmps27,wks,hob,hlk,hpb,g1,g2,plain_ny,plain_nd,n1,n2,n3,n4,n5,n6,z0,z1,z2,z3,y0,y1,y2,y3,x0,x1,x2,x3,Bool.and_self,Bool.and_false,Bool.false_and,Lm,giv,vcs,seval,tys,Cx.at_P])<;>(try simp only[injs])<;>(try omega)))
theorem barey_elem (L:Nat)(hL:True)(v:List Nd)(hv:v.length≤512)(ob pb:Nat)(d1:ob≠pb)(n:Nd)(k:Fo)(hn:n.okTo 1000000)(ha16:n.attrs.length≤16)(hk:n.kind≠2)(hm:n.many=(k.count:Int))(ih:AllO (BareYk L v ob pb) k):BareYk L v ob pb n k:=by
 intro p sp r W lk M nm hvd hW e1 e2 hob hlk hpb ho l1 l2 l3
 obtain⟨hx,hvd1,hp⟩:=drop_at hvd
 have hat:=nd_at hx
 have hpi:(p:Int)<(v.length:Int):=by omega
 have hkb:((n.kind:Int)==2)=false:=beq_false_of_ne (by omega)
 have hres:(Fo.cons n k .nil).bare sp=toldU n sp::k.bare n.space:=by simp[Fo.bare,hk]
 have hw1:IntKind.i64.wrap ((p:Int)+1)=((p+1:Nat):Int):=wrap_in (by omega) (by omega)
 have htd:=fun nm=>toldy_ev L hL n sp ha16 (fun a ha=>(hn.2.2.2.2 a ha).2.1) nm
 rw[hres]
 have hkt:(toldU n sp).kind≠2:=hk
 have hsn:=ny_snoc W (toldU n sp) (ny_elem L hkt)
 unfold ndE at hsn
 have hll:(W++[toldU n sp]).length=W.length+1:=by simp
 unfold bkC at hpb ⊢
 have n1:=eq_false d1;have n2:=eq_false e1;have n3:=eq_false e2;have n4:=eq_false (Ne.symm d1);have n5:=eq_false (Ne.symm e1);have n6:=eq_false (Ne.symm e2)
 unfold ndC ndE at htd
 refine ev_go rfl (fun cargs w=>call27 cargs w) func27 rfl mixed (by kernel_rfl) rfl ?_;intro b0 hb0
 have k1:ob<b0:=below_of hb0 (by rw[hob];rfl)
 have k2:lk<b0:=below_of hb0 (by rw[hlk];rfl)
 have k3:pb<b0:=below_of hb0 (by rw[hpb];rfl)
 have z0:=lt_ne k1;have z1:=lt_ne_add k1;have z2:=lt_ne' k1;have z3:=lt_ne_add' k1
 have y0:=lt_ne k2;have y1:=lt_ne_add k2;have y2:=lt_ne' k2;have y3:=lt_ne_add' k2
 have x0:=lt_ne k3;have x1:=lt_ne_add k3;have x2:=lt_ne' k3;have x3:=lt_ne_add' k3
 repeat' first|simp only[fins,mems,results27,ntmps27,wks,hat,ndC,hkb,hp,hpi,hob,hlk,hpb,hw1,hsn,tak_nd,tak_ny,plain_ny,plain_nd,plain_at,n1,n2,n3,n4,n5,n6,z0,z1,z2,z3,y0,y1,y2,y3,x0,x1,x2,x3,Lm,vcs,seval,tys,Cx.at_P]|exact rfl|refine call_off (v:=.any) ?_|(first|(refine call_fn ?_ (htd _) ?_)|(refine call_fn_g ?_ (fun _=>htd _) ?_))|refine draw_at' (ps:=[(0,3),(0,4)]) (by decide +kernel) (by simp only[List.forall_mem_cons,List.getD_cons_zero,List.getD_cons_succ,results27,ntmps27,wks,hat,ndC,hkb,hp,hpi,hob,hlk,hpb,hw1,hsn,tak_nd,tak_ny,plain_ny,plain_nd,plain_at,n1,n2,n3,n4,n5,n6,z0,z1,z2,z3,y0,y1,y2,y3,x0,x1,x2,x3,Lm,vcs,seval,tys,Cx.at_P]<;>(try simp)<;>(try omega)) ?_|refine draw_at (by decide +kernel) ?_|((first|apply Ca|apply Cb)<;>intro hb)|refine Ai (by omega) ?_|(apply Ai<;>intro hb)
 have g1:(nm=ob)=False:=eq_false (by omega);have g2:(nm=pb)=False:=eq_false (by omega)
 (refine loop_can2 (cyG L) (fun x:BrSt=>x.R.size) (fun x=>AllO (BareYk L v ob pb) x.R∧x.c+x.R.count=k.count∧(∃ r',v.drop x.q=x.R.flat++r')∧x.q+x.R.size=p+1+k.size∧x.L++x.R.bare n.space=W++toldU n sp::k.bare n.space∧x.L.length+x.R.size≤600) (b0+16) (fun x=>[(4,.ptr pb 0 0),(8,.ptr b0 0 0),(9,.int .i64 x.q),(32,.int .i64 k.count),(33,.int .i64 x.c)]) (fun x=>[(b0,⟨6,[ndC n]⟩),(ob,⟨1,[[.own (b0+1) 0 x.L.length]]⟩),(b0+1,⟨6,x.L.map (ndY L)⟩),(pb,⟨1,[[.fn 27 [.rp [.sl false 6 (v.map ndC)],.ptr ob 0 0,.ptr pb 0 0]]]⟩)]) (⟨k,0,p+1,W++[toldU n sp]⟩) [some (b0+80),some ob,some (b0+240),some pb] ?_ ?_ ?_ ?_;rotate_left 1;(focus (show b0≤_;omega));(focus (refine⟨?_,?_⟩<;>(try simp only[cans,hll,hm,ndC,hob,hlk,hpb,plain_ny,plain_nd,plain_at,isRow_inst,n1,n2,n3,n4,n5,n6,z0,z1,z2,z3,y0,y1,y2,y3,x0,x1,x2,x3,Bool.and_self,Bool.and_false,Bool.false_and,Lm,vcs,seval,tys,Cx.at_P,injs])<;>(try omega)));rotate_left 1)
 ·exact⟨ih,Nat.zero_add _,⟨r,hvd1⟩,rfl,by simp,by simp only[hll];omega⟩
 ·rintro ⟨R,c,q,Lx⟩ ⟨i1,i2,⟨r',i3⟩,i4,i5,i6⟩
  dsimp only at i1 i2 i3 i4 i5 i6 ⊢
  cases R with
  | nil =>
   simp only[Fo.size,Fo.count,Nat.add_zero]at i4 i2
   subst i4;subst i2
   simp only[Fo.bare,List.append_nil]at i5
   rw[← i5]
   have q1:decide ((k.count:Int)<(k.count:Int))=false:=decide_eq_false (by omega)
   have q2:decide (k.count<k.count)=false:=decide_eq_false (by omega)
   repeat' first|simp only[fins,mems,results27,ntmps27,wks,q1,q2,plain_ny,plain_nd,plain_at,n1,n2,n3,n4,n5,n6,z0,z1,z2,z3,y0,y1,y2,y3,x0,x1,x2,x3,Lm,vcs,seval,tys,Cx.at_P]|exact rfl|refine call_off (v:=.any) ?_|refine draw_at' (ps:=[(0,3),(0,4)]) (by decide +kernel) (by simp only[List.forall_mem_cons,List.getD_cons_zero,List.getD_cons_succ,results27,ntmps27,wks,q1,q2,plain_ny,plain_nd,plain_at,n1,n2,n3,n4,n5,n6,z0,z1,z2,z3,y0,y1,y2,y3,x0,x1,x2,x3,Lm,vcs,seval,tys,Cx.at_P]<;>(try simp)<;>(try omega)) ?_|refine draw_at (by decide +kernel) ?_|((first|apply Ca|apply Cb)<;>intro hb)|refine Ai (by omega) ?_|(apply Ai<;>intro hb)
   all_goals ((refine Fin.give [(ob,none),(pb,none),(b0+1,some 0)] [lk] ?_ ?_ ?_ ?_ ?_ (fun q hq=>by have hqq:=ho q hq;first|(simp only[gives,tgt,Lc,Lo,Lk,Ln,or_false]at hqq ⊢;omega)|(simp only[gives,tgt,Lc,Lo,Lk,Ln,or_false]at hqq))<;>(try simp only[results27,ntmps27,wks,hob,hlk,hpb,g1,g2,plain_ny,plain_nd,n1,n2,n3,n4,n5,n6,z0,z1,z2,z3,y0,y1,y2,y3,x0,x1,x2,x3,Bool.and_self,Bool.and_false,Bool.false_and,Lm,giv,vcs,seval,tys,Cx.at_P])<;>(try simp only[injs])<;>(try omega)))
  | cons u2 j2 R2 =>
   obtain⟨hp2,hr2⟩:=i1
   have hd2:v.drop q=u2::(j2.flat++(R2.flat++r')):=by rw[i3];simp[Fo.flat]
   have hb2:(Fo.cons u2 j2 R2).bare n.space=(Fo.cons u2 j2 .nil).bare n.space++R2.bare n.space:=by simp[Fo.bare]
   rw[hb2,← List.append_assoc]at i5
   simp only[Fo.size,Fo.count]at i4 i2 i6
   have q1:decide ((c:Int)<(k.count:Int))=true:=decide_eq_true (by omega)
   have q2:decide (c<k.count)=true:=decide_eq_true (by omega)
   have hcs:=k.cnt_size
   have hwc:IntKind.i64.wrap ((c:Int)+1)=((c+1:Nat):Int):=wrap_in (by omega) (by omega)
   have hcall:=fun (M':Mem) a1 a2 a3 a4 (m:Nat) l1 l2 l3=>hp2 q n.space (R2.flat++r') Lx (b0+1) M' m hd2 (by omega) (by omega) (by omega) a1 a2 a3 a4 l1 l2 l3
   unfold bkC at hcall
   have hd3:v.drop (q+1+j2.size)=R2.flat++r':=by
    have:=drop_more (v:=v) (p:=q) (a:=u2::j2.flat) (r:=R2.flat++r') (by rw[hd2];simp)
    rw[List.length_cons,Fo.flat_length]at this
    rw[show q+1+j2.size=q+(j2.size+1) by omega];exact this
   have hTl:(Lx++(Fo.cons u2 j2 .nil).bare n.space).length+R2.size≤600:=by
    have:=Fo.bare_len (.cons u2 j2 .nil) n.space
    simp only[Fo.size]at this
    rw[List.length_append];omega
   generalize hT:Lx++(Fo.cons u2 j2 .nil).bare n.space=T at hcall i5 hTl
   repeat' first|simp only[fins,mems,results27,ntmps27,wks,q1,q2,ndC,plain_ny,plain_nd,plain_at,fresh_self,n1,n2,n3,n4,n5,n6,z0,z1,z2,z3,y0,y1,y2,y3,x0,x1,x2,x3,Lm,vcs,seval,tys,Cx.at_P]|exact rfl|refine call_off (v:=.any) ?_|((refine call_full (caps:=?_) ?_ ?_ [ob,b0+1,pb] (hcall _ ?_ ?_ ?_ only_mem _ (by omega) (by omega) (by omega)) ?_ ?_);rotate_left 1)|refine draw_at' (ps:=[(0,3),(0,4)]) (by decide +kernel) (by simp only[List.forall_mem_cons,List.getD_cons_zero,List.getD_cons_succ,results27,ntmps27,wks,q1,q2,ndC,plain_ny,plain_nd,plain_at,fresh_self,n1,n2,n3,n4,n5,n6,z0,z1,z2,z3,y0,y1,y2,y3,x0,x1,x2,x3,Lm,vcs,seval,tys,Cx.at_P]<;>(try simp)<;>(try omega)) ?_|refine draw_at (by decide +kernel) ?_|((first|apply Ca|apply Cb)<;>intro hb)|refine Ai (by omega) ?_|(apply Ai<;>intro hb)
   all_goals ((refine again_can2 (cyG L) (BrSt.mk R2 (c+1) (q+1+j2.size) T) [some b0,some ob,some (b0+96),some pb] ?_ ?_ ?_ ?_;rotate_left 2;(focus (show b0≤_;omega));(focus (refine⟨?_,?_⟩<;>(try simp only[cans,hwc,ndC,plain_ny,plain_nd,plain_at,n1,n2,n3,n4,n5,n6,z0,z1,z2,z3,y0,y1,y2,y3,x0,x1,x2,x3,Bool.and_self,Bool.and_false,Bool.false_and,Lm,vcs,seval,tys,Cx.at_P,injs])<;>(try omega)))))
   all_goals (first|(show R2.size<j2.size+R2.size+1;omega)|exact⟨hr2,by show c+1+R2.count=_;omega,⟨r',hd3⟩,by show q+1+j2.size+R2.size=_;omega,i5,hTl⟩|skip)
theorem barey_all (L:Nat)(hL:True)(v:List Nd)(hv:v.length≤512)(hok:∀ n∈v,n.okTo 1000000∧n.i64)(ob pb:Nat)(d1:ob≠pb):∀(F:Fo) (d last:Nat),F.good d last=true→(∀ n∈F.flat,n∈v)→AllO (BareYk L v ob pb) F
 | .nil,_,_,_,_=>trivial
 | .cons n k r,d,last,h,hin=>by
  obtain⟨h1,h2,h3,h4,h5,h6⟩:=Fo.good_cons.1 h
  have hno:=hok n (hin n (by simp[Fo.flat]))
  refine⟨?_,barey_all L hL v hv hok ob pb d1 r d n.kind h6 (fun x hx=>hin x (by simp[Fo.flat,hx]))⟩
  by_cases hk:n.kind=2
  ·have:=Fo.text_leaf h hk
   subst this
   exact barey_text L hL v hv ob pb d1 n hk
  ·exact barey_elem L hL v hv ob pb d1 n k hno.1 (mayN_attrs h1).1 hk h2 (barey_all L hL v hv hok ob pb d1 k (d-1) 1 h5 (fun x hx=>hin x (by simp[Fo.flat,hx])))
end Go.Proofs.YtfcfldmioonipaaGreatDoor
