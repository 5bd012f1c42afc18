/-
 Texts joined: XGg,XGh,XGi,XGj.
-/
import Derived.Test.YtnnbggkpgacdiaaDoorQg
namespace Go.Proofs.YtnnbggkpgacdiaaDoor
set_option maxRecDepth 100000
set_option maxHeartbeats 32000000
set_option linter.unusedSimpArgs false
set_option linter.unusedVariables false
open Go Go.RowKit Vm Go.Lib Tryd
open Vm renaming cond_bool→Ca,cond_bit→Cb
open And renaming intro→Ai
open List renaming length_map→Lm,not_mem_nil→Ln,map_nil→Lo,map_cons→Lc,mem_cons→Lk
open Bool renaming not_false→Bf,not_true→Bt
theorem iface_err:ifaceT cx.P 44=true:=by kernel_rfl
theorem uintW_ev (s:List UInt8)(n:Nat)(hl:s.length≤6)(h0:s≠[])(hv:hexV 0 s=some n)(nm:Nat):Ev cx 46 nm [.str s,.int .i64 16,.int .i64 32] Mem.nil (.tup [.int .u64 n,.val .nilIface]) []:=by
 refine ev_go rfl (fun cargs w=>call46 cargs w) func46 rfl mixed (by kernel_rfl) rfl ?_;intro b0 hb0
 (repeat' first|simp only[fins,mems,results46,ntmps46,wks,vcs,seval,tys]|exact rfl|refine call_off (v:=.any) ?_|(first|(refine call_fn ?_ (uint_ev s n hl h0 hv _) ?_)|(refine call_fn_g ?_ (fun _=>uint_ev s n hl h0 hv _) ?_))|(refine Ai iface_err ?_)|((first|apply Ca|apply Cb)<;>intro hb)|refine Ai (by omega) ?_|(apply Ai<;>intro hb)|refine Fin.pure ?_ ?_ ?_|simp only[injs])
def hexSet:List UInt8:=[48,49,50,51,52,53,54,55,56,57,97,98,99,100,101,102,65,66,67,68,69,70]
theorem hexSet_in (c:UInt8):inB hexSet c.toNat=(hexD c).isSome:=by
 have key:∀ n:Fin 256,inB hexSet n.val=(hexD (UInt8.ofNat n.val)).isSome:=by decide +kernel
 have:=key ⟨c.toNat,c.toNat_lt⟩
 simpa using this
theorem hexSet_all (s:List UInt8):(s.all fun c=>inB hexSet c.toNat)=(hexV 0 s).isSome:=by
 rw[← hexV_all]
 unfold allHex
 congr 1
 funext c
 exact hexSet_in c
theorem hex_trim {s:List UInt8} :(trimL hexSet (trimR hexSet s) != []) = !(hexV 0 s).isSome:=by
 rw[← hexSet_all]
 cases h:s.all fun c=>inB hexSet c.toNat with
 | true=>rw[trim_nil.2 h];rfl
 | false =>
  have:trimL hexSet (trimR hexSet s)≠[]:=fun e=>by rw[trim_nil.1 e]at h;cases h
  simp[this]
def hexR (o:Option Nat):V:=.tup [.int .i64 (o.getD 0:Nat),.bool o.isSome]
theorem hexR_none:hexR none = .tup [.int .i64 0,.bool false]:=rfl
theorem hexR_some (n:Nat):hexR (some n) = .tup [.int .i64 n,.bool true]:=rfl
theorem eHex_ev (s:List UInt8)(hs:s.length≤lim)(nm:Nat):Ev cx 36 nm [.str s] Mem.nil (hexR (hexL s)) []:=by
 by_cases h0:s=[]
 ·have hn:hexL s=none:=by unfold hexL;rw[if_pos (.inl h0)]
  subst h0
  have e0:(([]:List UInt8)==[])=true:=rfl
  rw[hn,hexR_none]
  refine ev_go rfl (fun cargs w=>call36 cargs w) func36 rfl mixed (by kernel_rfl) rfl ?_;intro b0 hb0
  (repeat' first|simp only[fins,mems,results36,ntmps36,wks,e0,vcs,seval,tys]|exact rfl|refine call_off (v:=.any) ?_|(refine call_off (v:=.any) ?_)|refine draw_end (by decide +kernel) ?_|((first|apply Ca|apply Cb)<;>intro hb)|refine Ai (by omega) ?_|(apply Ai<;>intro hb)|refine Fin.pure ?_ ?_ ?_|simp only[injs])
 have e0:(s==[])=false:=beq_false_of_ne h0
 by_cases h6:6<s.length
 ·have hn:hexL s=none:=by unfold hexL;rw[if_pos (.inr (.inl h6))]
  have e1:decide ((6:Int)<(s.length:Int))=true:=decide_eq_true (by omega)
  rw[hn,hexR_none]
  refine ev_go rfl (fun cargs w=>call36 cargs w) func36 rfl mixed (by kernel_rfl) rfl ?_;intro b0 hb0
  (repeat' first|simp only[fins,mems,results36,ntmps36,wks,e0,e1,vcs,seval,tys]|exact rfl|refine call_off (v:=.any) ?_|(refine call_off (v:=.any) ?_)|refine draw_end (by decide +kernel) ?_|((first|apply Ca|apply Cb)<;>intro hb)|refine Ai (by omega) ?_|(apply Ai<;>intro hb)|refine Fin.pure ?_ ?_ ?_|simp only[injs])
 have e1:decide ((6:Int)<(s.length:Int))=false:=decide_eq_false (by omega)
 have e4:0<s.length:=List.length_pos_iff.2 h0
 obtain⟨c,hc⟩:∃ c,s[0]? = some c:=⟨_,List.getElem?_eq_getElem e4⟩
 have e2:((c.toNat:Int)==48)=decide (c=48):=beq_byte c 48
 by_cases h48:c=48
 ·have hn:hexL s=none:=by unfold hexL;rw[if_pos (.inr (.inr (by rw[List.head?_eq_getElem?,hc,h48])))]
  have e3:decide (c=48)=true:=decide_eq_true h48
  rw[e3]at e2
  rw[hn,hexR_none]
  refine ev_go rfl (fun cargs w=>call36 cargs w) func36 rfl mixed (by kernel_rfl) rfl ?_;intro b0 hb0
  (repeat' first|simp only[fins,mems,results36,ntmps36,wks,e0,e1,e2,hc,e4,vcs,seval,tys]|exact rfl|refine call_off (v:=.any) ?_|(refine call_off (v:=.any) ?_)|refine draw_end (by decide +kernel) ?_|((first|apply Ca|apply Cb)<;>intro hb)|refine Ai (by omega) ?_|(apply Ai<;>intro hb)|refine Fin.pure ?_ ?_ ?_|simp only[injs])
 have e3:decide (c=48)=false:=decide_eq_false h48
 rw[e3]at e2
 have hL:hexL s=hexV 0 s:=by
  unfold hexL;rw[if_neg]
  rintro (h|h|h)
  ·exact h0 h
  ·exact h6 h
  ·rw[List.head?_eq_getElem?,hc]at h;cases h;exact h48 rfl
 have htr:=trim_ev hexSet s (by decide) (by decide) (by decide) hs
 have hq:=hex_trim (s:=s)
 unfold hexSet at htr hq
 have hq':(!(trimL [48,49,50,51,52,53,54,55,56,57,97,98,99,100,101,102,65,66,67,68,69,70] (trimR [48,49,50,51,52,53,54,55,56,57,97,98,99,100,101,102,65,66,67,68,69,70] s)==[])) = !(hexV 0 s).isSome:=hq
 rw[hL]
 cases hv:hexV 0 s with
 | none =>
  rw[hv]at hq'
  rw[hexR_none]
  refine ev_go rfl (fun cargs w=>call36 cargs w) func36 rfl mixed (by kernel_rfl) rfl ?_;intro b0 hb0
  (repeat' first|simp only[fins,mems,results36,ntmps36,wks,e0,e1,e2,hc,e4,hq',Option.isSome_none,Bf,vcs,seval,tys]|exact rfl|refine call_off (v:=.any) ?_|(first|(refine call_fn ?_ (htr _) ?_)|(refine call_fn_g ?_ (fun _=>htr _) ?_))|refine draw_end (by decide +kernel) ?_|((first|apply Ca|apply Cb)<;>intro hb)|refine Ai (by omega) ?_|(apply Ai<;>intro hb)|refine Fin.pure ?_ ?_ ?_|simp only[injs])
 | some n =>
  rw[hv]at hq'
  have hn6:=hexV_lt s 0 n hv
  have hp6:(16:Nat) ^ s.length≤16 ^ 6:=Nat.pow_le_pow_right (by omega) (by omega)
  have hn7:n<16777216:=by simp only[Nat.zero_add,Nat.one_mul]at hn6;exact Nat.lt_of_lt_of_le hn6 hp6
  have hw:IntKind.i64.wrap (n:Int)=(n:Int):=wrap_in (by omega) (by omega)
  rw[hexR_some]
  refine ev_go rfl (fun cargs w=>call36 cargs w) func36 rfl mixed (by kernel_rfl) rfl ?_;intro b0 hb0
  (repeat' first|simp only[fins,mems,results36,ntmps36,wks,e0,e1,e2,hc,e4,hq',hw,Option.isSome_some,Bt,vcs,seval,tys]|exact rfl|refine call_off (v:=.any) ?_|(first|(refine call_fn ?_ (htr _) ?_)|(refine call_fn_g ?_ (fun _=>htr _) ?_)|(refine call_fn ?_ (uintW_ev s n (by omega) h0 hv _) ?_)|(refine call_fn_g ?_ (fun _=>uintW_ev s n (by omega) h0 hv _) ?_))|(refine Ai iface_err ?_)|refine draw_end (by decide +kernel) ?_|((first|apply Ca|apply Cb)<;>intro hb)|refine Ai (by omega) ?_|(apply Ai<;>intro hb)|refine Fin.pure ?_ ?_ ?_|simp only[injs])
theorem ePlain_ev (s:List UInt8)(hs:s.length≤lim)(nm:Nat):Ev cx 37 nm [.str s] Mem.nil (hexR (decL s)) []:=by
 have h:=numRead_ev s hs
 cases hd:decL s with
 | none =>
  rw[readE_none hd]at h
  rw[hexR_none]
  refine ev_go rfl (fun cargs w=>call37 cargs w) func37 rfl mixed (by kernel_rfl) rfl ?_;intro b0 hb0
  (repeat' first|simp only[fins,mems,results37,ntmps37,wks,vcs,seval,tys]|exact rfl|refine call_off (v:=.any) ?_|(first|(refine call_fn ?_ (h _) ?_)|(refine call_fn_g ?_ (fun _=>h _) ?_))|((first|apply Ca|apply Cb)<;>intro hb)|refine Ai (by omega) ?_|(apply Ai<;>intro hb)|refine Fin.pure ?_ ?_ ?_|simp only[injs])
 | some n =>
  rw[readE_some hd]at h
  rw[hexR_some]
  refine ev_go rfl (fun cargs w=>call37 cargs w) func37 rfl mixed (by kernel_rfl) rfl ?_;intro b0 hb0
  (repeat' first|simp only[fins,mems,results37,ntmps37,wks,vcs,seval,tys]|exact rfl|refine call_off (v:=.any) ?_|(first|(refine call_fn ?_ (h _) ?_)|(refine call_fn_g ?_ (fun _=>h _) ?_))|((first|apply Ca|apply Cb)<;>intro hb)|refine Ai (by omega) ?_|(apply Ai<;>intro hb)|refine Fin.pure ?_ ?_ ?_|simp only[injs])
def preR (s p:List UInt8):V:=if preB s p=true then .tup [.str (s.drop p.length),.bool true] else .tup [.str s,.bool false]
theorem preR_yes {s p:List UInt8}(h:preB s p=true):preR s p = .tup [.str (s.drop p.length),.bool true]:=by unfold preR;rw[if_pos h]
theorem preR_no {s p:List UInt8}(h:preB s p=false):preR s p = .tup [.str s,.bool false]:=by unfold preR;rw[if_neg (by simp[h])]
theorem cutPreS_ev (s p:List UInt8)(hs:s.length≤lim)(hp:p.length≤lim)(nm:Nat):Ev cx 48 nm [.str s,.str p] Mem.nil (preR s p) []:=by
 have h:=hasPre_ev s p hs hp
 unfold lim at hs hp
 cases hb:preB s p with
 | true =>
  have hle:p.length≤s.length:=by
   unfold preB at hb
   simp only[Bool.and_eq_true,decide_eq_true_eq]at hb
   exact hb.1
  have hle':(p.length:Int)≤(s.length:Int):=by omega
  rw[preR_yes hb]
  rw[hb]at h
  refine ev_go rfl (fun cargs w=>call48 cargs w) func48 rfl mixed (by kernel_rfl) rfl ?_;intro b0 hb0
  (repeat' first|simp only[fins,mems,results48,ntmps48,wks,hle,hle',vcs,seval,tys]|exact rfl|refine call_off (v:=.any) ?_|(first|(refine call_fn ?_ (h _) ?_)|(refine call_fn_g ?_ (fun _=>h _) ?_))|((first|apply Ca|apply Cb)<;>intro hb)|refine Ai (by omega) ?_|(apply Ai<;>intro hb)|refine Fin.pure ?_ ?_ ?_|simp only[injs])
 | false =>
  rw[preR_no hb]
  rw[hb]at h
  refine ev_go rfl (fun cargs w=>call48 cargs w) func48 rfl mixed (by kernel_rfl) rfl ?_;intro b0 hb0
  (repeat' first|simp only[fins,mems,results48,ntmps48,wks,vcs,seval,tys]|exact rfl|refine call_off (v:=.any) ?_|(first|(refine call_fn ?_ (h _) ?_)|(refine call_fn_g ?_ (fun _=>h _) ?_))|((first|apply Ca|apply Cb)<;>intro hb)|refine Ai (by omega) ?_|(apply Ai<;>intro hb)|refine Fin.pure ?_ ?_ ?_|simp only[injs])
theorem cutPre_ev (s p:List UInt8)(hs:s.length≤lim)(hp:p.length≤lim)(nm:Nat):Ev cx 38 nm [.str s,.str p] Mem.nil (preR s p) []:=by
 have h:=cutPreS_ev s p hs hp
 cases hb:preB s p with
 | true =>
  rw[preR_yes hb]at h ⊢
  refine ev_go rfl (fun cargs w=>call38 cargs w) func38 rfl mixed (by kernel_rfl) rfl ?_;intro b0 hb0
  (repeat' first|simp only[fins,mems,results38,ntmps38,wks,vcs,seval,tys]|exact rfl|refine call_off (v:=.any) ?_|(first|(refine call_fn ?_ (h _) ?_)|(refine call_fn_g ?_ (fun _=>h _) ?_))|((first|apply Ca|apply Cb)<;>intro hb)|refine Ai (by omega) ?_|(apply Ai<;>intro hb)|refine Fin.pure ?_ ?_ ?_|simp only[injs])
 | false =>
  rw[preR_no hb]at h ⊢
  refine ev_go rfl (fun cargs w=>call38 cargs w) func38 rfl mixed (by kernel_rfl) rfl ?_;intro b0 hb0
  (repeat' first|simp only[fins,mems,results38,ntmps38,wks,vcs,seval,tys]|exact rfl|refine call_off (v:=.any) ?_|(first|(refine call_fn ?_ (h _) ?_)|(refine call_fn_g ?_ (fun _=>h _) ?_))|((first|apply Ca|apply Cb)<;>intro hb)|refine Ai (by omega) ?_|(apply Ai<;>intro hb)|refine Fin.pure ?_ ?_ ?_|simp only[injs])
def namedL:List (V×V):=[(.str [97,109,112],.agg [.str [38]]),(.str [108,116],.agg [.str [60]]),(.str [103,116],.agg [.str [62]]),(.str [113,117,111,116],.agg [.str [34]]),(.str [97,112,111,115],.agg [.str [39]])]
theorem namedT:mapT cx.P 73=some (9,61):=by kernel_rfl
theorem namedF:namedL=[(.str [97,109,112],.agg [.str [38]]),(.str [108,116],.agg [.str [60]]),(.str [103,116],.agg [.str [62]]),(.str [113,117,111,116],.agg [.str [34]]),(.str [97,112,111,115],.agg [.str [39]])]:=rfl
theorem named_ev (nm:Nat):Ev cx 35 nm [] Mem.nil (.mp nm) [(nm,some (mapK namedL))]:=by
 refine ev_go rfl (fun cargs w=>call35 cargs w) func35 rfl mixed (by kernel_rfl) rfl ?_;intro b0 hb0
 repeat' first|simp only[fins,mems,results35,ntmps35,wks,namedT,namedF,vcs,seval,tys]|exact rfl|refine call_off (v:=.any) ?_|(refine ext_makeMap ?_)|(refine extG_true ?_)|(refine extG_false ?_)|(refine ext_insert (y:=?_) (kv:=?_) (xv:=?_) (kvs:=?_) ?_ ?_ ?_ ?_ namedT ?_ ?_ ?_ ?_ ?_;rotate_left 4;(iterate 4 (focus (simp only[results35,ntmps35,wks,namedT,namedF,vcs,seval,tys]<;>exact rfl)));(focus (kernel_rfl));(iterate 3 (focus (exact rfl))))|((first|apply Ca|apply Cb)<;>intro hb)|refine Ai (by omega) ?_|(apply Ai<;>intro hb)
 all_goals ((refine Fin.give [(b0+16,some 0)] [] ?_ ?_ ?_ ?_ ?_ (fun q hq=>by have hqq:=nil_ho (l:=[]) q hq;first|(simp only[gives,tgt,Lc,Lo,Lk,Ln,or_false]at hqq ⊢;omega)|(simp only[gives,tgt,Lc,Lo,Lk,Ln,or_false]at hqq))<;>(try simp only[results35,ntmps35,wks,namedF,ren_map,renOk_map,giv,vcs,seval,tys])<;>(try simp only[injs])<;>(try omega)))
theorem find_named (s:List UInt8):(∃ x,findV (.str s) namedL=some (some (.agg [.str x]))∧meantL s=some x∧x.length≤1)∨(findV (.str s) namedL=some none∧meantL s=if s.head? = some 35 then (if s.tail.head? = some 120 then pointW (hexL s.tail.tail) else pointW (decL s.tail)) else none):=by
 by_cases h1:s=[97,109,112]
 ·subst h1;left;exact⟨_,rfl,meant_amp,by simp⟩
 by_cases h2:s=[108,116]
 ·subst h2;left;exact⟨_,rfl,meant_lt,by simp⟩
 by_cases h3:s=[103,116]
 ·subst h3;left;exact⟨_,rfl,meant_gt,by simp⟩
 by_cases h4:s=[113,117,111,116]
 ·subst h4;left;exact⟨_,rfl,meant_quot,by simp⟩
 by_cases h5:s=[97,112,111,115]
 ·subst h5;left;exact⟨_,rfl,by decide,by simp⟩
 right
 have e1:(s==[97,109,112])=false:=beq_false_of_ne h1
 have e2:(s==[108,116])=false:=beq_false_of_ne h2
 have e3:(s==[103,116])=false:=beq_false_of_ne h3
 have e4:(s==[113,117,111,116])=false:=beq_false_of_ne h4
 have e5:(s==[97,112,111,115])=false:=beq_false_of_ne h5
 refine⟨?_,?_⟩
 ·simp only[namedF,findV,sameV,e1,e2,e3,e4,e5]
 ·unfold meantL;rw[if_neg h1,if_neg h2,if_neg h3,if_neg h4,if_neg h5]
theorem refer_zero:zeroOf cx.P 61=some (.agg #[.string ⟨#[]⟩]):=by kernel_rfl
def rdK (rest:List UInt8)(y n:Nat):Blk:=⟨2,[[.str rest,.own y 0 n]]⟩
theorem rdK_def (rest:List UInt8)(y n:Nat):rdK rest y n=⟨2,[[.str rest,.own y 0 n]]⟩:=rfl
theorem refer_cut (rest:List UInt8)(hr:rest.length≤1000000)(hc:cut1 59 rest=none)(q y:Nat)(out:List UInt8)(M:Mem)(nm:Nat)(hqy:q≠y)(hq:M q=some (rdK rest y out.length))(hy:M y=some (rK out))(ho:∀ w,(M w).isSome=true→w∈[q,y])(hqn:q<nm)(hyn:y<nm) :
  Ev cx 26 nm [.ptr q 0 0] M (.bool false) [(q,some (rdK rest y out.length)),(y,some (rK out))]:=by
 have hcv:=cut_ev rest 59 (by unfold lim;omega)
 have ev:cutV 59 rest = .tup [.str rest,.str [],.bool false]:=by unfold cutV;rw[hc]
 rw[ev]at hcv
 rw[rdK_def]at hq ⊢
 refine ev_go rfl (fun cargs w=>call26 cargs w) func26 rfl mixed (by kernel_rfl) rfl ?_;intro b0 hb0
 have ly:y<b0:=below_of hb0 (by rw[hy];rfl)
 have y0:=lt_ne ly;have y1:=lt_ne_add ly;have y2:=lt_ne' ly;have y3:=lt_ne_add' ly
 have lq:q<b0:=below_of hb0 (by rw[hq];rfl)
 have z0:=lt_ne lq;have z1:=lt_ne_add lq;have z2:=lt_ne' lq;have z3:=lt_ne_add' lq
 have n1:=eq_false hqy;have n4:=eq_false (Ne.symm hqy)
 repeat' first|simp only[fins,mems,results26,ntmps26,wks,hq,hy,z0,z1,z2,z3,y0,y1,y2,y3,n1,n4,Bf,vcs,seval,tys]|exact rfl|refine call_off (v:=.any) ?_|(first|(refine call_fn ?_ (hcv _) ?_)|(refine call_fn_g ?_ (fun _=>hcv _) ?_))|((first|(refine call_val (g:=?_) ?_ ?_)|(refine call_valg (g:=?_) ?_ ?_));rotate_left 1;(focus (simp only[results26,ntmps26,wks,hq,hy,z0,z1,z2,z3,y0,y1,y2,y3,n1,n4,Bf,vcs,seval,tys]<;>exact rfl)))|refine draw_end (by decide +kernel) ?_|((first|apply Ca|apply Cb)<;>intro hb)|refine Ai (by omega) ?_|(apply Ai<;>intro hb)
 all_goals ((refine Fin.give [(q,none),(y,none)] [] ?_ ?_ ?_ ?_ ?_ (fun q hq=>by have hqq:=ho q hq;first|(simp only[gives,tgt,Lc,Lo,Lk,Ln,or_false]at hqq ⊢;omega)|(simp only[gives,tgt,Lc,Lo,Lk,Ln,or_false]at hqq))<;>(try simp only[results26,ntmps26,wks,hq,hy,rK_def,ren_bytesI,renOk_bytesI,z0,z1,z2,z3,y0,y1,y2,y3,n1,n4,giv,vcs,seval,tys])<;>(try simp only[injs])<;>(try omega)))
theorem refer_word (rest a b x:List UInt8)(hr:rest.length≤1000000)(hc:cut1 59 rest=some (a,b))(hf:findV (.str a) namedL=some (some (.agg [.str x])))(hx:x.length≤1)(q y:Nat)(out:List UInt8)(hout:out.length≤1000000)(M:Mem)(nm:Nat)(hqy:q≠y)(hq:M q=some (rdK rest y out.length))(hy:M y=some (rK out))(ho:∀ w,(M w).isSome=true→w∈[q,y])(hqn:q<nm)(hyn:y<nm) :
  Ev cx 26 nm [.ptr q 0 0] M (.bool true) [(y,none),(q,some (rdK b nm (out++x).length)),(nm,some (rK (out++x)))]:=by
 have hcv:=cut_ev rest 59 (by unfold lim;omega)
 have ev:cutV 59 rest = .tup [.str a,.str b,.bool true]:=by unfold cutV;rw[hc]
 rw[ev]at hcv
 have hmp:out.map byteRow++x.map byteRow=(out++x).map byteRow:=by rw[List.map_append]
 rw[List.length_append]
 rw[rdK_def]at hq ⊢
 refine ev_go rfl (fun cargs w=>call26 cargs w) func26 rfl mixed (by kernel_rfl) rfl ?_;intro b0 hb0
 have ly:y<b0:=below_of hb0 (by rw[hy];rfl)
 have y0:=lt_ne ly;have y1:=lt_ne_add ly;have y2:=lt_ne' ly;have y3:=lt_ne_add' ly
 have lq:q<b0:=below_of hb0 (by rw[hq];rfl)
 have z0:=lt_ne lq;have z1:=lt_ne_add lq;have z2:=lt_ne' lq;have z3:=lt_ne_add' lq
 have n1:=eq_false hqy;have n4:=eq_false (Ne.symm hqy)
 repeat' first|simp only[fins,mems,results26,ntmps26,wks,hq,hy,hf,hmp,refer_zero,gotV_true,rK_def,z0,z1,z2,z3,y0,y1,y2,y3,n1,n4,tyT,if_true,blkT_some,one_bsI,fresh_self,Lm,List.take_of_length_le,Nat.le_refl,Option.bind_some,Option.getD_some,Option.isSome_some,Bt,vcs,seval,tys]|exact rfl|refine call_off (v:=.any) ?_|(first|(refine call_fn ?_ (hcv _) ?_)|(refine call_fn_g ?_ (fun _=>hcv _) ?_))|(refine call_fn_new ?_ (named_ev _) ?_ ?_)|(refine ext_lookup (y:=?_) (kv:=?_) (kvs:=?_) (q:=?_) ?_ ?_ ?_ namedT ?_ ?_ refer_zero ?_ ?_ ?_;rotate_left 4;(iterate 3 (focus (simp only[results26,ntmps26,wks,hq,hy,hf,hmp,refer_zero,gotV_true,rK_def,z0,z1,z2,z3,y0,y1,y2,y3,n1,n4,tyT,if_true,blkT_some,one_bsI,fresh_self,Lm,List.take_of_length_le,Nat.le_refl,Option.bind_some,Option.getD_some,Option.isSome_some,Bt,vcs,seval,tys]<;>exact rfl)));(focus (kernel_rfl));(focus (exact rfl));(focus (simp only[results26,ntmps26,wks,hq,hy,hf,hmp,refer_zero,gotV_true,rK_def,z0,z1,z2,z3,y0,y1,y2,y3,n1,n4,tyT,if_true,blkT_some,one_bsI,fresh_self,Lm,List.take_of_length_le,Nat.le_refl,Option.bind_some,Option.getD_some,Option.isSome_some,Bt,vcs,seval,tys]<;>exact rfl));(focus (intro v hv;cases hv<;>exact rfl)))|(refine extG_true ?_)|(refine extG_false ?_)|((first|(refine call_val (g:=?_) ?_ ?_)|(refine call_valg (g:=?_) ?_ ?_));rotate_left 1;(focus (simp only[results26,ntmps26,wks,hq,hy,hf,hmp,refer_zero,gotV_true,rK_def,z0,z1,z2,z3,y0,y1,y2,y3,n1,n4,tyT,if_true,blkT_some,one_bsI,fresh_self,Lm,List.take_of_length_le,Nat.le_refl,Option.bind_some,Option.getD_some,Option.isSome_some,Bt,vcs,seval,tys]<;>exact rfl)))|omega|refine draw_end (by decide +kernel) ?_|((first|apply Ca|apply Cb)<;>intro hb)|refine Ai (by omega) ?_|(apply Ai<;>intro hb)
 all_goals ((refine Fin.give [(q,none),(b0+528,some 0)] [y] ?_ ?_ ?_ ?_ ?_ (fun q hq=>by have hqq:=ho q hq;first|(simp only[gives,tgt,Lc,Lo,Lk,Ln,or_false]at hqq ⊢;omega)|(simp only[gives,tgt,Lc,Lo,Lk,Ln,or_false]at hqq))<;>(try simp only[results26,ntmps26,wks,hq,hy,rK_def,ren_bytesI,renOk_bytesI,z0,z1,z2,z3,y0,y1,y2,y3,n1,n4,giv,vcs,seval,tys])<;>(try simp only[injs])<;>(try omega)))
theorem pre_iff {s p:List UInt8} : preB s p=true ↔ ∃ t,s=p++t:=by
 unfold preB
 simp only[Bool.and_eq_true,decide_eq_true_eq,beq_iff_eq]
 constructor
 ·rintro ⟨_,h⟩
  exact⟨s.drop p.length,by conv=>lhs;rw[← List.take_append_drop p.length s,h]⟩
 ·rintro ⟨t,rfl⟩
  simp
theorem find_none {a:List UInt8}(hf:findV (.str a) namedL=some none):meantL a=if a.head? = some 35 then (if a.tail.head? = some 120 then pointW (hexL a.tail.tail) else pointW (decL a.tail)) else none:=by
 rcases find_named a with ⟨x,h,_⟩|⟨_,h⟩
 ·rw[hf]at h;cases h
 ·exact h
theorem meant_hex {a:List UInt8}(hf:findV (.str a) namedL=some none)(h:preB a [35,120]=true):meantL a=pointW (hexL (a.drop 2)):=by
 obtain⟨t,rfl⟩:=pre_iff.1 h
 rw[find_none hf];rfl
theorem meant_dec {a:List UInt8}(hf:findV (.str a) namedL=some none)(h:preB a [35,120]=false)(h2:preB a [35]=true):meantL a=pointW (decL (a.drop 1)):=by
 obtain⟨t,rfl⟩:=pre_iff.1 h2
 have h1:([35]++t).head? = some 35:=rfl
 rw[find_none hf,if_pos h1,if_neg]
 ·rfl
 ·intro h3
  simp only[List.cons_append,List.nil_append,List.tail_cons]at h3
  cases t with
  | nil=>cases h3
  | cons c t =>
   cases h3
   have:=pre_iff.2 (⟨t,rfl⟩:∃ t',[35]++120::t=[35,120]++t')
   rw[h]at this;cases this
theorem meant_non {a:List UInt8}(hf:findV (.str a) namedL=some none)(h2:preB a [35]=false):meantL a=none:=by
 rw[find_none hf,if_neg]
 intro h3
 cases a with
 | nil=>cases h3
 | cons c t =>
  cases h3
  have:=pre_iff.2 (⟨t,rfl⟩:∃ t',35::t=[35]++t')
  rw[h2]at this;cases this
theorem point_none:pointW none=none:=rfl
theorem point_yes {n:Nat}(h:may (n:Int)=true):pointW (some n)=some (encodeRune n):=by simp[pointW,h]
theorem point_no {n:Nat}(h:may (n:Int)=false):pointW (some n)=none:=by simp[pointW,h]
theorem of_one {n:Int}(h:may n=true):ofErr [n]=0∧ofText [n]=encodeRune n:=by
 have hl:=encodeRune_length n
 have e:enc [n]=encodeRune n:=by simp[enc]
 have he:ofErr [n]=0:=by unfold ofErr;rw[if_pos (by simp[h]),e,if_neg (by omega)]
 exact⟨he,by unfold ofText;rw[if_pos he,e]⟩
def basesR:List (List V):=[[.str [35,120],.fn 36 []],[.str [35],.fn 37 []]]
theorem bases_def:basesR=[[.str [35,120],.fn 36 []],[.str [35],.fn 37 []]]:=rfl
theorem refer_num (rest a b:List UInt8)(hr:rest.length≤1000000)(hc:cut1 59 rest=some (a,b))(hf:findV (.str a) namedL=some none)(q y:Nat)(out:List UInt8)(hout:out.length≤1000000)(M:Mem)(nm:Nat)(hqy:q≠y)(hq:M q=some (rdK rest y out.length))(hy:M y=some (rK out))(ho:∀ w,(M w).isSome=true→w∈[q,y])(hqn:q<nm)(hyn:y<nm)
    (v:V) (eff:List (Nat×Option Blk)) (hve:(meantL a=none∧v = .bool false∧eff=[(q,some (rdK rest y out.length)),(y,some (rK out))])∨(∃ x,meantL a=some x∧v = .bool true∧eff=[(y,none),(q,some (rdK b nm (out++x).length)),(nm,some (rK (out++x)))])) :
    Ev cx 26 nm [.ptr q 0 0] M v eff:=by
  have hal:a.length≤1000000:=by
    have:=(cut1_some hc).1
    rw[this]at hr;simp at hr;omega
  have hcv:=cut_ev rest 59 (by unfold lim;omega)
  have ev:cutV 59 rest = .tup [.str a,.str b,.bool true]:=by unfold cutV;rw[hc]
  rw[ev]at hcv
  have hp2:=cutPre_ev a [35,120] (by unfold lim;omega) (by decide)
  have hp1:=cutPre_ev a [35] (by unfold lim;omega) (by decide)
  simp only[rdK_def]at hq hve
  refine ev_go rfl (fun cargs w=>call26 cargs w) func26 rfl mixed (by kernel_rfl) rfl ?_;intro b0 hb0
  have ly:y<b0:=below_of hb0 (by rw[hy];rfl)
  have y0:=lt_ne ly;have y1:=lt_ne_add ly;have y2:=lt_ne' ly;have y3:=lt_ne_add' ly
  have lq:q<b0:=below_of hb0 (by rw[hq];rfl)
  have z0:=lt_ne lq;have z1:=lt_ne_add lq;have z2:=lt_ne' lq;have z3:=lt_ne_add' lq
  have n1:=eq_false hqy;have n4:=eq_false (Ne.symm hqy)
  repeat' first|simp only[fins,mems,results26,ntmps26,wks,hq,hy,hf,refer_zero,gotV_true,rK_def,z0,z1,z2,z3,y0,y1,y2,y3,n1,n4,Option.getD_none,Option.isSome_none,Bt,vcs,seval,tys]|exact rfl|refine call_off (v:=.any) ?_|(first|(refine call_fn ?_ (hcv _) ?_)|(refine call_fn_g ?_ (fun _=>hcv _) ?_))|(refine call_fn_new ?_ (named_ev _) ?_ ?_)|(refine ext_lookup (y:=?_) (kv:=?_) (kvs:=?_) (q:=?_) ?_ ?_ ?_ namedT ?_ ?_ refer_zero ?_ ?_ ?_;rotate_left 4;(iterate 3 (focus (simp only[results26,ntmps26,wks,hq,hy,hf,refer_zero,gotV_true,rK_def,z0,z1,z2,z3,y0,y1,y2,y3,n1,n4,Option.getD_none,Option.isSome_none,Bt,vcs,seval,tys]<;>exact rfl)));(focus (kernel_rfl));(focus (exact rfl));(focus (simp only[results26,ntmps26,wks,hq,hy,hf,refer_zero,gotV_true,rK_def,z0,z1,z2,z3,y0,y1,y2,y3,n1,n4,Option.getD_none,Option.isSome_none,Bt,vcs,seval,tys]<;>exact rfl));(focus (intro v hv;cases hv<;>exact rfl)))|(refine extG_true ?_)|(refine extG_false ?_)|((first|(refine call_val (g:=?_) ?_ ?_)|(refine call_valg (g:=?_) ?_ ?_));rotate_left 1;(focus (simp only[results26,ntmps26,wks,hq,hy,hf,refer_zero,gotV_true,rK_def,z0,z1,z2,z3,y0,y1,y2,y3,n1,n4,Option.getD_none,Option.isSome_none,Bt,vcs,seval,tys]<;>exact rfl)))|omega|refine draw_end (by decide +kernel) ?_|((first|apply Ca|apply Cb)<;>intro hb)|refine Ai (by omega) ?_|(apply Ai<;>intro hb)
  (refine loop_can2 cxG (fun x:Nat=>2-x) (fun x=>x≤2∧(0<x→preB a [35,120]=false)∧(1<x→preB a [35]=false)) (b0+16) (fun x=>[(0,.ptr q 0 0),(3,.str a),(4,.str b),(49,.own b0 0 2),(50,.int .i64 2),(51,.int .i64 x)]) (fun x=>[(b0,⟨2,basesR⟩),(q,⟨2,[[.str rest,.own y 0 out.length]]⟩),(y,rK out)]) (0) [some (b0+432),some q,some y] ?_ ?_ ?_ ?_;rotate_left 1;(focus (show b0≤_;omega));(focus (refine⟨?_,?_⟩<;>(try simp only[cans,hq,hy,bases_def,rK_def,ren_bytesI,renOk_bytesI,isRow_typed,z0,z1,z2,z3,y0,y1,y2,y3,n1,n4,vcs,seval,tys,injs])<;>(try omega)));rotate_left 1)
  · exact⟨Nat.zero_le _,fun h=>by omega,fun h=>by omega⟩
  · rintro k ⟨hk,hk1,hk2⟩
    have hdl:∀ j,(a.drop j).length≤lim:=fun j=>by rw[List.length_drop];unfold lim;omega
    rcases(show k=0∨k=1∨k=2 by omega) with rfl|rfl|rfl
    · have hwk:IntKind.i64.wrap 1=1:=by decide
      cases hb:preB a [35,120] with
      | true =>
        have hp:=hp2
        rw[preR_yes hb]at hp
        simp only[List.length_cons,List.length_nil]at hp
        have hm:=meant_hex hf hb
        have hx:=eHex_ev (a.drop 2) (hdl 2)
        cases hL:hexL (a.drop 2) with
        | none =>
          rw[hL,hexR_none]at hx
          rw[hL,point_none]at hm
          rcases hve with ⟨_,rfl,rfl⟩|⟨x,h,_⟩
          · repeat' first|simp only[fins,mems,results26,ntmps26,wks,hq,hy,bases_def,rK_def,z0,z1,z2,z3,y0,y1,y2,y3,n1,n4,intRow,Int.ofNat_zero,Int.ofNat_one,Bt,Bf,vcs,seval,tys]|exact rfl|refine call_off (v:=.any) ?_|(first|(refine call_fn ?_ (hp _) ?_)|(refine call_fn_g ?_ (fun _=>hp _) ?_)|(refine call_fn ?_ (hx _) ?_)|(refine call_fn_g ?_ (fun _=>hx _) ?_))|(refine call_off (v:=.any) ?_)|((first|(refine call_val (g:=?_) ?_ ?_)|(refine call_valg (g:=?_) ?_ ?_));rotate_left 1;(focus (simp only[results26,ntmps26,wks,hq,hy,bases_def,rK_def,z0,z1,z2,z3,y0,y1,y2,y3,n1,n4,intRow,Int.ofNat_zero,Int.ofNat_one,Bt,Bf,vcs,seval,tys]<;>exact rfl)))|refine draw_end (by decide +kernel) ?_|((first|apply Ca|apply Cb)<;>intro hb)|refine Ai (by omega) ?_|(apply Ai<;>intro hb)
            all_goals ((refine Fin.give [(q,none),(y,none)] [] ?_ ?_ ?_ ?_ ?_ (fun q hq=>by have hqq:=ho q hq;first|(simp only[gives,tgt,Lc,Lo,Lk,Ln,or_false]at hqq ⊢;omega)|(simp only[gives,tgt,Lc,Lo,Lk,Ln,or_false]at hqq))<;>(try simp only[results26,ntmps26,wks,hq,hy,rK_def,ren_bytesI,renOk_bytesI,z0,z1,z2,z3,y0,y1,y2,y3,n1,n4,giv,vcs,seval,tys])<;>(try simp only[injs])<;>(try omega)))
          · rw[hm]at h;cases h
        | some n =>
          rw[hL,hexR_some]at hx
          rw[hL]at hm
          have hmy:=tMay_ev (n:Int)
          cases hmm:may (n:Int) with
          | false =>
            rw[hmm]at hmy
            rw[point_no hmm]at hm
            rcases hve with ⟨_,rfl,rfl⟩|⟨x,h,_⟩
            · repeat' first|simp only[fins,mems,results26,ntmps26,wks,hq,hy,bases_def,rK_def,z0,z1,z2,z3,y0,y1,y2,y3,n1,n4,intRow,Int.ofNat_zero,Int.ofNat_one,Bt,Bf,vcs,seval,tys]|exact rfl|refine call_off (v:=.any) ?_|(first|(refine call_fn ?_ (hp _) ?_)|(refine call_fn_g ?_ (fun _=>hp _) ?_)|(refine call_fn ?_ (hx _) ?_)|(refine call_fn_g ?_ (fun _=>hx _) ?_)|(refine call_fn ?_ (hmy _) ?_)|(refine call_fn_g ?_ (fun _=>hmy _) ?_))|((first|(refine call_val (g:=?_) ?_ ?_)|(refine call_valg (g:=?_) ?_ ?_));rotate_left 1;(focus (simp only[results26,ntmps26,wks,hq,hy,bases_def,rK_def,z0,z1,z2,z3,y0,y1,y2,y3,n1,n4,intRow,Int.ofNat_zero,Int.ofNat_one,Bt,Bf,vcs,seval,tys]<;>exact rfl)))|refine draw_end (by decide +kernel) ?_|((first|apply Ca|apply Cb)<;>intro hb)|refine Ai (by omega) ?_|(apply Ai<;>intro hb)
              all_goals ((refine Fin.give [(q,none),(y,none)] [] ?_ ?_ ?_ ?_ ?_ (fun q hq=>by have hqq:=ho q hq;first|(simp only[gives,tgt,Lc,Lo,Lk,Ln,or_false]at hqq ⊢;omega)|(simp only[gives,tgt,Lc,Lo,Lk,Ln,or_false]at hqq))<;>(try simp only[results26,ntmps26,wks,hq,hy,rK_def,ren_bytesI,renOk_bytesI,z0,z1,z2,z3,y0,y1,y2,y3,n1,n4,giv,vcs,seval,tys])<;>(try simp only[injs])<;>(try omega)))
            · rw[hm]at h;cases h
          | true =>
            rw[hmm]at hmy
            rw[point_yes hmm]at hm
            rcases hve with ⟨h,_⟩|⟨x,h,rfl,rfl⟩
            · rw[hm]at h;cases h
            · rw[hm]at h;cases h
              obtain⟨o1,o2⟩:=of_one hmm
              have hof:=of_ev [(n:Int)] (by simp)
              rw[o1,o2]at hof
              simp only[intRow,Lc,Lo]at hof
              have hel:=encodeRune_length (n:Int)
              have hmp:out.map byteRow++(encodeRune (n:Int)).map byteRow=(out++encodeRune (n:Int)).map byteRow:=by rw[List.map_append]
              rw[List.length_append]
              repeat' first|simp only[fins,mems,results26,ntmps26,wks,hq,hy,bases_def,rK_def,z0,z1,z2,z3,y0,y1,y2,y3,n1,n4,intRow,Int.ofNat_zero,Int.ofNat_one,hmp,tyT,if_true,blkT_some,one_bsI,fresh_self,Lm,List.take_of_length_le,Nat.le_refl,Option.bind_some,Bt,Bf,vcs,seval,tys]|exact rfl|refine call_off (v:=.any) ?_|(first|(refine call_fn ?_ (hp _) ?_)|(refine call_fn_g ?_ (fun _=>hp _) ?_)|(refine call_fn ?_ (hx _) ?_)|(refine call_fn_g ?_ (fun _=>hx _) ?_)|(refine call_fn ?_ (hmy _) ?_)|(refine call_fn_g ?_ (fun _=>hmy _) ?_))|((refine call_fn_vx (xs:=?_) [b0+544] ?_ ?_ ?_ rfl (hof _) ?_);rotate_left 1)|((first|(refine call_val (g:=?_) ?_ ?_)|(refine call_valg (g:=?_) ?_ ?_));rotate_left 1;(focus (simp only[results26,ntmps26,wks,hq,hy,bases_def,rK_def,z0,z1,z2,z3,y0,y1,y2,y3,n1,n4,intRow,Int.ofNat_zero,Int.ofNat_one,hmp,tyT,if_true,blkT_some,one_bsI,fresh_self,Lm,List.take_of_length_le,Nat.le_refl,Option.bind_some,Bt,Bf,vcs,seval,tys]<;>exact rfl)))|omega|refine draw_end (by decide +kernel) ?_|((first|apply Ca|apply Cb)<;>intro hb)|refine Ai (by omega) ?_|(apply Ai<;>intro hb)
              all_goals ((refine Fin.give [(q,none),(b0+768,some 0)] [y] ?_ ?_ ?_ ?_ ?_ (fun q hq=>by have hqq:=ho q hq;first|(simp only[gives,tgt,Lc,Lo,Lk,Ln,or_false]at hqq ⊢;omega)|(simp only[gives,tgt,Lc,Lo,Lk,Ln,or_false]at hqq))<;>(try simp only[results26,ntmps26,wks,hq,hy,rK_def,ren_bytesI,renOk_bytesI,z0,z1,z2,z3,y0,y1,y2,y3,n1,n4,giv,vcs,seval,tys])<;>(try simp only[injs])<;>(try omega)))
      | false =>
        have hp:=hp2
        rw[preR_no hb]at hp
        repeat' first|simp only[fins,mems,results26,ntmps26,wks,hq,hy,bases_def,rK_def,z0,z1,z2,z3,y0,y1,y2,y3,n1,n4,intRow,Int.ofNat_zero,Int.ofNat_one,hwk,Bt,Bf,vcs,seval,tys]|exact rfl|refine call_off (v:=.any) ?_|(first|(refine call_fn ?_ (hp _) ?_)|(refine call_fn_g ?_ (fun _=>hp _) ?_))|((first|(refine call_val (g:=?_) ?_ ?_)|(refine call_valg (g:=?_) ?_ ?_));rotate_left 1;(focus (simp only[results26,ntmps26,wks,hq,hy,bases_def,rK_def,z0,z1,z2,z3,y0,y1,y2,y3,n1,n4,intRow,Int.ofNat_zero,Int.ofNat_one,hwk,Bt,Bf,vcs,seval,tys]<;>exact rfl)))|refine draw_end (by decide +kernel) ?_|((first|apply Ca|apply Cb)<;>intro hb)|refine Ai (by omega) ?_|(apply Ai<;>intro hb)
        all_goals ((refine again_can2 cxG (1) [some b0,some q,some y] ?_ ?_ ?_ ?_;rotate_left 2;(focus (show b0≤_;omega));(focus (refine⟨?_,?_⟩<;>(try simp only[cans,hwk,bases_def,isRow_typed,Int.ofNat_one,hq,hy,rK_def,ren_bytesI,renOk_bytesI,z0,z1,z2,z3,y0,y1,y2,y3,n1,n4,vcs,seval,tys,injs])<;>(try omega)))))
        all_goals (first|omega|exact⟨by omega,fun _=>hb,fun h=>by omega⟩|exact⟨by omega,fun h=>by omega⟩|skip)
    · have hwk:IntKind.i64.wrap 2=2:=by decide
      cases hb:preB a [35] with
      | true =>
        have hp:=hp1
        rw[preR_yes hb]at hp
        simp only[List.length_cons,List.length_nil]at hp
        have hm:=meant_dec hf (hk1 (by omega)) hb
        have hx:=ePlain_ev (a.drop 1) (hdl 1)
        cases hL:decL (a.drop 1) with
        | none =>
          rw[hL,hexR_none]at hx
          rw[hL,point_none]at hm
          rcases hve with ⟨_,rfl,rfl⟩|⟨x,h,_⟩
          · repeat' first|simp only[fins,mems,results26,ntmps26,wks,hq,hy,bases_def,rK_def,z0,z1,z2,z3,y0,y1,y2,y3,n1,n4,intRow,Int.ofNat_zero,Int.ofNat_one,Bt,Bf,vcs,seval,tys]|exact rfl|refine call_off (v:=.any) ?_|(first|(refine call_fn ?_ (hp _) ?_)|(refine call_fn_g ?_ (fun _=>hp _) ?_)|(refine call_fn ?_ (hx _) ?_)|(refine call_fn_g ?_ (fun _=>hx _) ?_))|(refine call_off (v:=.any) ?_)|((first|(refine call_val (g:=?_) ?_ ?_)|(refine call_valg (g:=?_) ?_ ?_));rotate_left 1;(focus (simp only[results26,ntmps26,wks,hq,hy,bases_def,rK_def,z0,z1,z2,z3,y0,y1,y2,y3,n1,n4,intRow,Int.ofNat_zero,Int.ofNat_one,Bt,Bf,vcs,seval,tys]<;>exact rfl)))|refine draw_end (by decide +kernel) ?_|((first|apply Ca|apply Cb)<;>intro hb)|refine Ai (by omega) ?_|(apply Ai<;>intro hb)
            all_goals ((refine Fin.give [(q,none),(y,none)] [] ?_ ?_ ?_ ?_ ?_ (fun q hq=>by have hqq:=ho q hq;first|(simp only[gives,tgt,Lc,Lo,Lk,Ln,or_false]at hqq ⊢;omega)|(simp only[gives,tgt,Lc,Lo,Lk,Ln,or_false]at hqq))<;>(try simp only[results26,ntmps26,wks,hq,hy,rK_def,ren_bytesI,renOk_bytesI,z0,z1,z2,z3,y0,y1,y2,y3,n1,n4,giv,vcs,seval,tys])<;>(try simp only[injs])<;>(try omega)))
          · rw[hm]at h;cases h
        | some n =>
          rw[hL,hexR_some]at hx
          rw[hL]at hm
          have hmy:=tMay_ev (n:Int)
          cases hmm:may (n:Int) with
          | false =>
            rw[hmm]at hmy
            rw[point_no hmm]at hm
            rcases hve with ⟨_,rfl,rfl⟩|⟨x,h,_⟩
            · repeat' first|simp only[fins,mems,results26,ntmps26,wks,hq,hy,bases_def,rK_def,z0,z1,z2,z3,y0,y1,y2,y3,n1,n4,intRow,Int.ofNat_zero,Int.ofNat_one,Bt,Bf,vcs,seval,tys]|exact rfl|refine call_off (v:=.any) ?_|(first|(refine call_fn ?_ (hp _) ?_)|(refine call_fn_g ?_ (fun _=>hp _) ?_)|(refine call_fn ?_ (hx _) ?_)|(refine call_fn_g ?_ (fun _=>hx _) ?_)|(refine call_fn ?_ (hmy _) ?_)|(refine call_fn_g ?_ (fun _=>hmy _) ?_))|((first|(refine call_val (g:=?_) ?_ ?_)|(refine call_valg (g:=?_) ?_ ?_));rotate_left 1;(focus (simp only[results26,ntmps26,wks,hq,hy,bases_def,rK_def,z0,z1,z2,z3,y0,y1,y2,y3,n1,n4,intRow,Int.ofNat_zero,Int.ofNat_one,Bt,Bf,vcs,seval,tys]<;>exact rfl)))|refine draw_end (by decide +kernel) ?_|((first|apply Ca|apply Cb)<;>intro hb)|refine Ai (by omega) ?_|(apply Ai<;>intro hb)
              all_goals ((refine Fin.give [(q,none),(y,none)] [] ?_ ?_ ?_ ?_ ?_ (fun q hq=>by have hqq:=ho q hq;first|(simp only[gives,tgt,Lc,Lo,Lk,Ln,or_false]at hqq ⊢;omega)|(simp only[gives,tgt,Lc,Lo,Lk,Ln,or_false]at hqq))<;>(try simp only[results26,ntmps26,wks,hq,hy,rK_def,ren_bytesI,renOk_bytesI,z0,z1,z2,z3,y0,y1,y2,y3,n1,n4,giv,vcs,seval,tys])<;>(try simp only[injs])<;>(try omega)))
            · rw[hm]at h;cases h
          | true =>
            rw[hmm]at hmy
            rw[point_yes hmm]at hm
            rcases hve with ⟨h,_⟩|⟨x,h,rfl,rfl⟩
            · rw[hm]at h;cases h
            · rw[hm]at h;cases h
              obtain⟨o1,o2⟩:=of_one hmm
              have hof:=of_ev [(n:Int)] (by simp)
              rw[o1,o2]at hof
              simp only[intRow,Lc,Lo]at hof
              have hel:=encodeRune_length (n:Int)
              have hmp:out.map byteRow++(encodeRune (n:Int)).map byteRow=(out++encodeRune (n:Int)).map byteRow:=by rw[List.map_append]
              rw[List.length_append]
              repeat' first|simp only[fins,mems,results26,ntmps26,wks,hq,hy,bases_def,rK_def,z0,z1,z2,z3,y0,y1,y2,y3,n1,n4,intRow,Int.ofNat_zero,Int.ofNat_one,hmp,tyT,if_true,blkT_some,one_bsI,fresh_self,Lm,List.take_of_length_le,Nat.le_refl,Option.bind_some,Bt,Bf,vcs,seval,tys]|exact rfl|refine call_off (v:=.any) ?_|(first|(refine call_fn ?_ (hp _) ?_)|(refine call_fn_g ?_ (fun _=>hp _) ?_)|(refine call_fn ?_ (hx _) ?_)|(refine call_fn_g ?_ (fun _=>hx _) ?_)|(refine call_fn ?_ (hmy _) ?_)|(refine call_fn_g ?_ (fun _=>hmy _) ?_))|((refine call_fn_vx (xs:=?_) [b0+544] ?_ ?_ ?_ rfl (hof _) ?_);rotate_left 1)|((first|(refine call_val (g:=?_) ?_ ?_)|(refine call_valg (g:=?_) ?_ ?_));rotate_left 1;(focus (simp only[results26,ntmps26,wks,hq,hy,bases_def,rK_def,z0,z1,z2,z3,y0,y1,y2,y3,n1,n4,intRow,Int.ofNat_zero,Int.ofNat_one,hmp,tyT,if_true,blkT_some,one_bsI,fresh_self,Lm,List.take_of_length_le,Nat.le_refl,Option.bind_some,Bt,Bf,vcs,seval,tys]<;>exact rfl)))|omega|refine draw_end (by decide +kernel) ?_|((first|apply Ca|apply Cb)<;>intro hb)|refine Ai (by omega) ?_|(apply Ai<;>intro hb)
              all_goals ((refine Fin.give [(q,none),(b0+768,some 0)] [y] ?_ ?_ ?_ ?_ ?_ (fun q hq=>by have hqq:=ho q hq;first|(simp only[gives,tgt,Lc,Lo,Lk,Ln,or_false]at hqq ⊢;omega)|(simp only[gives,tgt,Lc,Lo,Lk,Ln,or_false]at hqq))<;>(try simp only[results26,ntmps26,wks,hq,hy,rK_def,ren_bytesI,renOk_bytesI,z0,z1,z2,z3,y0,y1,y2,y3,n1,n4,giv,vcs,seval,tys])<;>(try simp only[injs])<;>(try omega)))
      | false =>
        have hp:=hp1
        rw[preR_no hb]at hp
        repeat' first|simp only[fins,mems,results26,ntmps26,wks,hq,hy,bases_def,rK_def,z0,z1,z2,z3,y0,y1,y2,y3,n1,n4,intRow,Int.ofNat_zero,Int.ofNat_one,hwk,Bt,Bf,vcs,seval,tys]|exact rfl|refine call_off (v:=.any) ?_|(first|(refine call_fn ?_ (hp _) ?_)|(refine call_fn_g ?_ (fun _=>hp _) ?_))|((first|(refine call_val (g:=?_) ?_ ?_)|(refine call_valg (g:=?_) ?_ ?_));rotate_left 1;(focus (simp only[results26,ntmps26,wks,hq,hy,bases_def,rK_def,z0,z1,z2,z3,y0,y1,y2,y3,n1,n4,intRow,Int.ofNat_zero,Int.ofNat_one,hwk,Bt,Bf,vcs,seval,tys]<;>exact rfl)))|refine draw_end (by decide +kernel) ?_|((first|apply Ca|apply Cb)<;>intro hb)|refine Ai (by omega) ?_|(apply Ai<;>intro hb)
        all_goals ((refine again_can2 cxG (2) [some b0,some q,some y] ?_ ?_ ?_ ?_;rotate_left 2;(focus (show b0≤_;omega));(focus (refine⟨?_,?_⟩<;>(try simp only[cans,hwk,bases_def,isRow_typed,Int.ofNat_one,hq,hy,rK_def,ren_bytesI,renOk_bytesI,z0,z1,z2,z3,y0,y1,y2,y3,n1,n4,vcs,seval,tys,injs])<;>(try omega)))))
        all_goals (first|omega|exact⟨by omega,hk1,fun _=>hb⟩|exact⟨by omega,fun _=>hk1 (by omega),fun _=>hb⟩|exact⟨by omega,fun _=>hb⟩|exact⟨by omega,fun _=>hk1 (by omega)⟩|skip)
    · have hm:=meant_non hf (hk2 (by omega))
      rcases hve with ⟨_,rfl,rfl⟩|⟨x,h,_⟩
      · repeat' first|simp only[fins,mems,results26,ntmps26,wks,hq,hy,bases_def,rK_def,z0,z1,z2,z3,y0,y1,y2,y3,n1,n4,intRow,Int.ofNat_zero,Int.ofNat_one,Bt,Bf,vcs,seval,tys]|exact rfl|refine call_off (v:=.any) ?_|((first|(refine call_val (g:=?_) ?_ ?_)|(refine call_valg (g:=?_) ?_ ?_));rotate_left 1;(focus (simp only[results26,ntmps26,wks,hq,hy,bases_def,rK_def,z0,z1,z2,z3,y0,y1,y2,y3,n1,n4,intRow,Int.ofNat_zero,Int.ofNat_one,Bt,Bf,vcs,seval,tys]<;>exact rfl)))|refine draw_end (by decide +kernel) ?_|((first|apply Ca|apply Cb)<;>intro hb)|refine Ai (by omega) ?_|(apply Ai<;>intro hb)
        all_goals ((refine Fin.give [(q,none),(y,none)] [] ?_ ?_ ?_ ?_ ?_ (fun q hq=>by have hqq:=ho q hq;first|(simp only[gives,tgt,Lc,Lo,Lk,Ln,or_false]at hqq ⊢;omega)|(simp only[gives,tgt,Lc,Lo,Lk,Ln,or_false]at hqq))<;>(try simp only[results26,ntmps26,wks,hq,hy,rK_def,ren_bytesI,renOk_bytesI,z0,z1,z2,z3,y0,y1,y2,y3,n1,n4,giv,vcs,seval,tys])<;>(try simp only[injs])<;>(try omega)))
      · rw[hm]at h;cases h
theorem call_off_bnd {Q:Post}{st:List Frm}{nm:Nat}{e:Env}{M:Mem}{d:Bool}{fs:List (List Nat)}{ops:List Oper}{dst:Option Tmp}{f:Operand}{args:Array Operand}{ats:Array TypeId}{t:TypeId}{pos:String}{af:Array Edge}{gd:Option (Nat×Bool)}{r:List Oper}{i:Nat}{g:FuncId}{fi:List V}{v:V}
  (hf:evalV cx.G false e f = .fnb g fi) (h:goOps cx Q st nm (e.putD dst (.gd false v)) M d (fs++[[]]) ops r (i+1)):goCallG cx Q st nm e M d fs false ops ⟨dst,.call ⟨.value f,args,ats⟩,t,pos,af,gd⟩ r i:=by
 unfold goCallG vcCallG
 refine .inl ?_
 simp only[hf,V.tgt]
 exact⟨[],v,fun h=>(by cases h),h⟩
theorem meant_length {a x:List UInt8}(h:meantL a=some x):x.length≤4:=by
 have hp:∀ o,pointW o=some x→x.length≤4:=fun o h=>by
  cases o with
  | none=>cases h
  | some n =>
   cases hm:may (n:Int) with
   | true=>rw[point_yes hm]at h;cases h;exact(encodeRune_length (n:Int)).2
   | false=>rw[point_no hm]at h;cases h
 unfold meantL at h
 repeat' split at h
 all_goals (first|(cases h;simp;done)|exact hp _ h|cases h)
def getE (s:List UInt8):Int:=if ptsErr s≠0 then ptsErr s else match readL s with|none=>80|some _=>0
def getT (s:List UInt8):List UInt8:=if getE s=0 then (readL s).getD [] else []
def getV (s:List UInt8):V:=.tup [.str (getT s),.int .i64 (getE s)]
theorem getV_pts {s:List UInt8}(h:ptsErr s≠0):getV s = .tup [.str [],.int .i64 (ptsErr s)]:=by
 have he:getE s=ptsErr s:=by unfold getE;rw[if_pos h]
 unfold getV getT;rw[he,if_neg h]
theorem getV_none {s:List UInt8}(h:ptsErr s=0)(h2:readL s=none):getV s = .tup [.str [],.int .i64 80]:=by
 have he:getE s=80:=by unfold getE;rw[if_neg (by simp[h]),h2]
 unfold getV getT;rw[he];rfl
theorem getV_some {s x:List UInt8}(h:ptsErr s=0)(h2:readL s=some x):getV s = .tup [.str x,.int .i64 0]:=by
 have he:getE s=0:=by unfold getE;rw[if_neg (by simp[h]),h2]
 unfold getV getT;rw[he,h2];rfl
section
variable (rest a b:List UInt8) (hr:rest.length≤1000000) (hc:cut1 59 rest=some (a,b))
include hr hc
theorem refer_no (hm:meantL a=none)(q y:Nat)(out:List UInt8)(hout:out.length≤1000000)(M:Mem)(nm:Nat)(hqy:q≠y)(hq:M q=some (rdK rest y out.length))(hy:M y=some (rK out))(ho:∀ w,(M w).isSome=true→w∈[q,y])(hqn:q<nm)(hyn:y<nm) :
  Ev cx 26 nm [.ptr q 0 0] M (.bool false) [(q,some (rdK rest y out.length)),(y,some (rK out))]:=by
 rcases find_named a with ⟨x,_,h,_⟩|⟨hf,_⟩
 ·rw[hm]at h;cases h
 ·exact refer_num rest a b hr hc hf q y out hout M nm hqy hq hy ho hqn hyn _ _ (.inl ⟨hm,rfl,rfl⟩)
theorem refer_yes (x:List UInt8)(hm:meantL a=some x)(q y:Nat)(out:List UInt8)(hout:out.length≤1000000)(M:Mem)(nm:Nat)(hqy:q≠y)(hq:M q=some (rdK rest y out.length))(hy:M y=some (rK out))(ho:∀ w,(M w).isSome=true→w∈[q,y])(hqn:q<nm)(hyn:y<nm) :
  Ev cx 26 nm [.ptr q 0 0] M (.bool true) [(y,none),(q,some (rdK b nm (out++x).length)),(nm,some (rK (out++x)))]:=by
 rcases find_named a with ⟨x',hf,h,hx⟩|⟨hf,_⟩
 ·rw[hm]at h;cases h
  exact refer_word rest a b x hr hc hf hx q y out hout M nm hqy hq hy ho hqn hyn
 ·exact refer_num rest a b hr hc hf q y out hout M nm hqy hq hy ho hqn hyn _ _ (.inr ⟨x,hm,rfl,rfl⟩)
end
structure RSt where
 rest:List UInt8
 out:List UInt8
def RSt.inv (s:List UInt8)(x:RSt):Prop:=readL s=(readL x.rest).map (x.out ++ ·)∧x.rest.length≤s.length∧x.out.length≤4*(s.length-x.rest.length)
theorem map_app (o:Option (List UInt8))(a b:List UInt8):(o.map (b ++ ·)).map (a ++ ·)=o.map ((a++b) ++ ·):=by cases o<;>simp
theorem eGet_ev (s:List UInt8)(hs:s.length≤lim)(nm:Nat):Ev cx 19 nm [.str s] Mem.nil (getV s) []:=by
  by_cases hz:ptsErr s=0
  · have hb:(ptsErr s != 0)=false:=by rw[hz];rfl
    have hlen:=ptsErr_len hz
    refine ev_go rfl (fun cargs w=>call19 cargs w) func19 rfl mixed (by kernel_rfl) rfl ?_;intro b0 hb0
    repeat' first|simp only[fins,mems,results19,ntmps19,wks,hb,vcs,seval,tys]|exact rfl|refine call_off (v:=.any) ?_|(first|(refine call_fn ?_ (tCheck_ev s hs _) ?_)|(refine call_fn_g ?_ (fun _=>tCheck_ev s hs _) ?_))|((first|(refine call_val (g:=?_) ?_ ?_)|(refine call_valg (g:=?_) ?_ ?_));rotate_left 1;(focus (simp only[results19,ntmps19,wks,hb,vcs,seval,tys]<;>exact rfl)))|((first|apply Ca|apply Cb)<;>intro hb)|refine Ai (by omega) ?_|(apply Ai<;>intro hb)
    (refine loop_can2 cxG (fun x:RSt=>x.rest.length) (fun x=>x.inv s) (b0+16) (fun x=>[(5,.ptr b0 0 0),(6,.fnb 26 [.ptr b0 0 0])]) (fun x=>[(b0,rdK x.rest (b0+1) x.out.length),(b0+1,rK x.out)]) (RSt.mk s []) [some (b0+144),none] ?_ ?_ ?_ ?_;rotate_left 1;(focus (show b0≤_;omega));(focus (refine⟨?_,?_⟩<;>(try simp only[cans,rdK_def,rK_def,ren_bytesI,renOk_bytesI,isRow_typed,isRow_inst,Lo,List.length_nil,vcs,seval,tys,injs])<;>(try omega)));rotate_left 1)
    · refine⟨?_,Nat.le_refl _,Nat.zero_le _⟩
      cases readL s<;>rfl
    · rintro ⟨rest,out⟩ ⟨h1,h2,h3⟩
      simp only at h1 h2 h3
      cases rest with
      | nil =>
        have hd:(([]:List UInt8) != [])=false:=rfl
        have hr:readL s=some out:=by rw[h1,readL_nil];simp
        have hv:=getV_some hz hr
        have htk:(out.map byteRow).take out.length=out.map byteRow:=List.take_of_length_le (by simp)
        (repeat' first|simp only[fins,mems,results19,ntmps19,wks,hd,hv,htk,rdK_def,rK_def,Lm,Nat.le_refl,vcs,seval,tys]|exact rfl|refine call_off (v:=.any) ?_|(refine ext_toStr (v:=?_) (bs:=out) ?_ ?_ ?_ ?_ ?_ ?_ ?_;rotate_left 1;(iterate 2 (focus (simp only[results19,ntmps19,wks,hd,hv,htk,rdK_def,rK_def,Lm,Nat.le_refl,vcs,seval,tys];done)));(focus (simp only[results19,ntmps19,wks,hd,hv,htk,rdK_def,rK_def,Lm,Nat.le_refl,vcs,seval,tys]<;>exact rfl));(focus (exact rfl));(focus (simp only[mems,results19,ntmps19,wks,hd,hv,htk,rdK_def,rK_def,Lm,Nat.le_refl,vcs,seval,tys];done));(focus (simp only[results19,ntmps19,wks,hd,hv,htk,rdK_def,rK_def,Lm,Nat.le_refl,vcs,seval,tys]<;>exact rfl)))|(refine extG_true ?_)|(refine extG_false ?_)|((first|(refine call_val (g:=?_) ?_ ?_)|(refine call_valg (g:=?_) ?_ ?_));rotate_left 1;(focus (simp only[results19,ntmps19,wks,hd,hv,htk,rdK_def,rK_def,Lm,Nat.le_refl,vcs,seval,tys]<;>exact rfl)))|((first|apply Ca|apply Cb)<;>intro hb)|refine Ai (by omega) ?_|(apply Ai<;>intro hb)|refine Fin.pure ?_ ?_ ?_|simp only[injs])
      | cons c r =>
        have hd:(!((c::r)==[]))=true:=rfl
        have hl0:0<(c::r).length:=by simp
        have hl1:1≤(c::r).length:=by simp
        have hl2:(1:Int)≤((c::r).length:Int):=by simp only[List.length_cons];omega
        simp only[List.length_cons]at hl0 hl1 hl2 h2 h3
        have q60:((c.toNat:Int)==60)=decide (c=60):=beq_byte c 60
        have q38:((c.toNat:Int)==38)=decide (c=38):=beq_byte c 38
        by_cases c60:c=60
        · have d60:decide (c=60)=true:=decide_eq_true c60
          rw[d60]at q60
          have hr:readL s=none:=by rw[h1,c60,readL_lt];rfl
          have hv:=getV_none hz hr
          (repeat' first|simp only[fins,mems,results19,ntmps19,wks,hd,hl0,hl1,hl2,hv,q60,rdK_def,rK_def,List.getElem?_cons_zero,List.drop_succ_cons,List.drop_zero,vcs,seval,tys]|exact rfl|refine call_off (v:=.any) ?_|((first|(refine call_val (g:=?_) ?_ ?_)|(refine call_valg (g:=?_) ?_ ?_));rotate_left 1;(focus (simp only[results19,ntmps19,wks,hd,hl0,hl1,hl2,hv,q60,rdK_def,rK_def,List.getElem?_cons_zero,List.drop_succ_cons,List.drop_zero,vcs,seval,tys]<;>exact rfl)))|((first|apply Ca|apply Cb)<;>intro hb)|refine Ai (by omega) ?_|(apply Ai<;>intro hb)|refine Fin.pure ?_ ?_ ?_|simp only[injs])
        have d60:decide (c=60)=false:=decide_eq_false c60
        rw[d60]at q60
        by_cases c38:c=38
        · have d38:decide (c=38)=true:=decide_eq_true c38
          rw[d38]at q38
          subst c38
          cases hc:cut1 59 r with
          | none =>
            have hr:readL s=none:=by rw[h1,readL_none hc];rfl
            have hv:=getV_none hz hr
            have href:=refer_cut r (by omega) hc b0 (b0+1) out
            (repeat' first|simp only[fins,mems,results19,ntmps19,wks,hd,hl0,hl1,hl2,hv,q60,q38,rdK_def,rK_def,List.getElem?_cons_zero,List.drop_succ_cons,List.drop_zero,Bf,vcs,seval,tys]|exact rfl|refine call_off (v:=.any) ?_|((refine call_on_bnd (fi:=?_) ?_ ?_ [b0,b0+1] (href _ _ (by omega) ?_ ?_ only_mem (by omega) (by omega)) ?_ ?_);rotate_left 1)|((first|(refine call_val (g:=?_) ?_ ?_)|(refine call_valg (g:=?_) ?_ ?_));rotate_left 1;(focus (simp only[results19,ntmps19,wks,hd,hl0,hl1,hl2,hv,q60,q38,rdK_def,rK_def,List.getElem?_cons_zero,List.drop_succ_cons,List.drop_zero,Bf,vcs,seval,tys]<;>exact rfl)))|((first|apply Ca|apply Cb)<;>intro hb)|refine Ai (by omega) ?_|(apply Ai<;>intro hb)|refine Fin.pure ?_ ?_ ?_|simp only[injs])
          | some p =>
            obtain⟨a,b⟩:=p
            have hcl:=cut1_len hc
            cases hm:meantL a with
            | none =>
              have hr:readL s=none:=by rw[h1,readL_bad hc hm];rfl
              have hv:=getV_none hz hr
              have href:=refer_no r a b (by omega) hc hm b0 (b0+1) out (by omega)
              (repeat' first|simp only[fins,mems,results19,ntmps19,wks,hd,hl0,hl1,hl2,hv,q60,q38,rdK_def,rK_def,List.getElem?_cons_zero,List.drop_succ_cons,List.drop_zero,Bf,vcs,seval,tys]|exact rfl|refine call_off (v:=.any) ?_|((refine call_on_bnd (fi:=?_) ?_ ?_ [b0,b0+1] (href _ _ (by omega) ?_ ?_ only_mem (by omega) (by omega)) ?_ ?_);rotate_left 1)|((first|(refine call_val (g:=?_) ?_ ?_)|(refine call_valg (g:=?_) ?_ ?_));rotate_left 1;(focus (simp only[results19,ntmps19,wks,hd,hl0,hl1,hl2,hv,q60,q38,rdK_def,rK_def,List.getElem?_cons_zero,List.drop_succ_cons,List.drop_zero,Bf,vcs,seval,tys]<;>exact rfl)))|((first|apply Ca|apply Cb)<;>intro hb)|refine Ai (by omega) ?_|(apply Ai<;>intro hb)|refine Fin.pure ?_ ?_ ?_|simp only[injs])
            | some x =>
              have hxl:=meant_length hm
              have hr:readL s=(readL b).map ((out++x) ++ ·):=by rw[h1,readL_ref hc hm,map_app]
              have href:=refer_yes r a b (by omega) hc x hm b0 (b0+1) out (by omega)
              have q38n:(((38:UInt8).toNat:Int) != 38)=false:=rfl
              repeat' first|simp only[fins,mems,results19,ntmps19,wks,hd,hl0,hl1,hl2,q60,q38,q38n,rdK_def,rK_def,fresh_self,List.getElem?_cons_zero,List.drop_succ_cons,List.drop_zero,Bt,vcs,seval,tys]|exact rfl|refine call_off (v:=.any) ?_|((refine call_on_bnd (fi:=?_) ?_ ?_ [b0,b0+1] (href _ _ (by omega) ?_ ?_ only_mem (by omega) (by omega)) ?_ ?_);rotate_left 1)|((first|(refine call_val (g:=?_) ?_ ?_)|(refine call_valg (g:=?_) ?_ ?_));rotate_left 1;(focus (simp only[results19,ntmps19,wks,hd,hl0,hl1,hl2,q60,q38,q38n,rdK_def,rK_def,fresh_self,List.getElem?_cons_zero,List.drop_succ_cons,List.drop_zero,Bt,vcs,seval,tys]<;>exact rfl)))|((first|apply Ca|apply Cb)<;>intro hb)|refine Ai (by omega) ?_|(apply Ai<;>intro hb)
              all_goals ((refine again_can2 cxG (RSt.mk b (out++x)) [some b0,some (b0+448)] ?_ ?_ ?_ ?_;rotate_left 2;(focus (show b0≤_;omega));(focus (refine⟨?_,?_⟩<;>(try simp only[cans,rdK_def,rK_def,ren_bytesI,renOk_bytesI,isRow_typed,isRow_inst,Lm,vcs,seval,tys,injs])<;>(try omega)))))
              all_goals (first|(show b.length<(38::r).length;simp only[List.length_cons];omega)|(refine⟨hr,?_,?_⟩<;>simp only[List.length_append]<;>omega)|skip)
        · have d38:decide (c=38)=false:=decide_eq_false c38
          rw[d38]at q38
          have q38n:((c.toNat:Int) != 38)=true:=by unfold bne;rw[q38];rfl
          have hr:readL s=(readL r).map ((out++[c]) ++ ·):=by rw[h1,readL_other c60 c38];cases readL r<;>simp
          have hsn:out.map byteRow++[[V.int .u8 c.toNat]]=(out++[c]).map byteRow:=by rw[List.map_append];rfl
          repeat' first|simp only[fins,mems,results19,ntmps19,wks,hd,hl0,hl1,hl2,q60,q38,q38n,hsn,rdK_def,rK_def,fresh_self,tyT,if_true,blkT_some,one_bsI,Lm,List.take_of_length_le,Nat.le_refl,Option.bind_some,List.getElem?_cons_zero,List.drop_succ_cons,List.drop_zero,Bt,Bf,vcs,seval,tys]|exact rfl|refine call_off (v:=.any) ?_|((refine call_off_bnd (v:=.any) (g:=?_) (fi:=?_) ?_ ?_);rotate_left 2)|((first|(refine call_val (g:=?_) ?_ ?_)|(refine call_valg (g:=?_) ?_ ?_));rotate_left 1;(focus (simp only[results19,ntmps19,wks,hd,hl0,hl1,hl2,q60,q38,q38n,hsn,rdK_def,rK_def,fresh_self,tyT,if_true,blkT_some,one_bsI,Lm,List.take_of_length_le,Nat.le_refl,Option.bind_some,List.getElem?_cons_zero,List.drop_succ_cons,List.drop_zero,Bt,Bf,vcs,seval,tys]<;>exact rfl)))|((first|apply Ca|apply Cb)<;>intro hb)|refine Ai (by omega) ?_|(apply Ai<;>intro hb)
          all_goals ((refine again_can2 cxG (RSt.mk r (out++[c])) [some b0,some (b0+672)] ?_ ?_ ?_ ?_;rotate_left 2;(focus (show b0≤_;omega));(focus (refine⟨?_,?_⟩<;>(try simp only[cans,rdK_def,rK_def,ren_bytesI,renOk_bytesI,isRow_typed,isRow_inst,Lm,List.length_append,List.length_cons,List.length_nil,vcs,seval,tys,injs])<;>(try omega)))))
          all_goals (first|(show r.length<(c::r).length;simp only[List.length_cons];omega)|(refine⟨hr,?_,?_⟩<;>simp only[List.length_append,List.length_cons,List.length_nil]<;>omega)|skip)
  · have hb:(ptsErr s != 0)=true:=by rw[bne_iff_ne];exact hz
    have hv:=getV_pts hz
    refine ev_go rfl (fun cargs w=>call19 cargs w) func19 rfl mixed (by kernel_rfl) rfl ?_;intro b0 hb0
    (repeat' first|simp only[fins,mems,results19,ntmps19,wks,hb,hv,vcs,seval,tys]|exact rfl|refine call_off (v:=.any) ?_|(first|(refine call_fn ?_ (tCheck_ev s hs _) ?_)|(refine call_fn_g ?_ (fun _=>tCheck_ev s hs _) ?_))|((first|(refine call_val (g:=?_) ?_ ?_)|(refine call_valg (g:=?_) ?_ ?_));rotate_left 1;(focus (simp only[results19,ntmps19,wks,hb,hv,vcs,seval,tys]<;>exact rfl)))|((first|apply Ca|apply Cb)<;>intro hb)|refine Ai (by omega) ?_|(apply Ai<;>intro hb)|refine Fin.pure ?_ ?_ ?_|simp only[injs])
def readF:Nat→List UInt8→Option (List UInt8)
 | _,[]=>some []
 | 0,_::_=>none
 | n+1,c::r=>if c=60 then none else if c=38 then (match cut1 59 r with|none=>none|some p=>match meantL p.1 with|none=>none|some x=>(readF n p.2).map (x ++ ·)) else (readF n r).map (c :: ·)
theorem readF_eq:∀(n:Nat) (s:List UInt8),s.length≤n→readL s=readF n s
 | n,[],_=>by rw[readL_nil];cases n<;>rfl
 | 0,c::r,h=>by simp at h
 | n+1,c::r,h=>by
  have hl:r.length≤n:=by simpa using h
  by_cases h1:c=60
  ·subst h1;rw[readL_lt];rfl
  by_cases h2:c=38
  ·subst h2
   cases hc:cut1 59 r with
   | none=>rw[readL_none hc];simp[readF,hc]
   | some p =>
    obtain⟨a,b⟩:=p
    have:=cut1_len hc
    cases hm:meantL a with
    | none=>rw[readL_bad hc hm];simp[readF,hc,hm]
    | some x=>rw[readL_ref hc hm,readF_eq n b (by omega)];simp[readF,hc,hm]
  ·rw[readL_other h1 h2,readF_eq n r hl];simp[readF,h1,h2]
def getEF (s:List UInt8):Int:=if ptsErr s≠0 then ptsErr s else match readF s.length s with|none=>80|some _=>0
def getTF (s:List UInt8):List UInt8:=if getEF s=0 then (readF s.length s).getD [] else []
theorem getE_F (s:List UInt8):getE s=getEF s:=by unfold getE getEF;rw[readF_eq _ s (Nat.le_refl _)];all_goals (cases readF s.length s<;>rfl)
theorem getT_F (s:List UInt8):getT s=getTF s:=by unfold getT getTF;rw[getE_F,readF_eq _ s (Nat.le_refl _)]
def writesB (s:List UInt8)(q:Bool)(want:List UInt8):Bool:=(putE q s==0)&&(putT q s==want)
def readsB (s want:List UInt8):Bool:=(getE s==0)&&(getT s==want)
def oddB (s:List UInt8):Bool:=(getE s==80)&&(getT s==[])
theorem reads_F {s want:List UInt8}(h:getEF s=0∧getTF s=want):readsB s want=true:=by
 unfold readsB;rw[getE_F,getT_F,h.1,h.2];simp
theorem writes_F {s want:List UInt8}{q:Bool}(h:putE q s=0∧putT q s=want):writesB s q want=true:=by
 unfold writesB;rw[h.1,h.2];simp
theorem writes_ev (s:List UInt8)(q:Bool)(want:List UInt8)(hs:s.length≤lim)(nm:Nat):Ev cx 11 nm [.str s,.bool q,.str want] Mem.nil (.bool (writesB s q want)) []:=by
 have h:=ePut_ev s q hs
 unfold writesB
 generalize putE q s=e at h ⊢
 generalize putT q s=t at h ⊢
 cases he:(e==0)<;>(
  refine ev_go rfl (fun cargs w=>call11 cargs w) func11 rfl mixed (by kernel_rfl) rfl ?_;intro b0 hb0
  (repeat' first|simp only[fins,mems,results11,ntmps11,wks,he,Bool.false_and,Bool.true_and,vcs,seval,tys]|exact rfl|refine call_off (v:=.any) ?_|(first|(refine call_fn ?_ (h _) ?_)|(refine call_fn_g ?_ (fun _=>h _) ?_))|((first|apply Ca|apply Cb)<;>intro hb)|refine Ai (by omega) ?_|(apply Ai<;>intro hb)|refine Fin.pure ?_ ?_ ?_|simp only[injs]))
theorem reads_ev (s want:List UInt8)(hs:s.length≤lim)(nm:Nat):Ev cx 10 nm [.str s,.str want] Mem.nil (.bool (readsB s want)) []:=by
 have h:=eGet_ev s hs
 unfold getV at h
 unfold readsB
 generalize getE s=e at h ⊢
 generalize getT s=t at h ⊢
 cases he:(e==0)<;>(
  refine ev_go rfl (fun cargs w=>call10 cargs w) func10 rfl mixed (by kernel_rfl) rfl ?_;intro b0 hb0
  (repeat' first|simp only[fins,mems,results10,ntmps10,wks,he,Bool.false_and,Bool.true_and,vcs,seval,tys]|exact rfl|refine call_off (v:=.any) ?_|(first|(refine call_fn ?_ (h _) ?_)|(refine call_fn_g ?_ (fun _=>h _) ?_))|((first|apply Ca|apply Cb)<;>intro hb)|refine Ai (by omega) ?_|(apply Ai<;>intro hb)|refine Fin.pure ?_ ?_ ?_|simp only[injs]))
theorem odd_ev (s:List UInt8)(hs:s.length≤lim)(nm:Nat):Ev cx 8 nm [.str s] Mem.nil (.bool (oddB s)) []:=by
 have h:=eGet_ev s hs
 unfold getV at h
 unfold oddB
 generalize getE s=e at h ⊢
 generalize getT s=t at h ⊢
 cases he:(e==80)<;>(
  refine ev_go rfl (fun cargs w=>call8 cargs w) func8 rfl mixed (by kernel_rfl) rfl ?_;intro b0 hb0
  (repeat' first|simp only[fins,mems,results8,ntmps8,wks,he,Bool.false_and,Bool.true_and,vcs,seval,tys]|exact rfl|refine call_off (v:=.any) ?_|(first|(refine call_fn ?_ (h _) ?_)|(refine call_fn_g ?_ (fun _=>h _) ?_))|((first|apply Ca|apply Cb)<;>intro hb)|refine Ai (by omega) ?_|(apply Ai<;>intro hb)|refine Fin.pure ?_ ?_ ?_|simp only[injs]))
theorem writes_yes {s want:List UInt8}{q:Bool}(h:putE q s=0∧putT q s=want)(hs:s.length≤lim)(nm:Nat):Ev cx 11 nm [.str s,.bool q,.str want] Mem.nil (.bool true) []:=by
 have:=writes_ev s q want hs nm;rwa[writes_F h]at this
theorem reads_yes {s want:List UInt8}(h:getEF s=0∧getTF s=want)(hs:s.length≤lim)(nm:Nat):Ev cx 10 nm [.str s,.str want] Mem.nil (.bool true) []:=by
 have:=reads_ev s want hs nm;rwa[reads_F h]at this
theorem alive1 (nm:Nat):Ev cx 11 nm [.str [97,60,98,32,38,32,34,99,34],.bool false,.str [97,38,108,116,59,98,32,38,97,109,112,59,32,34,99,34]] Mem.nil (.bool true) []:=writes_yes (by decide +kernel) (by decide) nm
theorem alive2 (nm:Nat):Ev cx 11 nm [.str [97,60,98,32,38,32,34,99,34],.bool true,.str [97,38,108,116,59,98,32,38,97,109,112,59,32,38,113,117,111,116,59,99,38,113,117,111,116,59]] Mem.nil (.bool true) []:=writes_yes (by decide +kernel) (by decide) nm
theorem aliveR (nm:Nat):Ev cx 10 nm [.str [38,35,120,52,49,59,38,35,54,54,59,38,108,116,59],.str [65,66,60]] Mem.nil (.bool true) []:=reads_yes (by decide +kernel) (by decide) nm
theorem alive_ev (nm:Nat):Ev cx 4 nm [] Mem.nil (.bool true) []:=by
 refine ev_go rfl (fun cargs w=>call4 cargs w) func4 rfl mixed (by kernel_rfl) rfl ?_;intro b0 hb0
 (repeat' first|simp only[fins,mems,results4,ntmps4,wks,vcs,seval,tys]|exact rfl|refine call_off (v:=.any) ?_|((first|(refine call_fn ?_ (alive1 _) ?_)|(refine call_fn_g ?_ (fun _=>alive1 _) ?_));(focus (simp only[results4,ntmps4,wks,vcs,seval,tys]<;>exact rfl)))|((first|(refine call_fn ?_ (alive2 _) ?_)|(refine call_fn_g ?_ (fun _=>alive2 _) ?_));(focus (simp only[results4,ntmps4,wks,vcs,seval,tys]<;>exact rfl)))|(first|(refine call_fn ?_ (aliveR _) ?_)|(refine call_fn_g ?_ (fun _=>aliveR _) ?_))|((first|apply Ca|apply Cb)<;>intro hb)|refine Ai (by omega) ?_|(apply Ai<;>intro hb)|refine Fin.pure ?_ ?_ ?_|simp only[injs])
end Go.Proofs.YtnnbggkpgacdiaaDoor
