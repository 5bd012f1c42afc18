/-
 Texts joined: XNq,XNr,XPe,XLo,XLj,XPd,XPf.
-/
import Derived.Test.YtjdjclecdfhciaaGreatDoorQm
import Derived.Test.YtjdjclecdfhciaaGreatDoorQe
import Derived.Test.YtjdjclecdfhciaaGreatDoorQk
import Derived.Test.YtjdjclecdfhciaaGreatDoorQo
namespace Go.Proofs.YtjdjclecdfhciaaGreatDoor
set_option maxRecDepth 100000
set_option maxHeartbeats 32000000
set_option linter.unusedSimpArgs false
set_option linter.unusedVariables false
open Go Go.RowKit Vm Go.Lib Tryz
open Vm renaming cond_bool→Ca,cond_bit→Cb
open And renaming intro→Ai
open List renaming length_map→Lm,not_mem_nil→Ln,map_nil→Lo,map_cons→Lc,mem_cons→Lk
open Bool renaming not_false→Bf,not_true→Bt
section
variable {cx:Cx} {Q:Post} {st:List Frm} {nm:Nat} {e:Env} {M:Mem} {d:Bool} {fs:List (List Nat)} {ops r:List Oper} {dst:Option Tmp} {t:TypeId} {pos:String} {af:Array Edge} {gd:Option (Nat×Bool)} {i:Nat}
theorem run_assert {P:Program}{w:World}{xt t:TypeId}(v:Value)(h:boxT P t=true):(Instr.typeAssert (.iface t v) xt t false).run P w = .ok v w:=by
 unfold boxT at h
 cases hu:P.underlying t with
 | none=>rw[hu]at h;cases h
 | some u =>
  rw[hu]at h
  simp only[Instr.typeAssert,Sem.run_bind,run_underlying hu w,Result.andThen_ok]
  cases u<;>first|(simp;done)|cases h
theorem ext_assert {xt ty:TypeId}{x:Operand}{u:V}(hx:evalV cx.G true e x = .iface ty u)(ht:boxT cx.P ty=true)
  (h:goOps cx Q st nm (e.putD dst u) M d (fs++[[]]) ops r (i+1)):goExt cx Q st nm e M d fs ops ⟨dst,.typeAssert x xt ty false,t,pos,af,gd⟩ r i:=by
 refine⟨_,[],_,⟨fun x hx=>by simp[effNames]at hx,fun x hx=>by simp[effNames]at hx,fun h=>absurd rfl h,fun h=>absurd rfl h,?_⟩,h⟩
 intro N X w0 I ρ e' M' a w hr he hin hev hMM hf
 have hxi:=he.eval hr (c:=true) rfl (hin x (by simp[Op.operands]))
 rw[hev x (by simp[Op.operands]),hx]at hxi
 cases hc:a.eval x with
 | iface t' v' =>
  rw[hc]at hxi
  cases hxi with
  | iface hv=>exact⟨v',w,(Steps1.still (nm:=nm+16*i) hr hv).n,wp_val (s:=Instr.typeAssert (a.eval x) xt ty false) rfl (by rw[hc];exact run_assert v' ht)⟩
 | _=>rw[hc]at hxi;cases hxi
end
theorem Ev.dd {D:List Deferred}{f:FuncId}{nm:Nat}{args:List V}{M:Mem}{v:V}{eff:List (Nat×Option Blk)}(h:Ev cx f nm args M v eff):Ev ⟨cx.P,cx.G,D⟩ f nm args M v eff:=h
theorem EvP.dd {D:List Deferred}{f:FuncId}{nm:Nat}{args:List V}{M:Mem}{v:V}(h:EvP cx f nm args M v):EvP ⟨cx.P,cx.G,D⟩ f nm args M v:=h
theorem rOneEnd_ev (s t n r:List UInt8)(hs:s.length≤16384)(h1:afterO 60 s=some t)(tag:∀(M:Mem) (nm q:Nat),M q=some (srcK t)→(∀ z,(M z).isSome=true→z∈[q])→q<nm→Ev cx 143 nm [.ptr q 0 0] M (.agg [.int .u8 2,.str n,.nils,.str []]) [(q,some (srcK r))])(q:Nat)(M:Mem)(nm:Nat)(hq:M q=some (srcK s))(ho:∀ z,(M z).isSome=true→z∈[q])(hqn:q<nm) :
  Ev cx 112 nm [.ptr q 0 0] M (.tup [.agg [.int .u8 2,.str n,.nils,.str []],.int .i64 0]) [(q,some (srcK r))]:=by
 have p1:=fun D (q:Nat) M nm a b c=>Ev.dd (D:=D) (eatI_ev s [60] true (by omega) (by decide) (by rw[after_pre,h1];rfl) q M nm a b c)
 have hst:=after_some h1
 subst hst
 simp only[if_true,List.drop_succ_cons,List.drop_zero,List.length_cons,List.length_nil]at p1
 have tg:=fun D M nm (q:Nat) a b c=>Ev.dd (D:=D) (tag M nm q a b c)
 unfold srcK at hq tg ⊢
 refine ev_defer rfl mixed (fun cargs w=>call112 cargs w) (fun cargs w=>call141 cargs w) func112 rfl ⟨_,_,_,rfl⟩ ⟨_,_,_,_,rfl⟩ (t2:=2) (t3:=3) (N:=9) ⟨⟨_,_,_,_,func141,rfl,rfl,rfl,by decide,by decide,⟨_,_,_,_,rfl⟩,_,_,_,rfl⟩⟩ (by kernel_rfl) (by kernel_rfl) (by kernel_rfl) rfl ?_
 intro b0 hb0
 have lq:q<b0:=below_of hb0 (by rw[hq];rfl)
 have z0:=lt_ne lq;have z1:=lt_ne_add lq;have z2:=lt_ne' lq;have z3:=lt_ne_add' lq
 repeat' first|simp only[fins,mems,results112,ntmps112,wks,hq,z0,z1,z2,z3,vcs,seval,tys]|exact rfl|refine call_off (v:=.any) ?_|((first|apply Ca|apply Cb)<;>intro hb)|refine Ai (by omega) ?_|(apply Ai<;>intro hb)|fail
 refine⟨rfl,b0,b0+16,?_,?_,fun D=>?_⟩
 ·simp only[vcs,seval,tys]
 ·simp only[vcs,seval,tys]
 have p1:=p1 D;have tg:=tg D
 repeat' first|simp only[results112,ntmps112,wks,hq,z0,z1,z2,z3,vcs,seval,tys]|exact rfl|((first|(refine call_fn_full ?_ [q] (p1 q _ _ ?_ only_mem (by omega)) ?_ ?_)|(refine call_fn_full ?_ [q] (tg _ _ q ?_ only_mem (by omega)) ?_ ?_));iterate 3 (focus (simp only[mems,results112,ntmps112,wks,hq,z0,z1,z2,z3,vcs,seval,tys]<;>exact rfl)))|((first|apply Ca|apply Cb)<;>intro hb)|refine Ai (by omega) ?_|(apply Ai<;>intro hb)|fail
 refine dend_ret ?_ ?_ ?_
 ·simp only[vcs,seval,tys]
 ·simp only[vcs,seval,tys]
 repeat' first|simp only[fins,mems,results141,ntmps141,wks,hq,z0,z1,z2,z3,vcs,seval,tys]|exact rfl|refine call_off (v:=.any) ?_|refine draw_end (by decide +kernel) ?_|((first|apply Ca|apply Cb)<;>intro hb)|refine Ai (by omega) ?_|(apply Ai<;>intro hb)|fail
 refine⟨rfl,?_⟩
 (refine Fin.give [(q,none)] [] ?_ ?_ ?_ ?_ ?_ (fun q hq=>by have hqq:=ho q hq;first|(simp only[gives,tgt,Lc,Lo,Lk,Ln,or_false]at hqq ⊢;omega)|(simp only[gives,tgt,Lc,Lo,Lk,Ln,or_false]at hqq))<;>(try simp only[results112,ntmps112,wks,keep_at,hq,z0,z1,z2,z3,giv,vcs,seval,tys])<;>(try simp only[injs])<;>(try omega))
theorem rOneTag_ev (s t n r:List UInt8)(k:Nat)(l:List Pr)(hs:s.length≤16384)(h1:afterO 60 s=some t)(tag:∀(M:Mem) (nm q:Nat),M q=some (srcK t)→(∀ z,(M z).isSome=true→z∈[q])→q<nm→Ev cx 143 nm [.ptr q 0 0] M (.agg [.int .u8 k,.str n,.own nm 0 l.length,.str []]) [(q,some (srcK r)),(nm,some ⟨2,l.map prC⟩)])(q:Nat)(M:Mem)(nm:Nat)(hq:M q=some (srcK s))(ho:∀ z,(M z).isSome=true→z∈[q])(hqn:q<nm) :
  Ev cx 112 nm [.ptr q 0 0] M (.tup [.agg [.int .u8 k,.str n,.own nm 0 l.length,.str []],.int .i64 0]) [(q,some (srcK r)),(nm,some ⟨2,l.map prC⟩)]:=by
 have p1:=fun D (q:Nat) M nm a b c=>Ev.dd (D:=D) (eatI_ev s [60] true (by omega) (by decide) (by rw[after_pre,h1];rfl) q M nm a b c)
 have hst:=after_some h1
 subst hst
 simp only[if_true,List.drop_succ_cons,List.drop_zero,List.length_cons,List.length_nil]at p1
 have tg:=fun D M nm (q:Nat) a b c=>Ev.dd (D:=D) (tag M nm q a b c)
 unfold srcK at hq tg ⊢
 refine ev_defer rfl mixed (fun cargs w=>call112 cargs w) (fun cargs w=>call141 cargs w) func112 rfl ⟨_,_,_,rfl⟩ ⟨_,_,_,_,rfl⟩ (t2:=2) (t3:=3) (N:=9) ⟨⟨_,_,_,_,func141,rfl,rfl,rfl,by decide,by decide,⟨_,_,_,_,rfl⟩,_,_,_,rfl⟩⟩ (by kernel_rfl) (by kernel_rfl) (by kernel_rfl) rfl ?_
 intro b0 hb0
 have lq:q<b0:=below_of hb0 (by rw[hq];rfl)
 have z0:=lt_ne lq;have z1:=lt_ne_add lq;have z2:=lt_ne' lq;have z3:=lt_ne_add' lq
 repeat' first|simp only[fins,mems,results112,ntmps112,wks,hq,z0,z1,z2,z3,vcs,seval,tys]|exact rfl|refine call_off (v:=.any) ?_|((first|apply Ca|apply Cb)<;>intro hb)|refine Ai (by omega) ?_|(apply Ai<;>intro hb)|fail
 refine⟨rfl,b0,b0+16,?_,?_,fun D=>?_⟩
 ·simp only[vcs,seval,tys]
 ·simp only[vcs,seval,tys]
 have p1:=p1 D;have tg:=tg D
 repeat' first|simp only[results112,ntmps112,wks,fresh_self,hq,z0,z1,z2,z3,vcs,seval,tys]|exact rfl|((first|(refine call_fn_full ?_ [q] (p1 q _ _ ?_ only_mem (by omega)) ?_ ?_)|(refine call_fn_full ?_ [q] (tg _ _ q ?_ only_mem (by omega)) ?_ ?_));iterate 3 (focus (simp only[mems,results112,ntmps112,wks,fresh_self,hq,z0,z1,z2,z3,vcs,seval,tys]<;>exact rfl)))|((first|apply Ca|apply Cb)<;>intro hb)|refine Ai (by omega) ?_|(apply Ai<;>intro hb)|fail
 refine dend_ret ?_ ?_ ?_
 ·simp only[vcs,seval,tys]
 ·simp only[vcs,seval,tys]
 repeat' first|simp only[fins,mems,results141,ntmps141,wks,hq,z0,z1,z2,z3,vcs,seval,tys]|exact rfl|refine call_off (v:=.any) ?_|refine draw_end (by decide +kernel) ?_|((first|apply Ca|apply Cb)<;>intro hb)|refine Ai (by omega) ?_|(apply Ai<;>intro hb)|fail
 refine⟨rfl,?_⟩
 (refine Fin.give [(q,none),(b0+112,some 0)] [] ?_ ?_ ?_ ?_ ?_ (fun q hq=>by have hqq:=ho q hq;first|(simp only[gives,tgt,Lc,Lo,Lk,Ln,or_false]at hqq ⊢;omega)|(simp only[gives,tgt,Lc,Lo,Lk,Ln,or_false]at hqq))<;>(try simp only[results112,ntmps112,wks,keep_at,plain_pr,hq,z0,z1,z2,z3,giv,vcs,seval,tys])<;>(try simp only[injs])<;>(try omega))
theorem rOneTag_none (s t:List UInt8)(hs:s.length≤16384)(h1:afterO 60 s=some t)(tag:∀(M:Mem) (nm q:Nat),M q=some (srcK t)→(∀ z,(M z).isSome=true→z∈[q])→q<nm→EvP cx 143 nm [.ptr q 0 0] M noV)(q:Nat)(M:Mem)(nm:Nat)(hq:M q=some (srcK s))(ho:∀ z,(M z).isSome=true→z∈[q])(hqn:q<nm) :
  Ev cx 112 nm [.ptr q 0 0] M (.tup [.agg [.int .u8 0,.str [],.nils,.str []],.int .i64 80]) [(q,none)]:=by
 have p1:=fun D (q:Nat) M nm a b c=>Ev.dd (D:=D) (eatI_ev s [60] true (by omega) (by decide) (by rw[after_pre,h1];rfl) q M nm a b c)
 have hst:=after_some h1
 subst hst
 simp only[if_true,List.drop_succ_cons,List.drop_zero,List.length_cons,List.length_nil]at p1
 have tg:=fun D M nm (q:Nat) a b c=>EvP.dd (D:=D) (tag M nm q a b c)
 unfold srcK at hq tg
 refine ev_defer rfl mixed (fun cargs w=>call112 cargs w) (fun cargs w=>call141 cargs w) func112 rfl ⟨_,_,_,rfl⟩ ⟨_,_,_,_,rfl⟩ (t2:=2) (t3:=3) (N:=9) ⟨⟨_,_,_,_,func141,rfl,rfl,rfl,by decide,by decide,⟨_,_,_,_,rfl⟩,_,_,_,rfl⟩⟩ (by kernel_rfl) (by kernel_rfl) (by kernel_rfl) rfl ?_
 intro b0 hb0
 have lq:q<b0:=below_of hb0 (by rw[hq];rfl)
 have z0:=lt_ne lq;have z1:=lt_ne_add lq;have z2:=lt_ne' lq;have z3:=lt_ne_add' lq
 repeat' first|simp only[fins,mems,results112,ntmps112,wks,hq,z0,z1,z2,z3,vcs,seval,tys]|exact rfl|refine call_off (v:=.any) ?_|((first|apply Ca|apply Cb)<;>intro hb)|refine Ai (by omega) ?_|(apply Ai<;>intro hb)|fail
 refine⟨rfl,b0,b0+16,?_,?_,fun D=>?_⟩
 ·simp only[vcs,seval,tys]
 ·simp only[vcs,seval,tys]
 have p1:=p1 D;have tg:=tg D
 repeat' first|simp only[results112,ntmps112,wks,hq,z0,z1,z2,z3,vcs,seval,tys]|exact rfl|((refine call_fn_full ?_ [q] (p1 q _ _ ?_ only_mem (by omega)) ?_ ?_);iterate 3 (focus (simp only[mems,results112,ntmps112,wks,hq,z0,z1,z2,z3,vcs,seval,tys]<;>exact rfl)))|((first|apply Ca|apply Cb)<;>intro hb)|refine Ai (by omega) ?_|(apply Ai<;>intro hb)|fail
 refine call_pan rfl [q] (tg _ _ q ?_ only_mem (by omega)) ?_
 ·simp only[mems,wks,hq,z0,z1,z2,z3,vcs,seval,tys]<;>exact rfl
 simp only[goOps_panic,goPan_iface,goEx_code_pan,goEx_blk_pan,goEx_again_pan,goEx_nil]
 refine dend_pan ?_ ?_ ?_
 ·simp only[vcs,seval,tys]
 ·simp only[vcs,seval,tys]
 repeat' first|simp only[fins,mems,results141,ntmps141,wks,noV,lostE,Lc,Lo,hq,z0,z1,z2,z3,vcs,seval,tys]|exact rfl|refine call_off (v:=.any) ?_|(refine Ai (by kernel_rfl) ?_)|(refine ext_assert rfl (by kernel_rfl) ?_)|refine draw_end (by decide +kernel) ?_|((first|apply Ca|apply Cb)<;>intro hb)|refine Ai (by omega) ?_|(apply Ai<;>intro hb)|fail
 (refine Fin.give [] [q] ?_ ?_ ?_ ?_ ?_ (fun q hq=>by have hqq:=ho q hq;first|(simp only[gives,tgt,Lc,Lo,Lk,Ln,or_false]at hqq ⊢;omega)|(simp only[gives,tgt,Lc,Lo,Lk,Ln,or_false]at hqq))<;>(try simp only[results112,ntmps112,wks,keep_at,hq,z0,z1,z2,z3,giv,vcs,seval,tys])<;>(try simp only[injs])<;>(try omega))
theorem text_idx {s:List UInt8} :(textR s=[]→indexByte s 60 = -1∧textT s=s)∧(textR s≠[]→indexByte s 60=((textT s).length:Nat)∧s.take (textT s).length=textT s∧s.drop (textT s).length=textR s∧(textT s).length<s.length):=by
 have e:s=textT s++textR s:=(List.takeWhile_append_dropWhile).symm
 have hn:(60:UInt8) ∉ textT s:=fun h=>by
  have:=takeWhile_all h
  cases this
 constructor
 ·intro h
  rw[h,List.append_nil]at e
  refine⟨index1_none.2 (cut1_none.2 ?_),e.symm⟩
  rw[e];exact hn
 ·intro h
  cases hr:textR s with
  | nil=>exact absurd hr h
  | cons c r =>
   have h60:=textR_head s c (by rw[hr];rfl)
   subst h60
   rw[hr]at e
   have hc:cut1 60 s=some (textT s,r):=by
    conv=>lhs;rw[e]
    exact cut1_of hn
   obtain⟨i1,i2,i3,i4⟩:=index1_some hc
   refine⟨i1,i2,?_,by omega⟩
   have:=List.drop_left (l₁:=textT s) (l₂:=60::r)
   rw[← e]at this
   exact this
theorem rOneText_ev (s x:List UInt8)(hs:s.length≤16384)(hd:(dec s).isSome=true)(h1:afterO 60 s=none)(h2:readL (textT s)=some x)(q:Nat)(M:Mem)(nm:Nat)(hq:M q=some (srcK s))(ho:∀ z,(M z).isSome=true→z∈[q])(hqn:q<nm) :
  Ev cx 112 nm [.ptr q 0 0] M (.tup [.agg [.int .u8 4,.str [],.nils,.str x],.int .i64 0]) [(q,some (srcK (textR s)))]:=by
 have p1:=fun D (q:Nat) M nm a b c=>Ev.dd (D:=D) (eatI_ev s [60] false (by omega) (by decide) (by rw[after_pre,h1];rfl) q M nm a b c)
 simp only[Bool.false_eq_true,if_false]at p1
 have hl:(textT s).length≤s.length:=by
  have:=congrArg List.length ((List.takeWhile_append_dropWhile (p:=textB) (l:=s)).symm)
  unfold textT;rw[List.length_append]at this;omega
 have hp:ptsErr (textT s)=0:=ptsErr_iff.2 ⟨by omega,(text_dec hd).1⟩
 obtain⟨x1,x2⟩:=text_idx (s:=s)
 have gt:=fun D nm=>Ev.dd (D:=D) (eGet_ev (textT s) (by unfold lim;omega) nm)
 have ix:=fun D nm=>Ev.dd (D:=D) (idxSB_ev s 60 nm)
 simp only[getV_some hp h2]at gt
 unfold srcK at hq ⊢
 refine ev_defer rfl mixed (fun cargs w=>call112 cargs w) (fun cargs w=>call141 cargs w) func112 rfl ⟨_,_,_,rfl⟩ ⟨_,_,_,_,rfl⟩ (t2:=2) (t3:=3) (N:=9) ⟨⟨_,_,_,_,func141,rfl,rfl,rfl,by decide,by decide,⟨_,_,_,_,rfl⟩,_,_,_,rfl⟩⟩ (by kernel_rfl) (by kernel_rfl) (by kernel_rfl) rfl ?_
 intro b0 hb0
 have lq:q<b0:=below_of hb0 (by rw[hq];rfl)
 have z0:=lt_ne lq;have z1:=lt_ne_add lq;have z2:=lt_ne' lq;have z3:=lt_ne_add' lq
 repeat' first|simp only[fins,mems,results112,ntmps112,wks,hq,z0,z1,z2,z3,vcs,seval,tys]|exact rfl|refine call_off (v:=.any) ?_|((first|apply Ca|apply Cb)<;>intro hb)|refine Ai (by omega) ?_|(apply Ai<;>intro hb)|fail
 refine⟨rfl,b0,b0+16,?_,?_,fun D=>?_⟩
 ·simp only[vcs,seval,tys]
 ·simp only[vcs,seval,tys]
 have p1:=p1 D;have gt:=gt D;have ix:=ix D
 by_cases hr:textR s=[]
 ·obtain⟨i1,i2⟩:=x1 hr
  rw[i1]at ix
  rw[i2]at gt
  rw[hr]
  have hneg:decide ((-1:Int)<0)=true:=by decide
  have hz:IntKind.i64.wrap (s.length:Int)=s.length:=wrap_in (by omega) (by omega)
  repeat' first|simp only[results112,ntmps112,wks,hq,z0,z1,z2,z3,hneg,List.take_length,List.drop_length,Int.toNat_natCast,Nat.le_refl,Int.le_refl,vcs,seval,tys]|exact rfl|((first|(refine call_fn ?_ (ix _) ?_)|(refine call_fn_g ?_ (fun _=>ix _) ?_)|(refine call_fn ?_ (gt _) ?_)|(refine call_fn_g ?_ (fun _=>gt _) ?_));(focus (simp only[results112,ntmps112,wks,hq,z0,z1,z2,z3,hneg,List.take_length,List.drop_length,Int.toNat_natCast,Nat.le_refl,Int.le_refl,vcs,seval,tys]<;>exact rfl)))|((refine call_fn_full ?_ [q] (p1 q _ _ ?_ only_mem (by omega)) ?_ ?_);iterate 3 (focus (simp only[mems,results112,ntmps112,wks,hq,z0,z1,z2,z3,hneg,List.take_length,List.drop_length,Int.toNat_natCast,Nat.le_refl,Int.le_refl,vcs,seval,tys]<;>exact rfl)))|((first|apply Ca|apply Cb)<;>intro hb)|refine Ai (by omega) ?_|(apply Ai<;>intro hb)|fail
  refine dend_ret ?_ ?_ ?_
  ·simp only[vcs,seval,tys]
  ·simp only[vcs,seval,tys]
  repeat' first|simp only[fins,mems,results141,ntmps141,wks,hq,z0,z1,z2,z3,vcs,seval,tys]|exact rfl|refine call_off (v:=.any) ?_|refine draw_end (by decide +kernel) ?_|((first|apply Ca|apply Cb)<;>intro hb)|refine Ai (by omega) ?_|(apply Ai<;>intro hb)|fail
  refine⟨rfl,?_⟩
  (refine Fin.give [(q,none)] [] ?_ ?_ ?_ ?_ ?_ (fun q hq=>by have hqq:=ho q hq;first|(simp only[gives,tgt,Lc,Lo,Lk,Ln,or_false]at hqq ⊢;omega)|(simp only[gives,tgt,Lc,Lo,Lk,Ln,or_false]at hqq))<;>(try simp only[results112,ntmps112,wks,keep_at,hq,z0,z1,z2,z3,giv,vcs,seval,tys])<;>(try simp only[injs])<;>(try omega))
 ·obtain⟨i1,i2,i3,i4⟩:=x2 hr
  rw[i1]at ix
  have hneg:decide (((textT s).length:Int)<0)=false:=decide_eq_false (by omega)
  have k1:((textT s).length:Int)≤s.length:=by omega
  have k2:(0:Int)≤((textT s).length:Int):=by omega
  have k3:(textT s).length≤s.length:=by omega
  repeat' first|simp only[results112,ntmps112,wks,hq,z0,z1,z2,z3,hneg,k1,k2,k3,i2,i3,Int.toNat_natCast,Nat.le_refl,Int.le_refl,vcs,seval,tys]|exact rfl|((first|(refine call_fn ?_ (ix _) ?_)|(refine call_fn_g ?_ (fun _=>ix _) ?_)|(refine call_fn ?_ (gt _) ?_)|(refine call_fn_g ?_ (fun _=>gt _) ?_));(focus (simp only[results112,ntmps112,wks,hq,z0,z1,z2,z3,hneg,k1,k2,k3,i2,i3,Int.toNat_natCast,Nat.le_refl,Int.le_refl,vcs,seval,tys]<;>exact rfl)))|((refine call_fn_full ?_ [q] (p1 q _ _ ?_ only_mem (by omega)) ?_ ?_);iterate 3 (focus (simp only[mems,results112,ntmps112,wks,hq,z0,z1,z2,z3,hneg,k1,k2,k3,i2,i3,Int.toNat_natCast,Nat.le_refl,Int.le_refl,vcs,seval,tys]<;>exact rfl)))|((first|apply Ca|apply Cb)<;>intro hb)|refine Ai (by omega) ?_|(apply Ai<;>intro hb)|fail
  refine dend_ret ?_ ?_ ?_
  ·simp only[vcs,seval,tys]
  ·simp only[vcs,seval,tys]
  repeat' first|simp only[fins,mems,results141,ntmps141,wks,hq,z0,z1,z2,z3,vcs,seval,tys]|exact rfl|refine call_off (v:=.any) ?_|refine draw_end (by decide +kernel) ?_|((first|apply Ca|apply Cb)<;>intro hb)|refine Ai (by omega) ?_|(apply Ai<;>intro hb)|fail
  refine⟨rfl,?_⟩
  (refine Fin.give [(q,none)] [] ?_ ?_ ?_ ?_ ?_ (fun q hq=>by have hqq:=ho q hq;first|(simp only[gives,tgt,Lc,Lo,Lk,Ln,or_false]at hqq ⊢;omega)|(simp only[gives,tgt,Lc,Lo,Lk,Ln,or_false]at hqq))<;>(try simp only[results112,ntmps112,wks,keep_at,hq,z0,z1,z2,z3,giv,vcs,seval,tys])<;>(try simp only[injs])<;>(try omega))
theorem rOneText_none (s:List UInt8)(hs:s.length≤16384)(hd:(dec s).isSome=true)(h1:afterO 60 s=none)(h2:readL (textT s)=none)(q:Nat)(M:Mem)(nm:Nat)(hq:M q=some (srcK s))(ho:∀ z,(M z).isSome=true→z∈[q])(hqn:q<nm) :
  Ev cx 112 nm [.ptr q 0 0] M (.tup [.agg [.int .u8 0,.str [],.nils,.str []],.int .i64 80]) [(q,none)]:=by
 have p1:=fun D (q:Nat) M nm a b c=>Ev.dd (D:=D) (eatI_ev s [60] false (by omega) (by decide) (by rw[after_pre,h1];rfl) q M nm a b c)
 simp only[Bool.false_eq_true,if_false]at p1
 have hl:(textT s).length≤s.length:=by
  have:=congrArg List.length ((List.takeWhile_append_dropWhile (p:=textB) (l:=s)).symm)
  unfold textT;rw[List.length_append]at this;omega
 have hp:ptsErr (textT s)=0:=ptsErr_iff.2 ⟨by omega,(text_dec hd).1⟩
 obtain⟨x1,x2⟩:=text_idx (s:=s)
 have gt:=fun D nm=>Ev.dd (D:=D) (eGet_ev (textT s) (by unfold lim;omega) nm)
 have ix:=fun D nm=>Ev.dd (D:=D) (idxSB_ev s 60 nm)
 simp only[getV_none hp h2]at gt
 unfold srcK at hq
 refine ev_defer rfl mixed (fun cargs w=>call112 cargs w) (fun cargs w=>call141 cargs w) func112 rfl ⟨_,_,_,rfl⟩ ⟨_,_,_,_,rfl⟩ (t2:=2) (t3:=3) (N:=9) ⟨⟨_,_,_,_,func141,rfl,rfl,rfl,by decide,by decide,⟨_,_,_,_,rfl⟩,_,_,_,rfl⟩⟩ (by kernel_rfl) (by kernel_rfl) (by kernel_rfl) rfl ?_
 intro b0 hb0
 have lq:q<b0:=below_of hb0 (by rw[hq];rfl)
 have z0:=lt_ne lq;have z1:=lt_ne_add lq;have z2:=lt_ne' lq;have z3:=lt_ne_add' lq
 repeat' first|simp only[fins,mems,results112,ntmps112,wks,hq,z0,z1,z2,z3,vcs,seval,tys]|exact rfl|refine call_off (v:=.any) ?_|((first|apply Ca|apply Cb)<;>intro hb)|refine Ai (by omega) ?_|(apply Ai<;>intro hb)|fail
 refine⟨rfl,b0,b0+16,?_,?_,fun D=>?_⟩
 ·simp only[vcs,seval,tys]
 ·simp only[vcs,seval,tys]
 have p1:=p1 D;have gt:=gt D;have ix:=ix D
 by_cases hr:textR s=[]
 ·obtain⟨i1,i2⟩:=x1 hr
  rw[i1]at ix
  rw[i2]at gt
  have hneg:decide ((-1:Int)<0)=true:=by decide
  have hz:IntKind.i64.wrap (s.length:Int)=s.length:=wrap_in (by omega) (by omega)
  repeat' first|simp only[results112,ntmps112,wks,hq,z0,z1,z2,z3,hneg,List.take_length,List.drop_length,Int.toNat_natCast,Nat.le_refl,Int.le_refl,goOps_panic,goPan_iface,goEx_code_pan,goEx_blk_pan,goEx_again_pan,goEx_nil,vcs,seval,tys]|exact rfl|((first|(refine call_fn ?_ (ix _) ?_)|(refine call_fn_g ?_ (fun _=>ix _) ?_)|(refine call_fn ?_ (gt _) ?_)|(refine call_fn_g ?_ (fun _=>gt _) ?_));(focus (simp only[results112,ntmps112,wks,hq,z0,z1,z2,z3,hneg,List.take_length,List.drop_length,Int.toNat_natCast,Nat.le_refl,Int.le_refl,goOps_panic,goPan_iface,goEx_code_pan,goEx_blk_pan,goEx_again_pan,goEx_nil,vcs,seval,tys]<;>exact rfl)))|((refine call_fn_full ?_ [q] (p1 q _ _ ?_ only_mem (by omega)) ?_ ?_);iterate 3 (focus (simp only[mems,results112,ntmps112,wks,hq,z0,z1,z2,z3,hneg,List.take_length,List.drop_length,Int.toNat_natCast,Nat.le_refl,Int.le_refl,goOps_panic,goPan_iface,goEx_code_pan,goEx_blk_pan,goEx_again_pan,goEx_nil,vcs,seval,tys]<;>exact rfl)))|(refine call_pan rfl [q] (EvP.dd (no_evp q _ _)) ?_)|((first|apply Ca|apply Cb)<;>intro hb)|refine Ai (by omega) ?_|(apply Ai<;>intro hb)|fail
  refine dend_pan ?_ ?_ ?_
  ·simp only[vcs,seval,tys]
  ·simp only[vcs,seval,tys]
  repeat' first|simp only[fins,mems,results141,ntmps141,wks,noV,lostE,Lc,Lo,hq,z0,z1,z2,z3,vcs,seval,tys]|exact rfl|refine call_off (v:=.any) ?_|(refine Ai (by kernel_rfl) ?_)|(refine ext_assert rfl (by kernel_rfl) ?_)|refine draw_end (by decide +kernel) ?_|((first|apply Ca|apply Cb)<;>intro hb)|refine Ai (by omega) ?_|(apply Ai<;>intro hb)|fail
  (refine Fin.give [] [q] ?_ ?_ ?_ ?_ ?_ (fun q hq=>by have hqq:=ho q hq;first|(simp only[gives,tgt,Lc,Lo,Lk,Ln,or_false]at hqq ⊢;omega)|(simp only[gives,tgt,Lc,Lo,Lk,Ln,or_false]at hqq))<;>(try simp only[results112,ntmps112,wks,keep_at,hq,z0,z1,z2,z3,giv,vcs,seval,tys])<;>(try simp only[injs])<;>(try omega))
 ·obtain⟨i1,i2,i3,i4⟩:=x2 hr
  rw[i1]at ix
  have hneg:decide (((textT s).length:Int)<0)=false:=decide_eq_false (by omega)
  have k1:((textT s).length:Int)≤s.length:=by omega
  have k2:(0:Int)≤((textT s).length:Int):=by omega
  have k3:(textT s).length≤s.length:=by omega
  repeat' first|simp only[results112,ntmps112,wks,hq,z0,z1,z2,z3,hneg,k1,k2,k3,i2,i3,Int.toNat_natCast,Nat.le_refl,Int.le_refl,goOps_panic,goPan_iface,goEx_code_pan,goEx_blk_pan,goEx_again_pan,goEx_nil,vcs,seval,tys]|exact rfl|((first|(refine call_fn ?_ (ix _) ?_)|(refine call_fn_g ?_ (fun _=>ix _) ?_)|(refine call_fn ?_ (gt _) ?_)|(refine call_fn_g ?_ (fun _=>gt _) ?_));(focus (simp only[results112,ntmps112,wks,hq,z0,z1,z2,z3,hneg,k1,k2,k3,i2,i3,Int.toNat_natCast,Nat.le_refl,Int.le_refl,goOps_panic,goPan_iface,goEx_code_pan,goEx_blk_pan,goEx_again_pan,goEx_nil,vcs,seval,tys]<;>exact rfl)))|((refine call_fn_full ?_ [q] (p1 q _ _ ?_ only_mem (by omega)) ?_ ?_);iterate 3 (focus (simp only[mems,results112,ntmps112,wks,hq,z0,z1,z2,z3,hneg,k1,k2,k3,i2,i3,Int.toNat_natCast,Nat.le_refl,Int.le_refl,goOps_panic,goPan_iface,goEx_code_pan,goEx_blk_pan,goEx_again_pan,goEx_nil,vcs,seval,tys]<;>exact rfl)))|(refine call_pan rfl [q] (EvP.dd (no_evp q _ _)) ?_)|((first|apply Ca|apply Cb)<;>intro hb)|refine Ai (by omega) ?_|(apply Ai<;>intro hb)|fail
  refine dend_pan ?_ ?_ ?_
  ·simp only[vcs,seval,tys]
  ·simp only[vcs,seval,tys]
  repeat' first|simp only[fins,mems,results141,ntmps141,wks,noV,lostE,Lc,Lo,hq,z0,z1,z2,z3,vcs,seval,tys]|exact rfl|refine call_off (v:=.any) ?_|(refine Ai (by kernel_rfl) ?_)|(refine ext_assert rfl (by kernel_rfl) ?_)|refine draw_end (by decide +kernel) ?_|((first|apply Ca|apply Cb)<;>intro hb)|refine Ai (by omega) ?_|(apply Ai<;>intro hb)|fail
  (refine Fin.give [] [q] ?_ ?_ ?_ ?_ ?_ (fun q hq=>by have hqq:=ho q hq;first|(simp only[gives,tgt,Lc,Lo,Lk,Ln,or_false]at hqq ⊢;omega)|(simp only[gives,tgt,Lc,Lo,Lk,Ln,or_false]at hqq))<;>(try simp only[results112,ntmps112,wks,keep_at,hq,z0,z1,z2,z3,giv,vcs,seval,tys])<;>(try simp only[injs])<;>(try omega))
theorem tagL_kind {n r0 r:List UInt8}{l:List Pr}{t:Tk}(h:tagL n l r0=some (t,r)):t=⟨t.kind,n,t.attrs,[]⟩ :=
 tagL_ind (n:=n) (P:=fun _ _ u _=>u=⟨u.kind,n,u.attrs,[]⟩) (fun _ _ _ _ _=>rfl) (fun _ _ _ _ _ _ _ _ _ _ _ ih=>ih) _ l r0 t r (Nat.le_refl _) h
theorem one_some_ev (s r:List UInt8)(t:Tk)(hs:s.length≤16384)(hd:(dec s).isSome=true)(h:oneO s=some (t,r)) :
  (t.attrs=[] ∧ ∀(q:Nat) (M:Mem) (nm:Nat),M q=some (srcK s)→(∀ z,(M z).isSome=true→z∈[q])→q<nm →
   Ev cx 112 nm [.ptr q 0 0] M (.tup [.agg [.int .u8 t.kind,.str t.name,.nils,.str t.text],.int .i64 0]) [(q,some (srcK r))]) ∨
  (t.text=[] ∧ ∀(q:Nat) (M:Mem) (nm:Nat),M q=some (srcK s)→(∀ z,(M z).isSome=true→z∈[q])→q<nm →
   Ev cx 112 nm [.ptr q 0 0] M (.tup [.agg [.int .u8 t.kind,.str t.name,.own nm 0 t.attrs.length,.str []],.int .i64 0]) [(q,some (srcK r)),(nm,some ⟨2,t.attrs.map prC⟩)]):=by
 cases h1:afterO 60 s with
 | none =>
  unfold oneO at h
  rw[h1]at h
  obtain⟨x,h2,h3⟩:=Option.map_eq_some_iff.1 h
  cases h3
  exact .inl ⟨rfl,fun q M nm a b c=>rOneText_ev s x hs hd h1 h2 q M nm a b c⟩
 | some u =>
  obtain rfl:=after_some h1
  have hl:u.length≤16384:=by simp at hs;omega
  have hdu:=(cut_text (d:=60) (by decide) (a:=[]) hd rfl).2
  unfold oneO at h
  rw[h1]at h
  simp only at h
  unfold tagO at h
  split at h
  ·rename_i w hw
   obtain⟨⟨n,r1⟩,h2,h3⟩:=Option.bind_eq_some_iff.1 h
   obtain⟨r2,h4,h5⟩:=Option.map_eq_some_iff.1 h3
   cases h5
   exact .inl ⟨rfl,fun q M nm a b c=>rOneEnd_ev (60::u) u n r hs h1 (fun M nm q a b c=>rEnd_ev u w n r1 r hl hw h2 h4 q M nm a b c) q M nm a b c⟩
  ·rename_i hw
   obtain⟨⟨n,r1⟩,h2,h3⟩:=Option.bind_eq_some_iff.1 h
   have hk:=tagL_kind h3
   obtain⟨k,n',l,x⟩:=t
   simp only[Tk.mk.injEq,true_and]at hk
   obtain⟨rfl,rfl⟩:=hk
   exact .inr ⟨rfl,fun q M nm a b c=>rOneTag_ev (60::u) u n' r k l hs h1 (fun M nm q a b c=>rTag_ev u n' r1 r k l hl hdu hw h2 h3 q M nm a b c) q M nm a b c⟩
theorem one_none_ev (s:List UInt8)(hs:s.length≤16384)(hd:(dec s).isSome=true)(h:oneO s=none)(q:Nat)(M:Mem)(nm:Nat)(hq:M q=some (srcK s))(ho:∀ z,(M z).isSome=true→z∈[q])(hqn:q<nm) :
  Ev cx 112 nm [.ptr q 0 0] M (.tup [.agg [.int .u8 0,.str [],.nils,.str []],.int .i64 80]) [(q,none)]:=by
 cases h1:afterO 60 s with
 | none =>
  unfold oneO at h
  rw[h1]at h
  exact rOneText_none s hs hd h1 (by simpa using h) q M nm hq ho hqn
 | some u =>
  obtain rfl:=after_some h1
  have hl:u.length≤16384:=by simp at hs;omega
  have hdu:=(cut_text (d:=60) (by decide) (a:=[]) hd rfl).2
  unfold oneO at h
  rw[h1]at h
  simp only at h
  refine rOneTag_none (60::u) u hs h1 (fun M nm q a b c=>?_) q M nm hq ho hqn
  cases hw:afterO 47 u with
  | some w=>exact rEnd_evp u w hl hw h q M nm a b c
  | none =>
   unfold tagO at h
   rw[hw]at h
   cases h2:nameO u with
   | none=>exact rHead_evp u hl hw h2 q M nm a b c
   | some p =>
    obtain⟨n,r0⟩:=p
    rw[h2]at h
    exact rTag_evp u n r0 hl hdu hw h2 h q M nm a b c
structure LSt where
 l:List Tk
 rest:List UInt8
def lexV (A:List Tk×Nat×Int):V:=.tup [.sl false 4 (A.1.map tkC),.int .i64 A.2.1,.int .i64 A.2.2]
theorem lex_ev (s:List UInt8)(hs:s.length≤lim)(nm:Nat):Ev cx 75 nm [.str s] Mem.nil (lexV (lexA s)) []:=by
  have hck:=tCheck_ev s hs
  by_cases hp:ptsErr s=0
  · obtain ⟨hsl,hsd⟩:=ptsErr_iff.1 hp
    have hA:lexA s=lexG s.length [] s:=by unfold lexA;rw[if_neg (by simp[hp])]
    rw[hA]
    generalize hB:lexG s.length [] s=A
    obtain⟨L,at0,e0⟩:=A
    unfold lexV
    rw[hp]at hck
    refine ev_go rfl (fun cargs w=>call75 cargs w) func75 rfl mixed (by kernel_rfl) rfl ?_;intro b0 hb0
    repeat' first|simp only[fins,mems,results75,ntmps75,wks,vcs,seval,tys]|exact rfl|refine call_off (v:=.any) ?_|(first|(refine call_fn ?_ (hck _) ?_)|(refine call_fn_g ?_ (fun _=>hck _) ?_))|((first|apply Ca|apply Cb)<;>intro hb)|refine Ai (by omega) ?_|(apply Ai<;>intro hb)
    (refine loop_can2 cxG (fun x:LSt=>x.rest.length) (fun x=>lexG s.length x.l x.rest=(L,at0,e0)∧(dec x.rest).isSome=true∧x.rest.length≤s.length∧x.l.length≤512) (b0+16) (fun x=>[(0,.str s),(2,.own (b0+1) 0 x.l.length),(6,.ptr b0 0 0)]) (fun x=>[(b0,⟨1,[[.str x.rest]]⟩),(b0+1,⟨4,x.l.map tkC⟩)]) (⟨[],s⟩) [some (b0+176),none] ?_ ?_ ?_ ?_;rotate_left 1;(focus (show b0≤_;omega));(focus (refine⟨?_,?_⟩<;>(try simp only[cans,isRow_inst,Lo,List.length_nil,vcs,seval,tys,injs])<;>(try omega)));rotate_left 1)
    · exact⟨hB,hsd,Nat.le_refl _,Nat.zero_le _⟩
    · rintro ⟨xl,xr⟩ ⟨g1,g2,g3,g4⟩
      dsimp only at g1 g2 g3 g4 ⊢
      have hnl:(xl.map tkC).length=xl.length:=Lm _
      by_cases hnil:xr=[]
      · subst hnil
        rw[lexG_nil]at g1
        cases g1
        have hne:(([]:List UInt8) != [])=false:=by decide
        (repeat' first|simp only[fins,mems,results75,ntmps75,wks,hne,plain_tk,hnl,List.take_of_length_le,Nat.le_refl,vcs,seval,tys]|exact rfl|refine call_off (v:=.any) ?_|((first|apply Ca|apply Cb)<;>intro hb)|refine Ai (by omega) ?_|(apply Ai<;>intro hb)|refine Fin.pure ?_ ?_ ?_|simp only[injs])
      · have hne:(xr==[])=false:=by simpa using hnil
        have hw1:IntKind.i64.wrap ((s.length:Int)-(xr.length:Int))=((s.length-xr.length:Nat):Int):=by rw[wrap_in (by omega) (by omega)];omega
        by_cases hm:512≤xl.length
        · have hge:decide ((512:Int)≤(xl.length:Int))=true:=decide_eq_true (by omega)
          have hge':decide ((xl.length:Int) ≥ (512:Int))=true:=decide_eq_true (by omega)
          rw[lexG_many hnil hm]at g1
          cases g1
          cases ho:oneO xr with
          | none =>
            have hone:=one_none_ev xr (by omega) g2 ho
            unfold srcK at hone
            (repeat' first|simp only[fins,mems,results75,ntmps75,wks,hne,Bf,hw1,hge,hnl,plain_tk,vcs,seval,tys]|exact rfl|refine call_off (v:=.any) ?_|(refine call_fn_full ?_ [b0] (hone b0 _ _ ?_ only_mem (by omega)) ?_ ?_)|((first|apply Ca|apply Cb)<;>intro hb)|refine Ai (by omega) ?_|(apply Ai<;>intro hb)|refine Fin.pure ?_ ?_ ?_|simp only[injs])
          | some p =>
            obtain⟨t,r⟩:=p
            rcases one_some_ev xr r t (by omega) g2 ho with ⟨ha,hone⟩|⟨ha,hone⟩
            · unfold srcK at hone
              (repeat' first|simp only[fins,mems,results75,ntmps75,wks,hne,Bf,hw1,hge,hnl,plain_tk,vcs,seval,tys]|exact rfl|refine call_off (v:=.any) ?_|(refine call_fn_full ?_ [b0] (hone b0 _ _ ?_ only_mem (by omega)) ?_ ?_)|((first|apply Ca|apply Cb)<;>intro hb)|refine Ai (by omega) ?_|(apply Ai<;>intro hb)|refine Fin.pure ?_ ?_ ?_|simp only[injs])
            · unfold srcK at hone
              (repeat' first|simp only[fins,mems,results75,ntmps75,wks,fresh_self,hne,Bf,hw1,hge,hnl,plain_tk,vcs,seval,tys]|exact rfl|refine call_off (v:=.any) ?_|(refine call_fn_full ?_ [b0] (hone b0 _ _ ?_ only_mem (by omega)) ?_ ?_)|((first|apply Ca|apply Cb)<;>intro hb)|refine Ai (by omega) ?_|(apply Ai<;>intro hb)|refine Fin.pure ?_ ?_ ?_|simp only[injs])
        · have hge:decide ((512:Int)≤(xl.length:Int))=false:=decide_eq_false (by omega)
          cases ho:oneO xr with
          | none =>
            rw[lexG_bad hnil (by omega) ho]at g1
            cases g1
            have hone:=one_none_ev xr (by omega) g2 ho
            unfold srcK at hone
            (repeat' first|simp only[fins,mems,results75,ntmps75,wks,hne,Bf,hw1,hge,hnl,plain_tk,vcs,seval,tys]|exact rfl|refine call_off (v:=.any) ?_|(refine call_fn_full ?_ [b0] (hone b0 _ _ ?_ only_mem (by omega)) ?_ ?_)|((first|apply Ca|apply Cb)<;>intro hb)|refine Ai (by omega) ?_|(apply Ai<;>intro hb)|refine Fin.pure ?_ ?_ ?_|simp only[injs])
          | some p =>
            obtain⟨t,r⟩:=p
            have hlt:=one_lt hnil ho
            have hnl1:(xl++[t]).length=xl.length+1:=by simp
            have hmx:xl.length<512:=by omega
            have hnx:xl.map tkC++[tkC t]=(xl++[t]).map tkC:=by simp
            have hle:∀(k:Nat) (n x:List UInt8) (a:List Pr) (v:V),v.le (.sl false 2 (a.map prC))→leLL (xl.map tkC++[[.int .u8 k,.str n,v,.str x]]) ((xl++[(⟨k,n,a,x⟩:Tk)]).map tkC):=fun k n x a v hv=>by
              rw[List.map_append]
              refine leLL_append ⟨⟨V.le_refl _,V.le_refl _,hv,V.le_refl _,trivial⟩,trivial⟩
            have h16z:decide ((0:Int)>16)=false:=by decide
            rcases one_some_ev xr r t (by omega) g2 ho with ⟨ha,hone⟩|⟨ha,hone⟩
            · obtain⟨k,n,l,x⟩:=t
              dsimp only at ha
              subst ha
              obtain⟨k1,k2,k3,k4,k5⟩:=one_may hnil ho g2 (by omega) (Nat.zero_le _)
              rw[lexG_go hnil (by omega) ho (Nat.zero_le _)]at g1
              unfold srcK at hone
              repeat' first|simp only[fins,mems,results75,ntmps75,wks,hne,Bf,hw1,hge,hnl,plain_tk,h16z,vcs,seval,tys]|exact rfl|refine call_off (v:=.any) ?_|(refine call_fn_full ?_ [b0] (hone b0 _ _ ?_ only_mem (by omega)) ?_ ?_)|((first|apply Ca|apply Cb)<;>intro hb)|refine Ai (by omega) ?_|(apply Ai<;>intro hb)
              all_goals ((refine again_can2F cxG (⟨xl++[⟨k,n,[],x⟩],r⟩) [some b0,some (b0+624)] ?_ ?_ ?_ ?_;rotate_left 2;(focus (show b0≤_;omega));(focus (refine⟨?_,?_⟩<;>(try simp only[cans,canfs,isRow_inst,plain_pr,plain_tk,hnx,hnl1,tkC,Lo,finLL_plain _ _ (plain_tk _),finLLOk_plain _ _ (plain_tk _),Lm,vcs,seval,tys,injs])<;>(try omega)))))
              all_goals (first|exact⟨g1,k2,by show r.length≤s.length;omega,by show(xl++[_]).length≤512;simp;omega⟩|(show r.length<xr.length;omega)|exact .inr (hle _ _ _ _ _ (by simp[V.le]))|exact .inr (hle _ _ _ _ _ (V.le_refl _))|skip)
            · obtain⟨k,n,l,x⟩:=t
              dsimp only at ha hone
              subst ha
              by_cases h16:16<l.length
              · rw[lexG_great hnil (by omega) ho h16]at g1
                cases g1
                have h16d:decide ((16:Int)<(l.length:Int))=true:=decide_eq_true (by omega)
                unfold srcK at hone
                (repeat' first|simp only[fins,mems,results75,ntmps75,wks,fresh_self,hne,Bf,hw1,hge,hnl,plain_tk,h16d,Lm,vcs,seval,tys]|exact rfl|refine call_off (v:=.any) ?_|(refine call_fn_full ?_ [b0] (hone b0 _ _ ?_ only_mem (by omega)) ?_ ?_)|((first|apply Ca|apply Cb)<;>intro hb)|refine Ai (by omega) ?_|(apply Ai<;>intro hb)|refine Fin.pure ?_ ?_ ?_|simp only[injs])
              · have h16d:decide ((16:Int)<(l.length:Int))=false:=decide_eq_false (by omega)
                obtain⟨k1,k2,k3,k4,k5⟩:=one_may hnil ho g2 (by omega) (show l.length≤16 by omega)
                rw[lexG_go hnil (by omega) ho (show l.length≤16 by omega)]at g1
                unfold srcK at hone
                have htp:(l.map prC).take l.length=l.map prC:=List.take_of_length_le (by simp)
                repeat' first|simp only[fins,mems,results75,ntmps75,wks,fresh_self,hne,Bf,hw1,hge,hnl,plain_tk,plain_pr,h16d,Lm,vcs,seval,tys]|exact rfl|refine call_off (v:=.any) ?_|(refine call_fn_full ?_ [b0] (hone b0 _ _ ?_ only_mem (by omega)) ?_ ?_)|((first|apply Ca|apply Cb)<;>intro hb)|refine Ai (by omega) ?_|(apply Ai<;>intro hb)
                all_goals ((refine again_can2F cxG (⟨xl++[⟨k,n,l,[]⟩],r⟩) [some b0,some (b0+624)] ?_ ?_ ?_ ?_;rotate_left 2;(focus (show b0≤_;omega));(focus (refine⟨?_,?_⟩<;>(try simp only[cans,canfs,isRow_inst,plain_pr,plain_tk,hnx,hnl1,htp,tkC,finLL_plain _ _ (plain_tk _),finLLOk_plain _ _ (plain_tk _),Lm,vcs,seval,tys,injs])<;>(try omega)))))
                all_goals (first|exact⟨g1,k2,by show r.length≤s.length;omega,by show(xl++[_]).length≤512;simp;omega⟩|(show r.length<xr.length;omega)|exact .inr (hle _ _ _ _ _ (by simp[V.le]))|exact .inr (hle _ _ _ _ _ (V.le_refl _))|skip)
  · have hA:lexA s=([],0,ptsErr s):=by unfold lexA;rw[if_pos (by simpa using hp)]
    have hb:(ptsErr s != 0)=true:=by simpa using hp
    rw[hA]
    unfold lexV
    refine ev_go rfl (fun cargs w=>call75 cargs w) func75 rfl mixed (by kernel_rfl) rfl ?_;intro b0 hb0
    (repeat' first|simp only[fins,mems,results75,ntmps75,wks,hb,vcs,seval,tys]|exact rfl|refine call_off (v:=.any) ?_|(first|(refine call_fn ?_ (hck _) ?_)|(refine call_fn_g ?_ (fun _=>hck _) ?_))|((first|apply Ca|apply Cb)<;>intro hb)|refine Ai (by omega) ?_|(apply Ai<;>intro hb)|refine Fin.pure ?_ ?_ ?_|simp only[injs])
end Go.Proofs.YtjdjclecdfhciaaGreatDoor
namespace Go.Proofs.YtjdjclecdfhciaaGreatDoor
set_option maxRecDepth 100000
set_option maxHeartbeats 32000000
set_option linter.unusedSimpArgs false
set_option linter.unusedVariables false
open Go Go.RowKit Go.Lib
def readW:Nat→List UInt8→Option (List UInt8)
 | _,[]=>some []
 | 0,_::_=>none
 | n+1,c::r=>if c=60 then none else if c=38 then (match cut1 59 r with|none=>none|some p=>match meantL p.1 with|none=>none|some x=>(readW n p.2).map (x ++ ·)) else (readW n r).map (c :: ·)
theorem readW_eq:∀(n:Nat) (s:List UInt8),s.length≤n→readL s=readW n s
 | n,[],_=>by rw[readL_nil];cases n<;>rfl
 | 0,c::r,h=>by simp at h
 | n+1,c::r,h=>by
  have hl:r.length≤n:=by simpa using h
  by_cases h1:c=60
  ·subst h1;rw[readL_lt];rfl
  by_cases h2:c=38
  ·subst h2
   cases hc:cut1 59 r with
   | none=>rw[readL_none hc];simp[readW,hc]
   | some p =>
    obtain⟨a,b⟩:=p
    have:=cut1_len hc
    cases hm:meantL a with
    | none=>rw[readL_bad hc hm];simp[readW,hc,hm]
    | some x=>rw[readL_ref hc hm,readW_eq n b (by omega)];simp[readW,hc,hm]
  ·rw[readL_other h1 h2,readW_eq n r hl];simp[readW,h1,h2]
def valueW (s:List UInt8):Option (List UInt8×List UInt8):=(quoteO s).bind fun p=>(readW p.1.length (p.1.map flatB)).map fun v=>(v,p.2)
theorem valueW_eq (s:List UInt8):valueO s=valueW s:=by
 unfold valueO valueW toldO
 congr 1
 funext p
 rw[readW_eq p.1.length _ (by simp)]
def attrF (s:List UInt8):Option (Pr×List UInt8):=(nameO s).bind fun p=>(afterO 61 (skipL p.2)).bind fun t=>(valueW (skipL t)).map fun q=>(⟨p.1,q.1⟩,q.2)
theorem attrF_eq (s:List UInt8):attrO s=attrF s:=by
 unfold attrO attrF
 congr 1
 funext p
 congr 1
 funext t
 rw[valueW_eq]
def tagF:Nat→List UInt8→List Pr→List UInt8→Option (Tk×List UInt8)
 | 0,_,_,_=>none
 | k+1,n,l,s=>match endO (skipL s) with
  | some p=>some (⟨p.1,n,l,[]⟩,p.2)
  | none=>if (skipL s).length<s.length then (match attrF (skipL s) with
   | none=>none
   | some p=>if (l.any fun b=>p.1.name==b.name)=true then none else tagF k n (l++[p.1]) p.2) else none
theorem tagF_eq:∀(k:Nat) (n:List UInt8) (l:List Pr) (s:List UInt8),s.length≤k→tagL n l s=tagF (k+1) n l s:=by
 intro k
 induction k with
 | zero =>
  intro n l s h
  obtain rfl:=List.length_eq_zero_iff.1 (Nat.le_zero.1 h)
  rw[tag_gap (by rfl) (by simp[skipL])]
  rfl
 | succ k ih =>
  intro n l s h
  have hs:=skip_le s
  cases he:endO (skipL s) with
  | some p =>
   obtain⟨m,t⟩:=p
   rw[tag_end he]
   conv=>rhs;unfold tagF
   simp only[he]
  | none =>
   by_cases hg:(skipL s).length<s.length
   ·cases ha:attrO (skipL s) with
    | none =>
     rw[tag_bad he ha]
     conv=>rhs;unfold tagF
     rw[attrF_eq]at ha
     simp only[he,if_pos hg,ha]
    | some p =>
     obtain⟨a,r⟩:=p
     have hl:=attr_lt ha
     have ha':=ha
     rw[attrF_eq]at ha'
     cases hd:l.any fun b=>a.name==b.name with
     | true =>
      rw[tag_twice he ha hd]
      conv=>rhs;unfold tagF
      simp only[he,if_pos hg,ha',hd,if_true]
     | false =>
      rw[tag_attr he hg ha hd,ih _ _ r (by omega)]
      conv=>rhs;unfold tagF
      simp only[he,if_pos hg,ha',hd,Bool.false_eq_true,if_false]
   ·rw[tag_gap he hg]
    conv=>rhs;unfold tagF
    simp only[he,if_neg hg]
def tagW (s:List UInt8):Option (Tk×List UInt8) :=
 match afterO 47 s with
 | some t=>(nameO t).bind fun p=>(afterO 62 (skipL p.2)).map fun r=>(⟨2,p.1,[],[]⟩,r)
 | none=>(nameO s).bind fun p=>tagF (p.2.length+1) p.1 [] p.2
theorem tagW_eq (s:List UInt8):tagO s=tagW s:=by
 unfold tagO tagW
 cases afterO 47 s with
 | some t=>rfl
 | none =>
  simp only
  congr 1
  funext p
  rw[tagF_eq p.2.length _ _ _ (Nat.le_refl _)]
def oneW (s:List UInt8):Option (Tk×List UInt8) :=
 match afterO 60 s with
 | some t=>tagW t
 | none=>(readW (textT s).length (textT s)).map fun x=>(⟨4,[],[],x⟩,textR s)
theorem oneW_eq (s:List UInt8):oneO s=oneW s:=by
 unfold oneO oneW
 cases afterO 60 s with
 | some t=>exact tagW_eq t
 | none =>
  simp only
  rw[readW_eq _ _ (Nat.le_refl _)]
def lexF:Nat→Nat→List Tk→List UInt8→List Tk×Nat×Int
 | 0,_,l,_=>(l,0,0)
 | k+1,n,l,s=>if s=[] then (l,0,0) else if 512≤l.length then ([],n-s.length,4) else match oneW s with
  | none=>([],n-s.length,80)
  | some p=>if 16<p.1.attrs.length then ([],n-s.length,4) else lexF k n (l++[p.1]) p.2
theorem lexF_eq:∀(k n:Nat) (l:List Tk) (s:List UInt8),s.length≤k→lexG n l s=lexF (k+1) n l s:=by
 intro k
 induction k with
 | zero =>
  intro n l s h
  obtain rfl:=List.length_eq_zero_iff.1 (Nat.le_zero.1 h)
  rw[lexG_nil];rfl
 | succ k ih =>
  intro n l s h
  by_cases hs:s=[]
  ·subst hs;rw[lexG_nil];rfl
  ·by_cases hm:512≤l.length
   ·rw[lexG_many hs hm]
    conv=>rhs;unfold lexF
    rw[if_neg hs,if_pos hm]
   ·cases ho:oneO s with
    | none =>
     rw[lexG_bad hs (by omega) ho]
     rw[oneW_eq]at ho
     conv=>rhs;unfold lexF
     simp only[if_neg hs,if_neg hm,ho]
    | some p =>
     obtain⟨t,r⟩:=p
     have hl:=one_lt hs ho
     have ho':=ho
     rw[oneW_eq]at ho'
     by_cases ha:16<t.attrs.length
     ·rw[lexG_great hs (by omega) ho ha]
      conv=>rhs;unfold lexF
      simp only[if_neg hs,if_neg hm,ho',if_pos ha]
     ·rw[lexG_go hs (by omega) ho (by omega),ih _ _ r (by omega)]
      conv=>rhs;unfold lexF
      simp only[if_neg hs,if_neg hm,ho',if_neg ha]
def lexW (s:List UInt8):List Tk×Nat×Int:=if ptsErr s≠0 then ([],0,ptsErr s) else lexF (s.length+1) s.length [] s
theorem lexW_eq (s:List UInt8):lexA s=lexW s:=by
 unfold lexA lexW
 rw[lexF_eq s.length _ _ _ (Nat.le_refl _)]
end Go.Proofs.YtjdjclecdfhciaaGreatDoor
namespace Go.Proofs.YtjdjclecdfhciaaGreatDoor
set_option maxRecDepth 100000
set_option maxHeartbeats 32000000
set_option linter.unusedSimpArgs false
set_option linter.unusedVariables false
open Go Go.RowKit Vm Go.Lib Tryz
open Vm renaming cond_bool→Ca,cond_bit→Cb
open And renaming intro→Ai
open List renaming length_map→Lm,not_mem_nil→Ln,map_nil→Lo,map_cons→Lc,mem_cons→Lk
open Bool renaming not_false→Bf,not_true→Bt
def sameTo {α:Type}(a b:List α)(k:Nat):Prop:=∀ i,i<k→a[i]? = b[i]?
theorem same_all {α:Type}{a b:List α}(hl:a.length=b.length)(h:sameTo a b a.length):a=b:=by
 refine List.ext_getElem? fun i=>?_
 by_cases hi:i<a.length
 ·exact h i hi
 ·rw[List.getElem?_eq_none (by omega),List.getElem?_eq_none (by omega)]
theorem sameTo_succ {α:Type}{a b:List α}{k:Nat}{x:α}(h:sameTo a b k)(ha:a[k]? = some x)(hb:b[k]? = some x):sameTo a b (k+1):=by
 intro i hi
 by_cases e:i=k
 ·subst e;rw[ha,hb]
 ·exact h i (by omega)
theorem same_no {α:Type}{a b:List α}{k:Nat}{x y:α}(ha:a[k]? = some x)(hb:b[k]? = some y)(h:x≠y):a≠b:=by
 rintro rfl
 rw[ha]at hb;cases hb;exact h rfl
theorem len_beq (n m:Nat):((n:Int)==(m:Int))=decide (n=m):=by
 rw[Bool.eq_iff_iff,beq_iff_eq,decide_eq_true_iff];omega
theorem len_bne_eq {n m:Nat}(h:n=m):((n:Int) !=(m:Int))=false:=by subst h;simp
theorem len_bne_ne {n m:Nat}(h:n≠m):((n:Int) !=(m:Int))=true:=by rw[bne_iff_ne];omega
theorem dps:(∀ M,dpLeL M [] []=True)∧(∀ M u v l r,dpLeL M (u::l) (v::r)=(dpLe M u v∧dpLeL M l r))∧(∀ M,dpOkL M []=True)∧(∀ M u l,dpOkL M (u::l)=(dpOk M u∧dpOkL M l)) ∧
  (∀ M nm lo n sz rows,dpLe M (.own nm lo n) (.sl false sz rows)=(sz=szOf M nm∧leLL (finLL [] M (((rowsOf M nm).drop lo).take n)) rows))∧(∀ M nm lo n,dpOk M (.own nm lo n)=((M nm).isSome=true∧lo+n≤(rowsOf M nm).length∧finLLOk [] M (((rowsOf M nm).drop lo).take n))) ∧
  (∀ M s t,dpLe M (.str s) (.str t)=(s=t))∧(∀ M s,dpOk M (.str s)=True)∧(leLL [] []=True) :=
 ⟨dpLeL_nil,dpLeL_cons,dpOkL_nil,dpOkL_cons,dpLe_own,dpOk_own,dpLe_str,dpOk_str,eq_true trivial⟩
theorem attrsW_get {l:List Pr}{a:Pr}(h:a∈l):(attrW a).length≤(attrsW l).length:=by
 unfold attrsW
 rw[List.length_flatMap]
 exact sum_map_le (f:=fun x=>(attrW x).length) h
theorem toksW_get {l:List Tk}{t:Tk}(h:t∈l):(tokW t).length≤(toksW l).length:=by
 unfold toksW
 rw[List.length_flatMap]
 exact sum_map_le (f:=fun x=>(tokW x).length) h
theorem tok_okTo {t:Tk}(ht:tokL t=true){n:Nat}(hn:(tokW t).length≤n):t.okTo (n+16):=by
 obtain⟨k,m,l,x⟩:=t
 unfold tokL at ht
 dsimp only at ht
 unfold tokW at hn
 dsimp only at hn
 have hx:=(escW_length false x).1
 split at ht
 ·rename_i hk
  rw[if_neg (show ¬ k=4 by omega),if_neg (show ¬ k=2 by omega)]at hn
  simp only[Bool.and_eq_true,List.isEmpty_iff]at ht
  obtain⟨⟨_,h2⟩,rfl⟩:=ht
  have h16:=(attrs_iff.1 h2).1
  simp only[List.length_append,List.length_cons,List.length_nil]at hn
  refine⟨by show l.length≤n+16;omega,by show m.length≤n+16;omega,by simp,fun a ha=>?_⟩
  have h3:=attrsW_get ha
  have h4:=(escW_length true a.value).1
  simp only[attrW,List.length_append,List.length_cons,List.length_nil]at h3
  omega
 ·split at ht
  ·rename_i hk
   subst hk
   rw[if_neg (by decide),if_pos rfl]at hn
   simp only[Bool.and_eq_true,List.isEmpty_iff]at ht
   obtain⟨⟨_,rfl⟩,rfl⟩:=ht
   simp only[List.length_append,List.length_cons,List.length_nil]at hn
   exact⟨by simp,by show m.length≤n+16;omega,by simp,fun a ha=>by simp at ha⟩
  ·split at ht
   ·rename_i hk
    subst hk
    rw[if_pos rfl]at hn
    simp only[Bool.and_eq_true,List.isEmpty_iff]at ht
    obtain⟨⟨⟨rfl,rfl⟩,_⟩,_⟩:=ht
    exact⟨by simp,by simp,by show x.length≤n+16;omega,fun a ha=>by simp at ha⟩
   ·cases ht
theorem okTo_le {t:Tk}{a b:Nat}(h:t.okTo a)(hab:a≤b):t.okTo b:=by
 obtain⟨h1,h2,h3,h4⟩:=h
 exact⟨by omega,by omega,by omega,fun x hx=>by have:=h4 x hx;omega⟩
theorem lex_okTo {s:List UInt8}(h:(lexA s).2.2=0):∀ t∈(lexA s).1,t.okTo (6*s.length+16):=by
 obtain⟨h1,_,_,_,_,h6⟩:=(lex_may s).1 h
 intro t ht
 exact tok_okTo (h1 t ht) (Nat.le_trans (toksW_get ht) h6)
theorem tok_attrs16 {t:Tk}(ht:tokL t=true):t.attrs.length≤16:=by
 unfold tokL at ht
 split at ht
 ·simp only[Bool.and_eq_true]at ht
  exact(attrs_iff.1 ht.1.2).1
 ·split at ht
  ·simp only[Bool.and_eq_true,List.isEmpty_iff]at ht
   rw[ht.1.2];simp
  ·split at ht
   ·simp only[Bool.and_eq_true,List.isEmpty_iff]at ht
    rw[ht.1.1.2];simp
   ·cases ht
end Go.Proofs.YtjdjclecdfhciaaGreatDoor
