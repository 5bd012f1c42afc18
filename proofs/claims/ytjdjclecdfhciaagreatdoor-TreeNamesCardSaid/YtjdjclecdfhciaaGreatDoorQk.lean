/-
 Texts joined: XEl,XEm,XLt,XNc,XNd,XNe,XNf.
-/
import Derived.Test.YtjdjclecdfhciaaGreatDoorQj
import Derived.Test.YtjdjclecdfhciaaGreatDoorQi
import Derived.Test.YtjdjclecdfhciaaGreatDoorQf
import Derived.Test.YtjdjclecdfhciaaGreatDoorQe
import Derived.Test.YtjdjclecdfhciaaGreatDoorQh
namespace Go.Proofs.YtjdjclecdfhciaaGreatDoor
set_option maxRecDepth 100000
set_option maxHeartbeats 32000000
set_option linter.unusedSimpArgs false
set_option linter.unusedVariables false
open Go Go.RowKit Vm Go.Lib Tryz
open Vm renaming cond_bool→Ca,cond_bit→Cb
open And renaming intro→Ai
open List renaming length_map→Lm,not_mem_nil→Ln,map_nil→Lo,map_cons→Lc,mem_cons→Lk
open Bool renaming not_false→Bf,not_true→Bt
theorem namedTo_succ {s:List UInt8}{k:Nat}{c:UInt8}(h:namedTo s k)(hc:s[k]? = some c)(hp:partB (k==0) c=true):namedTo s (k+1):=by
 intro i x hi hx
 by_cases e:i=k
 ·subst e;rw[hc]at hx;cases hx;exact hp
 ·exact h i x (by omega) hx
theorem zero_int (k:Nat):((k:Int)==0)=(k==0):=by
 rw[Bool.eq_iff_iff,beq_iff_eq,beq_iff_eq];omega
theorem empty_f {s:List UInt8}(h:s≠[]):s.isEmpty=false:=by cases s with|nil=>exact absurd rfl h|cons=>rfl
theorem name_ev (s:List UInt8)(hs:s.length≤lim)(nm:Nat):Ev cx 39 nm [.str s] Mem.nil (.bool (nameL s)) []:=by
 unfold lim at hs
 have hb:(s==[])=s.isEmpty:=by cases s<;>rfl
 refine ev_go rfl (fun cargs w=>call39 cargs w) func39 rfl mixed (by kernel_rfl) rfl ?_;intro b0 hb0
 repeat' first|simp only[fins,mems,results39,ntmps39,wks,hb,vcs,seval,tys]|exact rfl|refine call_off (v:=.any) ?_|((first|apply Ca|apply Cb)<;>intro hb)|refine Ai (by omega) ?_|(apply Ai<;>intro hb)
 (refine loop_can2 cxG (fun x:Nat=>s.length-x) (fun x=>x≤s.length∧namedTo s x) (b0+16) (fun x=>[(0,.str s),(3,.bool (!s.isEmpty)),(8,.int .i64 s.length),(9,.int .i64 x)]) (fun x=>[]) (0) [] ?_ ?_ ?_ ?_;rotate_left 1;(focus (show b0≤_;omega));(focus (refine⟨?_,?_⟩<;>(try simp only[cans,vcs,seval,tys,injs])<;>(try omega)));rotate_left 1)
 ·exact⟨Nat.zero_le _,fun i c hi=>by omega⟩
 ·rintro k ⟨hk,hn⟩
  by_cases hlt:k<s.length
  ·obtain⟨c,hc⟩:∃ c,s[k]? = some c:=⟨_,List.getElem?_eq_getElem hlt⟩
   have hne:s≠[]:=by rintro rfl;simp at hlt
   have hie:=empty_f hne
   have hd:decide (k<s.length)=true:=decide_eq_true hlt
   have hwk:IntKind.i64.wrap ((k:Int)+1)=((k+1:Nat):Int):=wrap_in (by omega) (by omega)
   have hle:=part_ev c (k==0)
   have qz:=zero_int k
   cases hp:partB (k==0) c with
   | false =>
    have hnf:=nameL_false hc hp
    rw[hp]at hle
    (repeat' first|simp only[fins,mems,results39,ntmps39,wks,hc,hd,hlt,hie,hnf,qz,vcs,seval,tys]|exact rfl|refine call_off (v:=.any) ?_|(first|(refine call_fn ?_ (hle _) ?_)|(refine call_fn_g ?_ (fun _=>hle _) ?_))|((first|apply Ca|apply Cb)<;>intro hb)|refine Ai (by omega) ?_|(apply Ai<;>intro hb)|refine Fin.pure ?_ ?_ ?_|simp only[injs])
   | true =>
    have hn':=namedTo_succ hn hc hp
    rw[hp]at hle
    repeat' first|simp only[fins,mems,results39,ntmps39,wks,hc,hd,hlt,hwk,hie,qz,vcs,seval,tys]|exact rfl|refine call_off (v:=.any) ?_|(first|(refine call_fn ?_ (hle _) ?_)|(refine call_fn_g ?_ (fun _=>hle _) ?_))|((first|apply Ca|apply Cb)<;>intro hb)|refine Ai (by omega) ?_|(apply Ai<;>intro hb)
    all_goals ((refine again_can2 cxG (k+1) [] ?_ ?_ ?_ ?_;rotate_left 2;(focus (show b0≤_;omega));(focus (refine⟨?_,?_⟩<;>(try simp only[cans,hwk,hie,vcs,seval,tys,injs])<;>(try omega)))))
    all_goals (first|(show s.length-(k+1)<s.length-k;omega)|exact⟨hlt,hn'⟩|skip)
  ·have hke:k=s.length:=by omega
   subst hke
   have hd:decide (s.length<s.length)=false:=decide_eq_false (by omega)
   by_cases hne:s=[]
   ·subst hne
    have e:nameL []=false:=rfl
    (repeat' first|simp only[fins,mems,results39,ntmps39,wks,hd,List.isEmpty_nil,e,vcs,seval,tys]|exact rfl|refine call_off (v:=.any) ?_|((first|apply Ca|apply Cb)<;>intro hb)|refine Ai (by omega) ?_|(apply Ai<;>intro hb)|refine Fin.pure ?_ ?_ ?_|simp only[injs])
   ·have hie:=empty_f hne
    have e:=nameL_true hne hn
    (repeat' first|simp only[fins,mems,results39,ntmps39,wks,hd,hie,e,vcs,seval,tys]|exact rfl|refine call_off (v:=.any) ?_|((first|apply Ca|apply Cb)<;>intro hb)|refine Ai (by omega) ?_|(apply Ai<;>intro hb)|refine Fin.pure ?_ ?_ ?_|simp only[injs])
theorem full_ev (s:List UInt8)(hs:s.length≤lim)(nm:Nat):Ev cx 105 nm [.str s] Mem.nil (.bool (fullL s)) []:=by
 have hev:=cut_ev s 58 hs
 cases hc:cut1 58 s with
 | none =>
  have ev:cutV 58 s = .tup [.str s,.str [],.bool false]:=by unfold cutV;rw[hc]
  have hf:fullL s=nameL s:=by unfold fullL;rw[hc]
  have hn:=name_ev s hs
  rw[ev]at hev
  rw[hf]
  cases h:nameL s<;>rw[h]at hn<;>(
   refine ev_go rfl (fun cargs w=>call105 cargs w) func105 rfl mixed (by kernel_rfl) rfl ?_;intro b0 hb0
   (repeat' first|simp only[fins,mems,results105,ntmps105,wks,vcs,seval,tys]|exact rfl|refine call_off (v:=.any) ?_|(first|(refine call_fn ?_ (hev _) ?_)|(refine call_fn_g ?_ (fun _=>hev _) ?_)|(refine call_fn ?_ (hn _) ?_)|(refine call_fn_g ?_ (fun _=>hn _) ?_))|(refine call_off (v:=.any) ?_)|((first|apply Ca|apply Cb)<;>intro hb)|refine Ai (by omega) ?_|(apply Ai<;>intro hb)|refine Fin.pure ?_ ?_ ?_|simp only[injs]))
 | some p =>
  obtain⟨a,b⟩:=p
  obtain⟨_,_,_,e3⟩:=index1_some hc
  have ev:cutV 58 s = .tup [.str a,.str b,.bool true]:=by unfold cutV;rw[hc]
  have hf:fullL s=(nameL a&&nameL b):=by unfold fullL;rw[hc]
  have hn1:=name_ev a (by omega)
  have hn2:=name_ev b (by omega)
  rw[ev]at hev
  rw[hf]
  cases h1:nameL a<;>rw[h1]at hn1<;>(
   refine ev_go rfl (fun cargs w=>call105 cargs w) func105 rfl mixed (by kernel_rfl) rfl ?_;intro b0 hb0
   (repeat' first|simp only[fins,mems,results105,ntmps105,wks,vcs,seval,tys]|exact rfl|refine call_off (v:=.any) ?_|((first|(refine call_fn ?_ (hn1 _) ?_)|(refine call_fn_g ?_ (fun _=>hn1 _) ?_));(focus (simp only[results105,ntmps105,wks,vcs,seval,tys]<;>exact rfl)))|((first|(refine call_fn ?_ (hn2 _) ?_)|(refine call_fn_g ?_ (fun _=>hn2 _) ?_));(focus (simp only[results105,ntmps105,wks,vcs,seval,tys]<;>exact rfl)))|(first|(refine call_fn ?_ (hev _) ?_)|(refine call_fn_g ?_ (fun _=>hev _) ?_))|(refine call_off (v:=.any) ?_)|((first|apply Ca|apply Cb)<;>intro hb)|refine Ai (by omega) ?_|(apply Ai<;>intro hb)|refine Fin.pure ?_ ?_ ?_|simp only[injs]))
def partsV (d:UInt8)(s:List UInt8):V:=match cut1 d s with
 | none=>.tup [.str [],.str s,.bool false]
 | some (a,b)=>.tup [.str a,.str b,.bool true]
def prC (a:Pr):List V:=[.str a.name,.str a.value]
def tkC (t:Tk):List V:=[.int .u8 t.kind,.str t.name,.sl false 2 (t.attrs.map prC),.str t.text]
theorem pr_at {l:List Pr}{k:Nat}{a:Pr}(h:l[k]? = some a):(l.map prC)[k]? = some (prC a):=by rw[List.getElem?_map,h];rfl
theorem tk_at {l:List Tk}{k:Nat}{a:Tk}(h:l[k]? = some a):(l.map tkC)[k]? = some (tkC a):=by rw[List.getElem?_map,h];rfl
theorem plain_pr (l:List Pr):plainLL (l.map prC)=true:=plainLL_map _ (fun _=>rfl) l
theorem plain_tk (l:List Tk):plainLL (l.map tkC)=true:=plainLL_map _ (fun t=>by simp[tkC,plainL,V.plain,plain_pr]) l
theorem notany_succ {α:Type}{p:α→Bool}{l:List α}{k:Nat}{x:α}(h:(l.take k).any p=false)(hc:l[k]? = some x)(hx:p x=false):(l.take (k+1)).any p=false:=by
 obtain⟨hk,rfl⟩:=List.getElem?_eq_some_iff.1 hc
 rw[List.take_succ_eq_append_getElem hk,List.any_append,h]
 simp[hx]
theorem attrsTo_succ {l:List Pr}{k:Nat}{a:Pr}(h:attrsTo l k)(ha:l[k]? = some a)(ho:okP (l.take k) a=true):attrsTo l (k+1):=by
 intro i b hi hb
 by_cases e:i=k
 ·subst e;rw[ha]at hb;cases hb;exact ho
 ·exact h i b (by omega) hb
theorem attrs_false {l:List Pr}{k:Nat}{a:Pr}(ha:l[k]? = some a)(ho:okP (l.take k) a=false):attrsL l=false:=by
 cases h:attrsL l with
 | false=>rfl
 | true =>
  have:=(attrs_iff.1 h).2 k a (List.getElem?_eq_some_iff.1 ha).1 ha
  rw[ho]at this;cases this
theorem mnz_ev (n:Nat)(hn:n≤281474976710656)(M:Mem)(nm:Nat)(hM:M nm=none):Ev cx 213 nm [.int .i64 n] M (.own nm 0 n) [(nm,some (rK []))] :=
 Ev.makeNoZero (ps:=Tryz.f213.params) (t:=106) func213 (by kernel_rfl) (by kernel_rfl) (by kernel_rfl) (by kernel_rfl) und_106 n hn M nm hM
theorem runeLen1_ev (z:Int)(h0:0≤z)(h1:z≤127)(nm:Nat):Ev cx 198 nm [.int .i32 z] Mem.nil (.int .i64 1) []:=by
 have d0:decide (z<0)=false:=decide_eq_false (by omega)
 have d1:decide (z≤127)=true:=decide_eq_true h1
 refine ev_go rfl (fun cargs w=>call198 cargs w) func198 rfl mixed (by kernel_rfl) rfl ?_;intro b0 hb0
 (repeat' first|simp only[fins,mems,results198,ntmps198,wks,d0,d1,vcs,seval,tys]|exact rfl|refine call_off (v:=.any) ?_|((first|apply Ca|apply Cb)<;>intro hb)|refine Ai (by omega) ?_|(apply Ai<;>intro hb)|refine Fin.pure ?_ ?_ ?_|simp only[injs])
theorem ob_mk (s:Nat)(r:List (List V))(o:Ob):(@Blk.mk s r o).ob=o:=rfl
theorem ren_nilT (σ:List (Nat×Nat))(t:TypeId):Blk.ren σ (@Blk.mk 1 [] (.typed t)) = @Blk.mk 1 [] (.typed t):=ren_bytesI σ [] t
theorem renOk_nilT (σ:List (Nat×Nat))(t:TypeId):Blk.renOk σ (@Blk.mk 1 [] (.typed t))=true:=renOk_bytesI σ [] t
theorem grow0_ev (q n:Nat)(hn:n≤1000000)(M:Mem)(nm:Nat)(hq:M q=some (bK true q .nils))(ho:∀ z,(M z).isSome=true→z∈[q])(hqn:q<nm) :
  Ev cx 209 nm [.ptr q 0 0,.int .i64 n] M (.tup []) [(q,some (bK true q (.own nm 0 0))),(nm,some (rK []))]:=by
 have hw:IntKind.i64.wrap 0=0:=by decide
 have hw2:IntKind.i64.wrap (0+(n:Int))=(n:Int):=by rw[wrap_in (by omega) (by omega)];omega
 have hw3:IntKind.i64.wrap (n:Int)=(n:Int):=wrap_in (by omega) (by omega)
 have nq:=eq_false (show ¬ nm=q by omega)
 refine ev_go rfl (fun cargs w=>call209 cargs w) func209 rfl mixed (by kernel_rfl) rfl ?_;intro b0 hb0
 have lq:q<b0:=below_of hb0 (by rw[hq];rfl)
 have z0:=lt_ne lq;have z1:=lt_ne_add lq;have z2:=lt_ne' lq;have z3:=lt_ne_add' lq
 repeat' first|simp only[fins,mems,results209,ntmps209,wks,bK_t,hq,z0,z1,z2,z3,hw,hw2,hw3,rK_def,Lo,fresh_self,isRow_typed,Nat.min_self,List.take_zero,List.all_nil,spliceL,vcs,seval,tys]|exact rfl|refine call_off (v:=.any) ?_|(refine call_fn_new ?_ (mnz_ev n (by omega) Mem.nil _ rfl) ?_ ?_)|omega|refine draw_end' (ps:=[(8,12)]) (by decide +kernel) (by simp only[List.forall_mem_cons,List.getD_cons_zero,List.getD_cons_succ,results209,ntmps209,wks,bK_t,hq,z0,z1,z2,z3,hw,hw2,hw3,rK_def,Lo,fresh_self,isRow_typed,Nat.min_self,List.take_zero,List.all_nil,spliceL,vcs,seval,tys]<;>(try simp)<;>(try omega)) ?_|refine draw_end (by decide +kernel) ?_|((first|apply Ca|apply Cb)<;>intro hb)|refine Ai (by omega) ?_|(apply Ai<;>intro hb)
 all_goals ((refine Fin.give [(q,none),(b0+128,some 0)] [] ?_ ?_ ?_ ?_ ?_ (fun q hq=>by have hqq:=ho q hq;first|(simp only[gives,tgt,Lc,Lo,Lk,Ln,or_false]at hqq ⊢;omega)|(simp only[gives,tgt,Lc,Lo,Lk,Ln,or_false]at hqq))<;>(try simp only[results209,ntmps209,wks,ob_mk,ren_nilT,renOk_nilT,nq,bK_t,rK_def,hq,z0,z1,z2,z3,Lo,giv,vcs,seval,tys])<;>(try simp only[injs])<;>(try omega)))
theorem bGrow_ev (u:Bool)(q n:Nat)(h0:0<n)(hn:n≤1000000)(M:Mem)(nm:Nat)(hq:M q=some (bK u q .nils))(ho:∀ z,(M z).isSome=true→z∈[q])(hqn:q<nm) :
  Ev cx 199 nm [.ptr q 0 0,.int .i64 n] M (.tup []) [(q,some (bK true q (.own nm 0 0))),(nm,some (rK []))]:=by
 have d0:decide ((n:Int)<0)=false:=decide_eq_false (by omega)
 have hw:IntKind.i64.wrap 0=0:=by decide
 have hw1:IntKind.i64.wrap (0-0)=0:=by decide
 have d1:decide ((0:Int)<(n:Int))=true:=decide_eq_true (by omega)
 have nq:=eq_false (show ¬ nm=q by omega)
 refine ev_go rfl (fun cargs w=>call199 cargs w) func199 rfl mixed (by kernel_rfl) rfl ?_;intro b0 hb0
 have lq:q<b0:=below_of hb0 (by rw[hq];rfl)
 have z0:=lt_ne lq;have z1:=lt_ne_add lq;have z2:=lt_ne' lq;have z3:=lt_ne_add' lq
 repeat' first|simp only[fins,mems,results199,ntmps199,wks,bK_t,hq,z0,z1,z2,z3,d0,d1,hw,hw1,fresh_self,vcs,seval,tys]|exact rfl|refine call_off (v:=.any) ?_|(refine call_fn_full ?_ [q] (copyN_ev u q _ _ ?_ only_mem (by omega)) ?_ ?_)|(refine call_fn_full ?_ [q] (grow0_ev q n hn _ _ ?_ only_mem (by omega)) ?_ ?_)|refine draw_end (by decide +kernel) ?_|((first|apply Ca|apply Cb)<;>intro hb)|refine Ai (by omega) ?_|(apply Ai<;>intro hb)
 all_goals ((refine Fin.give [(q,none),(b0+304,some 0)] [] ?_ ?_ ?_ ?_ ?_ (fun q hq=>by have hqq:=ho q hq;first|(simp only[gives,tgt,Lc,Lo,Lk,Ln,or_false]at hqq ⊢;omega)|(simp only[gives,tgt,Lc,Lo,Lk,Ln,or_false]at hqq))<;>(try simp only[results199,ntmps199,wks,ob_mk,ren_nilT,renOk_nilT,nq,bK_t,rK_def,ren_bytes,renOk_bytes,hq,z0,z1,z2,z3,Lo,giv,vcs,seval,tys])<;>(try simp only[injs])<;>(try omega)))
theorem wRune_ev (z:Int)(hm:may z=true)(q y:Nat)(bs:List UInt8)(hbs:bs.length≤1000000)(M:Mem)(nm:Nat)(hqy:q≠y)(hq:M q=some (bK true q (.own y 0 bs.length)))(hy:M y=some (rK bs))(ho:∀ z,(M z).isSome=true→z∈[q,y])(hqn:q<nm)(hyn:y<nm) :
  Ev cx 200 nm [.ptr q 0 0,.int .i32 z] M (.tup [.int .i64 (encodeRune z).length,.val .nilIface]) [(y,none),(q,some (bK true q (.own nm 0 (bs.length+(encodeRune z).length)))),(nm,some (rK (bs++encodeRune z)))]:=by
 have hel:=encodeRune_length z
 have hw:IntKind.i64.wrap (((bs.length:Int)+((encodeRune z).length:Int))-(bs.length:Int))=((encodeRune z).length:Int):=by rw[wrap_in (by omega) (by omega)];omega
 have hw':IntKind.i64.wrap (((bs.length+(encodeRune z).length:Nat):Int)-(bs.length:Int))=((encodeRune z).length:Int):=by rw[wrap_in (by omega) (by omega)];omega
 refine ev_go rfl (fun cargs w=>call200 cargs w) func200 rfl mixed (by kernel_rfl) rfl ?_;intro b0 hb0
 have lq:q<b0:=below_of hb0 (by rw[hq];rfl)
 have ly:y<b0:=below_of hb0 (by rw[hy];rfl)
 have y0:=lt_ne ly;have y1:=lt_ne_add ly;have y2:=lt_ne' ly;have y3:=lt_ne_add' ly
 have z0:=lt_ne lq;have z1:=lt_ne_add lq;have z2:=lt_ne' lq;have z3:=lt_ne_add' lq
 have n1:=eq_false hqy;have n4:=eq_false (Ne.symm hqy)
 repeat' first|simp only[fins,mems,results200,ntmps200,wks,bK_t,hq,hy,n1,n4,y0,y1,y2,y3,z0,z1,z2,z3,hw,hw',fresh_self,vcs,seval,tys]|exact rfl|refine call_off (v:=.any) ?_|(refine call_fn_full ?_ [q,y] (copyO_ev true q y bs.length bs _ _ hqy ?_ ?_ only_mem (by omega) (by omega)) ?_ ?_)|(refine call_fn_full ?_ [y] (rune_ev z hm y bs hbs _ _ ?_ only_mem (by omega)) ?_ ?_)|((first|apply Ca|apply Cb)<;>intro hb)|refine Ai (by omega) ?_|(apply Ai<;>intro hb)
 all_goals ((refine Fin.give [(q,none),(b0+256,some 0)] [y] ?_ ?_ ?_ ?_ ?_ (fun q hq=>by have hqq:=ho q hq;first|(simp only[gives,tgt,Lc,Lo,Lk,Ln,or_false]at hqq ⊢;omega)|(simp only[gives,tgt,Lc,Lo,Lk,Ln,or_false]at hqq))<;>(try simp only[results200,ntmps200,wks,bK_t,rK_def,ren_bytes,renOk_bytes,hq,hy,n1,n4,y0,y1,y2,y3,z0,z1,z2,z3,giv,vcs,seval,tys])<;>(try simp only[injs])<;>(try omega)))
theorem bCapC_ev (q y n c:Nat)(bs:List UInt8)(M:Mem)(nm:Nat)(hqy:q≠y)(hq:M q=some ⟨2,[[.ptr q 0 0,.ownc y 0 n c]]⟩)(hy:M y=some (rK bs))(ho:∀ z,(M z).isSome=true→z∈[q,y])(hqn:q<nm)(hyn:y<nm) :
  Ev cx 201 nm [.ptr q 0 0] M (.int .i64 c) [(q,some ⟨2,[[.ptr q 0 0,.own y 0 n]]⟩),(y,some (rK bs))]:=by
 refine ev_go rfl (fun cargs w=>call201 cargs w) func201 rfl mixed (by kernel_rfl) rfl ?_;intro b0 hb0
 have lq:q<b0:=below_of hb0 (by rw[hq];rfl)
 have ly:y<b0:=below_of hb0 (by rw[hy];rfl)
 have y0:=lt_ne ly;have y1:=lt_ne_add ly;have y2:=lt_ne' ly;have y3:=lt_ne_add' ly
 have z0:=lt_ne lq;have z1:=lt_ne_add lq;have z2:=lt_ne' lq;have z3:=lt_ne_add' lq
 have n1:=eq_false hqy;have n4:=eq_false (Ne.symm hqy)
 repeat' first|simp only[fins,mems,results201,ntmps201,wks,hq,hy,n1,n4,y0,y1,y2,y3,z0,z1,z2,z3,vcs,seval,tys]|exact rfl|refine call_off (v:=.any) ?_|((first|apply Ca|apply Cb)<;>intro hb)|refine Ai (by omega) ?_|(apply Ai<;>intro hb)
 all_goals ((refine Fin.give [(q,none),(y,none)] [] ?_ ?_ ?_ ?_ ?_ (fun q hq=>by have hqq:=ho q hq;first|(simp only[gives,tgt,Lc,Lo,Lk,Ln,or_false]at hqq ⊢;omega)|(simp only[gives,tgt,Lc,Lo,Lk,Ln,or_false]at hqq))<;>(try simp only[results201,ntmps201,wks,rK_def,ren_bytes,renOk_bytes,hq,hy,n1,n4,y0,y1,y2,y3,z0,z1,z2,z3,giv,vcs,seval,tys])<;>(try simp only[injs])<;>(try omega)))
theorem bCap_some (q y:Nat)(bs:List UInt8)(M:Mem)(nm:Nat)(hqy:q≠y)(hq:M q=some (bK true q (.own y 0 bs.length)))(hy:M y=some (rK bs))(ho:∀ z,(M z).isSome=true→z∈[q,y])(hqn:q<nm)(hyn:y<nm) :
  EvE cx 201 nm [.ptr q 0 0] M (fun u=>∃ c:Nat,bs.length≤c∧u = .int .i64 c) [(q,some (bK true q (.own y 0 bs.length))),(y,some (rK bs))]:=by
 refine EvE.cell (v:=fun c=>.int .i64 c) q 1 y 0 bs.length 2 [.ptr q 0 0,.own y 0 bs.length] instCells hq rfl rfl (by simp[effNames]) (fun c hc=>?_)
 exact bCapC_ev q y bs.length c bs _ nm hqy (Mem.put_same _ _ _) (by rw[Mem.put_ne _ _ (Ne.symm hqy)];exact hy) (fun z hz=>by
  by_cases e:z=q
  ·simp[e]
  ·rw[Mem.put_ne _ _ e]at hz;exact ho z hz) hqn hyn
theorem bCapN_ev (u:Bool)(q:Nat)(M:Mem)(nm:Nat)(hq:M q=some (bK u q .nils))(ho:∀ z,(M z).isSome=true→z∈[q])(hqn:q<nm) :
  Ev cx 201 nm [.ptr q 0 0] M (.int .i64 0) [(q,some (bK u q .nils))]:=by
 cases u
 all_goals (
  first|rw[bK_f]at hq ⊢ | rw[bK_t]at hq ⊢
  refine ev_go rfl (fun cargs w=>call201 cargs w) func201 rfl mixed (by kernel_rfl) rfl ?_;intro b0 hb0
  have lq:q<b0:=below_of hb0 (by rw[hq];rfl)
  have z0:=lt_ne lq;have z1:=lt_ne_add lq;have z2:=lt_ne' lq;have z3:=lt_ne_add' lq
  repeat' first|simp only[fins,mems,results201,ntmps201,wks,hq,z0,z1,z2,z3,vcs,seval,tys]|exact rfl|refine call_off (v:=.any) ?_|((first|apply Ca|apply Cb)<;>intro hb)|refine Ai (by omega) ?_|(apply Ai<;>intro hb)
  all_goals ((refine Fin.give [(q,none)] [] ?_ ?_ ?_ ?_ ?_ (fun q hq=>by have hqq:=ho q hq;first|(simp only[gives,tgt,Lc,Lo,Lk,Ln,or_false]at hqq ⊢;omega)|(simp only[gives,tgt,Lc,Lo,Lk,Ln,or_false]at hqq))<;>(try simp only[results201,ntmps201,wks,hq,ren_mkT,renOk_mkT,z0,z1,z2,z3,giv,vcs,seval,tys])<;>(try simp only[injs])<;>(try omega))))
theorem flat_enc {z:Int}(hm:may z=true):(encodeRune z).map flatB=encodeRune (flatZ z):=by
 have hr:=may_range hm
 by_cases h:z<128
 ·have key:∀ n:Fin 128,(encodeRune (n.val:Int)).map flatB=encodeRune (flatZ (n.val:Int)):=by decide +kernel
  have:=key ⟨z.toNat,by omega⟩
  have e:((z.toNat:Nat):Int)=z:=by omega
  simpa only[e] using this
 ·have hf:flatZ z=z:=by
   unfold flatZ
   rw[if_neg]
   unfold blankZ
   simp only[decide_eq_true_eq];omega
  rw[hf]
  have hh:=enc_high (z:=z) (by omega)
  rw[show(encodeRune z).map flatB=(encodeRune z).map id from List.map_congr_left (fun c hc=>?_),List.map_id]
  have:=hh c hc
  have hb:blankB c=false:=by
   unfold blankB
   have hne:∀ d:UInt8,d.toNat<128→(c==d)=false:=fun d hd=>beq_false_of_ne (fun e=>by subst e;omega)
   rw[hne 32 (by decide),hne 9 (by decide),hne 10 (by decide),hne 13 (by decide)];rfl
  unfold flatB
  rw[hb];rfl
theorem flat_may {z:Int}(hm:may z=true):may (flatZ z)=true:=by
 unfold flatZ
 split
 ·decide
 ·exact hm
theorem flat_dec (zs:List Int)(h:zs.all may=true):(enc zs).map flatB=enc (zs.map flatZ):=by
 induction zs with
 | nil=>rfl
 | cons z zs ih =>
  simp only[List.all_cons,Bool.and_eq_true]at h
  have e:enc (z::zs)=encodeRune z++enc zs:=by simp[enc]
  have e2:enc ((z::zs).map flatZ)=encodeRune (flatZ z)++enc (zs.map flatZ):=by simp[enc]
  rw[e,e2,List.map_append,flat_enc h.1,ih h.2]
theorem dec_flat {s:List UInt8}(h:(dec s).isSome=true):(dec (s.map flatB)).isSome=true:=by
 obtain⟨zs,hz⟩:=Option.isSome_iff_exists.1 h
 obtain⟨hm,rfl⟩:=(dec_iff s zs).1 hz
 rw[flat_dec zs hm,dec_enc]
 ·rfl
 ·rw[List.all_map,List.all_eq_true]
  intro z hz
  exact flat_may (List.all_eq_true.1 hm z hz)
theorem rune_here {s:List UInt8}{p:Nat}(hp:p<s.length)(h:(dec (s.drop p)).isSome=true):∃ z:Int,((runeAt s p).1:Int)=z∧may z=true∧encodeRune z=(s.drop p).take (runeAt s p).2∧1≤(runeAt s p).2∧p+(runeAt s p).2≤s.length∧(dec (s.drop (p+(runeAt s p).2))).isSome=true∧(runeAt s p).2=(encodeRune z).length:=by
 have ho:=one_at hp
 have hne:s.drop p≠[]:=by
  intro h
  have:=congrArg List.length h
  simp at this;omega
 split at ho
 ·rw[dec_bad hne ho]at h;cases h
 ·obtain⟨_,hm,he,h1,h2⟩:=one_some ho
  have hd:=dec_step ho
  rw[hd,List.drop_drop]at h
  simp only[List.length_drop]at h2
  refine⟨_,rfl,hm,he,h1,by omega,by simpa using h,?_⟩
  rw[he,List.length_take,List.length_drop];omega
theorem take_flat {s:List UInt8}{p k:Nat}{z:Int}(hm:may z=true)(he:encodeRune z=(s.drop p).take k):(s.take (p+k)).map flatB=(s.take p).map flatB++encodeRune (flatZ z):=by
 rw[List.take_add,List.map_append,← he,flat_enc hm]
def firstL:List V:=Lib.firstTab.map fun z=>.int .u8 z
def accL:List V:=(List.range 16).flatMap fun i=>[V.int .u8 (Lib.accLo i),.int .u8 (Lib.accHi i)]
theorem g_first:cx.G 2 = .rp firstL:=by show tabsG 2=_;unfold tabsG;rw[if_pos rfl];rfl
theorem g_acc:cx.G 3 = .rp accL:=by show tabsG 3=_;unfold tabsG;rw[if_neg (by decide),if_pos rfl];rfl
theorem slow3_ev (t:List UInt8)(ht:t.length≤1000000)(nm:Nat):Ev cx 180 nm [.str (239::191::189::t)] Mem.nil (.tup [.int .i32 65533,.int .i64 3]) []:=by
 have hf:(firstL.drop 239)[0]? = some (.int .u8 3):=by kernel_rfl
 have hf':239<firstL.length:=by decide +kernel
 have hf2:firstL.length=256:=by decide +kernel
 have hl:(239::191::189::t).length=t.length+3:=rfl
 have d1:decide (((t.length+3:Nat):Int)<1)=false:=decide_eq_false (by omega)
 have d2:decide ((t.length:Int)+3<1)=false:=decide_eq_false (by omega)
 have g0:(239::191::189::t)[0]? = some (239:UInt8):=rfl
 have g1:(239::191::189::t)[1]? = some (191:UInt8):=rfl
 have g2:(239::191::189::t)[2]? = some (189:UInt8):=rfl
 have l0:0<t.length+3:=by omega
 have l1:1<t.length+3:=by omega
 have l2:2<t.length+3:=by omega
 have t1:(239:UInt8).toNat=239:=rfl
 have t2:(191:UInt8).toNat=191:=rfl
 have t3:(189:UInt8).toNat=189:=rfl
 have p1:0<(firstL.drop 239).length:=by decide +kernel
 have s1:Int.fdiv 3 (2 ^ min 4 IntKind.u8.bits)=0:=by decide +kernel
 have a1:List.take 2 accL=[V.int .u8 128,V.int .u8 191]:=by kernel_rfl
 have p2:2≤accL.length:=by decide +kernel
 have w1:IntKind.u8.wrap ((BitVec.ofInt IntKind.u8.bits 3 &&& BitVec.ofInt IntKind.u8.bits 7).toNat:Int)=3:=by decide +kernel
 have w2:IntKind.i64.wrap 3=3:=by decide
 have d3:decide (((t.length+3:Nat):Int)<3)=false:=decide_eq_false (by omega)
 have d4:decide ((t.length:Int)+3<3)=false:=decide_eq_false (by omega)
 have x1:IntKind.u8.wrap ((BitVec.ofInt IntKind.u8.bits 239 &&& BitVec.ofInt IntKind.u8.bits 15).toNat:Int)=15:=by decide +kernel
 have x2:IntKind.u8.wrap ((BitVec.ofInt IntKind.u8.bits 191 &&& BitVec.ofInt IntKind.u8.bits 63).toNat:Int)=63:=by decide +kernel
 have x3:IntKind.u8.wrap ((BitVec.ofInt IntKind.u8.bits 189 &&& BitVec.ofInt IntKind.u8.bits 63).toNat:Int)=61:=by decide +kernel
 have w3:IntKind.i32.wrap 15=15:=by decide
 have w4:IntKind.i32.wrap 63=63:=by decide
 have w5:IntKind.i32.wrap 61=61:=by decide
 have y1:IntKind.i32.wrap (15*2 ^ min 12 IntKind.i32.bits)=61440:=by decide +kernel
 have y2:IntKind.i32.wrap (63*2 ^ min 6 IntKind.i32.bits)=4032:=by decide +kernel
 have v1:IntKind.i32.wrap ((BitVec.ofInt IntKind.i32.bits 61440 ||| BitVec.ofInt IntKind.i32.bits 4032).toNat:Int)=65472:=by decide +kernel
 have v2:IntKind.i32.wrap ((BitVec.ofInt IntKind.i32.bits 65472 ||| BitVec.ofInt IntKind.i32.bits 61).toNat:Int)=65533:=by decide +kernel
 refine ev_go rfl (fun cargs w=>call180 cargs w) func180 rfl mixed (by kernel_rfl) rfl ?_;intro b0 hb0
 (repeat' first|simp only[fins,mems,results180,ntmps180,wks,g_first,g_acc,hf,hf',hf2,hl,d1,d2,g0,g1,g2,l0,l1,l2,t1,t2,t3,p1,p2,s1,a1,w1,w2,w3,w4,w5,d3,d4,x1,x2,x3,y1,y2,v1,v2,Int.toNat_zero,Nat.zero_mul,List.drop_zero,vcs,seval,tys]|exact rfl|refine call_off (v:=.any) ?_|((first|apply Ca|apply Cb)<;>intro hb)|refine Ai (by omega) ?_|(apply Ai<;>intro hb)|refine Fin.pure ?_ ?_ ?_|simp only[injs])
theorem odd3_ev (t:List UInt8)(ht:t.length≤1000000)(nm:Nat):Ev cx 161 nm [.str (239::191::189::t)] Mem.nil (.tup [.int .i32 65533,.int .i64 3]) []:=by
 have e0:(!((239::191::189::t)==([]:List UInt8)))=true:=rfl
 have e0':((239::191::189::t) !=([]:List UInt8))=true:=rfl
 have hl:(239::191::189::t).length=t.length+3:=rfl
 have g0:(239::191::189::t)[0]? = some (239:UInt8):=rfl
 have l0:0<t.length+3:=by omega
 have t1:(239:UInt8).toNat=239:=rfl
 refine ev_go rfl (fun cargs w=>call161 cargs w) func161 rfl mixed (by kernel_rfl) rfl ?_;intro b0 hb0
 (repeat' first|simp only[fins,mems,results161,ntmps161,wks,e0,e0',hl,g0,l0,t1,vcs,seval,tys]|exact rfl|refine call_off (v:=.any) ?_|(first|(refine call_fn ?_ (slow3_ev t ht _) ?_)|(refine call_fn_g ?_ (fun _=>slow3_ev t ht _) ?_))|((first|apply Ca|apply Cb)<;>intro hb)|refine Ai (by omega) ?_|(apply Ai<;>intro hb)|refine Fin.pure ?_ ?_ ?_|simp only[injs])
def flatF:V:=.fn 185 []
theorem take_all_flat {s:List UInt8}{p:Nat}(h:(s.take p).map flatB=s.take p)(hp:p=s.length):s.map flatB=s:=by
 subst hp;rwa[List.take_length]at h
theorem nine_len {z:Int}(h:z=9∨z=10∨z=13∨z=32):encodeRune z=[z.toNat.toUInt8]∧0≤z∧z≤127:=by
 refine⟨?_,by omega,by omega⟩
 rcases h with rfl|rfl|rfl|rfl<;>decide +kernel
theorem low_enc {z:Int}(h0:0≤z)(h:z<128):encodeRune z=[z.toNat.toUInt8]:=by
 have key:∀ n:Fin 128,encodeRune (n.val:Int)=[(n.val:Int).toNat.toUInt8]:=by decide +kernel
 have:=key ⟨z.toNat,by omega⟩
 have e:((z.toNat:Nat):Int)=z:=by omega
 simpa only[e] using this
theorem low_wrap {z:Int}(h0:0≤z)(h:z<128):IntKind.u8.wrap z=((z.toNat.toUInt8).toNat:Int):=by
 have key:∀ n:Fin 128,IntKind.u8.wrap (n.val:Int)=(((n.val:Int).toNat.toUInt8).toNat:Int):=by decide +kernel
 have:=key ⟨z.toNat,by omega⟩
 have e:((z.toNat:Nat):Int)=z:=by omega
 simpa only[e] using this
theorem ren_bK (σ:List (Nat×Nat))(q y a b:Nat):Blk.ren σ (bK true q (.own y a b))=bK true ((newName σ q).getD q) (.own ((newName σ y).getD y) a b):=by
 simp[bK,Blk.ren,renLL,renL,V.ren,plainLL,plainL,V.plain,Ob.ren,instCells]
theorem renOk_bK (σ:List (Nat×Nat))(q y a b:Nat)(h1:(newName σ q).isSome=true)(h2:(newName σ y).isSome=true):Blk.renOk σ (bK true q (.own y a b))=true:=by
 simp[bK,Blk.renOk,renOkLL,renOkL,V.renOk,h1,h2,Ob.renOk,instCells]
theorem map_ev (s:List UInt8)(hs:s.length≤20000)(hdec:(dec s).isSome=true)(nm:Nat):Ev cx 184 nm [flatF,.str s] Mem.nil (.str (s.map flatB)) []:=by
  unfold flatF
  refine ev_go rfl (fun cargs w=>call184 cargs w) func184 rfl mixed (by kernel_rfl) rfl ?_;intro b0 hb0
  repeat' first|simp only[fins,mems,results184,ntmps184,wks,vcs,seval,tys]|exact rfl|refine call_off (v:=.any) ?_|(refine ext_range (s:=?_) ?_ ?_ ?_;rotate_left 1;(iterate 2 (focus (simp only[results184,ntmps184,wks,vcs,seval,tys]<;>exact rfl))))|(refine extG_true ?_)|(refine extG_false ?_)|((first|(refine call_val (g:=?_) ?_ ?_)|(refine call_valg (g:=?_) ?_ ?_));rotate_left 1;(focus (simp only[results184,ntmps184,wks,vcs,seval,tys]<;>exact rfl)))|((first|apply Ca|apply Cb)<;>intro hb)|refine Ai (by omega) ?_|(apply Ai<;>intro hb)
  (refine loop_can2 cxG (fun x:Nat=>s.length-x) (fun x=>x≤s.length∧(dec (s.drop x)).isSome=true∧(s.take x).map flatB=s.take x) (b0+16) (fun x=>[(0,.fn 185 []),(1,.str s),(5,.ptr (b0+1) 0 0),(14,.ptr b0 0 0)]) (fun x=>[(b0,iterK s x),(b0+1,bK false (b0+1) .nils)]) (0) [some (b0+48),some (b0+16)] ?_ ?_ ?_ ?_;rotate_left 1;(focus (show b0≤_;omega));(focus (refine⟨?_,?_⟩<;>(try simp only[cans,ren_iter,renOk_iter,bK_f,ren_mkT,renOk_mkT,isRow_inst,vcs,seval,tys,injs])<;>(try omega)));rotate_left 1)
  · exact⟨Nat.zero_le _,by rw[List.drop_zero];exact hdec,rfl⟩
  · rintro p ⟨h1,h2,h3⟩
    by_cases hp:p<s.length
    · obtain ⟨z,hz,hm,he,hk1,hk2,hd2,hk3⟩:=rune_here hp h2
      have hmz:=(may_iff z).1 hm
      have hfe:=flat_ev z hm
      have htf:=take_flat hm he
      by_cases hfz:flatZ z=z
      · have q1:(flatZ z==z)=true:=by rw[hfz];simp
        have hnx:(s.take (p+(runeAt s p).2)).map flatB=s.take (p+(runeAt s p).2):=by
          rw[htf,h3,hfz,List.take_add,← he]
        by_cases h65:z=65533
        · subst h65
          have hk3':(runeAt s p).2=3:=by rw[hk3];decide +kernel
          have hdr:s.drop p=239::191::189::s.drop (p+3):=by
            rw[hk3']at he
            have h4:=List.take_append_drop 3 (s.drop p)
            rw[← he,show encodeRune 65533=[239,191,189] by decide +kernel,List.drop_drop]at h4
            exact h4.symm
          have hodd:=odd3_ev (s.drop (p+3)) (by simp;omega)
          have q3:(flatZ 65533==65533)=true:=q1
          have hpi:(p:Int)≤(s.length:Int):=by omega
          rw[hfz]at hfe
          repeat' first|simp only[fins,mems,results184,ntmps184,wks,hp,h1,hpi,hz,hdr,bK_f,vcs,seval,tys]|exact rfl|refine call_off (v:=.any) ?_|(first|(refine call_fn ?_ (hfe _) ?_)|(refine call_fn_g ?_ (fun _=>hfe _) ?_)|(refine call_fn ?_ (hodd _) ?_)|(refine call_fn_g ?_ (fun _=>hodd _) ?_))|(refine ext_next (s:=?_) (y:=?_) (p:=?_) ?_ ?_ ?_ ?_;rotate_left 3;(iterate 2 (focus (simp only[results184,ntmps184,wks,hp,h1,hpi,hz,hdr,bK_f,vcs,seval,tys]<;>exact rfl)));(focus (simp only[results184,ntmps184,wks,hp,h1,hpi,hz,hdr,bK_f,vcs,seval,tys]<;>omega)))|(refine extG_true ?_)|(refine extG_false ?_)|((first|(refine call_val (g:=?_) ?_ ?_)|(refine call_valg (g:=?_) ?_ ?_));rotate_left 1;(focus (simp only[results184,ntmps184,wks,hp,h1,hpi,hz,hdr,bK_f,vcs,seval,tys]<;>exact rfl)))|refine Ai (by omega) ?_
          all_goals ((refine again_can2 cxG (p+(runeAt s p).2) [some b0,some (b0+1)] ?_ ?_ ?_ ?_;rotate_left 2;(focus (show b0≤_;omega));(focus (refine⟨?_,?_⟩<;>(try simp only[cans,ren_iter,renOk_iter,bK_f,ren_mkT,renOk_mkT,isRow_inst,vcs,seval,tys,injs])<;>(try omega)))))
          all_goals (first|(show s.length-(p+(runeAt s p).2)<s.length-p;omega)|exact⟨hk2,hd2,hnx⟩|skip)
        · have q2:(!(z==65533))=true:=by rw[beq_false_of_ne h65];rfl
          have q2':(z != 65533)=true:=q2
          repeat' first|simp only[fins,mems,results184,ntmps184,wks,hp,hz,q1,q2,q2',bK_f,vcs,seval,tys]|exact rfl|refine call_off (v:=.any) ?_|(first|(refine call_fn ?_ (hfe _) ?_)|(refine call_fn_g ?_ (fun _=>hfe _) ?_))|(refine ext_next (s:=?_) (y:=?_) (p:=?_) ?_ ?_ ?_ ?_;rotate_left 3;(iterate 2 (focus (simp only[results184,ntmps184,wks,hp,hz,q1,q2,q2',bK_f,vcs,seval,tys]<;>exact rfl)));(focus (simp only[results184,ntmps184,wks,hp,hz,q1,q2,q2',bK_f,vcs,seval,tys]<;>omega)))|(refine extG_true ?_)|(refine extG_false ?_)|((first|(refine call_val (g:=?_) ?_ ?_)|(refine call_valg (g:=?_) ?_ ?_));rotate_left 1;(focus (simp only[results184,ntmps184,wks,hp,hz,q1,q2,q2',bK_f,vcs,seval,tys]<;>exact rfl)))|refine Ai (by omega) ?_
          all_goals ((refine again_can2 cxG (p+(runeAt s p).2) [some b0,some (b0+1)] ?_ ?_ ?_ ?_;rotate_left 2;(focus (show b0≤_;omega));(focus (refine⟨?_,?_⟩<;>(try simp only[cans,ren_iter,renOk_iter,bK_f,ren_mkT,renOk_mkT,isRow_inst,vcs,seval,tys,injs])<;>(try omega)))))
          all_goals (first|(show s.length-(p+(runeAt s p).2)<s.length-p;omega)|exact⟨hk2,hd2,hnx⟩|skip)
      · have hz4:z=9∨z=10∨z=13:=by
          unfold flatZ blankZ at hfz
          split at hfz
          · rename_i h;simp only[decide_eq_true_eq]at h;omega
          · exact absurd rfl hfz
        have hf32:flatZ z=32:=by
          unfold flatZ blankZ
          rw[if_pos (by simp only[decide_eq_true_eq];omega)]
        have hen:=nine_len (z:=z) (by omega)
        have hk1':(runeAt s p).2=1:=by rw[hk3,hen.1];rfl
        have q1:((32:Int)==z)=false:=beq_false_of_ne (by omega)
        have q65:(z==65533)=false:=beq_false_of_ne (by omega)
        have hrl:=runeLen1_ev z hen.2.1 hen.2.2
        have hpi:(p:Int)≤(s.length:Int):=by omega
        have hw1:IntKind.i64.wrap ((s.length:Int)+4)=((s.length+4:Nat):Int):=wrap_in (by omega) (by omega)
        have hw2:IntKind.i64.wrap ((p:Int)+1)=((p+1:Nat):Int):=wrap_in (by omega) (by omega)
        have hpi2:((p+1:Nat):Int)≤(s.length:Int):=by omega
        have hp1:p+1≤s.length:=by omega
        have htl:(s.take p).length=p:=by rw[List.length_take];omega
        rw[hf32]at hfe
        have hm32:may 32=true:=by decide
        have hws:=fun (M':Mem) (n':Nat) (a:M' (b0+1)=some (bK true (b0+1) (.own (b0+432) 0 0))) (b:M' (b0+432)=some (rK [])) (d:∀ z,(M' z).isSome=true→z∈[b0+1,b0+432]) (hn1:b0+1<n') (hn2:b0+432<n')=>wStrO_ev true (b0+1) (b0+432) [] (s.take p) (by unfold lim;simp;omega) M' n' (by omega) a b d hn1 hn2
        simp only[List.nil_append,List.length_nil,Nat.zero_add,htl]at hws
        have hwr:=fun (M':Mem) (n':Nat) (a:M' (b0+1)=some (bK true (b0+1) (.own (b0+496) 0 (s.take p).length))) (b:M' (b0+496)=some (rK (s.take p))) (d:∀ z,(M' z).isSome=true→z∈[b0+1,b0+496]) (hn1:b0+1<n') (hn2:b0+496<n')=>wRune_ev 32 hm32 (b0+1) (b0+496) (s.take p) (by omega) M' n' (by omega) a b d hn1 hn2
        have he32:encodeRune 32=[32]:=by decide +kernel
        simp only[htl,he32,List.length_cons,List.length_nil,Nat.zero_add]at hwr
        have hlo:(s.take p++[32]).length=p+1:=by simp;omega
        repeat' first|simp only[fins,mems,results184,ntmps184,wks,hp,h1,hp1,hpi,hpi2,hz,q1,q65,hw1,hw2,bK_f,fresh_self,vcs,seval,tys]|exact rfl|refine call_off (v:=.any) ?_|(first|(refine call_fn ?_ (hfe _) ?_)|(refine call_fn_g ?_ (fun _=>hfe _) ?_)|(refine call_fn ?_ (hrl _) ?_)|(refine call_fn_g ?_ (fun _=>hrl _) ?_))|(refine call_fn_full ?_ [b0+1] (bGrow_ev false (b0+1) (s.length+4) (by omega) (by omega) _ _ ?_ only_mem (by omega)) ?_ ?_)|(refine call_fn_full ?_ [b0+1,b0+432] (hws _ _ ?_ ?_ only_mem (by omega) (by omega)) ?_ ?_)|(refine call_fn_full ?_ [b0+1,b0+496] (hwr _ _ ?_ ?_ only_mem (by omega) (by omega)) ?_ ?_)|(refine ext_next (s:=?_) (y:=?_) (p:=?_) ?_ ?_ ?_ ?_;rotate_left 3;(iterate 2 (focus (simp only[results184,ntmps184,wks,hp,h1,hp1,hpi,hpi2,hz,q1,q65,hw1,hw2,bK_f,fresh_self,vcs,seval,tys]<;>exact rfl)));(focus (simp only[results184,ntmps184,wks,hp,h1,hp1,hpi,hpi2,hz,q1,q65,hw1,hw2,bK_f,fresh_self,vcs,seval,tys]<;>omega)))|(refine extG_true ?_)|(refine extG_false ?_)|((first|(refine call_val (g:=?_) ?_ ?_)|(refine call_valg (g:=?_) ?_ ?_));rotate_left 1;(focus (simp only[results184,ntmps184,wks,hp,h1,hp1,hpi,hpi2,hz,q1,q65,hw1,hw2,bK_f,fresh_self,vcs,seval,tys]<;>exact rfl)))|refine Ai (by omega) ?_
        have hcap:=fun (M':Mem) (n':Nat) (a:M' (b0+1)=some (bK true (b0+1) (.own (b0+560) 0 (s.take p++[32]).length))) (b:M' (b0+560)=some (rK (s.take p++[32]))) (d:∀ z,(M' z).isSome=true→z∈[b0+1,b0+560]) (hn1:b0+1<n') (hn2:b0+560<n')=>bCap_some (b0+1) (b0+560) (s.take p++[32]) M' n' (by omega) a b d hn1 hn2
        simp only[hlo]at hcap
        refine call_some ?_ [b0+1,b0+560] (hcap _ _ ?_ ?_ only_mem (by omega) (by omega)) ?_ ?_
        iterate 4 (focus (simp only[mems,wks,vcs,seval,tys]<;>exact rfl))
        rintro v ⟨c,hc,rfl⟩
        have hc0:((c:Int)==0)=false:=beq_false_of_ne (by omega)
        repeat' first|simp only[fins,mems,results184,ntmps184,wks,hc0,vcs,seval,tys]|exact rfl|refine call_off (v:=.any) ?_|(refine ext_range (s:=?_) ?_ ?_ ?_;rotate_left 1;(iterate 2 (focus (simp only[results184,ntmps184,wks,hc0,vcs,seval,tys]<;>exact rfl))))|(refine extG_true ?_)|(refine extG_false ?_)|((first|(refine call_val (g:=?_) ?_ ?_)|(refine call_valg (g:=?_) ?_ ?_));rotate_left 1;(focus (simp only[results184,ntmps184,wks,hc0,vcs,seval,tys]<;>exact rfl)))|refine Ai (by omega) ?_
        obtain⟨r,hr⟩:∃ r,r=s.drop (p+1):=⟨_,rfl⟩
        obtain⟨pre,hpre⟩:∃ u,u=s.take p++[32]:=⟨_,rfl⟩
        rw[h3,hf32,he32,hk1']at htf
        have hfl:s.map flatB=pre++r.map flatB:=by rw[hpre,hr,← htf,← List.map_append,List.take_append_drop]
        rw[hk1',← hr]at hd2
        rw[← hpre]at hlo
        have hrn:p+1+r.length=s.length:=by rw[hr,List.length_drop];omega
        rw[← hr,← hpre,hfl]
        clear hcap hwr hws hfl hfe htf
        obtain⟨P,hP⟩:∃ P,P=p+1:=⟨_,rfl⟩
        rw[← hP]at hlo hrn
        rw[← hP]
        (refine loop_can2 cxG (fun x:Nat=>r.length-x) (fun x=>x≤r.length∧(dec (r.drop x)).isSome=true) (b0+16) (fun x=>[(0,.fn 185 []),(5,.ptr (b0+1) 0 0),(68,.ptr b0 0 0)]) (fun x=>[(b0,iterK r x),(b0+1,bK true (b0+1) (.own (b0+2) 0 (P+x))),(b0+2,rK (pre++(r.take x).map flatB))]) (0) [some (b0+720),some (b0+1),some (b0+560)] ?_ ?_ ?_ ?_;rotate_left 1;(focus (show b0≤_;omega));(focus (refine⟨?_,?_⟩<;>(try simp only[cans,ren_iter,renOk_iter,ren_bK,renOk_bK,ren_rK,renOk_rK,List.take_zero,Lo,List.append_nil,Nat.add_zero,vcs,seval,tys,injs])<;>(try omega)));rotate_left 1)
        · exact⟨Nat.zero_le _,by rw[List.drop_zero];exact hd2⟩
        · rintro x ⟨g1,g2⟩
          by_cases gx:x<r.length
          · obtain⟨z',gz,gm,ge,gk1,gk2,gd2,gk3⟩:=rune_here gx g2
            have gfe:=flat_ev z' gm
            have gtf:=take_flat gm ge
            have gfm:=flat_may gm
            obtain⟨w,hw⟩:∃ w,w=flatZ z':=⟨_,rfl⟩
            rw[← hw]at gfe gtf gfm
            have gwr:=may_range gfm
            have gw0:decide (0≤w)=true:=decide_eq_true (by omega)
            have glo:(pre++(r.take x).map flatB).length=P+x:=by rw[List.length_append,Lm,List.length_take,hlo];omega
            have gnx:pre++(r.take x).map flatB++encodeRune w=pre++(r.take (x+(runeAt r x).2)).map flatB:=by rw[gtf,List.append_assoc]
            have gkk:(runeAt r x).2=(encodeRune w).length:=by rw[gk3,hw,← flat_enc gm,Lm]
            rw[gkk]at gnx gd2 gk2 gk1
            by_cases g128:w<128
            · have gd:decide (w<128)=true:=decide_eq_true g128
              have gen:=low_enc (z:=w) (by omega) g128
              have gu:IntKind.u8.wrap w=((w.toNat.toUInt8).toNat:Int):=low_wrap (by omega) g128
              have gl1:(encodeRune w).length=1:=by rw[gen];rfl
              rw[gl1]at gnx gd2 gk2 gkk
              rw[gen]at gnx
              have hwb:=fun (M':Mem) (n':Nat) (a:M' (b0+1)=some (bK true (b0+1) (.own (b0+2) 0 (pre++(r.take x).map flatB).length))) (b:M' (b0+2)=some (rK (pre++(r.take x).map flatB))) (d:∀ z,(M' z).isSome=true→z∈[b0+1,b0+2]) (hn1:b0+1<n') (hn2:b0+2<n')=>wByteO_ev true (b0+1) (b0+2) (pre++(r.take x).map flatB) w.toNat.toUInt8 (by unfold lim;omega) M' n' (by omega) a b d hn1 hn2
              simp only[glo,gnx,← gu]at hwb
              repeat' first|simp only[fins,mems,results184,ntmps184,wks,gx,g1,gz,gw0,gd,gkk,vcs,seval,tys]|exact rfl|refine call_off (v:=.any) ?_|(first|(refine call_fn ?_ (gfe _) ?_)|(refine call_fn_g ?_ (fun _=>gfe _) ?_))|(refine call_fn_full ?_ [b0+1,b0+2] (hwb _ _ ?_ ?_ only_mem (by omega) (by omega)) ?_ ?_)|(refine ext_next (s:=?_) (y:=?_) (p:=?_) ?_ ?_ ?_ ?_;rotate_left 3;(iterate 2 (focus (simp only[results184,ntmps184,wks,gx,g1,gz,gw0,gd,gkk,vcs,seval,tys]<;>exact rfl)));(focus (simp only[results184,ntmps184,wks,gx,g1,gz,gw0,gd,gkk,vcs,seval,tys]<;>omega)))|(refine extG_true ?_)|(refine extG_false ?_)|((first|(refine call_val (g:=?_) ?_ ?_)|(refine call_valg (g:=?_) ?_ ?_));rotate_left 1;(focus (simp only[results184,ntmps184,wks,gx,g1,gz,gw0,gd,gkk,vcs,seval,tys]<;>exact rfl)))|refine Ai (by omega) ?_
              all_goals (first|omega|skip)
              all_goals ((refine again_can2 cxG (x+1) [some b0,some (b0+1),some (b0+240)] ?_ ?_ ?_ ?_;rotate_left 2;(focus (show b0≤_;omega));(focus (refine⟨?_,?_⟩<;>(try simp only[cans,ren_iter,renOk_iter,ren_bK,renOk_bK,ren_rK,renOk_rK,gkk,Nat.add_assoc,vcs,seval,tys,injs])<;>(try omega)))))
              all_goals (first|(show r.length-(x+1)<r.length-x;omega)|exact⟨gk2,gd2⟩|skip)
            · have gd:decide (w<128)=false:=decide_eq_false g128
              have hwb:=fun (M':Mem) (n':Nat) (a:M' (b0+1)=some (bK true (b0+1) (.own (b0+2) 0 (pre++(r.take x).map flatB).length))) (b:M' (b0+2)=some (rK (pre++(r.take x).map flatB))) (d:∀ z,(M' z).isSome=true→z∈[b0+1,b0+2]) (hn1:b0+1<n') (hn2:b0+2<n')=>wRune_ev w gfm (b0+1) (b0+2) (pre++(r.take x).map flatB) (by omega) M' n' (by omega) a b d hn1 hn2
              simp only[glo,gnx]at hwb
              repeat' first|simp only[fins,mems,results184,ntmps184,wks,gx,g1,gz,gw0,gd,gkk,vcs,seval,tys]|exact rfl|refine call_off (v:=.any) ?_|(first|(refine call_fn ?_ (gfe _) ?_)|(refine call_fn_g ?_ (fun _=>gfe _) ?_))|(refine call_fn_full ?_ [b0+1,b0+2] (hwb _ _ ?_ ?_ only_mem (by omega) (by omega)) ?_ ?_)|(refine ext_next (s:=?_) (y:=?_) (p:=?_) ?_ ?_ ?_ ?_;rotate_left 3;(iterate 2 (focus (simp only[results184,ntmps184,wks,gx,g1,gz,gw0,gd,gkk,vcs,seval,tys]<;>exact rfl)));(focus (simp only[results184,ntmps184,wks,gx,g1,gz,gw0,gd,gkk,vcs,seval,tys]<;>omega)))|(refine extG_true ?_)|(refine extG_false ?_)|((first|(refine call_val (g:=?_) ?_ ?_)|(refine call_valg (g:=?_) ?_ ?_));rotate_left 1;(focus (simp only[results184,ntmps184,wks,gx,g1,gz,gw0,gd,gkk,vcs,seval,tys]<;>exact rfl)))|refine Ai (by omega) ?_
              all_goals (first|omega|skip)
              all_goals ((refine again_can2 cxG (x+(encodeRune w).length) [some b0,some (b0+1),some (b0+224)] ?_ ?_ ?_ ?_;rotate_left 2;(focus (show b0≤_;omega));(focus (refine⟨?_,?_⟩<;>(try simp only[cans,ren_iter,renOk_iter,ren_bK,renOk_bK,ren_rK,renOk_rK,gkk,Nat.add_assoc,vcs,seval,tys,injs])<;>(try omega)))))
              all_goals (first|(show r.length-(x+(encodeRune w).length)<r.length-x;omega)|exact⟨gk2,gd2⟩|skip)
          · have gxe:x=r.length:=by omega
            have gtk:(r.take x)=r:=by rw[gxe,List.take_length]
            have glo:(pre++r.map flatB).length=P+x:=by rw[List.length_append,Lm,hlo,gxe]
            rw[gtk]
            have hbs:=fun (M':Mem) (n':Nat) (a:M' (b0+1)=some (bK true (b0+1) (.own (b0+2) 0 (pre++r.map flatB).length))) (b:M' (b0+2)=some (rK (pre++r.map flatB))) (d:∀ z,(M' z).isSome=true→z∈[b0+1,b0+2]) (hn1:b0+1<n') (hn2:b0+2<n')=>bStrO_ev true (b0+1) (b0+2) (pre++r.map flatB) (by intro h;rw[h]at glo;simp at glo;omega) (by unfold lim;omega) M' n' (by omega) a b d hn1 hn2
            simp only[glo]at hbs
            (repeat' first|simp only[fins,mems,results184,ntmps184,wks,gx,vcs,seval,tys]|exact rfl|refine call_off (v:=.any) ?_|(refine call_fn_full ?_ [b0+1,b0+2] (hbs _ _ ?_ ?_ only_mem (by omega) (by omega)) ?_ ?_)|(refine ext_over (s:=?_) (y:=?_) (p:=?_) ?_ ?_ ?_ ?_;rotate_left 3;(iterate 2 (focus (simp only[results184,ntmps184,wks,gx,vcs,seval,tys]<;>exact rfl)));(focus (simp only[results184,ntmps184,wks,gx,vcs,seval,tys]<;>omega)))|(refine extG_true ?_)|(refine extG_false ?_)|((first|(refine call_val (g:=?_) ?_ ?_)|(refine call_valg (g:=?_) ?_ ?_));rotate_left 1;(focus (simp only[results184,ntmps184,wks,gx,vcs,seval,tys]<;>exact rfl)))|((first|apply Ca|apply Cb)<;>intro hb)|refine Ai (by omega) ?_|(apply Ai<;>intro hb)|refine Fin.pure ?_ ?_ ?_|simp only[injs])
    · have hpe:p=s.length:=by omega
      have hr:=take_all_flat h3 hpe
      have hd0:decide ((0:Int)=0)=true:=rfl
      rw[hr]
      (repeat' first|simp only[fins,mems,results184,ntmps184,wks,hp,bK_f,vcs,seval,tys]|exact rfl|refine call_off (v:=.any) ?_|(refine call_fn_full ?_ [b0+1] (bCapN_ev false (b0+1) _ _ ?_ only_mem (by omega)) ?_ ?_)|(refine ext_over (s:=?_) (y:=?_) (p:=?_) ?_ ?_ ?_ ?_;rotate_left 3;(iterate 2 (focus (simp only[results184,ntmps184,wks,hp,bK_f,vcs,seval,tys]<;>exact rfl)));(focus (simp only[results184,ntmps184,wks,hp,bK_f,vcs,seval,tys]<;>omega)))|(refine extG_true ?_)|(refine extG_false ?_)|((first|(refine call_val (g:=?_) ?_ ?_)|(refine call_valg (g:=?_) ?_ ?_));rotate_left 1;(focus (simp only[results184,ntmps184,wks,hp,bK_f,vcs,seval,tys]<;>exact rfl)))|((first|apply Ca|apply Cb)<;>intro hb)|refine Ai (by omega) ?_|(apply Ai<;>intro hb)|refine Fin.pure ?_ ?_ ?_|simp only[injs])
end Go.Proofs.YtjdjclecdfhciaaGreatDoor
