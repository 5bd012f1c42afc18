/-
 Texts joined: XEb,XEf,XEg,XGe,XEu,XUt,XGf.
-/
import Derived.Test.YtnnbggkpgacdiaaDoorQf
import Derived.Test.YtnnbggkpgacdiaaDoorQe
namespace Go.Proofs.YtnnbggkpgacdiaaDoor
set_option maxRecDepth 100000
set_option maxHeartbeats 32000000
set_option linter.unusedSimpArgs false
set_option linter.unusedVariables false
open Go Go.RowKit Vm Go.Lib Tryd
open Vm renaming cond_bool→Ca,cond_bit→Cb
open And renaming intro→Ai
open List renaming length_map→Lm,not_mem_nil→Ln,map_nil→Lo,map_cons→Lc,mem_cons→Lk
open Bool renaming not_false→Bf,not_true→Bt
theorem noEsc_ev (v:V)(M:Mem)(nm:Nat):Ev cx 32 nm [v] M v [] :=
 Ev.noEscape func32 (by kernel_rfl) (by kernel_rfl) (by kernel_rfl) (by kernel_rfl) v M nm
theorem fresh_self (n:Nat):Fresh n n=True:=eq_true ⟨Nat.le_refl _,by omega⟩
def bK (used:Bool)(q:Nat)(c:V):Blk:=if used then ⟨2,[[.ptr q 0 0,c]]⟩ else @Blk.mk 2 [[.nilp,c]] (.typed 40)
theorem bK_t (q:Nat)(c:V):bK true q c=⟨2,[[.ptr q 0 0,c]]⟩:=rfl
theorem bK_f (q:Nat)(c:V):bK false q c = @Blk.mk 2 [[.nilp,c]] (.typed 40):=rfl
theorem inf_b:(cx.P.info? 40).isSome=true:=by kernel_rfl
theorem copyN_ev (used:Bool)(q:Nat)(M:Mem)(nm:Nat)(hq:M q=some (bK used q .nils))(ho:∀ z,(M z).isSome=true→z∈[q])(hn:q<nm) :
  Ev cx 23 nm [.ptr q 0 0] M (.tup []) [(q,some (bK true q .nils))]:=by
 cases used with
 | false =>
  refine ev_go rfl (fun cargs w=>call23 cargs w) func23 rfl mixed (by kernel_rfl) rfl ?_;intro b0 hb0
  have lq:q<b0:=below_of hb0 (by rw[hq];rfl)
  have z0:=lt_ne lq;have z1:=lt_ne_add lq;have z2:=lt_ne' lq;have z3:=lt_ne_add' lq
  repeat' first|simp only[fins,mems,results23,ntmps23,wks,inf_b,bK_t,bK_f,hq,z0,z1,z2,z3,vcs,seval,tys,TypeDesc.pointer.injEq,exists_eq_left']|exact rfl|refine call_off (v:=.any) ?_|(first|(refine call_fn ?_ (noEsc_ev (.ptr q 0 0) Mem.nil _) ?_)|(refine call_fn_g ?_ (fun _=>noEsc_ev (.ptr q 0 0) Mem.nil _) ?_))|(refine ext_toUnsafe (y:=?_) (sz:=?_) (row:=?_) (rows:=?_) (o:=?_) (te:=?_) ?_ ?_ ?_ ?_ ?_ ?_ ?_ ?_;rotate_left 6;(iterate 2 (focus (simp only[results23,ntmps23,wks,inf_b,bK_t,bK_f,hq,z0,z1,z2,z3,vcs,seval,tys,TypeDesc.pointer.injEq,exists_eq_left']<;>exact rfl)));(focus (exact rfl));(focus (omega));(iterate 2 (focus (simp only[results23,ntmps23,wks,inf_b,bK_t,bK_f,hq,z0,z1,z2,z3,vcs,seval,tys,TypeDesc.pointer.injEq,exists_eq_left']<;>exact rfl)));(focus (kernel_rfl)))|(refine extG_true ?_)|(refine extG_false ?_)|(refine ext_fromUnsafe (y:=?_) (sz:=?_) (row:=?_) (rows:=?_) (u:=?_) ?_ ?_ ?_ ?_ ?_ ?_ ?_ ?_;rotate_left 5;(iterate 2 (focus (simp only[results23,ntmps23,wks,inf_b,bK_t,bK_f,hq,z0,z1,z2,z3,vcs,seval,tys,TypeDesc.pointer.injEq,exists_eq_left']<;>exact rfl)));(focus (omega));(iterate 2 (focus (simp only[results23,ntmps23,wks,inf_b,bK_t,bK_f,hq,z0,z1,z2,z3,vcs,seval,tys,TypeDesc.pointer.injEq,exists_eq_left']<;>exact rfl)));(iterate 2 (focus (kernel_rfl))))|((first|apply Ca|apply Cb)<;>intro hb)|refine Ai (by omega) ?_|(apply Ai<;>intro hb)
  all_goals ((refine Fin.give [(q,none)] [] ?_ ?_ ?_ ?_ ?_ (fun q hq=>by have hqq:=ho q hq;first|(simp only[gives,tgt,Lc,Lo,Lk,Ln,or_false]at hqq ⊢;omega)|(simp only[gives,tgt,Lc,Lo,Lk,Ln,or_false]at hqq))<;>(try simp only[results23,ntmps23,wks,inf_b,bK_t,bK_f,hq,z0,z1,z2,z3,giv,vcs,seval,tys,TypeDesc.pointer.injEq,exists_eq_left'])<;>(try simp only[injs])<;>(try omega)))
 | true =>
  refine ev_go rfl (fun cargs w=>call23 cargs w) func23 rfl mixed (by kernel_rfl) rfl ?_;intro b0 hb0
  have lq:q<b0:=below_of hb0 (by rw[hq];rfl)
  have z0:=lt_ne lq;have z1:=lt_ne_add lq;have z2:=lt_ne' lq;have z3:=lt_ne_add' lq
  repeat' first|simp only[fins,mems,results23,ntmps23,wks,inf_b,bK_t,bK_f,hq,z0,z1,z2,z3,vcs,seval,tys,TypeDesc.pointer.injEq,exists_eq_left']|exact rfl|refine call_off (v:=.any) ?_|((first|apply Ca|apply Cb)<;>intro hb)|refine Ai (by omega) ?_|(apply Ai<;>intro hb)
  all_goals ((refine Fin.give [(q,none)] [] ?_ ?_ ?_ ?_ ?_ (fun q hq=>by have hqq:=ho q hq;first|(simp only[gives,tgt,Lc,Lo,Lk,Ln,or_false]at hqq ⊢;omega)|(simp only[gives,tgt,Lc,Lo,Lk,Ln,or_false]at hqq))<;>(try simp only[results23,ntmps23,wks,inf_b,bK_t,bK_f,hq,z0,z1,z2,z3,giv,vcs,seval,tys,TypeDesc.pointer.injEq,exists_eq_left'])<;>(try simp only[injs])<;>(try omega)))
theorem ren_bytes (σ:List (Nat×Nat))(bs:List UInt8)(t:TypeId):Blk.ren σ (@Blk.mk 1 (bs.map byteRow) (.typed t)) = @Blk.mk 1 (bs.map byteRow) (.typed t):=by
 have h:plainLL (bs.map byteRow)=true:=plainLL_map _ (fun _=>rfl) bs
 simp only[Blk.ren,renLL,h,if_true]
theorem renOk_bytes (σ:List (Nat×Nat))(bs:List UInt8)(t:TypeId):Blk.renOk σ (@Blk.mk 1 (bs.map byteRow) (.typed t))=true:=by
 have h:plainLL (bs.map byteRow)=true:=plainLL_map _ (fun _=>rfl) bs
 simp only[Blk.renOk,renOkLL,h,Bool.true_or,Bool.true_and]
 rfl
theorem ren_cons (σ:List (Nat×Nat))(c:UInt8)(bs:List UInt8)(t:TypeId):Blk.ren σ (@Blk.mk 1 (byteRow c::bs.map byteRow) (.typed t)) = @Blk.mk 1 (byteRow c::bs.map byteRow) (.typed t):=ren_bytes σ (c::bs) t
theorem renOk_cons (σ:List (Nat×Nat))(c:UInt8)(bs:List UInt8)(t:TypeId):Blk.renOk σ (@Blk.mk 1 (byteRow c::bs.map byteRow) (.typed t))=true:=renOk_bytes σ (c::bs) t
theorem ren_snoc (σ:List (Nat×Nat))(c:UInt8)(bs:List UInt8)(t:TypeId):Blk.ren σ (@Blk.mk 1 (bs.map byteRow++[[.int .u8 c.toNat]]) (.typed t)) = @Blk.mk 1 (bs.map byteRow++[[.int .u8 c.toNat]]) (.typed t):=by
 have:=ren_bytes σ (bs++[c]) t
 rwa[List.map_append]at this
theorem renOk_snoc (σ:List (Nat×Nat))(c:UInt8)(bs:List UInt8)(t:TypeId):Blk.renOk σ (@Blk.mk 1 (bs.map byteRow++[[.int .u8 c.toNat]]) (.typed t))=true:=by
 have:=renOk_bytes σ (bs++[c]) t
 rwa[List.map_append]at this
theorem ren_mkT (σ:List (Nat×Nat))(s:Nat)(rows:List (List V))(t:TypeId):Blk.ren σ (@Blk.mk s rows (.typed t)) = @Blk.mk s (renLL σ rows) (.typed t):=rfl
theorem renOk_mkT (σ:List (Nat×Nat))(s:Nat)(rows:List (List V))(t:TypeId):Blk.renOk σ (@Blk.mk s rows (.typed t))=renOkLL σ rows:=by
 simp only[Blk.renOk,Ob.renOk,Bool.and_true]
theorem plain_bs (bs:List UInt8):plainLL (bs.map byteRow)=true:=plainLL_map _ (fun _=>rfl) bs
theorem one_b (c:UInt8):(byteRow c).all V.one=true:=rfl
theorem one_bs (bs:List UInt8):((bs.map byteRow).all fun r=>r.all V.one)=true:=by
 rw[List.all_eq_true]
 intro r hr
 obtain⟨c,_,rfl⟩:=List.mem_map.1 hr
 rfl
def rK (bs:List UInt8):Blk:=@Blk.mk 1 (bs.map byteRow) (.typed 5)
theorem copyO_ev (used:Bool)(q y n:Nat)(bs:List UInt8)(M:Mem)(nm:Nat)(hqy:q≠y)(hq:M q=some (bK used q (.own y 0 n)))(hy:M y=some (rK bs))(ho:∀ z,(M z).isSome=true→z∈[q,y])(hn:q<nm)(hny:y<nm) :
  Ev cx 23 nm [.ptr q 0 0] M (.tup []) [(q,some (bK true q (.own y 0 n))),(y,some (rK bs))]:=by
 have yz:(y=q)=False:=eq_false (fun h=>hqy h.symm)
 have zy:(q=y)=False:=eq_false hqy
 cases used with
 | false =>
  refine ev_go rfl (fun cargs w=>call23 cargs w) func23 rfl mixed (by kernel_rfl) rfl ?_;intro b0 hb0
  have lq:q<b0:=below_of hb0 (by rw[hq];rfl)
  have ly:y<b0:=below_of hb0 (by rw[hy];rfl)
  have y0:=lt_ne ly;have y1:=lt_ne_add ly;have y2:=lt_ne' ly;have y3:=lt_ne_add' ly
  have z0:=lt_ne lq;have z1:=lt_ne_add lq;have z2:=lt_ne' lq;have z3:=lt_ne_add' lq
  repeat' first|simp only[fins,mems,results23,ntmps23,wks,inf_b,bK_t,bK_f,hq,hy,y0,y1,y2,y3,yz,zy,z0,z1,z2,z3,vcs,seval,tys,TypeDesc.pointer.injEq,exists_eq_left']|exact rfl|refine call_off (v:=.any) ?_|(first|(refine call_fn ?_ (noEsc_ev (.ptr q 0 0) Mem.nil _) ?_)|(refine call_fn_g ?_ (fun _=>noEsc_ev (.ptr q 0 0) Mem.nil _) ?_))|(refine ext_toUnsafe (y:=?_) (sz:=?_) (row:=?_) (rows:=?_) (o:=?_) (te:=?_) ?_ ?_ ?_ ?_ ?_ ?_ ?_ ?_;rotate_left 6;(iterate 2 (focus (simp only[results23,ntmps23,wks,inf_b,bK_t,bK_f,hq,hy,y0,y1,y2,y3,yz,zy,z0,z1,z2,z3,vcs,seval,tys,TypeDesc.pointer.injEq,exists_eq_left']<;>exact rfl)));(focus (exact rfl));(focus (omega));(iterate 2 (focus (simp only[results23,ntmps23,wks,inf_b,bK_t,bK_f,hq,hy,y0,y1,y2,y3,yz,zy,z0,z1,z2,z3,vcs,seval,tys,TypeDesc.pointer.injEq,exists_eq_left']<;>exact rfl)));(focus (kernel_rfl)))|(refine extG_true ?_)|(refine extG_false ?_)|(refine ext_fromUnsafe (y:=?_) (sz:=?_) (row:=?_) (rows:=?_) (u:=?_) ?_ ?_ ?_ ?_ ?_ ?_ ?_ ?_;rotate_left 5;(iterate 2 (focus (simp only[results23,ntmps23,wks,inf_b,bK_t,bK_f,hq,hy,y0,y1,y2,y3,yz,zy,z0,z1,z2,z3,vcs,seval,tys,TypeDesc.pointer.injEq,exists_eq_left']<;>exact rfl)));(focus (omega));(iterate 2 (focus (simp only[results23,ntmps23,wks,inf_b,bK_t,bK_f,hq,hy,y0,y1,y2,y3,yz,zy,z0,z1,z2,z3,vcs,seval,tys,TypeDesc.pointer.injEq,exists_eq_left']<;>exact rfl)));(iterate 2 (focus (kernel_rfl))))|((first|apply Ca|apply Cb)<;>intro hb)|refine Ai (by omega) ?_|(apply Ai<;>intro hb)
  all_goals ((refine Fin.give [(q,none),(y,none)] [] ?_ ?_ ?_ ?_ ?_ (fun q hq=>by have hqq:=ho q hq;first|(simp only[gives,tgt,Lc,Lo,Lk,Ln,or_false]at hqq ⊢;omega)|(simp only[gives,tgt,Lc,Lo,Lk,Ln,or_false]at hqq))<;>(try simp only[results23,ntmps23,wks,rK,ren_bytes,renOk_bytes,ite_self,Bool.false_and,Bool.false_eq_true,if_false,bK_t,bK_f,hq,hy,y0,y1,y2,y3,yz,zy,z0,z1,z2,z3,giv,vcs,seval,tys,TypeDesc.pointer.injEq,exists_eq_left'])<;>(try simp only[injs])<;>(try omega)))
 | true =>
  refine ev_go rfl (fun cargs w=>call23 cargs w) func23 rfl mixed (by kernel_rfl) rfl ?_;intro b0 hb0
  have lq:q<b0:=below_of hb0 (by rw[hq];rfl)
  have ly:y<b0:=below_of hb0 (by rw[hy];rfl)
  have y0:=lt_ne ly;have y1:=lt_ne_add ly;have y2:=lt_ne' ly;have y3:=lt_ne_add' ly
  have z0:=lt_ne lq;have z1:=lt_ne_add lq;have z2:=lt_ne' lq;have z3:=lt_ne_add' lq
  repeat' first|simp only[fins,mems,results23,ntmps23,wks,inf_b,bK_t,bK_f,hq,hy,y0,y1,y2,y3,yz,zy,z0,z1,z2,z3,vcs,seval,tys,TypeDesc.pointer.injEq,exists_eq_left']|exact rfl|refine call_off (v:=.any) ?_|((first|apply Ca|apply Cb)<;>intro hb)|refine Ai (by omega) ?_|(apply Ai<;>intro hb)
  all_goals ((refine Fin.give [(q,none),(y,none)] [] ?_ ?_ ?_ ?_ ?_ (fun q hq=>by have hqq:=ho q hq;first|(simp only[gives,tgt,Lc,Lo,Lk,Ln,or_false]at hqq ⊢;omega)|(simp only[gives,tgt,Lc,Lo,Lk,Ln,or_false]at hqq))<;>(try simp only[results23,ntmps23,wks,rK,ren_bytes,renOk_bytes,ite_self,Bool.false_and,Bool.false_eq_true,if_false,bK_t,bK_f,hq,hy,y0,y1,y2,y3,yz,zy,z0,z1,z2,z3,giv,vcs,seval,tys,TypeDesc.pointer.injEq,exists_eq_left'])<;>(try simp only[injs])<;>(try omega)))
theorem wStrN_ev (used:Bool)(q:Nat)(s:List UInt8)(hs:s≠[])(hl:s.length≤lim)(M:Mem)(nm:Nat)(hq:M q=some (bK used q .nils))(ho:∀ z,(M z).isSome=true→z∈[q])(hn:q<nm) :
  Ev cx 28 nm [.ptr q 0 0,.str s] M (.tup [.int .i64 s.length,.val .nilIface]) [(q,some (bK true q (.own nm 0 s.length))),(nm,some (rK s))]:=by
 unfold lim at hl
 refine ev_go rfl (fun cargs w=>call28 cargs w) func28 rfl mixed (by kernel_rfl) rfl ?_;intro b0 hb0
 have lq:q<b0:=below_of hb0 (by rw[hq];rfl)
 have z0:=lt_ne lq;have z1:=lt_ne_add lq;have z2:=lt_ne' lq;have z3:=lt_ne_add' lq
 obtain⟨c,s,rfl⟩:=List.exists_cons_of_ne_nil hs
 repeat' first|simp only[fins,mems,results28,ntmps28,wks,bK_t,hq,z0,z1,z2,z3,vcs,seval,tys,TypeDesc.pointer.injEq,exists_eq_left']|exact rfl|refine call_off (v:=.any) ?_|(refine call_fn_full ?_ [[q]] (copyN_ev used q _ _ ?_ only_mem (by omega)) ?_ ?_)|((first|apply Ca|apply Cb)<;>intro hb)|refine Ai (by omega) ?_|(apply Ai<;>intro hb)
 refine call_fn_full ?_ [q] (copyN_ev used q _ _ ?_ only_mem (by omega)) ?_ ?_
 ·simp only[vcs,seval,tys,TypeDesc.pointer.injEq,exists_eq_left']
 ·simp only[only_at,Lk,Ln,hq,vcs,seval,tys,TypeDesc.pointer.injEq,exists_eq_left']
 ·simp only[Lk,Ln,forall_eq,forall_eq_or_imp,hq,vcs,seval,tys,TypeDesc.pointer.injEq,exists_eq_left']
 simp only[List.length_cons]at hl
 repeat' first|simp only[fins,mems,results28,ntmps28,wks,bK_t,hq,z0,z1,z2,z3,one_b,one_bs,Lm,vcs,seval,tys,TypeDesc.pointer.injEq,exists_eq_left']|exact rfl|refine call_off (v:=.any) ?_|((first|apply Ca|apply Cb)<;>intro hb)|refine Ai (by omega) ?_|(apply Ai<;>intro hb)
 all_goals ((refine Fin.give [(q,none),(b0+160,some 0)] [] ?_ ?_ ?_ ?_ ?_ (fun q hq=>by have hqq:=ho q hq;first|(simp only[gives,tgt,Lc,Lo,Lk,Ln,or_false]at hqq ⊢;omega)|(simp only[gives,tgt,Lc,Lo,Lk,Ln,or_false]at hqq))<;>(try simp only[results28,ntmps28,wks,rK,ren_cons,renOk_cons,ren_bytes,renOk_bytes,ite_self,Bool.false_and,Bool.false_eq_true,if_false,bK_t,hq,z0,z1,z2,z3,fresh_self,giv,vcs,seval,tys,TypeDesc.pointer.injEq,exists_eq_left'])<;>(try simp only[injs])<;>(try omega)))
theorem wStrO_ev (used:Bool)(q y:Nat)(bs s:List UInt8)(hl:bs.length+s.length≤lim)(M:Mem)(nm:Nat)(hqy:q≠y)(hq:M q=some (bK used q (.own y 0 bs.length)))(hy:M y=some (rK bs))(ho:∀ z,(M z).isSome=true→z∈[q,y])(hn:q<nm)(hny:y<nm) :
  Ev cx 28 nm [.ptr q 0 0,.str s] M (.tup [.int .i64 s.length,.val .nilIface]) [(y,none),(q,some (bK true q (.own nm 0 (bs.length+s.length)))),(nm,some (rK (bs++s)))]:=by
 unfold lim at hl
 have yz:(y=q)=False:=eq_false (fun h=>hqy h.symm)
 have zy:(q=y)=False:=eq_false hqy
 refine ev_go rfl (fun cargs w=>call28 cargs w) func28 rfl mixed (by kernel_rfl) rfl ?_;intro b0 hb0
 have lq:q<b0:=below_of hb0 (by rw[hq];rfl)
 have ly:y<b0:=below_of hb0 (by rw[hy];rfl)
 have y0:=lt_ne ly;have y1:=lt_ne_add ly;have y2:=lt_ne' ly;have y3:=lt_ne_add' ly
 have z0:=lt_ne lq;have z1:=lt_ne_add lq;have z2:=lt_ne' lq;have z3:=lt_ne_add' lq
 repeat' first|simp only[fins,mems,results28,ntmps28,wks,bK_t,hq,z0,z1,z2,z3,vcs,seval,tys,TypeDesc.pointer.injEq,exists_eq_left']|exact rfl|refine call_off (v:=.any) ?_|((first|apply Ca|apply Cb)<;>intro hb)|refine Ai (by omega) ?_|(apply Ai<;>intro hb)
 refine call_fn_full ?_ [q,y] (copyO_ev used q y bs.length bs _ _ hqy ?_ ?_ only_mem (by omega) (by omega)) ?_ ?_
 ·simp only[vcs,seval,tys,TypeDesc.pointer.injEq,exists_eq_left']
 ·simp only[only_at,Lk,Ln,true_or,or_true,hq,hy,yz,zy,vcs,seval,tys,TypeDesc.pointer.injEq,exists_eq_left']
 ·simp only[only_at,Lk,Ln,true_or,or_true,hq,hy,yz,zy,vcs,seval,tys,TypeDesc.pointer.injEq,exists_eq_left']
 ·simp only[Lk,Ln,forall_eq,forall_eq_or_imp,true_or,or_true,hq,hy,yz,zy,vcs,seval,tys,TypeDesc.pointer.injEq,exists_eq_left']
 repeat' first|simp only[fins,mems,results28,ntmps28,wks,rK,bK_t,hq,hy,yz,zy,y0,y1,y2,y3,z0,z1,z2,z3,one_b,one_bs,Lm,List.take_of_length_le,Nat.le_refl,List.map_append.symm,vcs,seval,tys,TypeDesc.pointer.injEq,exists_eq_left']|exact rfl|refine call_off (v:=.any) ?_|((first|apply Ca|apply Cb)<;>intro hb)|refine Ai (by omega) ?_|(apply Ai<;>intro hb)
 all_goals ((refine Fin.give [(q,none),(b0+160,some 0)] [y] ?_ ?_ ?_ ?_ ?_ (fun q hq=>by have hqq:=ho q hq;first|(simp only[gives,tgt,Lc,Lo,Lk,Ln,or_false]at hqq ⊢;omega)|(simp only[gives,tgt,Lc,Lo,Lk,Ln,or_false]at hqq))<;>(try simp only[results28,ntmps28,wks,rK,Option.bind_some,ren_bytes,renOk_bytes,ite_self,Bool.false_and,Bool.false_eq_true,if_false,bK_t,hq,hy,yz,zy,y0,y1,y2,y3,z0,z1,z2,z3,fresh_self,giv,vcs,seval,tys,TypeDesc.pointer.injEq,exists_eq_left'])<;>(try simp only[injs])<;>(try omega)))
theorem wByteO_ev (used:Bool)(q y:Nat)(bs:List UInt8)(c:UInt8)(hl:bs.length+1≤lim)(M:Mem)(nm:Nat)(hqy:q≠y)(hq:M q=some (bK used q (.own y 0 bs.length)))(hy:M y=some (rK bs))(ho:∀ z,(M z).isSome=true→z∈[q,y])(hn:q<nm)(hny:y<nm) :
  Ev cx 29 nm [.ptr q 0 0,.int .u8 c.toNat] M (.val .nilIface) [(y,none),(q,some (bK true q (.own nm 0 (bs.length+1)))),(nm,some (rK (bs++[c])))]:=by
 unfold lim at hl
 have yz:(y=q)=False:=eq_false (fun h=>hqy h.symm)
 have zy:(q=y)=False:=eq_false hqy
 refine ev_go rfl (fun cargs w=>call29 cargs w) func29 rfl mixed (by kernel_rfl) rfl ?_;intro b0 hb0
 have lq:q<b0:=below_of hb0 (by rw[hq];rfl)
 have ly:y<b0:=below_of hb0 (by rw[hy];rfl)
 have y0:=lt_ne ly;have y1:=lt_ne_add ly;have y2:=lt_ne' ly;have y3:=lt_ne_add' ly
 have z0:=lt_ne lq;have z1:=lt_ne_add lq;have z2:=lt_ne' lq;have z3:=lt_ne_add' lq
 repeat' first|simp only[fins,mems,results29,ntmps29,wks,bK_t,hq,z0,z1,z2,z3,vcs,seval,tys,TypeDesc.pointer.injEq,exists_eq_left']|exact rfl|refine call_off (v:=.any) ?_|((first|apply Ca|apply Cb)<;>intro hb)|refine Ai (by omega) ?_|(apply Ai<;>intro hb)
 refine call_fn_full ?_ [q,y] (copyO_ev used q y bs.length bs _ _ hqy ?_ ?_ only_mem (by omega) (by omega)) ?_ ?_
 ·simp only[vcs,seval,tys,TypeDesc.pointer.injEq,exists_eq_left']
 ·simp only[only_at,Lk,Ln,true_or,or_true,hq,hy,yz,zy,vcs,seval,tys,TypeDesc.pointer.injEq,exists_eq_left']
 ·simp only[only_at,Lk,Ln,true_or,or_true,hq,hy,yz,zy,vcs,seval,tys,TypeDesc.pointer.injEq,exists_eq_left']
 ·simp only[Lk,Ln,forall_eq,forall_eq_or_imp,true_or,or_true,hq,hy,yz,zy,vcs,seval,tys,TypeDesc.pointer.injEq,exists_eq_left']
 repeat' first|simp only[fins,mems,results29,ntmps29,wks,rK,bK_t,hq,hy,yz,zy,y0,y1,y2,y3,z0,z1,z2,z3,one_b,one_bs,Lm,List.take_of_length_le,Nat.le_refl,vcs,seval,tys,TypeDesc.pointer.injEq,exists_eq_left']|exact rfl|refine call_off (v:=.any) ?_|((first|apply Ca|apply Cb)<;>intro hb)|refine Ai (by omega) ?_|(apply Ai<;>intro hb)
 all_goals ((refine Fin.give [(q,none),(b0+160,some 0)] [y] ?_ ?_ ?_ ?_ ?_ (fun q hq=>by have hqq:=ho q hq;first|(simp only[gives,tgt,Lc,Lo,Lk,Ln,or_false]at hqq ⊢;omega)|(simp only[gives,tgt,Lc,Lo,Lk,Ln,or_false]at hqq))<;>(try simp only[results29,ntmps29,wks,rK,ren_snoc,renOk_snoc,byteRow,List.map_append,Lc,Lo,Option.bind_some,ren_bytes,renOk_bytes,ite_self,Bool.false_and,Bool.false_eq_true,if_false,bK_t,hq,hy,yz,zy,y0,y1,y2,y3,z0,z1,z2,z3,fresh_self,giv,vcs,seval,tys,TypeDesc.pointer.injEq,exists_eq_left'])<;>(try simp only[injs])<;>(try omega)))
theorem bLenO_ev (used:Bool)(q y:Nat)(bs:List UInt8)(M:Mem)(nm:Nat)(hqy:q≠y)(hq:M q=some (bK used q (.own y 0 bs.length)))(hy:M y=some (rK bs))(ho:∀ z,(M z).isSome=true→z∈[q,y])(hn:q<nm)(hny:y<nm) :
  Ev cx 30 nm [.ptr q 0 0] M (.int .i64 bs.length) [(q,some (bK used q (.own y 0 bs.length))),(y,some (rK bs))]:=by
 have yz:(y=q)=False:=eq_false (fun h=>hqy h.symm)
 have zy:(q=y)=False:=eq_false hqy
 refine ev_go rfl (fun cargs w=>call30 cargs w) func30 rfl mixed (by kernel_rfl) rfl ?_;intro b0 hb0
 have lq:q<b0:=below_of hb0 (by rw[hq];rfl)
 have ly:y<b0:=below_of hb0 (by rw[hy];rfl)
 have y0:=lt_ne ly;have y1:=lt_ne_add ly;have y2:=lt_ne' ly;have y3:=lt_ne_add' ly
 have z0:=lt_ne lq;have z1:=lt_ne_add lq;have z2:=lt_ne' lq;have z3:=lt_ne_add' lq
 cases used<;>(repeat' first|simp only[fins,mems,results30,ntmps30,wks,bK_t,bK_f,hq,hy,yz,zy,y0,y1,y2,y3,z0,z1,z2,z3,vcs,seval,tys,TypeDesc.pointer.injEq,exists_eq_left']|exact rfl|refine call_off (v:=.any) ?_|((first|apply Ca|apply Cb)<;>intro hb)|refine Ai (by omega) ?_|(apply Ai<;>intro hb))
 all_goals ((refine Fin.give [(q,none),(y,none)] [] ?_ ?_ ?_ ?_ ?_ (fun q hq=>by have hqq:=ho q hq;first|(simp only[gives,tgt,Lc,Lo,Lk,Ln,or_false]at hqq ⊢;omega)|(simp only[gives,tgt,Lc,Lo,Lk,Ln,or_false]at hqq))<;>(try simp only[results30,ntmps30,wks,rK,ren_mkT,renOk_mkT,plain_bs,ite_self,Bool.false_and,Bool.false_eq_true,if_false,bK_t,bK_f,hq,hy,yz,zy,y0,y1,y2,y3,z0,z1,z2,z3,fresh_self,giv,vcs,seval,tys,TypeDesc.pointer.injEq,exists_eq_left'])<;>(try simp only[injs])<;>(try omega)))
theorem bStrO_ev (used:Bool)(q y:Nat)(bs:List UInt8)(hb:bs≠[])(hl:bs.length≤lim)(M:Mem)(nm:Nat)(hqy:q≠y)(hq:M q=some (bK used q (.own y 0 bs.length)))(hy:M y=some (rK bs))(ho:∀ z,(M z).isSome=true→z∈[q,y])(hn:q<nm)(hny:y<nm) :
  Ev cx 16 nm [.ptr q 0 0] M (.str bs) [(q,none),(y,none)]:=by
 unfold lim at hl
 have hp:0<bs.length:=List.length_pos_iff.2 hb
 have yz:(y=q)=False:=eq_false (fun h=>hqy h.symm)
 have zy:(q=y)=False:=eq_false hqy
 refine ev_go rfl (fun cargs w=>call16 cargs w) func16 rfl mixed (by kernel_rfl) rfl ?_;intro b0 hb0
 have lq:q<b0:=below_of hb0 (by rw[hq];rfl)
 have ly:y<b0:=below_of hb0 (by rw[hy];rfl)
 have y0:=lt_ne ly;have y1:=lt_ne_add ly;have y2:=lt_ne' ly;have y3:=lt_ne_add' ly
 have z0:=lt_ne lq;have z1:=lt_ne_add lq;have z2:=lt_ne' lq;have z3:=lt_ne_add' lq
 cases used<;>(repeat' first|simp only[fins,mems,results16,ntmps16,wks,rK,bK_t,bK_f,hq,hy,yz,zy,y0,y1,y2,y3,z0,z1,z2,z3,hb,ne_eq,not_false_eq_true,vcs,seval,tys,TypeDesc.pointer.injEq,exists_eq_left']|exact rfl|refine call_off (v:=.any) ?_|(refine ext_sliceData (y:=?_) (n:=?_) rfl ?_ ?_ ?_;rotate_left 2;(focus (simp only[results16,ntmps16,wks,rK,bK_t,bK_f,hq,hy,yz,zy,y0,y1,y2,y3,z0,z1,z2,z3,hb,ne_eq,not_false_eq_true,vcs,seval,tys,TypeDesc.pointer.injEq,exists_eq_left']<;>exact rfl));(focus (first|omega|(simp only[results16,ntmps16,wks,rK,bK_t,bK_f,hq,hy,yz,zy,y0,y1,y2,y3,z0,z1,z2,z3,hb,ne_eq,not_false_eq_true,vcs,seval,tys,TypeDesc.pointer.injEq,exists_eq_left']<;>omega))))|(refine extG_true ?_)|(refine extG_false ?_)|(refine ext_unsafeString (y:=?_) (bs:=?_) (u:=?_) rfl ?_ ?_ ?_ ?_ ?_ ?_ ?_ ?_;rotate_left 3;(iterate 3 (focus (simp only[results16,ntmps16,wks,rK,bK_t,bK_f,hq,hy,yz,zy,y0,y1,y2,y3,z0,z1,z2,z3,hb,ne_eq,not_false_eq_true,vcs,seval,tys,TypeDesc.pointer.injEq,exists_eq_left']<;>exact rfl)));(focus (first|assumption|(simp only[results16,ntmps16,wks,rK,bK_t,bK_f,hq,hy,yz,zy,y0,y1,y2,y3,z0,z1,z2,z3,hb,ne_eq,not_false_eq_true,vcs,seval,tys,TypeDesc.pointer.injEq,exists_eq_left'];done)));(focus (first|omega|(simp only[results16,ntmps16,wks,rK,bK_t,bK_f,hq,hy,yz,zy,y0,y1,y2,y3,z0,z1,z2,z3,hb,ne_eq,not_false_eq_true,vcs,seval,tys,TypeDesc.pointer.injEq,exists_eq_left']<;>omega)));(focus (simp only[results16,ntmps16,wks,rK,bK_t,bK_f,hq,hy,yz,zy,y0,y1,y2,y3,z0,z1,z2,z3,hb,ne_eq,not_false_eq_true,vcs,seval,tys,TypeDesc.pointer.injEq,exists_eq_left']<;>exact rfl));(focus (kernel_rfl)))|refine draw_end' (ps:=[(4,8)]) (by decide +kernel) (by simp only[List.forall_mem_cons,List.getD_cons_zero,List.getD_cons_succ,results16,ntmps16,wks,rK,bK_t,bK_f,hq,hy,yz,zy,y0,y1,y2,y3,z0,z1,z2,z3,hb,ne_eq,not_false_eq_true,vcs,seval,tys,TypeDesc.pointer.injEq,exists_eq_left']<;>(try simp)<;>(try omega)) ?_|refine draw_end (by decide +kernel) ?_|((first|apply Ca|apply Cb)<;>intro hb)|refine Ai (by omega) ?_|(apply Ai<;>intro hb))
 all_goals ((refine Fin.give [] [q,y] ?_ ?_ ?_ ?_ ?_ (fun q hq=>by have hqq:=ho q hq;first|(simp only[gives,tgt,Lc,Lo,Lk,Ln,or_false]at hqq ⊢;omega)|(simp only[gives,tgt,Lc,Lo,Lk,Ln,or_false]at hqq))<;>(try simp only[results16,ntmps16,wks,rK,ite_self,Bool.false_and,Bool.false_eq_true,if_false,bK_t,bK_f,hq,hy,yz,zy,y0,y1,y2,y3,z0,z1,z2,z3,fresh_self,giv,vcs,seval,tys,TypeDesc.pointer.injEq,exists_eq_left'])<;>(try simp only[injs])<;>(try omega)))
theorem wByteN_ev (used:Bool)(q:Nat)(c:UInt8)(M:Mem)(nm:Nat)(hq:M q=some (bK used q .nils))(ho:∀ z,(M z).isSome=true→z∈[q])(hn:q<nm) :
  Ev cx 29 nm [.ptr q 0 0,.int .u8 c.toNat] M (.val .nilIface) [(q,some (bK true q (.own nm 0 1))),(nm,some (rK [c]))]:=by
 refine ev_go rfl (fun cargs w=>call29 cargs w) func29 rfl mixed (by kernel_rfl) rfl ?_;intro b0 hb0
 have lq:q<b0:=below_of hb0 (by rw[hq];rfl)
 have z0:=lt_ne lq;have z1:=lt_ne_add lq;have z2:=lt_ne' lq;have z3:=lt_ne_add' lq
 repeat' first|simp only[fins,mems,results29,ntmps29,wks,bK_t,hq,z0,z1,z2,z3,vcs,seval,tys,TypeDesc.pointer.injEq,exists_eq_left']|exact rfl|refine call_off (v:=.any) ?_|((first|apply Ca|apply Cb)<;>intro hb)|refine Ai (by omega) ?_|(apply Ai<;>intro hb)
 refine call_fn_full ?_ [q] (copyN_ev used q _ _ ?_ only_mem (by omega)) ?_ ?_
 ·simp only[vcs,seval,tys,TypeDesc.pointer.injEq,exists_eq_left']
 ·simp only[only_at,Lk,Ln,hq,vcs,seval,tys,TypeDesc.pointer.injEq,exists_eq_left']
 ·simp only[Lk,Ln,forall_eq,forall_eq_or_imp,hq,vcs,seval,tys,TypeDesc.pointer.injEq,exists_eq_left']
 repeat' first|simp only[fins,mems,results29,ntmps29,wks,bK_t,hq,z0,z1,z2,z3,vcs,seval,tys,TypeDesc.pointer.injEq,exists_eq_left']|exact rfl|refine call_off (v:=.any) ?_|((first|apply Ca|apply Cb)<;>intro hb)|refine Ai (by omega) ?_|(apply Ai<;>intro hb)
 all_goals ((refine Fin.give [(q,none),(b0+160,some 0)] [] ?_ ?_ ?_ ?_ ?_ (fun q hq=>by have hqq:=ho q hq;first|(simp only[gives,tgt,Lc,Lo,Lk,Ln,or_false]at hqq ⊢;omega)|(simp only[gives,tgt,Lc,Lo,Lk,Ln,or_false]at hqq))<;>(try simp only[results29,ntmps29,wks,rK,ren_mkT,renOk_mkT,byteRow,List.map_append,Lc,Lo,ite_self,Bool.false_and,Bool.false_eq_true,if_false,bK_t,hq,z0,z1,z2,z3,fresh_self,giv,vcs,seval,tys,TypeDesc.pointer.injEq,exists_eq_left'])<;>(try simp only[injs])<;>(try omega)))
theorem bLenN_ev (used:Bool)(q:Nat)(M:Mem)(nm:Nat)(hq:M q=some (bK used q .nils))(ho:∀ z,(M z).isSome=true→z∈[q])(hn:q<nm) :
  Ev cx 30 nm [.ptr q 0 0] M (.int .i64 0) [(q,some (bK used q .nils))]:=by
 refine ev_go rfl (fun cargs w=>call30 cargs w) func30 rfl mixed (by kernel_rfl) rfl ?_;intro b0 hb0
 have lq:q<b0:=below_of hb0 (by rw[hq];rfl)
 have z0:=lt_ne lq;have z1:=lt_ne_add lq;have z2:=lt_ne' lq;have z3:=lt_ne_add' lq
 cases used<;>(repeat' first|simp only[fins,mems,results30,ntmps30,wks,bK_t,bK_f,hq,z0,z1,z2,z3,vcs,seval,tys,TypeDesc.pointer.injEq,exists_eq_left']|exact rfl|refine call_off (v:=.any) ?_|((first|apply Ca|apply Cb)<;>intro hb)|refine Ai (by omega) ?_|(apply Ai<;>intro hb))
 all_goals ((refine Fin.give [(q,none)] [] ?_ ?_ ?_ ?_ ?_ (fun q hq=>by have hqq:=ho q hq;first|(simp only[gives,tgt,Lc,Lo,Lk,Ln,or_false]at hqq ⊢;omega)|(simp only[gives,tgt,Lc,Lo,Lk,Ln,or_false]at hqq))<;>(try simp only[results30,ntmps30,wks,ren_mkT,renOk_mkT,ite_self,Bool.false_and,Bool.false_eq_true,if_false,bK_t,bK_f,hq,z0,z1,z2,z3,fresh_self,giv,vcs,seval,tys,TypeDesc.pointer.injEq,exists_eq_left'])<;>(try simp only[injs])<;>(try omega)))
theorem bStrN_ev (used:Bool)(q:Nat)(M:Mem)(nm:Nat)(hq:M q=some (bK used q .nils))(ho:∀ z,(M z).isSome=true→z∈[q])(hn:q<nm) :
  Ev cx 16 nm [.ptr q 0 0] M (.str []) [(q,none)]:=by
 refine ev_go rfl (fun cargs w=>call16 cargs w) func16 rfl mixed (by kernel_rfl) rfl ?_;intro b0 hb0
 have lq:q<b0:=below_of hb0 (by rw[hq];rfl)
 have z0:=lt_ne lq;have z1:=lt_ne_add lq;have z2:=lt_ne' lq;have z3:=lt_ne_add' lq
 cases used<;>(repeat' first|simp only[fins,mems,results16,ntmps16,wks,bK_t,bK_f,hq,z0,z1,z2,z3,vcs,seval,tys,TypeDesc.pointer.injEq,exists_eq_left']|exact rfl|refine call_off (v:=.any) ?_|(refine ext_sliceData_nil rfl ?_ ?_;(focus (simp only[results16,ntmps16,wks,bK_t,bK_f,hq,z0,z1,z2,z3,vcs,seval,tys,TypeDesc.pointer.injEq,exists_eq_left']<;>exact rfl)))|(refine extG_true ?_)|(refine extG_false ?_)|(refine ext_unsafeString_nil rfl ?_ ?_ ?_;(iterate 2 (focus (simp only[results16,ntmps16,wks,bK_t,bK_f,hq,z0,z1,z2,z3,vcs,seval,tys,TypeDesc.pointer.injEq,exists_eq_left']<;>exact rfl))))|refine draw_end' (ps:=[(4,8)]) (by decide +kernel) (by simp only[List.forall_mem_cons,List.getD_cons_zero,List.getD_cons_succ,results16,ntmps16,wks,bK_t,bK_f,hq,z0,z1,z2,z3,vcs,seval,tys,TypeDesc.pointer.injEq,exists_eq_left']<;>(try simp)<;>(try omega)) ?_|refine draw_end (by decide +kernel) ?_|((first|apply Ca|apply Cb)<;>intro hb)|refine Ai (by omega) ?_|(apply Ai<;>intro hb))
 all_goals ((refine Fin.give [] [q] ?_ ?_ ?_ ?_ ?_ (fun q hq=>by have hqq:=ho q hq;first|(simp only[gives,tgt,Lc,Lo,Lk,Ln,or_false]at hqq ⊢;omega)|(simp only[gives,tgt,Lc,Lo,Lk,Ln,or_false]at hqq))<;>(try simp only[results16,ntmps16,wks,ite_self,Bool.false_and,Bool.false_eq_true,if_false,bK_t,bK_f,hq,z0,z1,z2,z3,fresh_self,giv,vcs,seval,tys,TypeDesc.pointer.injEq,exists_eq_left'])<;>(try simp only[injs])<;>(try omega)))
def bS (u:Bool)(q y:Nat)(bs:List UInt8):Blk:=if bs=[] then bK u q .nils else bK true q (.own y 0 bs.length)
theorem bS_nil (u:Bool)(q y:Nat):bS u q y []=bK u q .nils:=by unfold bS;rw[if_pos rfl]
theorem bS_ne (u:Bool)(q y:Nat){bs:List UInt8}(h:bs≠[]):bS u q y bs=bK true q (.own y 0 bs.length):=by unfold bS;rw[if_neg h]
theorem bS_new (q y:Nat):bS false q y [] = @Blk.mk 2 [[.nilp,.nils]] (.typed 40):=by rw[bS_nil];rfl
theorem ren_bS (σ:List (Nat×Nat))(u:Bool)(q y:Nat)(bs:List UInt8):Blk.ren σ (bS u q y bs)=bS u ((newName σ q).getD q) ((newName σ y).getD y) bs:=by
 unfold bS
 by_cases h:bs=[]
 ·rw[if_pos h,if_pos h]
  cases u<;>simp[bK,Blk.ren,renLL,renL,V.ren,plainLL,plainL,V.plain,Ob.ren,instCells]
 ·rw[if_neg h,if_neg h]
  simp[bK,Blk.ren,renLL,renL,V.ren,plainLL,plainL,V.plain,Ob.ren,instCells]
theorem renOk_bS (σ:List (Nat×Nat))(u:Bool)(q y:Nat)(bs:List UInt8)(h1:(newName σ q).isSome=true)(h2:(newName σ y).isSome=true):Blk.renOk σ (bS u q y bs)=true:=by
 unfold bS
 by_cases h:bs=[]
 ·rw[if_pos h]
  cases u<;>simp[bK,Blk.renOk,renOkLL,renOkL,V.renOk,h1,Ob.renOk,instCells]
 ·rw[if_neg h]
  simp[bK,Blk.renOk,renOkLL,renOkL,V.renOk,h1,h2,Ob.renOk,instCells]
theorem rK_row (bs:List UInt8):(rK bs).ob.isRow=true:=rfl
theorem rK_nil:(rK []).rows=[]:=rfl
theorem ren_rK (σ:List (Nat×Nat))(bs:List UInt8):Blk.ren σ (rK bs)=rK bs:=ren_bytes σ bs _
theorem renOk_rK (σ:List (Nat×Nat))(bs:List UInt8):Blk.renOk σ (rK bs)=true:=renOk_bytes σ bs _
theorem fresh_out {M:Mem}{q y nm:Nat}(ho:∀ z,(M z).isSome=true→z∈[q,y])(hn:q<nm)(hny:y<nm):∀ x,Fresh nm x→M x=none:=fun x hx=>by
 cases hm:M x with
 | none=>rfl
 | some k =>
  have:=ho x (by rw[hm];rfl)
  simp only[Lk,Ln,or_false]at this
  have:=hx.1
  omega
theorem nil_ho {l:List Nat} : ∀ z,((Mem.nil:Mem) z).isSome=true→z∈l:=fun z h=>by cases h
theorem only1 {M:Mem}{q:Nat}{k:Blk}(h:M q=some k):(M.only [q]) q=some k:=only_eq.2 ⟨h,by simp⟩
section
variable (u:Bool) (q y:Nat) (bs:List UInt8) (M:Mem) (nm:Nat)
theorem wStr_ev (s:List UInt8)(hs:s≠[])(hl:bs.length+s.length≤lim)(hqy:q≠y)(hq:M q=some (bS u q y bs))(hy:M y=some (rK bs))(ho:∀ z,(M z).isSome=true→z∈[q,y])(hn:q<nm)(hny:y<nm) :
  Ev cx 28 nm [.ptr q 0 0,.str s] M (.tup [.int .i64 s.length,.val .nilIface]) [(y,none),(q,some (bS false q nm (bs++s))),(nm,some (rK (bs++s)))]:=by
 rw[bS_ne false q nm (bs:=bs++s) (by simp[hs]),List.length_append]
 by_cases hb:bs=[]
 ·subst hb
  rw[bS_nil]at hq
  simp only[List.nil_append,List.length_nil,Nat.zero_add]at hl ⊢
  refine Ev.dropM y (Ev.frame [q] (wStrN_ev u q s hs hl _ nm (only1 hq) only_mem hn) (fun x hx=>?_) (fresh_out ho hn hny))
  simp only[effNames,Lc,Lo,Lk,Ln,or_false]at hx
  rcases hx with rfl|rfl
  ·left;simp
  ·right;exact⟨Nat.le_refl _,by omega⟩
 ·rw[bS_ne u q y hb]at hq
  exact wStrO_ev true q y bs s hl M nm hqy hq hy ho hn hny
theorem wByte_ev (c:UInt8)(hl:bs.length+1≤lim)(hqy:q≠y)(hq:M q=some (bS u q y bs))(hy:M y=some (rK bs))(ho:∀ z,(M z).isSome=true→z∈[q,y])(hn:q<nm)(hny:y<nm) :
  Ev cx 29 nm [.ptr q 0 0,.int .u8 c.toNat] M (.val .nilIface) [(y,none),(q,some (bS false q nm (bs++[c]))),(nm,some (rK (bs++[c])))]:=by
 rw[bS_ne false q nm (bs:=bs++[c]) (by simp),List.length_append,List.length_singleton]
 by_cases hb:bs=[]
 ·subst hb
  rw[bS_nil]at hq
  simp only[List.nil_append,List.length_nil,Nat.zero_add]at hl ⊢
  refine Ev.dropM y (Ev.frame [q] (wByteN_ev u q c _ nm (only1 hq) only_mem hn) (fun x hx=>?_) (fresh_out ho hn hny))
  simp only[effNames,Lc,Lo,Lk,Ln,or_false]at hx
  rcases hx with rfl|rfl
  ·left;simp
  ·right;exact⟨Nat.le_refl _,by omega⟩
 ·rw[bS_ne u q y hb]at hq
  exact wByteO_ev true q y bs c hl M nm hqy hq hy ho hn hny
theorem app_self {M:Mem}{q y:Nat}{a b:Blk}(hq:M q=some a)(hy:M y=some b):M.app [(q,some a)]=M.app [(q,some a),(y,some b)]:=by
 funext x
 simp only[Mem.app,Mem.put]
 by_cases e:x=y
 ·subst e
  by_cases e2:x=q
  ·subst e2;rw[hq]at hy;cases hy;simp
  ·simp[e2,hy]
 ·simp[e]
theorem bLen_ev (hqy:q≠y)(hq:M q=some (bS u q y bs))(hy:M y=some (rK bs))(ho:∀ z,(M z).isSome=true→z∈[q,y])(hn:q<nm)(hny:y<nm) :
  Ev cx 30 nm [.ptr q 0 0] M (.int .i64 bs.length) [(q,some (bS u q y bs)),(y,some (rK bs))]:=by
 by_cases hb:bs=[]
 ·subst hb
  refine Ev.eff_eq ?_ (app_self hq hy)
  rw[bS_nil]at hq ⊢
  refine Ev.frame [q] (bLenN_ev u q _ nm (only1 hq) only_mem hn) (fun x hx=>?_) (fresh_out ho hn hny)
  simp only[effNames,Lc,Lo,Lk,Ln,or_false]at hx
  subst hx;left;simp
 ·rw[bS_ne u q y hb]at hq ⊢
  exact bLenO_ev true q y bs M nm hqy hq hy ho hn hny
theorem bStr_ev (hl:bs.length≤lim)(hqy:q≠y)(hq:M q=some (bS u q y bs))(hy:M y=some (rK bs))(ho:∀ z,(M z).isSome=true→z∈[q,y])(hn:q<nm)(hny:y<nm) :
  Ev cx 16 nm [.ptr q 0 0] M (.str bs) [(q,none),(y,none)]:=by
 by_cases hb:bs=[]
 ·subst hb
  rw[bS_nil]at hq
  have h1:Ev cx 16 nm [.ptr q 0 0] M (.str []) [(q,none)]:=by
   refine Ev.frame [q] (bStrN_ev u q _ nm (only1 hq) only_mem hn) (fun x hx=>?_) (fresh_out ho hn hny)
   simp only[effNames,Lc,Lo,Lk,Ln,or_false]at hx
   subst hx;left;simp
  refine Ev.eff_eq (Ev.dropM y h1) ?_
  funext x
  simp only[Mem.app,Mem.put]
  by_cases e:x=y<;>by_cases e2:x=q<;>simp[e,e2]
 ·rw[bS_ne u q y hb]at hq
  exact bStrO_ev true q y bs hb hl M nm hqy hq hy ho hn hny
end
def wordsL (q:Bool):List (V×V):=[(.int .u8 38,.agg [.str [38,97,109,112,59]]),(.int .u8 60,.agg [.str [38,108,116,59]]),(.int .u8 62,.agg [.str [38,103,116,59]]),(.int .u8 13,.agg [.str [38,35,49,51,59]])] ++
 (if q=true then [(.int .u8 34,.agg [.str [38,113,117,111,116,59]]),(.int .u8 9,.agg [.str [38,35,57,59]]),(.int .u8 10,.agg [.str [38,35,49,48,59]])] else [])
theorem wordsT:mapT cx.P 58=some (5,61):=by kernel_rfl
theorem wordsZ:zeroOf cx.P 61=some (.agg #[.string ⟨#[]⟩]):=by kernel_rfl
theorem wordsF:wordsL false=[(.int .u8 38,.agg [.str [38,97,109,112,59]]),(.int .u8 60,.agg [.str [38,108,116,59]]),(.int .u8 62,.agg [.str [38,103,116,59]]),(.int .u8 13,.agg [.str [38,35,49,51,59]])]:=rfl
theorem wordsR:wordsL true=[(.int .u8 38,.agg [.str [38,97,109,112,59]]),(.int .u8 60,.agg [.str [38,108,116,59]]),(.int .u8 62,.agg [.str [38,103,116,59]]),(.int .u8 13,.agg [.str [38,35,49,51,59]]),(.int .u8 34,.agg [.str [38,113,117,111,116,59]]),(.int .u8 9,.agg [.str [38,35,57,59]]),(.int .u8 10,.agg [.str [38,35,49,48,59]])]:=rfl
theorem words_ev (q:Bool)(nm:Nat):Ev cx 27 nm [.bool q] Mem.nil (.mp nm) [(nm,some (mapK (wordsL q)))]:=by
 cases q with
 | false =>
  refine ev_go rfl (fun cargs w=>call27 cargs w) func27 rfl mixed (by kernel_rfl) rfl ?_;intro b0 hb0
  repeat' first|simp only[fins,mems,results27,ntmps27,wks,wordsT,wordsF,vcs,seval,tys]|exact rfl|refine call_off (v:=.any) ?_|(refine ext_makeMap ?_)|(refine extG_true ?_)|(refine extG_false ?_)|(refine ext_insert (y:=?_) (kv:=?_) (xv:=?_) (kvs:=?_) ?_ ?_ ?_ ?_ wordsT ?_ ?_ ?_ ?_ ?_;rotate_left 4;(iterate 4 (focus (simp only[results27,ntmps27,wks,wordsT,wordsF,vcs,seval,tys]<;>exact rfl)));(focus (kernel_rfl));(iterate 3 (focus (exact rfl))))|(refine ext_mapUpdate (y:=?_) (kv:=?_) (xv:=?_) (kvs:=?_) ?_ ?_ ?_ ?_ wordsT ?_ ?_ ?_ ?_ ?_;rotate_left 4;(iterate 4 (focus (simp only[results27,ntmps27,wks,wordsT,wordsF,vcs,seval,tys]<;>exact rfl)));(focus (kernel_rfl));(iterate 3 (focus (exact rfl))))|((first|apply Ca|apply Cb)<;>intro hb)|refine Ai (by omega) ?_|(apply Ai<;>intro hb)
  all_goals ((refine Fin.give [(b0+16,some 0)] [] ?_ ?_ ?_ ?_ ?_ (fun q hq=>by have hqq:=nil_ho (l:=[]) q hq;first|(simp only[gives,tgt,Lc,Lo,Lk,Ln,or_false]at hqq ⊢;omega)|(simp only[gives,tgt,Lc,Lo,Lk,Ln,or_false]at hqq))<;>(try simp only[results27,ntmps27,wks,wordsF,wordsR,ren_map,renOk_map,giv,vcs,seval,tys])<;>(try simp only[injs])<;>(try omega)))
 | true =>
  refine ev_go rfl (fun cargs w=>call27 cargs w) func27 rfl mixed (by kernel_rfl) rfl ?_;intro b0 hb0
  repeat' first|simp only[fins,mems,results27,ntmps27,wks,wordsT,wordsF,vcs,seval,tys]|exact rfl|refine call_off (v:=.any) ?_|(refine ext_makeMap ?_)|(refine extG_true ?_)|(refine extG_false ?_)|(refine ext_insert (y:=?_) (kv:=?_) (xv:=?_) (kvs:=?_) ?_ ?_ ?_ ?_ wordsT ?_ ?_ ?_ ?_ ?_;rotate_left 4;(iterate 4 (focus (simp only[results27,ntmps27,wks,wordsT,wordsF,vcs,seval,tys]<;>exact rfl)));(focus (kernel_rfl));(iterate 3 (focus (exact rfl))))|(refine ext_mapUpdate (y:=?_) (kv:=?_) (xv:=?_) (kvs:=?_) ?_ ?_ ?_ ?_ wordsT ?_ ?_ ?_ ?_ ?_;rotate_left 4;(iterate 4 (focus (simp only[results27,ntmps27,wks,wordsT,wordsF,vcs,seval,tys]<;>exact rfl)));(focus (kernel_rfl));(iterate 3 (focus (exact rfl))))|((first|apply Ca|apply Cb)<;>intro hb)|refine Ai (by omega) ?_|(apply Ai<;>intro hb)
  all_goals ((refine Fin.give [(b0+16,some 0)] [] ?_ ?_ ?_ ?_ ?_ (fun q hq=>by have hqq:=nil_ho (l:=[]) q hq;first|(simp only[gives,tgt,Lc,Lo,Lk,Ln,or_false]at hqq ⊢;omega)|(simp only[gives,tgt,Lc,Lo,Lk,Ln,or_false]at hqq))<;>(try simp only[results27,ntmps27,wks,wordsF,wordsR,ren_map,renOk_map,giv,vcs,seval,tys])<;>(try simp only[injs])<;>(try omega)))
theorem ne_byte {c d:UInt8}(h:¬ c=d):((c.toNat:Int)==(d.toNat:Int))=false:=by
 rw[beq_eq_false_iff_ne]
 intro e
 exact h (UInt8.toNat_inj.1 (by omega))
theorem find_words (q:Bool)(c:UInt8):(findV (.int .u8 c.toNat) (wordsL q)=some none∧escB q c=[c])∨findV (.int .u8 c.toNat) (wordsL q)=some (some (.agg [.str (escB q c)])):=by
 by_cases h1:c=38
 ·subst h1;right;cases q<;>rfl
 by_cases h2:c=60
 ·subst h2;right;cases q<;>rfl
 by_cases h3:c=62
 ·subst h3;right;cases q<;>rfl
 by_cases h4:c=13
 ·subst h4;right;cases q<;>rfl
 have e1:((c.toNat:Int)==38)=false:=ne_byte (d:=38) h1
 have e2:((c.toNat:Int)==60)=false:=ne_byte (d:=60) h2
 have e3:((c.toNat:Int)==62)=false:=ne_byte (d:=62) h3
 have e4:((c.toNat:Int)==13)=false:=ne_byte (d:=13) h4
 cases q with
 | false =>
  left
  simp only[wordsF,findV,sameV,if_true,e1,e2,e3,e4,escB,h1,h2,h3,h4,if_false,Bool.false_eq_true,and_self]
 | true =>
  by_cases h5:c=34
  ·subst h5;right;rfl
  by_cases h6:c=9
  ·subst h6;right;rfl
  by_cases h7:c=10
  ·subst h7;right;rfl
  have e5:((c.toNat:Int)==34)=false:=ne_byte (d:=34) h5
  have e6:((c.toNat:Int)==9)=false:=ne_byte (d:=9) h6
  have e7:((c.toNat:Int)==10)=false:=ne_byte (d:=10) h7
  left
  simp only[wordsR,findV,sameV,if_true,e1,e2,e3,e4,e5,e6,e7,escB,h1,h2,h3,h4,h5,h6,h7,if_false,and_self]
def putE (q:Bool)(s:List UInt8):Int:=if ptsErr s≠0 then ptsErr s else if 16384<(escW q s).length then 4 else 0
def putT (q:Bool)(s:List UInt8):List UInt8:=if putE q s=0 then escW q s else []
theorem ePut_ev (s:List UInt8)(q:Bool)(hs:s.length≤lim)(nm:Nat):Ev cx 21 nm [.str s,.bool q] Mem.nil (.tup [.str (putT q s),.int .i64 (putE q s)]) []:=by
 by_cases hz:ptsErr s=0
 ·have hb:(ptsErr s != 0)=false:=by rw[hz];rfl
  have hlen:=ptsErr_len hz
  have hw:=escW_length q s
  refine ev_go rfl (fun cargs w=>call21 cargs w) func21 rfl mixed (by kernel_rfl) rfl ?_;intro b0 hb0
  repeat' first|simp only[fins,mems,results21,ntmps21,wks,hb,vcs,seval,tys]|exact rfl|refine call_off (v:=.any) ?_|(first|(refine call_fn ?_ (tCheck_ev s hs _) ?_)|(refine call_fn_g ?_ (fun _=>tCheck_ev s hs _) ?_))|(refine call_fn_new ?_ (words_ev q _) ?_ ?_)|(refine ext_toBytes (bs:=?_) ?_ ?_ ?_ ?_;rotate_left 1;(iterate 2 (focus (simp only[results21,ntmps21,wks,hb,vcs,seval,tys];done)));(focus (simp only[results21,ntmps21,wks,hb,vcs,seval,tys]<;>exact rfl)))|(refine extG_true ?_)|(refine extG_false ?_)|omega|((first|apply Ca|apply Cb)<;>intro hb)|refine Ai (by omega) ?_|(apply Ai<;>intro hb)
  (refine loop_can2 cxG (fun x:Nat=>s.length-x) (fun x=>x≤s.length) (b0+16) (fun x=>[(7,.mp b0),(8,.ptr (b0+1) 0 0),(21,.sl false 1 (s.map byteRow)),(22,.int .i64 s.length),(23,.int .i64 x)]) (fun x=>[(b0,mapK (wordsL q)),(b0+1,bS false (b0+1) (b0+2) (escW q (s.take x))),(b0+2,rK (escW q (s.take x)))]) (0) [some (b0+128),some (b0+160),none] ?_ ?_ ?_ ?_;rotate_left 1;(focus (show b0≤_;omega));(focus (refine⟨?_,?_⟩<;>(try simp only[cans,bS_new,escW_nil,List.take_zero,rK_nil,rK_row,ren_map,renOk_map,ren_mkT,renOk_mkT,ren_rK,renOk_rK,plain_bs,Lm,vcs,seval,tys,injs])<;>(try omega)));rotate_left 1)
  ·exact Nat.zero_le _
  ·intro k hk
   by_cases hlt:k<s.length
   ·obtain⟨c,hc⟩:∃ c,s[k]? = some c:=⟨_,List.getElem?_eq_getElem hlt⟩
    have hh:(s.map byteRow)[k]? = some (byteRow c):=by rw[List.getElem?_map,hc];rfl
    have hd:decide (k<s.length)=true:=decide_eq_true hlt
    have hwk:IntKind.i64.wrap ((k:Int)+1)=((k+1:Nat):Int):=wrap_in (by omega) (by omega)
    have hnx:=escW_take q hc
    have hw1:=escW_length q (s.take k)
    have hw2:=escB_length q c
    have hw3:(s.take k).length=k:=by rw[List.length_take];omega
    have hll:(escW q (s.take k)).length+(escB q c).length≤lim:=by unfold lim;omega
    rcases find_words q c with ⟨hf,hb1⟩|hf
    ·rw[hb1]at hnx hll
     repeat' first|simp only[fins,mems,results21,ntmps21,wks,hh,hd,hlt,hf,wordsZ,fresh_self,Lm,gotV_true,byteRow,List.getElem?_cons_zero,Option.getD_none,Option.isSome_none,vcs,seval,tys]|exact rfl|refine call_off (v:=.any) ?_|(refine call_fn_full ?_ [b0+1,b0+2] (wByte_ev false (b0+1) (b0+2) (escW q (s.take k)) _ _ c hll (by omega) ?_ ?_ only_mem (by omega) (by omega)) ?_ ?_)|(refine ext_lookup (y:=?_) (kv:=?_) (kvs:=?_) (q:=?_) ?_ ?_ ?_ wordsT ?_ ?_ wordsZ ?_ ?_ ?_;rotate_left 4;(iterate 3 (focus (simp only[results21,ntmps21,wks,hh,hd,hlt,hf,wordsZ,fresh_self,Lm,gotV_true,byteRow,List.getElem?_cons_zero,Option.getD_none,Option.isSome_none,vcs,seval,tys]<;>exact rfl)));(focus (kernel_rfl));(focus (exact rfl));(focus (simp only[results21,ntmps21,wks,hh,hd,hlt,hf,wordsZ,fresh_self,Lm,gotV_true,byteRow,List.getElem?_cons_zero,Option.getD_none,Option.isSome_none,vcs,seval,tys]<;>exact rfl));(focus (intro v hv;cases hv<;>exact rfl)))|(refine extG_true ?_)|(refine extG_false ?_)|((first|apply Ca|apply Cb)<;>intro hb)|refine Ai (by omega) ?_|(apply Ai<;>intro hb)
     all_goals ((refine again_can2 cxG (k+1) [some b0,some (b0+1),some (b0+256)] ?_ ?_ ?_ ?_;rotate_left 2;(focus (show b0≤_;omega));(focus (refine⟨?_,?_⟩<;>(try simp only[cans,hwk,hnx.symm,ren_map,renOk_map,ren_mkT,renOk_mkT,ren_bS,renOk_bS,ren_rK,renOk_rK,plain_bs,Lm,Option.getD_some,Option.isSome_some,vcs,seval,tys,injs])<;>(try omega)))))
     all_goals (first|(show s.length-(k+1)<s.length-k;omega)|(show k+1≤s.length;omega)|skip)
    ·repeat' first|simp only[fins,mems,results21,ntmps21,wks,hh,hd,hlt,hf,wordsZ,fresh_self,Lm,gotV_true,byteRow,List.getElem?_cons_zero,Option.getD_some,Option.isSome_some,vcs,seval,tys]|exact rfl|refine call_off (v:=.any) ?_|(refine call_fn_full ?_ [b0+1,b0+2] (wStr_ev false (b0+1) (b0+2) (escW q (s.take k)) _ _ (escB q c) (escB_ne q c) hll (by omega) ?_ ?_ only_mem (by omega) (by omega)) ?_ ?_)|(refine ext_lookup (y:=?_) (kv:=?_) (kvs:=?_) (q:=?_) ?_ ?_ ?_ wordsT ?_ ?_ wordsZ ?_ ?_ ?_;rotate_left 4;(iterate 3 (focus (simp only[results21,ntmps21,wks,hh,hd,hlt,hf,wordsZ,fresh_self,Lm,gotV_true,byteRow,List.getElem?_cons_zero,Option.getD_some,Option.isSome_some,vcs,seval,tys]<;>exact rfl)));(focus (kernel_rfl));(focus (exact rfl));(focus (simp only[results21,ntmps21,wks,hh,hd,hlt,hf,wordsZ,fresh_self,Lm,gotV_true,byteRow,List.getElem?_cons_zero,Option.getD_some,Option.isSome_some,vcs,seval,tys]<;>exact rfl));(focus (intro v hv;cases hv<;>exact rfl)))|(refine extG_true ?_)|(refine extG_false ?_)|((first|apply Ca|apply Cb)<;>intro hb)|refine Ai (by omega) ?_|(apply Ai<;>intro hb)
     all_goals ((refine again_can2 cxG (k+1) [some b0,some (b0+1),some (b0+272)] ?_ ?_ ?_ ?_;rotate_left 2;(focus (show b0≤_;omega));(focus (refine⟨?_,?_⟩<;>(try simp only[cans,hwk,hnx.symm,ren_map,renOk_map,ren_mkT,renOk_mkT,ren_bS,renOk_bS,ren_rK,renOk_rK,plain_bs,Lm,Option.getD_some,Option.isSome_some,vcs,seval,tys,injs])<;>(try omega)))))
     all_goals (first|(show s.length-(k+1)<s.length-k;omega)|(show k+1≤s.length;omega)|skip)
   ·have hke:k=s.length:=by omega
    subst hke
    have hd:decide (s.length<s.length)=false:=decide_eq_false (by omega)
    have hll:(escW q s).length≤lim:=by unfold lim;omega
    by_cases hbig:16384<(escW q s).length
    ·have hp:putE q s=4:=by unfold putE;rw[if_neg (fun h=>h hz),if_pos hbig]
     have hp2:putT q s=[]:=by unfold putT;rw[hp];rfl
     have hd2:decide ((16384:Int)<((escW q s).length:Int))=true:=decide_eq_true (by omega)
     (repeat' first|simp only[fins,mems,results21,ntmps21,wks,hd,hd2,hp,hp2,List.take_length,vcs,seval,tys]|exact rfl|refine call_off (v:=.any) ?_|(refine call_fn_full ?_ [b0+1,b0+2] (bLen_ev false (b0+1) (b0+2) (escW q s) _ _ (by omega) ?_ ?_ only_mem (by omega) (by omega)) ?_ ?_)|((first|apply Ca|apply Cb)<;>intro hb)|refine Ai (by omega) ?_|(apply Ai<;>intro hb)|refine Fin.pure ?_ ?_ ?_|simp only[injs])
    ·have hp:putE q s=0:=by unfold putE;rw[if_neg (fun h=>h hz),if_neg hbig]
     have hp2:putT q s=escW q s:=by unfold putT;rw[hp];rfl
     have hd2:decide ((16384:Int)<((escW q s).length:Int))=false:=decide_eq_false (by omega)
     (repeat' first|simp only[fins,mems,results21,ntmps21,wks,hd,hd2,hp,hp2,List.take_length,vcs,seval,tys]|exact rfl|refine call_off (v:=.any) ?_|(refine call_fn_full ?_ [b0+1,b0+2] (bLen_ev false (b0+1) (b0+2) (escW q s) _ _ (by omega) ?_ ?_ only_mem (by omega) (by omega)) ?_ ?_)|(refine call_fn_full ?_ [b0+1,b0+2] (bStr_ev false (b0+1) (b0+2) (escW q s) _ _ hll (by omega) ?_ ?_ only_mem (by omega) (by omega)) ?_ ?_)|((first|apply Ca|apply Cb)<;>intro hb)|refine Ai (by omega) ?_|(apply Ai<;>intro hb)|refine Fin.pure ?_ ?_ ?_|simp only[injs])
 ·have hb:(ptsErr s != 0)=true:=by rw[bne_iff_ne];exact hz
  have h1:putE q s=ptsErr s:=by unfold putE;rw[if_pos hz]
  have h2:putT q s=[]:=by unfold putT;rw[h1,if_neg hz]
  refine ev_go rfl (fun cargs w=>call21 cargs w) func21 rfl mixed (by kernel_rfl) rfl ?_;intro b0 hb0
  (repeat' first|simp only[fins,mems,results21,ntmps21,wks,hb,h1,h2,vcs,seval,tys]|exact rfl|refine call_off (v:=.any) ?_|(first|(refine call_fn ?_ (tCheck_ev s hs _) ?_)|(refine call_fn_g ?_ (fun _=>tCheck_ev s hs _) ?_))|((first|apply Ca|apply Cb)<;>intro hb)|refine Ai (by omega) ?_|(apply Ai<;>intro hb)|refine Fin.pure ?_ ?_ ?_|simp only[injs])
theorem and63 (y:Int):IntKind.u8.wrap ((BitVec.ofInt IntKind.u8.bits (IntKind.u8.wrap y) &&& BitVec.ofInt IntKind.u8.bits 63).toNat:Int)=y % 64:=by
 have key:∀ n:Fin 256,IntKind.u8.wrap ((BitVec.ofInt IntKind.u8.bits (n.val:Int) &&& BitVec.ofInt IntKind.u8.bits 63).toNat:Int)=(n.val:Int) % 64:=by decide +kernel
 have h:=key ⟨(y % 256).toNat,by omega⟩
 have e:((y % 256).toNat:Int)=y % 256:=by omega
 simp only[e]at h
 rw[IntKind.wrap_u8 y,h];omega
theorem orH {h n:Int}(hh:(h=128∧n<64)∨(h=192∧n<32)∨(h=224∧n<16)∨(h=240∧n<8))(h0:0≤n):IntKind.u8.wrap ((BitVec.ofInt IntKind.u8.bits h ||| BitVec.ofInt IntKind.u8.bits n).toNat:Int)=h+n:=by
 have k1:∀ n:Fin 64,IntKind.u8.wrap ((BitVec.ofInt IntKind.u8.bits 128 ||| BitVec.ofInt IntKind.u8.bits (n.val:Int)).toNat:Int)=128+(n.val:Int):=by decide +kernel
 have k2:∀ n:Fin 32,IntKind.u8.wrap ((BitVec.ofInt IntKind.u8.bits 192 ||| BitVec.ofInt IntKind.u8.bits (n.val:Int)).toNat:Int)=192+(n.val:Int):=by decide +kernel
 have k3:∀ n:Fin 16,IntKind.u8.wrap ((BitVec.ofInt IntKind.u8.bits 224 ||| BitVec.ofInt IntKind.u8.bits (n.val:Int)).toNat:Int)=224+(n.val:Int):=by decide +kernel
 have k4:∀ n:Fin 8,IntKind.u8.wrap ((BitVec.ofInt IntKind.u8.bits 240 ||| BitVec.ofInt IntKind.u8.bits (n.val:Int)).toNat:Int)=240+(n.val:Int):=by decide +kernel
 have e:(n.toNat:Int)=n:=by omega
 rcases hh with ⟨rfl,h1⟩|⟨rfl,h1⟩|⟨rfl,h1⟩|⟨rfl,h1⟩
 ·have:=k1 ⟨n.toNat,by omega⟩;simpa only[e] using this
 ·have:=k2 ⟨n.toNat,by omega⟩;simpa only[e] using this
 ·have:=k3 ⟨n.toNat,by omega⟩;simpa only[e] using this
 ·have:=k4 ⟨n.toNat,by omega⟩;simpa only[e] using this
theorem app_rows (bs:List UInt8)(z:Int)(rows:List (List V))(h:(encodeRune z).map byteRow=rows):bs.map byteRow++rows=(bs++encodeRune z).map byteRow:=by rw[← h,List.map_append]
theorem rK_def (bs:List UInt8):rK bs = @Blk.mk 1 (bs.map byteRow) (.typed 5):=rfl
theorem runeN_ev (z:Int)(hm:may z=true)(h0:128≤z)(y:Nat)(bs:List UInt8)(hbs:bs.length≤1000000)(M:Mem)(nm:Nat)(hy:M y=some (rK bs))(ho:∀ w,(M w).isSome=true→w∈[y])(hyn:y<nm):Ev cx 24 nm [.own y 0 bs.length,.int .i32 z] M (.own nm 0 (bs.length+(encodeRune z).length)) [(y,none),(nm,some (rK (bs++encodeRune z)))]:=by
 have hr:=may_range hm
 have hmz:=(may_iff z).1 hm
 have hw:IntKind.u32.wrap z=z:=IntWalk.u32_in _ (by omega)
 have s6:z.fdiv (2 ^ min 6 IntKind.i32.bits)=z / 64:=Int.fdiv_eq_ediv_of_nonneg z (b:=64) (by omega)
 have s12:z.fdiv (2 ^ min 12 IntKind.i32.bits)=z / 4096:=Int.fdiv_eq_ediv_of_nonneg z (b:=4096) (by omega)
 have s18:z.fdiv (2 ^ min 18 IntKind.i32.bits)=z / 262144:=Int.fdiv_eq_ediv_of_nonneg z (b:=262144) (by omega)
 have o1:=orH (h:=128) (n:=z % 64) (.inl ⟨rfl,by omega⟩) (by omega)
 have o2:=orH (h:=128) (n:=z / 64 % 64) (.inl ⟨rfl,by omega⟩) (by omega)
 have o3:=orH (h:=128) (n:=z / 4096 % 64) (.inl ⟨rfl,by omega⟩) (by omega)
 have a1:=and63 z
 have a2:=and63 (z / 64)
 have a3:=and63 (z / 4096)
 by_cases c1:z≤2047
 ·have d1:decide (z≤2047)=true:=decide_eq_true c1
  have w6:IntKind.u8.wrap (z / 64)=z / 64:=IntWalk.u8_in _ (by omega)
  have o4:=orH (h:=192) (n:=z / 64) (.inr (.inl ⟨rfl,by omega⟩)) (by omega)
  have he:=enc2 h0 c1
  have hl:(encodeRune z).length=2:=by simpa using congrArg List.length he
  have hrw:=app_rows bs z _ he
  rw[hl]
  refine ev_go rfl (fun cargs w=>call24 cargs w) func24 rfl mixed (by kernel_rfl) rfl ?_;intro b0 hb0
  have ly:y<b0:=below_of hb0 (by rw[hy];rfl)
  have y0:=lt_ne ly;have y1:=lt_ne_add ly;have y2:=lt_ne' ly;have y3:=lt_ne_add' ly
  repeat' first|simp only[fins,mems,results24,ntmps24,wks,hw,d1,s6,w6,a1,a2,a3,o1,o2,o3,o4,hy,hrw,rK_def,y0,y1,y2,y3,Lm,List.take_of_length_le,Nat.le_refl,tyT,if_true,blkT_some,one_bsI,Option.bind_some,vcs,seval,tys]|exact rfl|refine call_off (v:=.any) ?_|((first|apply Ca|apply Cb)<;>intro hb)|refine Ai (by omega) ?_|(apply Ai<;>intro hb)
  all_goals ((refine Fin.give [(b0+272,some 0)] [y] ?_ ?_ ?_ ?_ ?_ (fun q hq=>by have hqq:=ho q hq;first|(simp only[gives,tgt,Lc,Lo,Lk,Ln,or_false]at hqq ⊢;omega)|(simp only[gives,tgt,Lc,Lo,Lk,Ln,or_false]at hqq))<;>(try simp only[results24,ntmps24,wks,hw,hy,rK_def,ren_bytesI,renOk_bytesI,y0,y1,y2,y3,giv,vcs,seval,tys])<;>(try simp only[injs])<;>(try omega)))
 have d1:decide (z≤2047)=false:=decide_eq_false c1
 by_cases c2:z≤65535
 ·have d3:decide (z≤65535)=true:=decide_eq_true c2
  have w12:IntKind.u8.wrap (z / 4096)=z / 4096:=IntWalk.u8_in _ (by omega)
  have o4:=orH (h:=224) (n:=z / 4096) (.inr (.inr (.inl ⟨rfl,by omega⟩))) (by omega)
  have he:=enc3 (z:=z) (by omega)
  have hl:(encodeRune z).length=3:=by simpa using congrArg List.length he
  have hrw:=app_rows bs z _ he
  rw[hl]
  have hs:(decide (z<55296)=true)∨(decide (z<55296)=false∧decide (57343<z)=true):=by
   by_cases h:z<55296
   ·exact .inl (decide_eq_true h)
   ·exact .inr ⟨decide_eq_false h,decide_eq_true (by omega)⟩
  rcases hs with d4|⟨d4,d5⟩
  ·refine ev_go rfl (fun cargs w=>call24 cargs w) func24 rfl mixed (by kernel_rfl) rfl ?_;intro b0 hb0
   have ly:y<b0:=below_of hb0 (by rw[hy];rfl)
   have y0:=lt_ne ly;have y1:=lt_ne_add ly;have y2:=lt_ne' ly;have y3:=lt_ne_add' ly
   repeat' first|simp only[fins,mems,results24,ntmps24,wks,hw,d1,d3,d4,s6,s12,w12,a1,a2,a3,o1,o2,o3,o4,hy,hrw,rK_def,y0,y1,y2,y3,Lm,List.take_of_length_le,Nat.le_refl,tyT,if_true,blkT_some,one_bsI,Option.bind_some,vcs,seval,tys]|exact rfl|refine call_off (v:=.any) ?_|((first|apply Ca|apply Cb)<;>intro hb)|refine Ai (by omega) ?_|(apply Ai<;>intro hb)
   all_goals ((refine Fin.give [(b0+400,some 0)] [y] ?_ ?_ ?_ ?_ ?_ (fun q hq=>by have hqq:=ho q hq;first|(simp only[gives,tgt,Lc,Lo,Lk,Ln,or_false]at hqq ⊢;omega)|(simp only[gives,tgt,Lc,Lo,Lk,Ln,or_false]at hqq))<;>(try simp only[results24,ntmps24,wks,hw,hy,rK_def,ren_bytesI,renOk_bytesI,y0,y1,y2,y3,giv,vcs,seval,tys])<;>(try simp only[injs])<;>(try omega)))
  ·refine ev_go rfl (fun cargs w=>call24 cargs w) func24 rfl mixed (by kernel_rfl) rfl ?_;intro b0 hb0
   have ly:y<b0:=below_of hb0 (by rw[hy];rfl)
   have y0:=lt_ne ly;have y1:=lt_ne_add ly;have y2:=lt_ne' ly;have y3:=lt_ne_add' ly
   repeat' first|simp only[fins,mems,results24,ntmps24,wks,hw,d1,d3,d4,d5,s6,s12,w12,a1,a2,a3,o1,o2,o3,o4,hy,hrw,rK_def,y0,y1,y2,y3,Lm,List.take_of_length_le,Nat.le_refl,tyT,if_true,blkT_some,one_bsI,Option.bind_some,vcs,seval,tys]|exact rfl|refine call_off (v:=.any) ?_|((first|apply Ca|apply Cb)<;>intro hb)|refine Ai (by omega) ?_|(apply Ai<;>intro hb)
   all_goals ((refine Fin.give [(b0+512,some 0)] [y] ?_ ?_ ?_ ?_ ?_ (fun q hq=>by have hqq:=ho q hq;first|(simp only[gives,tgt,Lc,Lo,Lk,Ln,or_false]at hqq ⊢;omega)|(simp only[gives,tgt,Lc,Lo,Lk,Ln,or_false]at hqq))<;>(try simp only[results24,ntmps24,wks,hw,hy,rK_def,ren_bytesI,renOk_bytesI,y0,y1,y2,y3,giv,vcs,seval,tys])<;>(try simp only[injs])<;>(try omega)))
 ·have d3:decide (z≤65535)=false:=decide_eq_false c2
  have d4:decide (z<55296)=false:=decide_eq_false (by omega)
  have d5:decide (57343<z)=true:=decide_eq_true (by omega)
  have d6:decide (65535<z)=true:=decide_eq_true (by omega)
  have d7:decide (z≤1114111)=true:=decide_eq_true (by omega)
  have w18:IntKind.u8.wrap (z / 262144)=z / 262144:=IntWalk.u8_in _ (by omega)
  have o4:=orH (h:=240) (n:=z / 262144) (.inr (.inr (.inr ⟨rfl,by omega⟩))) (by omega)
  have he:=enc4 (z:=z) (by omega) (by omega)
  have hl:(encodeRune z).length=4:=by simpa using congrArg List.length he
  have hrw:=app_rows bs z _ he
  rw[hl]
  refine ev_go rfl (fun cargs w=>call24 cargs w) func24 rfl mixed (by kernel_rfl) rfl ?_;intro b0 hb0
  have ly:y<b0:=below_of hb0 (by rw[hy];rfl)
  have y0:=lt_ne ly;have y1:=lt_ne_add ly;have y2:=lt_ne' ly;have y3:=lt_ne_add' ly
  repeat' first|simp only[fins,mems,results24,ntmps24,wks,hw,d1,d3,d4,d5,d6,d7,s6,s12,s18,w18,a1,a2,a3,o1,o2,o3,o4,hy,hrw,rK_def,y0,y1,y2,y3,Lm,List.take_of_length_le,Nat.le_refl,tyT,if_true,blkT_some,one_bsI,Option.bind_some,vcs,seval,tys]|exact rfl|refine call_off (v:=.any) ?_|((first|apply Ca|apply Cb)<;>intro hb)|refine Ai (by omega) ?_|(apply Ai<;>intro hb)
  all_goals ((refine Fin.give [(b0+704,some 0)] [y] ?_ ?_ ?_ ?_ ?_ (fun q hq=>by have hqq:=ho q hq;first|(simp only[gives,tgt,Lc,Lo,Lk,Ln,or_false]at hqq ⊢;omega)|(simp only[gives,tgt,Lc,Lo,Lk,Ln,or_false]at hqq))<;>(try simp only[results24,ntmps24,wks,hw,hy,rK_def,ren_bytesI,renOk_bytesI,y0,y1,y2,y3,giv,vcs,seval,tys])<;>(try simp only[injs])<;>(try omega)))
theorem enc_len1 {z:Int}(h0:0≤z)(h1:z≤127):(encodeRune z).length=1:=by simpa using congrArg List.length (enc1 h0 h1)
theorem rune_ev (z:Int)(hm:may z=true)(y:Nat)(bs:List UInt8)(hbs:bs.length≤1000000)(M:Mem)(nm:Nat)(hy:M y=some (rK bs))(ho:∀ w,(M w).isSome=true→w∈[y])(hyn:y<nm):Ev cx 18 nm [.own y 0 bs.length,.int .i32 z] M (.own nm 0 (bs.length+(encodeRune z).length)) [(y,none),(nm,some (rK (bs++encodeRune z)))]:=by
 have hmz:=(may_iff z).1 hm
 have hr:=may_range hm
 have hw:IntKind.u32.wrap z=z:=IntWalk.u32_in _ (by omega)
 by_cases c1:z≤127
 ·have d1:decide (z≤127)=true:=decide_eq_true c1
  have w8:IntKind.u8.wrap z=z:=IntWalk.u8_in _ (by omega)
  have he:=enc1 hr.1 c1
  have hrw:=app_rows bs z _ he
  rw[enc_len1 hr.1 c1]
  refine ev_go rfl (fun cargs w=>call18 cargs w) func18 rfl mixed (by kernel_rfl) rfl ?_;intro b0 hb0
  have ly:y<b0:=below_of hb0 (by rw[hy];rfl)
  have y0:=lt_ne ly;have y1:=lt_ne_add ly;have y2:=lt_ne' ly;have y3:=lt_ne_add' ly
  repeat' first|simp only[fins,mems,results18,ntmps18,wks,hw,d1,w8,hy,hrw,rK_def,y0,y1,y2,y3,Lm,List.take_of_length_le,Nat.le_refl,tyT,if_true,blkT_some,one_bsI,Option.bind_some,vcs,seval,tys]|exact rfl|refine call_off (v:=.any) ?_|((first|apply Ca|apply Cb)<;>intro hb)|refine Ai (by omega) ?_|(apply Ai<;>intro hb)
  all_goals ((refine Fin.give [(b0+128,some 0)] [y] ?_ ?_ ?_ ?_ ?_ (fun q hq=>by have hqq:=ho q hq;first|(simp only[gives,tgt,Lc,Lo,Lk,Ln,or_false]at hqq ⊢;omega)|(simp only[gives,tgt,Lc,Lo,Lk,Ln,or_false]at hqq))<;>(try simp only[results18,ntmps18,wks,hw,hy,rK_def,ren_bytesI,renOk_bytesI,y0,y1,y2,y3,giv,vcs,seval,tys])<;>(try simp only[injs])<;>(try omega)))
 ·have d1:decide (z≤127)=false:=decide_eq_false c1
  refine ev_go rfl (fun cargs w=>call18 cargs w) func18 rfl mixed (by kernel_rfl) rfl ?_;intro b0 hb0
  have ly:y<b0:=below_of hb0 (by rw[hy];rfl)
  have y0:=lt_ne ly;have y1:=lt_ne_add ly;have y2:=lt_ne' ly;have y3:=lt_ne_add' ly
  repeat' first|simp only[fins,mems,results18,ntmps18,wks,hw,d1,hy,y0,y1,y2,y3,fresh_self,vcs,seval,tys]|exact rfl|refine call_off (v:=.any) ?_|(refine call_fn_full ?_ [y] (runeN_ev z hm (by omega) y bs hbs _ _ ?_ only_mem (by omega)) ?_ ?_)|((first|apply Ca|apply Cb)<;>intro hb)|refine Ai (by omega) ?_|(apply Ai<;>intro hb)
  all_goals ((refine Fin.give [(b0+96,some 0)] [y] ?_ ?_ ?_ ?_ ?_ (fun q hq=>by have hqq:=ho q hq;first|(simp only[gives,tgt,Lc,Lo,Lk,Ln,or_false]at hqq ⊢;omega)|(simp only[gives,tgt,Lc,Lo,Lk,Ln,or_false]at hqq))<;>(try simp only[results18,ntmps18,wks,hw,hy,rK_def,ren_bytesI,renOk_bytesI,y0,y1,y2,y3,giv,vcs,seval,tys])<;>(try simp only[injs])<;>(try omega)))
theorem idxStr_ev (s:List UInt8)(c:UInt8)(M:Mem)(nm:Nat):Ev cx 81 nm [.str s,.int .u8 c.toNat] M (.int .i64 (indexByte s c)) [] :=
 Ev.indexByte func81 (by kernel_rfl) (by kernel_rfl) (by kernel_rfl) (by kernel_rfl) s c M nm
theorem idxB_ev (s:List UInt8)(c:UInt8)(nm:Nat):Ev cx 67 nm [.str s,.int .u8 c.toNat] Mem.nil (.int .i64 (indexByte s c)) []:=by
 refine ev_go rfl (fun cargs w=>call67 cargs w) func67 rfl mixed (by kernel_rfl) rfl ?_;intro b0 hb0
 (repeat' first|simp only[fins,mems,results67,ntmps67,wks,vcs,seval,tys]|exact rfl|refine call_off (v:=.any) ?_|(first|(refine call_fn ?_ (idxStr_ev s c _ _) ?_)|(refine call_fn_g ?_ (fun _=>idxStr_ev s c _ _) ?_))|((first|apply Ca|apply Cb)<;>intro hb)|refine Ai (by omega) ?_|(apply Ai<;>intro hb)|refine Fin.pure ?_ ?_ ?_|simp only[injs])
theorem index1_ev (s:List UInt8)(d:UInt8)(nm:Nat):Ev cx 55 nm [.str s,.str [d]] Mem.nil (.int .i64 (indexByte s d)) []:=by
 by_cases h:[d]=s
 ·subst h
  have e:indexByte [d] d=0:=by simp[indexByte]
  have e1:([d]==[d])=true:=by simp
  refine ev_go rfl (fun cargs w=>call55 cargs w) func55 rfl mixed (by kernel_rfl) rfl ?_;intro b0 hb0
  (repeat' first|simp only[fins,mems,results55,ntmps55,wks,e,e1,vcs,seval,tys]|exact rfl|refine call_off (v:=.any) ?_|(first|(refine call_fn ?_ (idxB_ev [d] d _) ?_)|(refine call_fn_g ?_ (fun _=>idxB_ev [d] d _) ?_))|((first|apply Ca|apply Cb)<;>intro hb)|refine Ai (by omega) ?_|(apply Ai<;>intro hb)|refine Fin.pure ?_ ?_ ?_|simp only[injs])
 ·have e1:([d]==s)=false:=beq_false_of_ne h
  refine ev_go rfl (fun cargs w=>call55 cargs w) func55 rfl mixed (by kernel_rfl) rfl ?_;intro b0 hb0
  (repeat' first|simp only[fins,mems,results55,ntmps55,wks,e1,vcs,seval,tys]|exact rfl|refine call_off (v:=.any) ?_|(first|(refine call_fn ?_ (idxB_ev s d _) ?_)|(refine call_fn_g ?_ (fun _=>idxB_ev s d _) ?_))|((first|apply Ca|apply Cb)<;>intro hb)|refine Ai (by omega) ?_|(apply Ai<;>intro hb)|refine Fin.pure ?_ ?_ ?_|simp only[injs])
def cutV (d:UInt8)(s:List UInt8):V:=match cut1 d s with
 | none=>.tup [.str s,.str [],.bool false]
 | some (a,b)=>.tup [.str a,.str b,.bool true]
theorem cutS_ev (s:List UInt8)(d:UInt8)(hs:s.length≤lim)(nm:Nat):Ev cx 44 nm [.str s,.str [d]] Mem.nil (cutV d s) []:=by
 unfold lim at hs
 cases hc:cut1 d s with
 | none =>
  have e:indexByte s d = -1:=index1_none.2 hc
  have ev:cutV d s = .tup [.str s,.str [],.bool false]:=by unfold cutV;rw[hc]
  rw[ev]
  refine ev_go rfl (fun cargs w=>call44 cargs w) func44 rfl mixed (by kernel_rfl) rfl ?_;intro b0 hb0
  (repeat' first|simp only[fins,mems,results44,ntmps44,wks,vcs,seval,tys]|exact rfl|refine call_off (v:=.any) ?_|(first|(refine call_fn ?_ ((by have:=index1_ev s d;rw[e]at this;exact this _)) ?_)|(refine call_fn_g ?_ (fun _=>(by have:=index1_ev s d;rw[e]at this;exact this _)) ?_))|refine draw_end (by decide +kernel) ?_|((first|apply Ca|apply Cb)<;>intro hb)|refine Ai (by omega) ?_|(apply Ai<;>intro hb)|refine Fin.pure ?_ ?_ ?_|simp only[injs])
 | some p =>
  obtain⟨a,b⟩:=p
  obtain⟨e,e1,e2,e3⟩:=index1_some hc
  have ev:cutV d s = .tup [.str a,.str b,.bool true]:=by unfold cutV;rw[hc]
  have h1:(a.length:Int)≤s.length:=by omega
  have h2:IntKind.i64.wrap ((a.length:Int)+1)=((a.length+1:Nat):Int):=wrap_in (by omega) (by omega)
  have h3:((a.length+1:Nat):Int)≤s.length:=by omega
  have h4:a.length≤s.length:=by omega
  have h5:a.length+1≤s.length:=by omega
  rw[ev]
  refine ev_go rfl (fun cargs w=>call44 cargs w) func44 rfl mixed (by kernel_rfl) rfl ?_;intro b0 hb0
  (repeat' first|simp only[fins,mems,results44,ntmps44,wks,h1,h2,h3,h4,h5,e1,e2,vcs,seval,tys]|exact rfl|refine call_off (v:=.any) ?_|(first|(refine call_fn ?_ ((by have:=index1_ev s d;rw[e]at this;exact this _)) ?_)|(refine call_fn_g ?_ (fun _=>(by have:=index1_ev s d;rw[e]at this;exact this _)) ?_))|refine draw_end (by decide +kernel) ?_|((first|apply Ca|apply Cb)<;>intro hb)|refine Ai (by omega) ?_|(apply Ai<;>intro hb)|refine Fin.pure ?_ ?_ ?_|simp only[injs])
theorem cut_ev (s:List UInt8)(d:UInt8)(hs:s.length≤lim)(nm:Nat):Ev cx 34 nm [.str s,.str [d]] Mem.nil (cutV d s) []:=by
 have hev:=cutS_ev s d hs
 cases hc:cut1 d s with
 | none =>
  have ev:cutV d s = .tup [.str s,.str [],.bool false]:=by unfold cutV;rw[hc]
  rw[ev]at hev ⊢
  refine ev_go rfl (fun cargs w=>call34 cargs w) func34 rfl mixed (by kernel_rfl) rfl ?_;intro b0 hb0
  (repeat' first|simp only[fins,mems,results34,ntmps34,wks,vcs,seval,tys]|exact rfl|refine call_off (v:=.any) ?_|(first|(refine call_fn ?_ (hev _) ?_)|(refine call_fn_g ?_ (fun _=>hev _) ?_))|((first|apply Ca|apply Cb)<;>intro hb)|refine Ai (by omega) ?_|(apply Ai<;>intro hb)|refine Fin.pure ?_ ?_ ?_|simp only[injs])
 | some p =>
  have ev:cutV d s = .tup [.str p.1,.str p.2,.bool true]:=by unfold cutV;rw[hc]
  rw[ev]at hev ⊢
  refine ev_go rfl (fun cargs w=>call34 cargs w) func34 rfl mixed (by kernel_rfl) rfl ?_;intro b0 hb0
  (repeat' first|simp only[fins,mems,results34,ntmps34,wks,vcs,seval,tys]|exact rfl|refine call_off (v:=.any) ?_|(first|(refine call_fn ?_ (hev _) ?_)|(refine call_fn_g ?_ (fun _=>hev _) ?_))|((first|apply Ca|apply Cb)<;>intro hb)|refine Ai (by omega) ?_|(apply Ai<;>intro hb)|refine Fin.pure ?_ ?_ ?_|simp only[injs])
def inB (cs:List UInt8)(n:Nat):Bool:=cs.any fun c=>c.toNat==n
def asRow (cs:List UInt8):List V:=(List.range 256).map fun i=>.bool (inB cs i)
theorem asRow_length (cs:List UInt8):(asRow cs).length=256:=by simp[asRow]
theorem asRow_get (cs:List UInt8)(c:UInt8):(asRow cs)[c.toNat]? = some (.bool (inB cs c.toNat)):=by
 unfold asRow
 rw[List.getElem?_map,List.getElem?_range c.toNat_lt];rfl
theorem asRow_set (cs:List UInt8)(c:UInt8):(asRow cs).set c.toNat (.bool true)=asRow (cs++[c]):=by
 refine List.ext_getElem? fun i=>?_
 rw[List.getElem?_set]
 unfold asRow
 rw[Lm,List.length_range,List.getElem?_map,List.getElem?_map]
 by_cases hi:i<256
 ·rw[List.getElem?_range hi]
  by_cases e:c.toNat=i
  ·subst e;simp[inB,hi]
  ·simp[inB,e]
 ·rw[List.getElem?_eq_none (by simpa using hi)]
  by_cases e:c.toNat=i
  ·subst e;exact absurd c.toNat_lt hi
  ·simp[e]
theorem plain_as (cs:List UInt8):plainL (asRow cs)=true:=by
 rw[plainL_all,List.all_eq_true]
 intro v hv
 obtain⟨i,_,rfl⟩:=List.mem_map.1 hv
 rfl
theorem as_take (cs:List UInt8):(asRow cs).take 256=asRow cs:=List.take_of_length_le (by rw[asRow_length];omega)
theorem as_drop (cs:List UInt8):(asRow cs).drop 256=[]:=List.drop_of_length_le (by rw[asRow_length];omega)
theorem as_one (cs:List UInt8):(asRow cs).all V.one=true:=by
 rw[List.all_eq_true]
 intro v hv
 obtain⟨i,_,rfl⟩:=List.mem_map.1 hv
 rfl
theorem fin_as (σ:List (Nat×Nat))(M:Mem)(cs:List UInt8):finL σ M (asRow cs)=asRow cs:=(finL_plain σ M _ (plain_as cs)).1
theorem finOk_as (σ:List (Nat×Nat))(M:Mem)(cs:List UInt8):finLOk σ M (asRow cs)=True:=eq_true (finL_plain σ M _ (plain_as cs)).2
theorem leL_as (cs:List UInt8):leL (asRow cs) (asRow cs)=True:=eq_true (leL_refl _)
theorem plain_asL (cs:List UInt8):plainLL [asRow cs]=true:=by simp[plainLL,plain_as]
theorem as_lit:([V.bool false,V.bool false,V.bool false,V.bool false,V.bool false,V.bool false,V.bool false,V.bool false,V.bool false,V.bool false,V.bool false,V.bool false,V.bool false,V.bool false,V.bool false,V.bool false,V.bool false,V.bool false,V.bool false,V.bool false,V.bool false,V.bool false,V.bool false,V.bool false,V.bool false,V.bool false,V.bool false,V.bool false,V.bool false,V.bool false,V.bool false,V.bool false,V.bool false,V.bool false,V.bool false,V.bool false,V.bool false,V.bool false,V.bool false,V.bool false,V.bool false,V.bool false,V.bool false,V.bool false,V.bool false,V.bool false,V.bool false,V.bool false,V.bool false,V.bool false,V.bool false,V.bool false,V.bool false,V.bool false,V.bool false,V.bool false,V.bool false,V.bool false,V.bool false,V.bool false,V.bool false,V.bool false,V.bool false,V.bool false,V.bool false,V.bool false,V.bool false,V.bool false,V.bool false,V.bool false,V.bool false,V.bool false,V.bool false,V.bool false,V.bool false,V.bool false,V.bool false,V.bool false,V.bool false,V.bool false,V.bool false,V.bool false,V.bool false,V.bool false,V.bool false,V.bool false,V.bool false,V.bool false,V.bool false,V.bool false,V.bool false,V.bool false,V.bool false,V.bool false,V.bool false,V.bool false,V.bool false,V.bool false,V.bool false,V.bool false,V.bool false,V.bool false,V.bool false,V.bool false,V.bool false,V.bool false,V.bool false,V.bool false,V.bool false,V.bool false,V.bool false,V.bool false,V.bool false,V.bool false,V.bool false,V.bool false,V.bool false,V.bool false,V.bool false,V.bool false,V.bool false,V.bool false,V.bool false,V.bool false,V.bool false,V.bool false,V.bool false,V.bool false,V.bool false,V.bool false,V.bool false,V.bool false,V.bool false,V.bool false,V.bool false,V.bool false,V.bool false,V.bool false,V.bool false,V.bool false,V.bool false,V.bool false,V.bool false,V.bool false,V.bool false,V.bool false,V.bool false,V.bool false,V.bool false,V.bool false,V.bool false,V.bool false,V.bool false,V.bool false,V.bool false,V.bool false,V.bool false,V.bool false,V.bool false,V.bool false,V.bool false,V.bool false,V.bool false,V.bool false,V.bool false,V.bool false,V.bool false,V.bool false,V.bool false,V.bool false,V.bool false,V.bool false,V.bool false,V.bool false,V.bool false,V.bool false,V.bool false,V.bool false,V.bool false,V.bool false,V.bool false,V.bool false,V.bool false,V.bool false,V.bool false,V.bool false,V.bool false,V.bool false,V.bool false,V.bool false,V.bool false,V.bool false,V.bool false,V.bool false,V.bool false,V.bool false,V.bool false,V.bool false,V.bool false,V.bool false,V.bool false,V.bool false,V.bool false,V.bool false,V.bool false,V.bool false,V.bool false,V.bool false,V.bool false,V.bool false,V.bool false,V.bool false,V.bool false,V.bool false,V.bool false,V.bool false,V.bool false,V.bool false,V.bool false,V.bool false,V.bool false,V.bool false,V.bool false,V.bool false,V.bool false,V.bool false,V.bool false,V.bool false,V.bool false,V.bool false,V.bool false,V.bool false,V.bool false,V.bool false,V.bool false,V.bool false,V.bool false,V.bool false,V.bool false,V.bool false,V.bool false,V.bool false,V.bool false,V.bool false,V.bool false,V.bool false,V.bool false,V.bool false,V.bool false,V.bool false,V.bool false,V.bool false,V.bool false,V.bool false,V.bool false,V.bool false]:List V)=asRow []:=rfl
theorem ascii_ev (cs:List UInt8)(h:∀ c∈cs,c.toNat<128)(hl:cs.length≤100)(nm:Nat):Ev cx 58 nm [.str cs] Mem.nil (.tup [.agg (asRow cs),.bool true]) []:=by
 refine ev_go rfl (fun cargs w=>call58 cargs w) func58 rfl mixed (by kernel_rfl) rfl ?_;intro b0 hb0
 repeat' first|simp only[fins,mems,results58,ntmps58,wks,as_lit,asRow_length,vcs,seval,tys]|exact rfl|refine call_off (v:=.any) ?_|((first|apply Ca|apply Cb)<;>intro hb)|refine Ai (by omega) ?_|(apply Ai<;>intro hb)
 (refine loop_can2 cxG (fun x:Nat=>cs.length-x) (fun x=>x≤cs.length) (b0+16) (fun x=>[(0,.str cs),(2,.ptr b0 0 0),(4,.int .i64 x)]) (fun x=>[(b0,⟨256,[asRow (cs.take x)]⟩)]) (0) [some b0] ?_ ?_ ?_ ?_;rotate_left 1;(focus (show b0≤_;omega));(focus (refine⟨?_,?_⟩<;>(try simp only[cans,plain_as,plain_asL,as_lit,asRow_length,List.take_zero,vcs,seval,tys,injs])<;>(try omega)));rotate_left 1)
 ·exact Nat.zero_le _
 ·intro k hk
  by_cases hlt:k<cs.length
  ·obtain⟨c,hc⟩:∃ c,cs[k]? = some c:=⟨_,List.getElem?_eq_getElem hlt⟩
   have hd:decide (k<cs.length)=true:=decide_eq_true hlt
   have hwk:IntKind.i64.wrap ((k:Int)+1)=((k+1:Nat):Int):=wrap_in (by omega) (by omega)
   have h128:=h c (List.mem_of_getElem? hc)
   have hd2:decide ((128:Int)≤(c.toNat:Int))=false:=decide_eq_false (by omega)
   have h256:c.toNat<256:=c.toNat_lt
   have hset:=asRow_set (cs.take k) c
   have htk:cs.take k++[c]=cs.take (k+1):=by
    obtain⟨hk',rfl⟩:=List.getElem?_eq_some_iff.1 hc
    rw[List.take_succ_eq_append_getElem hk']
   rw[htk]at hset
   repeat' first|simp only[fins,mems,results58,ntmps58,wks,hc,hd,hd2,hlt,h256,hset,asRow_length,vcs,seval,tys]|exact rfl|refine call_off (v:=.any) ?_|((first|apply Ca|apply Cb)<;>intro hb)|refine Ai (by omega) ?_|(apply Ai<;>intro hb)
   all_goals ((refine again_can2 cxG (k+1) [some b0] ?_ ?_ ?_ ?_;rotate_left 2;(focus (show b0≤_;omega));(focus (refine⟨?_,?_⟩<;>(try simp only[cans,plain_as,plain_asL,hset,hwk,vcs,seval,tys,injs])<;>(try omega)))))
   all_goals (first|(show cs.length-(k+1)<cs.length-k;omega)|(show k+1≤cs.length;omega)|skip)
  ·have hke:k=cs.length:=by omega
   subst hke
   have hd:decide (cs.length<cs.length)=false:=decide_eq_false (by omega)
   have htk:cs.take cs.length=cs:=List.take_length
   (repeat' first|simp only[fins,mems,results58,ntmps58,wks,hd,htk,as_take,as_drop,as_one,fin_as,finOk_as,leL_as,asRow_length,plain_asL,plain_as,vcs,seval,tys]|exact rfl|refine call_off (v:=.any) ?_|((first|apply Ca|apply Cb)<;>intro hb)|refine Ai (by omega) ?_|(apply Ai<;>intro hb)|refine Fin.pure ?_ ?_ ?_|simp only[injs])
theorem asHas_ev (cs:List UInt8)(c:UInt8)(nm:Nat):Ev cx 71 nm [.rp (asRow cs),.int .u8 c.toNat] Mem.nil (.bool (inB cs c.toNat)) []:=by
 have h256:c.toNat<256:=c.toNat_lt
 have hg:(List.drop c.toNat (asRow cs))[0]? = some (.bool (inB cs c.toNat)):=by rw[List.getElem?_drop,Nat.add_zero];exact asRow_get cs c
 have hl:0<(List.drop c.toNat (asRow cs)).length:=by rw[List.length_drop,asRow_length];omega
 refine ev_go rfl (fun cargs w=>call71 cargs w) func71 rfl mixed (by kernel_rfl) rfl ?_;intro b0 hb0
 (repeat' first|simp only[fins,mems,results71,ntmps71,wks,h256,hg,hl,asRow_length,vcs,seval,tys]|exact rfl|refine call_off (v:=.any) ?_|((first|apply Ca|apply Cb)<;>intro hb)|refine Ai (by omega) ?_|(apply Ai<;>intro hb)|refine Fin.pure ?_ ?_ ?_|simp only[injs])
def trimL (cs:List UInt8):List UInt8→List UInt8
 | []=>[]
 | c::s=>if inB cs c.toNat=true then trimL cs s else c::s
def trimR (cs:List UInt8)(s:List UInt8):List UInt8:=(trimL cs s.reverse).reverse
theorem trimL_drop (cs:List UInt8):∀(s:List UInt8),∃ k,k≤s.length∧trimL cs s=s.drop k∧(∀ i c,i<k→s[i]? = some c→inB cs c.toNat=true)∧(∀ c,s[k]? = some c→inB cs c.toNat=false)
 | []=>⟨0,by simp,rfl,fun i c h=>by omega,fun c h=>by simp at h⟩
 | c::s=>by
  unfold trimL
  by_cases h:inB cs c.toNat=true
  ·rw[if_pos h]
   obtain⟨k,h1,h2,h3,h4⟩:=trimL_drop cs s
   refine⟨k+1,by simp;omega,by rw[h2];rfl,fun i d hi hd=>?_,fun d hd=>h4 d (by simpa using hd)⟩
   cases i with
   | zero=>simp at hd;subst hd;exact h
   | succ i=>exact h3 i d (by omega) (by simpa using hd)
  ·rw[if_neg h]
   refine⟨0,by simp,rfl,fun i d hi=>by omega,fun d hd=>?_⟩
   simp at hd;subst hd
   simpa using h
theorem trimL_nil {cs s:List UInt8} : trimL cs s=[]↔s.all (fun c=>inB cs c.toNat)=true:=by
 induction s with
 | nil=>simp[trimL]
 | cons c s ih =>
  unfold trimL
  by_cases h:inB cs c.toNat=true
  ·rw[if_pos h,ih];simp[h]
  ·rw[if_neg h];simp[h]
theorem trimL_length (cs s:List UInt8):(trimL cs s).length≤s.length:=by
 obtain⟨k,h1,h2,_⟩:=trimL_drop cs s
 rw[h2];simp
theorem trimR_length (cs s:List UInt8):(trimR cs s).length≤s.length:=by
 unfold trimR;have:=trimL_length cs s.reverse;simpa using this
theorem trimL_cons_in {cs:List UInt8}{c:UInt8}(s:List UInt8)(h:inB cs c.toNat=true):trimL cs (c::s)=trimL cs s:=by rw[trimL,if_pos h]
theorem trimL_cons_out {cs:List UInt8}{c:UInt8}(s:List UInt8)(h:inB cs c.toNat=false):trimL cs (c::s)=c::s:=by rw[trimL,if_neg (by simp[h])]
theorem trimR_snoc_in {cs:List UInt8}{c:UInt8}(s:List UInt8)(h:inB cs c.toNat=true):trimR cs (s++[c])=trimR cs s:=by unfold trimR;rw[List.reverse_append];simp only[List.reverse_cons,List.reverse_nil,List.nil_append,List.cons_append];rw[trimL_cons_in _ h]
theorem trimR_snoc_out {cs:List UInt8}{c:UInt8}(s:List UInt8)(h:inB cs c.toNat=false):trimR cs (s++[c])=s++[c]:=by unfold trimR;rw[List.reverse_append];simp only[List.reverse_cons,List.reverse_nil,List.nil_append,List.cons_append];rw[trimL_cons_out _ h];simp
theorem trim_nil {cs s:List UInt8} : trimL cs (trimR cs s)=[]↔s.all (fun c=>inB cs c.toNat)=true:=by
 constructor
 ·intro h
  have h1:=trimL_nil.1 h
  unfold trimR at h1
  obtain⟨k,hk,hd,hi,ho⟩:=trimL_drop cs s.reverse
  rw[List.all_reverse,hd]at h1
  rw[← List.all_reverse,List.all_eq_true]
  intro c hc
  obtain⟨i,hi2⟩:=List.mem_iff_getElem?.1 hc
  by_cases hik:i<k
  ·exact hi i c hik hi2
  ·refine List.all_eq_true.1 h1 c ?_
   refine List.mem_iff_getElem?.2 ⟨i-k,?_⟩
   rw[List.getElem?_drop,show k+(i-k)=i by omega];exact hi2
 ·intro h
  have:trimR cs s=[]:=by
   unfold trimR
   rw[trimL_nil.2 (by rw[List.all_reverse];exact h)];rfl
  rw[this];rfl
theorem trimLeft_ev (cs s:List UInt8)(hs:s.length≤lim)(nm:Nat):Ev cx 59 nm [.str s,.rp (asRow cs)] Mem.nil (.str (trimL cs s)) []:=by
 unfold lim at hs
 refine ev_go rfl (fun cargs w=>call59 cargs w) func59 rfl mixed (by kernel_rfl) rfl ?_;intro b0 hb0
 repeat' first|simp only[fins,mems,results59,ntmps59,wks,plain_as,vcs,seval,tys]|exact rfl|refine call_off (v:=.any) ?_|((first|apply Ca|apply Cb)<;>intro hb)|refine Ai (by omega) ?_|(apply Ai<;>intro hb)
 (refine loop_can2 cxG (fun x:List UInt8=>x.length) (fun x=>x.length≤s.length∧trimL cs s=trimL cs x) (b0+16) (fun x=>[(0,.str x),(1,.rp (asRow cs))]) (fun x=>[]) (s) [] ?_ ?_ ?_ ?_;rotate_left 1;(focus (show b0≤_;omega));(focus (refine⟨?_,?_⟩<;>(try simp only[cans,plain_as,vcs,seval,tys,injs])<;>(try omega)));rotate_left 1)
 ·exact⟨Nat.le_refl _,rfl⟩
 ·rintro x ⟨h1,h2⟩
  cases x with
  | nil =>
   have hz:trimL cs s=[]:=h2
   have hd:decide ((0:Int)<0)=false:=rfl
   (repeat' first|simp only[fins,mems,results59,ntmps59,wks,hz,hd,Nat.lt_irrefl,Int.lt_irrefl,vcs,seval,tys]|exact rfl|refine call_off (v:=.any) ?_|((first|apply Ca|apply Cb)<;>intro hb)|refine Ai (by omega) ?_|(apply Ai<;>intro hb)|refine Fin.pure ?_ ?_ ?_|simp only[injs])
  | cons c x =>
   have hd:decide ((0:Int)<(((c::x).length:Nat):Int))=true:=decide_eq_true (by simp only[List.length_cons];omega)
   have hl:0<(c::x).length:=by simp
   have h1':(1:Int)≤(((c::x).length:Nat):Int):=by simp only[List.length_cons];omega
   have h1'':1≤(c::x).length:=by simp
   have hh:=asHas_ev cs c
   simp only[List.length_cons]at hd hl h1' h1''
   cases hb:inB cs c.toNat with
   | true =>
    rw[hb]at hh
    repeat' first|simp only[fins,mems,results59,ntmps59,wks,plain_as,hd,hl,h1',h1'',Bt,vcs,seval,tys]|exact rfl|refine call_off (v:=.any) ?_|(first|(refine call_fn ?_ (hh _) ?_)|(refine call_fn_g ?_ (fun _=>hh _) ?_))|((first|apply Ca|apply Cb)<;>intro hb)|refine Ai (by omega) ?_|(apply Ai<;>intro hb)
    all_goals ((refine again_can2 cxG (x) [] ?_ ?_ ?_ ?_;rotate_left 2;(focus (show b0≤_;omega));(focus (refine⟨?_,?_⟩<;>(try simp only[cans,plain_as,vcs,seval,tys,injs])<;>(try omega)))))
    all_goals (first|(show x.length<(c::x).length;simp;done)|(refine⟨by simp at h1;omega,?_⟩;rw[h2,trimL_cons_in _ hb])|skip)
   | false =>
    rw[hb]at hh
    have hz:trimL cs s=c::x:=by rw[h2,trimL_cons_out _ hb]
    (repeat' first|simp only[fins,mems,results59,ntmps59,wks,plain_as,hd,hl,h1',h1'',hz,Bf,vcs,seval,tys]|exact rfl|refine call_off (v:=.any) ?_|(first|(refine call_fn ?_ (hh _) ?_)|(refine call_fn_g ?_ (fun _=>hh _) ?_))|((first|apply Ca|apply Cb)<;>intro hb)|refine Ai (by omega) ?_|(apply Ai<;>intro hb)|refine Fin.pure ?_ ?_ ?_|simp only[injs])
theorem trimRight_ev (cs s:List UInt8)(hs:s.length≤lim)(nm:Nat):Ev cx 60 nm [.str s,.rp (asRow cs)] Mem.nil (.str (trimR cs s)) []:=by
 unfold lim at hs
 refine ev_go rfl (fun cargs w=>call60 cargs w) func60 rfl mixed (by kernel_rfl) rfl ?_;intro b0 hb0
 repeat' first|simp only[fins,mems,results60,ntmps60,wks,plain_as,vcs,seval,tys]|exact rfl|refine call_off (v:=.any) ?_|((first|apply Ca|apply Cb)<;>intro hb)|refine Ai (by omega) ?_|(apply Ai<;>intro hb)
 (refine loop_can2 cxG (fun x:List UInt8=>x.length) (fun x=>x.length≤s.length∧trimR cs s=trimR cs x) (b0+16) (fun x=>[(0,.str x),(1,.rp (asRow cs))]) (fun x=>[]) (s) [] ?_ ?_ ?_ ?_;rotate_left 1;(focus (show b0≤_;omega));(focus (refine⟨?_,?_⟩<;>(try simp only[cans,plain_as,vcs,seval,tys,injs])<;>(try omega)));rotate_left 1)
 ·exact⟨Nat.le_refl _,rfl⟩
 ·rintro x ⟨h1,h2⟩
  by_cases hne:x=[]
  ·subst hne
   have hz:trimR cs s=[]:=h2
   (repeat' first|simp only[fins,mems,results60,ntmps60,wks,hz,Nat.lt_irrefl,Int.lt_irrefl,vcs,seval,tys]|exact rfl|refine call_off (v:=.any) ?_|((first|apply Ca|apply Cb)<;>intro hb)|refine Ai (by omega) ?_|(apply Ai<;>intro hb)|refine Fin.pure ?_ ?_ ?_|simp only[injs])
  ·obtain⟨y,c,rfl⟩:∃ y c,x=y++[c]:=⟨x.dropLast,x.getLast hne,(List.dropLast_concat_getLast hne).symm⟩
   have hlen:(y++[c]).length=y.length+1:=by simp
   have hd:decide ((0:Int)<((y.length+1:Nat):Int))=true:=decide_eq_true (by omega)
   have hw:IntKind.i64.wrap (((y.length+1:Nat):Int)-1)=(y.length:Int):=by rw[wrap_in (by simp at h1;omega) (by simp at h1;omega)];omega
   have hw2:IntKind.i64.wrap ((y.length:Int)+1-1)=(y.length:Int):=by rw[wrap_in (by simp at h1;omega) (by simp at h1;omega)];omega
   have hg:(y++[c])[y.length]? = some c:=by simp
   have hl1:y.length<y.length+1:=by omega
   have hl2:(y.length:Int)≤((y.length+1:Nat):Int):=by omega
   have hl3:y.length≤y.length+1:=by omega
   have htk:(y++[c]).take y.length=y:=by simp
   have hh:=asHas_ev cs c
   cases hb:inB cs c.toNat with
   | true =>
    rw[hb]at hh
    repeat' first|simp only[fins,mems,results60,ntmps60,wks,plain_as,hlen,hd,hw,hw2,hg,hl1,hl2,hl3,htk,Bt,vcs,seval,tys]|exact rfl|refine call_off (v:=.any) ?_|(first|(refine call_fn ?_ (hh _) ?_)|(refine call_fn_g ?_ (fun _=>hh _) ?_))|((first|apply Ca|apply Cb)<;>intro hb)|refine Ai (by omega) ?_|(apply Ai<;>intro hb)
    all_goals ((refine again_can2 cxG (y) [] ?_ ?_ ?_ ?_;rotate_left 2;(focus (show b0≤_;omega));(focus (refine⟨?_,?_⟩<;>(try simp only[cans,plain_as,htk,vcs,seval,tys,injs])<;>(try omega)))))
    all_goals (first|(show y.length<(y++[c]).length;simp only[List.length_append,List.length_singleton];omega)|omega|(refine⟨by simp at h1;omega,?_⟩;rw[h2,trimR_snoc_in _ hb])|skip)
   | false =>
    rw[hb]at hh
    have hz:trimR cs s=y++[c]:=by rw[h2,trimR_snoc_out _ hb]
    (repeat' first|simp only[fins,mems,results60,ntmps60,wks,plain_as,hlen,hd,hw,hw2,hg,hl1,hl2,hl3,hz,Bf,vcs,seval,tys]|exact rfl|refine call_off (v:=.any) ?_|(first|(refine call_fn ?_ (hh _) ?_)|(refine call_fn_g ?_ (fun _=>hh _) ?_))|((first|apply Ca|apply Cb)<;>intro hb)|refine Ai (by omega) ?_|(apply Ai<;>intro hb)|refine Fin.pure ?_ ?_ ?_|simp only[injs])
theorem trim_ev (cs s:List UInt8)(h:∀ c∈cs,c.toNat<128)(hl:cs.length≤100)(h2:2≤cs.length)(hs:s.length≤lim)(nm:Nat):Ev cx 45 nm [.str s,.str cs] Mem.nil (.str (trimL cs (trimR cs s))) []:=by
 have hcs:(cs==[])=false:=beq_false_of_ne (by intro e;subst e;simp at h2)
 by_cases h0:s=[]
 ·subst h0
  have e0:(([]:List UInt8)==[])=true:=rfl
  have e1:trimL cs (trimR cs [])=[]:=rfl
  refine ev_go rfl (fun cargs w=>call45 cargs w) func45 rfl mixed (by kernel_rfl) rfl ?_;intro b0 hb0
  (repeat' first|simp only[fins,mems,results45,ntmps45,wks,e0,e1,vcs,seval,tys]|exact rfl|refine call_off (v:=.any) ?_|refine draw_end (by decide +kernel) ?_|((first|apply Ca|apply Cb)<;>intro hb)|refine Ai (by omega) ?_|(apply Ai<;>intro hb)|refine Fin.pure ?_ ?_ ?_|simp only[injs])
 ·have e0:(s==[])=false:=beq_false_of_ne h0
  have e2:((cs.length:Int)==1)=false:=beq_false_of_ne (by omega)
  have hsr:(trimR cs s).length≤lim:=Nat.le_trans (trimR_length cs s) hs
  refine ev_go rfl (fun cargs w=>call45 cargs w) func45 rfl mixed (by kernel_rfl) rfl ?_;intro b0 hb0
  (repeat' first|simp only[fins,mems,results45,ntmps45,wks,e0,hcs,e2,as_lit,as_take,as_drop,as_one,fin_as,finOk_as,leL_as,asRow_length,plain_as,plain_asL,vcs,seval,tys]|exact rfl|refine call_off (v:=.any) ?_|(first|(refine call_fn ?_ (ascii_ev cs h hl _) ?_)|(refine call_fn_g ?_ (fun _=>ascii_ev cs h hl _) ?_))|((refine call_fn_vx (xs:=?_) [b0+320] ?_ ?_ ?_ rfl (trimRight_ev cs s hs _) ?_);rotate_left 1)|((refine call_fn_vx (xs:=?_) [b0+320] ?_ ?_ ?_ rfl (trimLeft_ev cs (trimR cs s) hsr _) ?_);rotate_left 1)|omega|refine draw_end (by decide +kernel) ?_|((first|apply Ca|apply Cb)<;>intro hb)|refine Ai (by omega) ?_|(apply Ai<;>intro hb)|refine Fin.pure ?_ ?_ ?_|simp only[injs])
theorem of1_no (z:Int)(hm:may z=false)(q y:Nat)(bs:List UInt8)(M:Mem)(nm:Nat)(hqy:q≠y)(hq:M q=some ⟨1,[[.own y 0 bs.length]]⟩)(hy:M y=some (rK bs))(ho:∀ w,(M w).isSome=true→w∈[q,y])(hqn:q<nm)(hyn:y<nm):Ev cx 17 nm [.int .i64 z,.ptr q 0 0] M (.bool false) [(q,some ⟨1,[[.own y 0 bs.length]]⟩),(y,some (rK bs))]:=by
 have hmay:=tMay_ev z
 rw[hm]at hmay
 refine ev_go rfl (fun cargs w=>call17 cargs w) func17 rfl mixed (by kernel_rfl) rfl ?_;intro b0 hb0
 have ly:y<b0:=below_of hb0 (by rw[hy];rfl)
 have y0:=lt_ne ly;have y1:=lt_ne_add ly;have y2:=lt_ne' ly;have y3:=lt_ne_add' ly
 have lq:q<b0:=below_of hb0 (by rw[hq];rfl)
 have z0:=lt_ne lq;have z1:=lt_ne_add lq;have z2:=lt_ne' lq;have z3:=lt_ne_add' lq
 have n1:=eq_false hqy;have n4:=eq_false (Ne.symm hqy)
 repeat' first|simp only[fins,mems,results17,ntmps17,wks,Bf,vcs,seval,tys]|exact rfl|refine call_off (v:=.any) ?_|(first|(refine call_fn ?_ (hmay _) ?_)|(refine call_fn_g ?_ (fun _=>hmay _) ?_))|((first|apply Ca|apply Cb)<;>intro hb)|refine Ai (by omega) ?_|(apply Ai<;>intro hb)
 all_goals ((refine Fin.give [(q,none),(y,none)] [] ?_ ?_ ?_ ?_ ?_ (fun q hq=>by have hqq:=ho q hq;first|(simp only[gives,tgt,Lc,Lo,Lk,Ln,or_false]at hqq ⊢;omega)|(simp only[gives,tgt,Lc,Lo,Lk,Ln,or_false]at hqq))<;>(try simp only[results17,ntmps17,wks,hq,hy,rK_def,ren_bytesI,renOk_bytesI,z0,z1,z2,z3,y0,y1,y2,y3,n1,n4,giv,vcs,seval,tys])<;>(try simp only[injs])<;>(try omega)))
theorem of1_yes (z:Int)(hm:may z=true)(q y:Nat)(bs:List UInt8)(hbs:bs.length≤1000000)(M:Mem)(nm:Nat)(hqy:q≠y)(hq:M q=some ⟨1,[[.own y 0 bs.length]]⟩)(hy:M y=some (rK bs))(ho:∀ w,(M w).isSome=true→w∈[q,y])(hqn:q<nm)(hyn:y<nm):Ev cx 17 nm [.int .i64 z,.ptr q 0 0] M (.bool true) [(y,none),(q,some ⟨1,[[.own nm 0 (bs.length+(encodeRune z).length)]]⟩),(nm,some (rK (bs++encodeRune z)))]:=by
 have hmay:=tMay_ev z
 rw[hm]at hmay
 have hmz:=(may_iff z).1 hm
 have hw:IntKind.i32.wrap z=z:=IntWalk.i32_in _ (by omega)
 refine ev_go rfl (fun cargs w=>call17 cargs w) func17 rfl mixed (by kernel_rfl) rfl ?_;intro b0 hb0
 have ly:y<b0:=below_of hb0 (by rw[hy];rfl)
 have y0:=lt_ne ly;have y1:=lt_ne_add ly;have y2:=lt_ne' ly;have y3:=lt_ne_add' ly
 have lq:q<b0:=below_of hb0 (by rw[hq];rfl)
 have z0:=lt_ne lq;have z1:=lt_ne_add lq;have z2:=lt_ne' lq;have z3:=lt_ne_add' lq
 have n1:=eq_false hqy;have n4:=eq_false (Ne.symm hqy)
 repeat' first|simp only[fins,mems,results17,ntmps17,wks,hw,hq,hy,z0,z1,z2,z3,y0,y1,y2,y3,n1,n4,fresh_self,Bt,vcs,seval,tys]|exact rfl|refine call_off (v:=.any) ?_|(first|(refine call_fn ?_ (hmay _) ?_)|(refine call_fn_g ?_ (fun _=>hmay _) ?_))|(refine call_fn_full ?_ [y] (rune_ev z hm y bs hbs _ _ ?_ only_mem (by omega)) ?_ ?_)|((first|apply Ca|apply Cb)<;>intro hb)|refine Ai (by omega) ?_|(apply Ai<;>intro hb)
 all_goals ((refine Fin.give [(q,none),(b0+112,some 0)] [y] ?_ ?_ ?_ ?_ ?_ (fun q hq=>by have hqq:=ho q hq;first|(simp only[gives,tgt,Lc,Lo,Lk,Ln,or_false]at hqq ⊢;omega)|(simp only[gives,tgt,Lc,Lo,Lk,Ln,or_false]at hqq))<;>(try simp only[results17,ntmps17,wks,hq,hy,rK_def,ren_bytesI,renOk_bytesI,z0,z1,z2,z3,y0,y1,y2,y3,n1,n4,giv,vcs,seval,tys])<;>(try simp only[injs])<;>(try omega)))
theorem enc_take_snoc {zs:List Int}{k:Nat}{z:Int}(h:zs[k]? = some z):enc (zs.take (k+1))=enc (zs.take k)++encodeRune z:=by
 obtain⟨hk,rfl⟩:=List.getElem?_eq_some_iff.1 h
 rw[List.take_succ_eq_append_getElem hk,enc_snoc]
theorem of_ev (zs:List Int)(hl:zs.length≤100000)(nm:Nat):Ev cx 7 nm [.sl false 1 (zs.map intRow)] Mem.nil (.tup [.str (ofText zs),.int .i64 (ofErr zs)]) []:=by
 refine ev_go rfl (fun cargs w=>call7 cargs w) func7 rfl mixed (by kernel_rfl) rfl ?_;intro b0 hb0
 repeat' first|simp only[fins,mems,results7,ntmps7,wks,plain_i,Lm,vcs,seval,tys]|exact rfl|refine call_off (v:=.any) ?_|((first|(refine call_val (g:=?_) ?_ ?_)|(refine call_valg (g:=?_) ?_ ?_));rotate_left 1;(focus (simp only[results7,ntmps7,wks,plain_i,Lm,vcs,seval,tys]<;>exact rfl)))|((first|apply Ca|apply Cb)<;>intro hb)|refine Ai (by omega) ?_|(apply Ai<;>intro hb)
 (refine loop_can2 cxG (fun x:Nat=>zs.length-x) (fun x=>x≤zs.length∧(zs.take x).all may=true) (b0+16) (fun x=>[(4,.ptr b0 0 0),(5,.fn 17 [.ptr b0 0 0]),(9,.sl false 1 (zs.map intRow)),(10,.int .i64 zs.length),(11,.int .i64 x)]) (fun x=>[(b0,⟨1,[[.own (b0+1) 0 (enc (zs.take x)).length]]⟩),(b0+1,rK (enc (zs.take x)))]) (0) [some (b0+32),none] ?_ ?_ ?_ ?_;rotate_left 1;(focus (show b0≤_;omega));(focus (refine⟨?_,?_⟩<;>(try simp only[cans,plain_i,rK_def,ren_bytesI,renOk_bytesI,isRow_typed,isRow_inst,List.take_zero,Lo,List.length_nil,Lm,show enc []=[] from rfl,vcs,seval,tys,injs])<;>(try omega)));rotate_left 1)
 ·exact⟨Nat.zero_le _,rfl⟩
 ·rintro k ⟨hk,hall⟩
  have hel:=enc_length (zs.take k)
  have hkl:(zs.take k).length=k:=by rw[List.length_take];omega
  by_cases hlt:k<zs.length
  ·obtain⟨z,hz⟩:∃ z,zs[k]? = some z:=⟨_,List.getElem?_eq_getElem hlt⟩
   have hh:(zs.map intRow)[k]? = some (intRow z):=by rw[List.getElem?_map,hz];rfl
   have hd:decide (k<zs.length)=true:=decide_eq_true hlt
   have hwk:IntKind.i64.wrap ((k:Int)+1)=((k+1:Nat):Int):=wrap_in (by omega) (by omega)
   have hgd:zs.getD k 0=z:=by rw[List.getD_eq_getElem?_getD,hz];rfl
   cases hm:may z with
   | false =>
    have he:ofErr zs=50:=ofErr_bad hlt (by rw[hgd];exact hm)
    have ht:ofText zs=[]:=by unfold ofText;rw[he];rfl
    (repeat' first|simp only[fins,mems,results7,ntmps7,wks,hh,hd,hlt,he,ht,intRow,Lm,Bf,vcs,seval,tys]|exact rfl|refine call_off (v:=.any) ?_|((refine call_full (caps:=?_) ?_ ?_ [b0,b0+1] (of1_no z hm b0 (b0+1) (enc (zs.take k)) _ _ (by omega) ?_ ?_ only_mem (by omega) (by omega)) ?_ ?_);rotate_left 1)|((first|(refine call_val (g:=?_) ?_ ?_)|(refine call_valg (g:=?_) ?_ ?_));rotate_left 1;(focus (simp only[results7,ntmps7,wks,hh,hd,hlt,he,ht,intRow,Lm,Bf,vcs,seval,tys]<;>exact rfl)))|((first|apply Ca|apply Cb)<;>intro hb)|refine Ai (by omega) ?_|(apply Ai<;>intro hb)|refine Fin.pure ?_ ?_ ?_|simp only[injs])
   | true =>
    have hnx:=enc_take_snoc hz
    have hnl:(enc (zs.take k)).length+(encodeRune z).length=(enc (zs.take (k+1))).length:=by rw[hnx,List.length_append]
    have has:=all_snoc hlt hall (by rw[hgd];exact hm)
    repeat' first|simp only[fins,mems,results7,ntmps7,wks,hh,hd,hlt,intRow,fresh_self,Lm,Bt,vcs,seval,tys]|exact rfl|refine call_off (v:=.any) ?_|((refine call_full (caps:=?_) ?_ ?_ [b0,b0+1] (of1_yes z hm b0 (b0+1) (enc (zs.take k)) (by omega) _ _ (by omega) ?_ ?_ only_mem (by omega) (by omega)) ?_ ?_);rotate_left 1)|((first|(refine call_val (g:=?_) ?_ ?_)|(refine call_valg (g:=?_) ?_ ?_));rotate_left 1;(focus (simp only[results7,ntmps7,wks,hh,hd,hlt,intRow,fresh_self,Lm,Bt,vcs,seval,tys]<;>exact rfl)))|((first|apply Ca|apply Cb)<;>intro hb)|refine Ai (by omega) ?_|(apply Ai<;>intro hb)
    all_goals ((refine again_can2 cxG (k+1) [some b0,some (b0+112)] ?_ ?_ ?_ ?_;rotate_left 2;(focus (show b0≤_;omega));(focus (refine⟨?_,?_⟩<;>(try simp only[cans,plain_i,hwk,hnx.symm,hnl,rK_def,ren_bytesI,renOk_bytesI,isRow_typed,isRow_inst,Lm,vcs,seval,tys,injs])<;>(try omega)))))
    all_goals (first|(show zs.length-(k+1)<zs.length-k;omega)|exact⟨hlt,has⟩|skip)
  ·have hke:k=zs.length:=by omega
   subst hke
   rw[List.take_length]at hall hel
   have hd:decide (zs.length<zs.length)=false:=decide_eq_false (by omega)
   by_cases hb:16384<(enc zs).length
   ·have he:ofErr zs=4:=by unfold ofErr;rw[if_pos hall,if_pos hb]
    have ht:ofText zs=[]:=by unfold ofText;rw[he];rfl
    have hd2:decide ((16384:Int)<((enc zs).length:Int))=true:=decide_eq_true (by omega)
    (repeat' first|simp only[fins,mems,results7,ntmps7,wks,hd,hd2,he,ht,List.take_length,Lm,vcs,seval,tys]|exact rfl|refine call_off (v:=.any) ?_|((first|(refine call_val (g:=?_) ?_ ?_)|(refine call_valg (g:=?_) ?_ ?_));rotate_left 1;(focus (simp only[results7,ntmps7,wks,hd,hd2,he,ht,List.take_length,Lm,vcs,seval,tys]<;>exact rfl)))|((first|apply Ca|apply Cb)<;>intro hb)|refine Ai (by omega) ?_|(apply Ai<;>intro hb)|refine Fin.pure ?_ ?_ ?_|simp only[injs])
   ·have he:ofErr zs=0:=by unfold ofErr;rw[if_pos hall,if_neg hb]
    have ht:ofText zs=enc zs:=by unfold ofText;rw[he];rfl
    have hd2:decide ((16384:Int)<((enc zs).length:Int))=false:=decide_eq_false (by omega)
    have htk:((enc zs).map byteRow).take (enc zs).length=(enc zs).map byteRow:=List.take_of_length_le (by simp)
    (repeat' first|simp only[fins,mems,results7,ntmps7,wks,hd,hd2,he,ht,htk,rK_def,List.take_length,Lm,Nat.le_refl,vcs,seval,tys]|exact rfl|refine call_off (v:=.any) ?_|(refine ext_toStr (v:=?_) (bs:=enc zs) ?_ ?_ ?_ ?_ ?_ ?_ ?_;rotate_left 1;(iterate 2 (focus (simp only[results7,ntmps7,wks,hd,hd2,he,ht,htk,rK_def,List.take_length,Lm,Nat.le_refl,vcs,seval,tys];done)));(focus (simp only[results7,ntmps7,wks,hd,hd2,he,ht,htk,rK_def,List.take_length,Lm,Nat.le_refl,vcs,seval,tys]<;>exact rfl));(focus (exact rfl));(focus (simp only[mems,results7,ntmps7,wks,hd,hd2,he,ht,htk,rK_def,List.take_length,Lm,Nat.le_refl,vcs,seval,tys];done));(focus (simp only[results7,ntmps7,wks,hd,hd2,he,ht,htk,rK_def,List.take_length,Lm,Nat.le_refl,vcs,seval,tys]<;>exact rfl)))|(refine extG_true ?_)|(refine extG_false ?_)|((first|(refine call_val (g:=?_) ?_ ?_)|(refine call_valg (g:=?_) ?_ ?_));rotate_left 1;(focus (simp only[results7,ntmps7,wks,hd,hd2,he,ht,htk,rK_def,List.take_length,Lm,Nat.le_refl,vcs,seval,tys]<;>exact rfl)))|((first|apply Ca|apply Cb)<;>intro hb)|refine Ai (by omega) ?_|(apply Ai<;>intro hb)|refine Fin.pure ?_ ?_ ?_|simp only[injs])
end Go.Proofs.YtnnbggkpgacdiaaDoor
