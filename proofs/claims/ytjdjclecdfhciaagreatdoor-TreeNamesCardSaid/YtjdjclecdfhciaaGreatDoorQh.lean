/-
 Texts joined: XEb,XEf,XEg.
-/
import Derived.Test.YtjdjclecdfhciaaGreatDoorQf
import Derived.Test.YtjdjclecdfhciaaGreatDoorQe
import Derived.Test.YtjdjclecdfhciaaGreatDoorQg
namespace Go.Proofs.YtjdjclecdfhciaaGreatDoor
set_option maxRecDepth 100000
set_option maxHeartbeats 32000000
set_option linter.unusedSimpArgs false
set_option linter.unusedVariables false
open Go Go.RowKit Vm Go.Lib Tryz
open Vm renaming cond_bool→Ca,cond_bit→Cb
open And renaming intro→Ai
open List renaming length_map→Lm,not_mem_nil→Ln,map_nil→Lo,map_cons→Lc,mem_cons→Lk
open Bool renaming not_false→Bf,not_true→Bt
theorem noEsc_ev (v:V)(M:Mem)(nm:Nat):Ev cx 147 nm [v] M v [] :=
 Ev.noEscape func147 (by kernel_rfl) (by kernel_rfl) (by kernel_rfl) (by kernel_rfl) v M nm
theorem fresh_self (n:Nat):Fresh n n=True:=eq_true ⟨Nat.le_refl _,by omega⟩
def bK (used:Bool)(q:Nat)(c:V):Blk:=if used then ⟨2,[[.ptr q 0 0,c]]⟩ else @Blk.mk 2 [[.nilp,c]] (.typed 108)
theorem bK_t (q:Nat)(c:V):bK true q c=⟨2,[[.ptr q 0 0,c]]⟩:=rfl
theorem bK_f (q:Nat)(c:V):bK false q c = @Blk.mk 2 [[.nilp,c]] (.typed 108):=rfl
theorem inf_b:(cx.P.info? 108).isSome=true:=by kernel_rfl
theorem copyN_ev (used:Bool)(q:Nat)(M:Mem)(nm:Nat)(hq:M q=some (bK used q .nils))(ho:∀ z,(M z).isSome=true→z∈[q])(hn:q<nm) :
  Ev cx 113 nm [.ptr q 0 0] M (.tup []) [(q,some (bK true q .nils))]:=by
 cases used with
 | false =>
  refine ev_go rfl (fun cargs w=>call113 cargs w) func113 rfl mixed (by kernel_rfl) rfl ?_;intro b0 hb0
  have lq:q<b0:=below_of hb0 (by rw[hq];rfl)
  have z0:=lt_ne lq;have z1:=lt_ne_add lq;have z2:=lt_ne' lq;have z3:=lt_ne_add' lq
  repeat' first|simp only[fins,mems,results113,ntmps113,wks,inf_b,bK_t,bK_f,hq,z0,z1,z2,z3,vcs,seval,tys,TypeDesc.pointer.injEq,exists_eq_left']|exact rfl|refine call_off (v:=.any) ?_|(first|(refine call_fn ?_ (noEsc_ev (.ptr q 0 0) Mem.nil _) ?_)|(refine call_fn_g ?_ (fun _=>noEsc_ev (.ptr q 0 0) Mem.nil _) ?_))|(refine ext_toUnsafe (y:=?_) (sz:=?_) (row:=?_) (rows:=?_) (o:=?_) (te:=?_) ?_ ?_ ?_ ?_ ?_ ?_ ?_ ?_;rotate_left 6;(iterate 2 (focus (simp only[results113,ntmps113,wks,inf_b,bK_t,bK_f,hq,z0,z1,z2,z3,vcs,seval,tys,TypeDesc.pointer.injEq,exists_eq_left']<;>exact rfl)));(focus (exact rfl));(focus (omega));(iterate 2 (focus (simp only[results113,ntmps113,wks,inf_b,bK_t,bK_f,hq,z0,z1,z2,z3,vcs,seval,tys,TypeDesc.pointer.injEq,exists_eq_left']<;>exact rfl)));(focus (kernel_rfl)))|(refine extG_true ?_)|(refine extG_false ?_)|(refine ext_fromUnsafe (y:=?_) (sz:=?_) (row:=?_) (rows:=?_) (u:=?_) ?_ ?_ ?_ ?_ ?_ ?_ ?_ ?_;rotate_left 5;(iterate 2 (focus (simp only[results113,ntmps113,wks,inf_b,bK_t,bK_f,hq,z0,z1,z2,z3,vcs,seval,tys,TypeDesc.pointer.injEq,exists_eq_left']<;>exact rfl)));(focus (omega));(iterate 2 (focus (simp only[results113,ntmps113,wks,inf_b,bK_t,bK_f,hq,z0,z1,z2,z3,vcs,seval,tys,TypeDesc.pointer.injEq,exists_eq_left']<;>exact rfl)));(iterate 2 (focus (kernel_rfl))))|((first|apply Ca|apply Cb)<;>intro hb)|refine Ai (by omega) ?_|(apply Ai<;>intro hb)
  all_goals ((refine Fin.give [(q,none)] [] ?_ ?_ ?_ ?_ ?_ (fun q hq=>by have hqq:=ho q hq;first|(simp only[gives,tgt,Lc,Lo,Lk,Ln,or_false]at hqq ⊢;omega)|(simp only[gives,tgt,Lc,Lo,Lk,Ln,or_false]at hqq))<;>(try simp only[results113,ntmps113,wks,inf_b,bK_t,bK_f,hq,z0,z1,z2,z3,giv,vcs,seval,tys,TypeDesc.pointer.injEq,exists_eq_left'])<;>(try simp only[injs])<;>(try omega)))
 | true =>
  refine ev_go rfl (fun cargs w=>call113 cargs w) func113 rfl mixed (by kernel_rfl) rfl ?_;intro b0 hb0
  have lq:q<b0:=below_of hb0 (by rw[hq];rfl)
  have z0:=lt_ne lq;have z1:=lt_ne_add lq;have z2:=lt_ne' lq;have z3:=lt_ne_add' lq
  repeat' first|simp only[fins,mems,results113,ntmps113,wks,inf_b,bK_t,bK_f,hq,z0,z1,z2,z3,vcs,seval,tys,TypeDesc.pointer.injEq,exists_eq_left']|exact rfl|refine call_off (v:=.any) ?_|((first|apply Ca|apply Cb)<;>intro hb)|refine Ai (by omega) ?_|(apply Ai<;>intro hb)
  all_goals ((refine Fin.give [(q,none)] [] ?_ ?_ ?_ ?_ ?_ (fun q hq=>by have hqq:=ho q hq;first|(simp only[gives,tgt,Lc,Lo,Lk,Ln,or_false]at hqq ⊢;omega)|(simp only[gives,tgt,Lc,Lo,Lk,Ln,or_false]at hqq))<;>(try simp only[results113,ntmps113,wks,inf_b,bK_t,bK_f,hq,z0,z1,z2,z3,giv,vcs,seval,tys,TypeDesc.pointer.injEq,exists_eq_left'])<;>(try simp only[injs])<;>(try omega)))
theorem ren_bytes (σ:List (Nat×Nat))(bs:List UInt8)(t:TypeId):Blk.ren σ (@Blk.mk 1 (bs.map byteRow) (.typed t)) = @Blk.mk 1 (bs.map byteRow) (.typed t):=by
 have h:plainLL (bs.map byteRow)=true:=plainLL_map _ (fun _=>rfl) bs
 simp only[Blk.ren,renLL,h,if_true]
theorem renOk_bytes (σ:List (Nat×Nat))(bs:List UInt8)(t:TypeId):Blk.renOk σ (@Blk.mk 1 (bs.map byteRow) (.typed t))=true:=by
 have h:plainLL (bs.map byteRow)=true:=plainLL_map _ (fun _=>rfl) bs
 simp only[Blk.renOk,renOkLL,h,Bool.true_or,Bool.true_and]
 rfl
theorem ren_cons (σ:List (Nat×Nat))(c:UInt8)(bs:List UInt8)(t:TypeId):Blk.ren σ (@Blk.mk 1 (byteRow c::bs.map byteRow) (.typed t)) = @Blk.mk 1 (byteRow c::bs.map byteRow) (.typed t):=ren_bytes σ (c::bs) t
theorem renOk_cons (σ:List (Nat×Nat))(c:UInt8)(bs:List UInt8)(t:TypeId):Blk.renOk σ (@Blk.mk 1 (byteRow c::bs.map byteRow) (.typed t))=true:=renOk_bytes σ (c::bs) t
theorem ren_snoc (σ:List (Nat×Nat))(c:UInt8)(bs:List UInt8)(t:TypeId):Blk.ren σ (@Blk.mk 1 (bs.map byteRow++[[.int .u8 c.toNat]]) (.typed t)) = @Blk.mk 1 (bs.map byteRow++[[.int .u8 c.toNat]]) (.typed t):=by
 have:=ren_bytes σ (bs++[c]) t
 rwa[List.map_append]at this
theorem renOk_snoc (σ:List (Nat×Nat))(c:UInt8)(bs:List UInt8)(t:TypeId):Blk.renOk σ (@Blk.mk 1 (bs.map byteRow++[[.int .u8 c.toNat]]) (.typed t))=true:=by
 have:=renOk_bytes σ (bs++[c]) t
 rwa[List.map_append]at this
theorem ren_mkT (σ:List (Nat×Nat))(s:Nat)(rows:List (List V))(t:TypeId):Blk.ren σ (@Blk.mk s rows (.typed t)) = @Blk.mk s (renLL σ rows) (.typed t):=rfl
theorem renOk_mkT (σ:List (Nat×Nat))(s:Nat)(rows:List (List V))(t:TypeId):Blk.renOk σ (@Blk.mk s rows (.typed t))=renOkLL σ rows:=by
 simp only[Blk.renOk,Ob.renOk,Bool.and_true]
theorem one_b (c:UInt8):(byteRow c).all V.one=true:=rfl
theorem one_bs (bs:List UInt8):((bs.map byteRow).all fun r=>r.all V.one)=true:=by
 rw[List.all_eq_true]
 intro r hr
 obtain⟨c,_,rfl⟩:=List.mem_map.1 hr
 rfl
def rK (bs:List UInt8):Blk:=@Blk.mk 1 (bs.map byteRow) (.typed 5)
theorem copyO_ev (used:Bool)(q y n:Nat)(bs:List UInt8)(M:Mem)(nm:Nat)(hqy:q≠y)(hq:M q=some (bK used q (.own y 0 n)))(hy:M y=some (rK bs))(ho:∀ z,(M z).isSome=true→z∈[q,y])(hn:q<nm)(hny:y<nm) :
  Ev cx 113 nm [.ptr q 0 0] M (.tup []) [(q,some (bK true q (.own y 0 n))),(y,some (rK bs))]:=by
 have yz:(y=q)=False:=eq_false (fun h=>hqy h.symm)
 have zy:(q=y)=False:=eq_false hqy
 cases used with
 | false =>
  refine ev_go rfl (fun cargs w=>call113 cargs w) func113 rfl mixed (by kernel_rfl) rfl ?_;intro b0 hb0
  have lq:q<b0:=below_of hb0 (by rw[hq];rfl)
  have ly:y<b0:=below_of hb0 (by rw[hy];rfl)
  have y0:=lt_ne ly;have y1:=lt_ne_add ly;have y2:=lt_ne' ly;have y3:=lt_ne_add' ly
  have z0:=lt_ne lq;have z1:=lt_ne_add lq;have z2:=lt_ne' lq;have z3:=lt_ne_add' lq
  repeat' first|simp only[fins,mems,results113,ntmps113,wks,inf_b,bK_t,bK_f,hq,hy,y0,y1,y2,y3,yz,zy,z0,z1,z2,z3,vcs,seval,tys,TypeDesc.pointer.injEq,exists_eq_left']|exact rfl|refine call_off (v:=.any) ?_|(first|(refine call_fn ?_ (noEsc_ev (.ptr q 0 0) Mem.nil _) ?_)|(refine call_fn_g ?_ (fun _=>noEsc_ev (.ptr q 0 0) Mem.nil _) ?_))|(refine ext_toUnsafe (y:=?_) (sz:=?_) (row:=?_) (rows:=?_) (o:=?_) (te:=?_) ?_ ?_ ?_ ?_ ?_ ?_ ?_ ?_;rotate_left 6;(iterate 2 (focus (simp only[results113,ntmps113,wks,inf_b,bK_t,bK_f,hq,hy,y0,y1,y2,y3,yz,zy,z0,z1,z2,z3,vcs,seval,tys,TypeDesc.pointer.injEq,exists_eq_left']<;>exact rfl)));(focus (exact rfl));(focus (omega));(iterate 2 (focus (simp only[results113,ntmps113,wks,inf_b,bK_t,bK_f,hq,hy,y0,y1,y2,y3,yz,zy,z0,z1,z2,z3,vcs,seval,tys,TypeDesc.pointer.injEq,exists_eq_left']<;>exact rfl)));(focus (kernel_rfl)))|(refine extG_true ?_)|(refine extG_false ?_)|(refine ext_fromUnsafe (y:=?_) (sz:=?_) (row:=?_) (rows:=?_) (u:=?_) ?_ ?_ ?_ ?_ ?_ ?_ ?_ ?_;rotate_left 5;(iterate 2 (focus (simp only[results113,ntmps113,wks,inf_b,bK_t,bK_f,hq,hy,y0,y1,y2,y3,yz,zy,z0,z1,z2,z3,vcs,seval,tys,TypeDesc.pointer.injEq,exists_eq_left']<;>exact rfl)));(focus (omega));(iterate 2 (focus (simp only[results113,ntmps113,wks,inf_b,bK_t,bK_f,hq,hy,y0,y1,y2,y3,yz,zy,z0,z1,z2,z3,vcs,seval,tys,TypeDesc.pointer.injEq,exists_eq_left']<;>exact rfl)));(iterate 2 (focus (kernel_rfl))))|((first|apply Ca|apply Cb)<;>intro hb)|refine Ai (by omega) ?_|(apply Ai<;>intro hb)
  all_goals ((refine Fin.give [(q,none),(y,none)] [] ?_ ?_ ?_ ?_ ?_ (fun q hq=>by have hqq:=ho q hq;first|(simp only[gives,tgt,Lc,Lo,Lk,Ln,or_false]at hqq ⊢;omega)|(simp only[gives,tgt,Lc,Lo,Lk,Ln,or_false]at hqq))<;>(try simp only[results113,ntmps113,wks,rK,ren_bytes,renOk_bytes,ite_self,Bool.false_and,Bool.false_eq_true,if_false,bK_t,bK_f,hq,hy,y0,y1,y2,y3,yz,zy,z0,z1,z2,z3,giv,vcs,seval,tys,TypeDesc.pointer.injEq,exists_eq_left'])<;>(try simp only[injs])<;>(try omega)))
 | true =>
  refine ev_go rfl (fun cargs w=>call113 cargs w) func113 rfl mixed (by kernel_rfl) rfl ?_;intro b0 hb0
  have lq:q<b0:=below_of hb0 (by rw[hq];rfl)
  have ly:y<b0:=below_of hb0 (by rw[hy];rfl)
  have y0:=lt_ne ly;have y1:=lt_ne_add ly;have y2:=lt_ne' ly;have y3:=lt_ne_add' ly
  have z0:=lt_ne lq;have z1:=lt_ne_add lq;have z2:=lt_ne' lq;have z3:=lt_ne_add' lq
  repeat' first|simp only[fins,mems,results113,ntmps113,wks,inf_b,bK_t,bK_f,hq,hy,y0,y1,y2,y3,yz,zy,z0,z1,z2,z3,vcs,seval,tys,TypeDesc.pointer.injEq,exists_eq_left']|exact rfl|refine call_off (v:=.any) ?_|((first|apply Ca|apply Cb)<;>intro hb)|refine Ai (by omega) ?_|(apply Ai<;>intro hb)
  all_goals ((refine Fin.give [(q,none),(y,none)] [] ?_ ?_ ?_ ?_ ?_ (fun q hq=>by have hqq:=ho q hq;first|(simp only[gives,tgt,Lc,Lo,Lk,Ln,or_false]at hqq ⊢;omega)|(simp only[gives,tgt,Lc,Lo,Lk,Ln,or_false]at hqq))<;>(try simp only[results113,ntmps113,wks,rK,ren_bytes,renOk_bytes,ite_self,Bool.false_and,Bool.false_eq_true,if_false,bK_t,bK_f,hq,hy,y0,y1,y2,y3,yz,zy,z0,z1,z2,z3,giv,vcs,seval,tys,TypeDesc.pointer.injEq,exists_eq_left'])<;>(try simp only[injs])<;>(try omega)))
theorem wStrN_ev (used:Bool)(q:Nat)(s:List UInt8)(hs:s≠[])(hl:s.length≤lim)(M:Mem)(nm:Nat)(hq:M q=some (bK used q .nils))(ho:∀ z,(M z).isSome=true→z∈[q])(hn:q<nm) :
  Ev cx 77 nm [.ptr q 0 0,.str s] M (.tup [.int .i64 s.length,.val .nilIface]) [(q,some (bK true q (.own nm 0 s.length))),(nm,some (rK s))]:=by
 unfold lim at hl
 refine ev_go rfl (fun cargs w=>call77 cargs w) func77 rfl mixed (by kernel_rfl) rfl ?_;intro b0 hb0
 have lq:q<b0:=below_of hb0 (by rw[hq];rfl)
 have z0:=lt_ne lq;have z1:=lt_ne_add lq;have z2:=lt_ne' lq;have z3:=lt_ne_add' lq
 obtain⟨c,s,rfl⟩:=List.exists_cons_of_ne_nil hs
 repeat' first|simp only[fins,mems,results77,ntmps77,wks,bK_t,hq,z0,z1,z2,z3,vcs,seval,tys,TypeDesc.pointer.injEq,exists_eq_left']|exact rfl|refine call_off (v:=.any) ?_|(refine call_fn_full ?_ [[q]] (copyN_ev used q _ _ ?_ only_mem (by omega)) ?_ ?_)|((first|apply Ca|apply Cb)<;>intro hb)|refine Ai (by omega) ?_|(apply Ai<;>intro hb)
 refine call_fn_full ?_ [q] (copyN_ev used q _ _ ?_ only_mem (by omega)) ?_ ?_
 ·simp only[vcs,seval,tys,TypeDesc.pointer.injEq,exists_eq_left']
 ·simp only[only_at,Lk,Ln,hq,vcs,seval,tys,TypeDesc.pointer.injEq,exists_eq_left']
 ·simp only[Lk,Ln,forall_eq,forall_eq_or_imp,hq,vcs,seval,tys,TypeDesc.pointer.injEq,exists_eq_left']
 simp only[List.length_cons]at hl
 repeat' first|simp only[fins,mems,results77,ntmps77,wks,bK_t,hq,z0,z1,z2,z3,one_b,one_bs,Lm,vcs,seval,tys,TypeDesc.pointer.injEq,exists_eq_left']|exact rfl|refine call_off (v:=.any) ?_|((first|apply Ca|apply Cb)<;>intro hb)|refine Ai (by omega) ?_|(apply Ai<;>intro hb)
 all_goals ((refine Fin.give [(q,none),(b0+160,some 0)] [] ?_ ?_ ?_ ?_ ?_ (fun q hq=>by have hqq:=ho q hq;first|(simp only[gives,tgt,Lc,Lo,Lk,Ln,or_false]at hqq ⊢;omega)|(simp only[gives,tgt,Lc,Lo,Lk,Ln,or_false]at hqq))<;>(try simp only[results77,ntmps77,wks,rK,ren_cons,renOk_cons,ren_bytes,renOk_bytes,ite_self,Bool.false_and,Bool.false_eq_true,if_false,bK_t,hq,z0,z1,z2,z3,fresh_self,giv,vcs,seval,tys,TypeDesc.pointer.injEq,exists_eq_left'])<;>(try simp only[injs])<;>(try omega)))
theorem wStrO_ev (used:Bool)(q y:Nat)(bs s:List UInt8)(hl:bs.length+s.length≤lim)(M:Mem)(nm:Nat)(hqy:q≠y)(hq:M q=some (bK used q (.own y 0 bs.length)))(hy:M y=some (rK bs))(ho:∀ z,(M z).isSome=true→z∈[q,y])(hn:q<nm)(hny:y<nm) :
  Ev cx 77 nm [.ptr q 0 0,.str s] M (.tup [.int .i64 s.length,.val .nilIface]) [(y,none),(q,some (bK true q (.own nm 0 (bs.length+s.length)))),(nm,some (rK (bs++s)))]:=by
 unfold lim at hl
 have yz:(y=q)=False:=eq_false (fun h=>hqy h.symm)
 have zy:(q=y)=False:=eq_false hqy
 refine ev_go rfl (fun cargs w=>call77 cargs w) func77 rfl mixed (by kernel_rfl) rfl ?_;intro b0 hb0
 have lq:q<b0:=below_of hb0 (by rw[hq];rfl)
 have ly:y<b0:=below_of hb0 (by rw[hy];rfl)
 have y0:=lt_ne ly;have y1:=lt_ne_add ly;have y2:=lt_ne' ly;have y3:=lt_ne_add' ly
 have z0:=lt_ne lq;have z1:=lt_ne_add lq;have z2:=lt_ne' lq;have z3:=lt_ne_add' lq
 repeat' first|simp only[fins,mems,results77,ntmps77,wks,bK_t,hq,z0,z1,z2,z3,vcs,seval,tys,TypeDesc.pointer.injEq,exists_eq_left']|exact rfl|refine call_off (v:=.any) ?_|((first|apply Ca|apply Cb)<;>intro hb)|refine Ai (by omega) ?_|(apply Ai<;>intro hb)
 refine call_fn_full ?_ [q,y] (copyO_ev used q y bs.length bs _ _ hqy ?_ ?_ only_mem (by omega) (by omega)) ?_ ?_
 ·simp only[vcs,seval,tys,TypeDesc.pointer.injEq,exists_eq_left']
 ·simp only[only_at,Lk,Ln,true_or,or_true,hq,hy,yz,zy,vcs,seval,tys,TypeDesc.pointer.injEq,exists_eq_left']
 ·simp only[only_at,Lk,Ln,true_or,or_true,hq,hy,yz,zy,vcs,seval,tys,TypeDesc.pointer.injEq,exists_eq_left']
 ·simp only[Lk,Ln,forall_eq,forall_eq_or_imp,true_or,or_true,hq,hy,yz,zy,vcs,seval,tys,TypeDesc.pointer.injEq,exists_eq_left']
 repeat' first|simp only[fins,mems,results77,ntmps77,wks,rK,bK_t,hq,hy,yz,zy,y0,y1,y2,y3,z0,z1,z2,z3,one_b,one_bs,Lm,List.take_of_length_le,Nat.le_refl,List.map_append.symm,vcs,seval,tys,TypeDesc.pointer.injEq,exists_eq_left']|exact rfl|refine call_off (v:=.any) ?_|((first|apply Ca|apply Cb)<;>intro hb)|refine Ai (by omega) ?_|(apply Ai<;>intro hb)
 all_goals ((refine Fin.give [(q,none),(b0+160,some 0)] [y] ?_ ?_ ?_ ?_ ?_ (fun q hq=>by have hqq:=ho q hq;first|(simp only[gives,tgt,Lc,Lo,Lk,Ln,or_false]at hqq ⊢;omega)|(simp only[gives,tgt,Lc,Lo,Lk,Ln,or_false]at hqq))<;>(try simp only[results77,ntmps77,wks,rK,Option.bind_some,ren_bytes,renOk_bytes,ite_self,Bool.false_and,Bool.false_eq_true,if_false,bK_t,hq,hy,yz,zy,y0,y1,y2,y3,z0,z1,z2,z3,fresh_self,giv,vcs,seval,tys,TypeDesc.pointer.injEq,exists_eq_left'])<;>(try simp only[injs])<;>(try omega)))
theorem wByteO_ev (used:Bool)(q y:Nat)(bs:List UInt8)(c:UInt8)(hl:bs.length+1≤lim)(M:Mem)(nm:Nat)(hqy:q≠y)(hq:M q=some (bK used q (.own y 0 bs.length)))(hy:M y=some (rK bs))(ho:∀ z,(M z).isSome=true→z∈[q,y])(hn:q<nm)(hny:y<nm) :
  Ev cx 202 nm [.ptr q 0 0,.int .u8 c.toNat] M (.val .nilIface) [(y,none),(q,some (bK true q (.own nm 0 (bs.length+1)))),(nm,some (rK (bs++[c])))]:=by
 unfold lim at hl
 have yz:(y=q)=False:=eq_false (fun h=>hqy h.symm)
 have zy:(q=y)=False:=eq_false hqy
 refine ev_go rfl (fun cargs w=>call202 cargs w) func202 rfl mixed (by kernel_rfl) rfl ?_;intro b0 hb0
 have lq:q<b0:=below_of hb0 (by rw[hq];rfl)
 have ly:y<b0:=below_of hb0 (by rw[hy];rfl)
 have y0:=lt_ne ly;have y1:=lt_ne_add ly;have y2:=lt_ne' ly;have y3:=lt_ne_add' ly
 have z0:=lt_ne lq;have z1:=lt_ne_add lq;have z2:=lt_ne' lq;have z3:=lt_ne_add' lq
 repeat' first|simp only[fins,mems,results202,ntmps202,wks,bK_t,hq,z0,z1,z2,z3,vcs,seval,tys,TypeDesc.pointer.injEq,exists_eq_left']|exact rfl|refine call_off (v:=.any) ?_|((first|apply Ca|apply Cb)<;>intro hb)|refine Ai (by omega) ?_|(apply Ai<;>intro hb)
 refine call_fn_full ?_ [q,y] (copyO_ev used q y bs.length bs _ _ hqy ?_ ?_ only_mem (by omega) (by omega)) ?_ ?_
 ·simp only[vcs,seval,tys,TypeDesc.pointer.injEq,exists_eq_left']
 ·simp only[only_at,Lk,Ln,true_or,or_true,hq,hy,yz,zy,vcs,seval,tys,TypeDesc.pointer.injEq,exists_eq_left']
 ·simp only[only_at,Lk,Ln,true_or,or_true,hq,hy,yz,zy,vcs,seval,tys,TypeDesc.pointer.injEq,exists_eq_left']
 ·simp only[Lk,Ln,forall_eq,forall_eq_or_imp,true_or,or_true,hq,hy,yz,zy,vcs,seval,tys,TypeDesc.pointer.injEq,exists_eq_left']
 repeat' first|simp only[fins,mems,results202,ntmps202,wks,rK,bK_t,hq,hy,yz,zy,y0,y1,y2,y3,z0,z1,z2,z3,one_b,one_bs,Lm,List.take_of_length_le,Nat.le_refl,vcs,seval,tys,TypeDesc.pointer.injEq,exists_eq_left']|exact rfl|refine call_off (v:=.any) ?_|((first|apply Ca|apply Cb)<;>intro hb)|refine Ai (by omega) ?_|(apply Ai<;>intro hb)
 all_goals ((refine Fin.give [(q,none),(b0+160,some 0)] [y] ?_ ?_ ?_ ?_ ?_ (fun q hq=>by have hqq:=ho q hq;first|(simp only[gives,tgt,Lc,Lo,Lk,Ln,or_false]at hqq ⊢;omega)|(simp only[gives,tgt,Lc,Lo,Lk,Ln,or_false]at hqq))<;>(try simp only[results202,ntmps202,wks,rK,ren_snoc,renOk_snoc,byteRow,List.map_append,Lc,Lo,Option.bind_some,ren_bytes,renOk_bytes,ite_self,Bool.false_and,Bool.false_eq_true,if_false,bK_t,hq,hy,yz,zy,y0,y1,y2,y3,z0,z1,z2,z3,fresh_self,giv,vcs,seval,tys,TypeDesc.pointer.injEq,exists_eq_left'])<;>(try simp only[injs])<;>(try omega)))
theorem bStrO_ev (used:Bool)(q y:Nat)(bs:List UInt8)(hb:bs≠[])(hl:bs.length≤lim)(M:Mem)(nm:Nat)(hqy:q≠y)(hq:M q=some (bK used q (.own y 0 bs.length)))(hy:M y=some (rK bs))(ho:∀ z,(M z).isSome=true→z∈[q,y])(hn:q<nm)(hny:y<nm) :
  Ev cx 78 nm [.ptr q 0 0] M (.str bs) [(q,none),(y,none)]:=by
 unfold lim at hl
 have hp:0<bs.length:=List.length_pos_iff.2 hb
 have yz:(y=q)=False:=eq_false (fun h=>hqy h.symm)
 have zy:(q=y)=False:=eq_false hqy
 refine ev_go rfl (fun cargs w=>call78 cargs w) func78 rfl mixed (by kernel_rfl) rfl ?_;intro b0 hb0
 have lq:q<b0:=below_of hb0 (by rw[hq];rfl)
 have ly:y<b0:=below_of hb0 (by rw[hy];rfl)
 have y0:=lt_ne ly;have y1:=lt_ne_add ly;have y2:=lt_ne' ly;have y3:=lt_ne_add' ly
 have z0:=lt_ne lq;have z1:=lt_ne_add lq;have z2:=lt_ne' lq;have z3:=lt_ne_add' lq
 cases used<;>(repeat' first|simp only[fins,mems,results78,ntmps78,wks,rK,bK_t,bK_f,hq,hy,yz,zy,y0,y1,y2,y3,z0,z1,z2,z3,hb,ne_eq,not_false_eq_true,vcs,seval,tys,TypeDesc.pointer.injEq,exists_eq_left']|exact rfl|refine call_off (v:=.any) ?_|(refine ext_sliceData (y:=?_) (n:=?_) rfl ?_ ?_ ?_;rotate_left 2;(focus (simp only[results78,ntmps78,wks,rK,bK_t,bK_f,hq,hy,yz,zy,y0,y1,y2,y3,z0,z1,z2,z3,hb,ne_eq,not_false_eq_true,vcs,seval,tys,TypeDesc.pointer.injEq,exists_eq_left']<;>exact rfl));(focus (first|omega|(simp only[results78,ntmps78,wks,rK,bK_t,bK_f,hq,hy,yz,zy,y0,y1,y2,y3,z0,z1,z2,z3,hb,ne_eq,not_false_eq_true,vcs,seval,tys,TypeDesc.pointer.injEq,exists_eq_left']<;>omega))))|(refine extG_true ?_)|(refine extG_false ?_)|(refine ext_unsafeString (y:=?_) (bs:=?_) (u:=?_) rfl ?_ ?_ ?_ ?_ ?_ ?_ ?_ ?_;rotate_left 3;(iterate 3 (focus (simp only[results78,ntmps78,wks,rK,bK_t,bK_f,hq,hy,yz,zy,y0,y1,y2,y3,z0,z1,z2,z3,hb,ne_eq,not_false_eq_true,vcs,seval,tys,TypeDesc.pointer.injEq,exists_eq_left']<;>exact rfl)));(focus (first|assumption|(simp only[results78,ntmps78,wks,rK,bK_t,bK_f,hq,hy,yz,zy,y0,y1,y2,y3,z0,z1,z2,z3,hb,ne_eq,not_false_eq_true,vcs,seval,tys,TypeDesc.pointer.injEq,exists_eq_left'];done)));(focus (first|omega|(simp only[results78,ntmps78,wks,rK,bK_t,bK_f,hq,hy,yz,zy,y0,y1,y2,y3,z0,z1,z2,z3,hb,ne_eq,not_false_eq_true,vcs,seval,tys,TypeDesc.pointer.injEq,exists_eq_left']<;>omega)));(focus (simp only[results78,ntmps78,wks,rK,bK_t,bK_f,hq,hy,yz,zy,y0,y1,y2,y3,z0,z1,z2,z3,hb,ne_eq,not_false_eq_true,vcs,seval,tys,TypeDesc.pointer.injEq,exists_eq_left']<;>exact rfl));(focus (kernel_rfl)))|refine draw_end' (ps:=[(4,8)]) (by decide +kernel) (by simp only[List.forall_mem_cons,List.getD_cons_zero,List.getD_cons_succ,results78,ntmps78,wks,rK,bK_t,bK_f,hq,hy,yz,zy,y0,y1,y2,y3,z0,z1,z2,z3,hb,ne_eq,not_false_eq_true,vcs,seval,tys,TypeDesc.pointer.injEq,exists_eq_left']<;>(try simp)<;>(try omega)) ?_|refine draw_end (by decide +kernel) ?_|((first|apply Ca|apply Cb)<;>intro hb)|refine Ai (by omega) ?_|(apply Ai<;>intro hb))
 all_goals ((refine Fin.give [] [q,y] ?_ ?_ ?_ ?_ ?_ (fun q hq=>by have hqq:=ho q hq;first|(simp only[gives,tgt,Lc,Lo,Lk,Ln,or_false]at hqq ⊢;omega)|(simp only[gives,tgt,Lc,Lo,Lk,Ln,or_false]at hqq))<;>(try simp only[results78,ntmps78,wks,rK,ite_self,Bool.false_and,Bool.false_eq_true,if_false,bK_t,bK_f,hq,hy,yz,zy,y0,y1,y2,y3,z0,z1,z2,z3,fresh_self,giv,vcs,seval,tys,TypeDesc.pointer.injEq,exists_eq_left'])<;>(try simp only[injs])<;>(try omega)))
theorem bStrN_ev (used:Bool)(q:Nat)(M:Mem)(nm:Nat)(hq:M q=some (bK used q .nils))(ho:∀ z,(M z).isSome=true→z∈[q])(hn:q<nm) :
  Ev cx 78 nm [.ptr q 0 0] M (.str []) [(q,none)]:=by
 refine ev_go rfl (fun cargs w=>call78 cargs w) func78 rfl mixed (by kernel_rfl) rfl ?_;intro b0 hb0
 have lq:q<b0:=below_of hb0 (by rw[hq];rfl)
 have z0:=lt_ne lq;have z1:=lt_ne_add lq;have z2:=lt_ne' lq;have z3:=lt_ne_add' lq
 cases used<;>(repeat' first|simp only[fins,mems,results78,ntmps78,wks,bK_t,bK_f,hq,z0,z1,z2,z3,vcs,seval,tys,TypeDesc.pointer.injEq,exists_eq_left']|exact rfl|refine call_off (v:=.any) ?_|(refine ext_sliceData_nil rfl ?_ ?_;(focus (simp only[results78,ntmps78,wks,bK_t,bK_f,hq,z0,z1,z2,z3,vcs,seval,tys,TypeDesc.pointer.injEq,exists_eq_left']<;>exact rfl)))|(refine extG_true ?_)|(refine extG_false ?_)|(refine ext_unsafeString_nil rfl ?_ ?_ ?_;(iterate 2 (focus (simp only[results78,ntmps78,wks,bK_t,bK_f,hq,z0,z1,z2,z3,vcs,seval,tys,TypeDesc.pointer.injEq,exists_eq_left']<;>exact rfl))))|refine draw_end' (ps:=[(4,8)]) (by decide +kernel) (by simp only[List.forall_mem_cons,List.getD_cons_zero,List.getD_cons_succ,results78,ntmps78,wks,bK_t,bK_f,hq,z0,z1,z2,z3,vcs,seval,tys,TypeDesc.pointer.injEq,exists_eq_left']<;>(try simp)<;>(try omega)) ?_|refine draw_end (by decide +kernel) ?_|((first|apply Ca|apply Cb)<;>intro hb)|refine Ai (by omega) ?_|(apply Ai<;>intro hb))
 all_goals ((refine Fin.give [] [q] ?_ ?_ ?_ ?_ ?_ (fun q hq=>by have hqq:=ho q hq;first|(simp only[gives,tgt,Lc,Lo,Lk,Ln,or_false]at hqq ⊢;omega)|(simp only[gives,tgt,Lc,Lo,Lk,Ln,or_false]at hqq))<;>(try simp only[results78,ntmps78,wks,ite_self,Bool.false_and,Bool.false_eq_true,if_false,bK_t,bK_f,hq,z0,z1,z2,z3,fresh_self,giv,vcs,seval,tys,TypeDesc.pointer.injEq,exists_eq_left'])<;>(try simp only[injs])<;>(try omega)))
def bS (u:Bool)(q y:Nat)(bs:List UInt8):Blk:=if bs=[] then bK u q .nils else bK true q (.own y 0 bs.length)
theorem bS_nil (u:Bool)(q y:Nat):bS u q y []=bK u q .nils:=by unfold bS;rw[if_pos rfl]
theorem bS_ne (u:Bool)(q y:Nat){bs:List UInt8}(h:bs≠[]):bS u q y bs=bK true q (.own y 0 bs.length):=by unfold bS;rw[if_neg h]
theorem ren_bS (σ:List (Nat×Nat))(u:Bool)(q y:Nat)(bs:List UInt8):Blk.ren σ (bS u q y bs)=bS u ((newName σ q).getD q) ((newName σ y).getD y) bs:=by
 unfold bS
 by_cases h:bs=[]
 ·rw[if_pos h,if_pos h]
  cases u<;>simp[bK,Blk.ren,renLL,renL,V.ren,plainLL,plainL,V.plain,Ob.ren,instCells]
 ·rw[if_neg h,if_neg h]
  simp[bK,Blk.ren,renLL,renL,V.ren,plainLL,plainL,V.plain,Ob.ren,instCells]
theorem renOk_bS (σ:List (Nat×Nat))(u:Bool)(q y:Nat)(bs:List UInt8)(h1:(newName σ q).isSome=true)(h2:(newName σ y).isSome=true):Blk.renOk σ (bS u q y bs)=true:=by
 unfold bS
 by_cases h:bs=[]
 ·rw[if_pos h]
  cases u<;>simp[bK,Blk.renOk,renOkLL,renOkL,V.renOk,h1,Ob.renOk,instCells]
 ·rw[if_neg h]
  simp[bK,Blk.renOk,renOkLL,renOkL,V.renOk,h1,h2,Ob.renOk,instCells]
theorem rK_row (bs:List UInt8):(rK bs).ob.isRow=true:=rfl
theorem rK_nil:(rK []).rows=[]:=rfl
theorem ren_rK (σ:List (Nat×Nat))(bs:List UInt8):Blk.ren σ (rK bs)=rK bs:=ren_bytes σ bs _
theorem renOk_rK (σ:List (Nat×Nat))(bs:List UInt8):Blk.renOk σ (rK bs)=true:=renOk_bytes σ bs _
theorem fresh_out {M:Mem}{q y nm:Nat}(ho:∀ z,(M z).isSome=true→z∈[q,y])(hn:q<nm)(hny:y<nm):∀ x,Fresh nm x→M x=none:=fun x hx=>by
 cases hm:M x with
 | none=>rfl
 | some k =>
  have:=ho x (by rw[hm];rfl)
  simp only[Lk,Ln,or_false]at this
  have:=hx.1
  omega
theorem nil_ho {l:List Nat} : ∀ z,((Mem.nil:Mem) z).isSome=true→z∈l:=fun z h=>by cases h
theorem only1 {M:Mem}{q:Nat}{k:Blk}(h:M q=some k):(M.only [q]) q=some k:=only_eq.2 ⟨h,by simp⟩
section
variable (u:Bool) (q y:Nat) (bs:List UInt8) (M:Mem) (nm:Nat)
theorem wStr_ev (s:List UInt8)(hs:s≠[])(hl:bs.length+s.length≤lim)(hqy:q≠y)(hq:M q=some (bS u q y bs))(hy:M y=some (rK bs))(ho:∀ z,(M z).isSome=true→z∈[q,y])(hn:q<nm)(hny:y<nm) :
  Ev cx 77 nm [.ptr q 0 0,.str s] M (.tup [.int .i64 s.length,.val .nilIface]) [(y,none),(q,some (bS false q nm (bs++s))),(nm,some (rK (bs++s)))]:=by
 rw[bS_ne false q nm (bs:=bs++s) (by simp[hs]),List.length_append]
 by_cases hb:bs=[]
 ·subst hb
  rw[bS_nil]at hq
  simp only[List.nil_append,List.length_nil,Nat.zero_add]at hl ⊢
  refine Ev.dropM y (Ev.frame [q] (wStrN_ev u q s hs hl _ nm (only1 hq) only_mem hn) (fun x hx=>?_) (fresh_out ho hn hny))
  simp only[effNames,Lc,Lo,Lk,Ln,or_false]at hx
  rcases hx with rfl|rfl
  ·left;simp
  ·right;exact⟨Nat.le_refl _,by omega⟩
 ·rw[bS_ne u q y hb]at hq
  exact wStrO_ev true q y bs s hl M nm hqy hq hy ho hn hny
theorem bStr_ev (hl:bs.length≤lim)(hqy:q≠y)(hq:M q=some (bS u q y bs))(hy:M y=some (rK bs))(ho:∀ z,(M z).isSome=true→z∈[q,y])(hn:q<nm)(hny:y<nm) :
  Ev cx 78 nm [.ptr q 0 0] M (.str bs) [(q,none),(y,none)]:=by
 by_cases hb:bs=[]
 ·subst hb
  rw[bS_nil]at hq
  have h1:Ev cx 78 nm [.ptr q 0 0] M (.str []) [(q,none)]:=by
   refine Ev.frame [q] (bStrN_ev u q _ nm (only1 hq) only_mem hn) (fun x hx=>?_) (fresh_out ho hn hny)
   simp only[effNames,Lc,Lo,Lk,Ln,or_false]at hx
   subst hx;left;simp
  refine Ev.eff_eq (Ev.dropM y h1) ?_
  funext x
  simp only[Mem.app,Mem.put]
  by_cases e:x=y<;>by_cases e2:x=q<;>simp[e,e2]
 ·rw[bS_ne u q y hb]at hq
  exact bStrO_ev true q y bs hb hl M nm hqy hq hy ho hn hny
end
end Go.Proofs.YtjdjclecdfhciaaGreatDoor
