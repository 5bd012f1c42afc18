/-
 Texts joined: XEb,XEf,XEg.
-/
import Derived.Test.YtidmkaalhmeflaaGreatDoorQf
import Derived.Test.YtidmkaalhmeflaaGreatDoorQe
import Derived.Test.YtidmkaalhmeflaaGreatDoorQg
namespace Go.Proofs.YtidmkaalhmeflaaGreatDoor
set_option maxRecDepth 100000
set_option maxHeartbeats 32000000
set_option linter.unusedSimpArgs false
set_option linter.unusedVariables false
open Go Go.RowKit Vm Go.Lib Tryz
open Vm renaming aZ→Ca,bj→Cb
open And renaming intro→Ai
open List renaming length_map→Lm,not_mem_nil→Ln,map_nil→Lo,map_cons→Lc,mem_cons→Lk
open Bool renaming not_false→Bf,not_true→Bt
theorem pa (v:V)(M:aq)(nm:Nat):Ev cx 211 nm [v] M v [] :=
 Ev.noEscape func211 (by kernel_rfl) (by kernel_rfl) (by kernel_rfl) (by kernel_rfl) v M nm
theorem aR (n:Nat):bZ n n=True:=eq_true ⟨Nat.le_refl _,by omega⟩
def bK (used:Bool)(q:Nat)(c:V):Blk:=if used then ⟨2,[[.ptr q 0 0,c]]⟩ else @Blk.mk 2 [[.nilp,c]] (.typed 176)
theorem eo (q:Nat)(c:V):bK true q c=⟨2,[[.ptr q 0 0,c]]⟩:=rfl
theorem dI (q:Nat)(c:V):bK false q c = @Blk.mk 2 [[.nilp,c]] (.typed 176):=rfl
theorem jy:(cx.P.info? 176).isSome=true:=by kernel_rfl
theorem Gv (used:Bool)(q:Nat)(M:aq)(nm:Nat)(hq:M q=some (bK used q .nils))(ho:∀ z,(M z).isSome=true→z∈[q])(hn:q<nm) :
  Ev cx 180 nm [.ptr q 0 0] M (.tup []) [(q,some (bK true q .nils))]:=by
 cases used with
 | false =>
  refine ay rfl (fun cargs w=>call180 cargs w) func180 rfl mixed (by kernel_rfl) rfl ?_;intro b0 hb0
  have lq:q<b0:=ax hb0 (by rw[hq];rfl)
  have z0:=aT lq;have z1:=aw lq;have z2:=aK lq;have z3:=ao lq
  repeat' first|simp only[al,aj,results180,ntmps180,am,jy,eo,dI,hq,z0,z1,z2,z3,ai,seval,ah,TypeDesc.pointer.injEq,exists_eq_left']|exact rfl|refine aa (v:=.any) ?_|(first|(refine ac ?_ (pa (.ptr q 0 0) aq.nil _) ?_)|(refine ab ?_ (fun _=>pa (.ptr q 0 0) aq.nil _) ?_))|(refine oN (y:=?_) (sz:=?_) (row:=?_) (rows:=?_) (o:=?_) (te:=?_) ?_ ?_ ?_ ?_ ?_ ?_ ?_ ?_;rotate_left 6;(iterate 2 (focus (simp only[results180,ntmps180,am,jy,eo,dI,hq,z0,z1,z2,z3,ai,seval,ah,TypeDesc.pointer.injEq,exists_eq_left']<;>exact rfl)));(focus (exact rfl));(focus (omega));(iterate 2 (focus (simp only[results180,ntmps180,am,jy,eo,dI,hq,z0,z1,z2,z3,ai,seval,ah,TypeDesc.pointer.injEq,exists_eq_left']<;>exact rfl)));(focus (kernel_rfl)))|(refine bm ?_)|(refine be ?_)|(refine lR (y:=?_) (sz:=?_) (row:=?_) (rows:=?_) (u:=?_) ?_ ?_ ?_ ?_ ?_ ?_ ?_ ?_;rotate_left 5;(iterate 2 (focus (simp only[results180,ntmps180,am,jy,eo,dI,hq,z0,z1,z2,z3,ai,seval,ah,TypeDesc.pointer.injEq,exists_eq_left']<;>exact rfl)));(focus (omega));(iterate 2 (focus (simp only[results180,ntmps180,am,jy,eo,dI,hq,z0,z1,z2,z3,ai,seval,ah,TypeDesc.pointer.injEq,exists_eq_left']<;>exact rfl)));(iterate 2 (focus (kernel_rfl))))|((first|apply Ca|apply Cb)<;>intro hb)|refine Ai (by omega) ?_|(apply Ai<;>intro hb)
  all_goals ((refine Fin.give [(q,none)] [] ?_ ?_ ?_ ?_ ?_ (fun q hq=>by have hqq:=ho q hq;first|(simp only[aF,tgt,Lc,Lo,Lk,Ln,or_false]at hqq ⊢;omega)|(simp only[aF,tgt,Lc,Lo,Lk,Ln,or_false]at hqq))<;>(try simp only[results180,ntmps180,am,jy,eo,dI,hq,z0,z1,z2,z3,eH,ai,seval,ah,TypeDesc.pointer.injEq,exists_eq_left'])<;>(try simp only[au])<;>(try omega)))
 | true =>
  refine ay rfl (fun cargs w=>call180 cargs w) func180 rfl mixed (by kernel_rfl) rfl ?_;intro b0 hb0
  have lq:q<b0:=ax hb0 (by rw[hq];rfl)
  have z0:=aT lq;have z1:=aw lq;have z2:=aK lq;have z3:=ao lq
  repeat' first|simp only[al,aj,results180,ntmps180,am,jy,eo,dI,hq,z0,z1,z2,z3,ai,seval,ah,TypeDesc.pointer.injEq,exists_eq_left']|exact rfl|refine aa (v:=.any) ?_|((first|apply Ca|apply Cb)<;>intro hb)|refine Ai (by omega) ?_|(apply Ai<;>intro hb)
  all_goals ((refine Fin.give [(q,none)] [] ?_ ?_ ?_ ?_ ?_ (fun q hq=>by have hqq:=ho q hq;first|(simp only[aF,tgt,Lc,Lo,Lk,Ln,or_false]at hqq ⊢;omega)|(simp only[aF,tgt,Lc,Lo,Lk,Ln,or_false]at hqq))<;>(try simp only[results180,ntmps180,am,jy,eo,dI,hq,z0,z1,z2,z3,eH,ai,seval,ah,TypeDesc.pointer.injEq,exists_eq_left'])<;>(try simp only[au])<;>(try omega)))
theorem fp (σ:List (Nat×Nat))(bs:List UInt8)(t:TypeId):Blk.ren σ (@Blk.mk 1 (bs.map aP) (.typed t)) = @Blk.mk 1 (bs.map aP) (.typed t):=by
 have h:plainLL (bs.map aP)=true:=cB _ (fun _=>rfl) bs
 simp only[Blk.ren,iz,h,if_true]
theorem dM (σ:List (Nat×Nat))(bs:List UInt8)(t:TypeId):Blk.renOk σ (@Blk.mk 1 (bs.map aP) (.typed t))=true:=by
 have h:plainLL (bs.map aP)=true:=cB _ (fun _=>rfl) bs
 simp only[Blk.renOk,gf,h,Bool.true_or,Bool.true_and]
 rfl
theorem F5 (σ:List (Nat×Nat))(c:UInt8)(bs:List UInt8)(t:TypeId):Blk.ren σ (@Blk.mk 1 (bs.map aP++[[.int .u8 c.toNat]]) (.typed t)) = @Blk.mk 1 (bs.map aP++[[.int .u8 c.toNat]]) (.typed t):=by
 have:=fp σ (bs++[c]) t
 rwa[List.map_append]at this
theorem Az (σ:List (Nat×Nat))(c:UInt8)(bs:List UInt8)(t:TypeId):Blk.renOk σ (@Blk.mk 1 (bs.map aP++[[.int .u8 c.toNat]]) (.typed t))=true:=by
 have:=dM σ (bs++[c]) t
 rwa[List.map_append]at this
theorem rh (σ:List (Nat×Nat))(s:Nat)(rows:List (List V))(t:TypeId):Blk.ren σ (@Blk.mk s rows (.typed t)) = @Blk.mk s (iz σ rows) (.typed t):=rfl
theorem mK (σ:List (Nat×Nat))(s:Nat)(rows:List (List V))(t:TypeId):Blk.renOk σ (@Blk.mk s rows (.typed t))=gf σ rows:=by
 simp only[Blk.renOk,Ob.renOk,Bool.and_true]
theorem LR (c:UInt8):(aP c).all V.one=true:=rfl
theorem Il (bs:List UInt8):((bs.map aP).all fun r=>r.all V.one)=true:=by
 rw[List.all_eq_true]
 intro r hr
 obtain⟨c,_,rfl⟩:=List.mem_map.1 hr
 rfl
def rK (bs:List UInt8):Blk:=@Blk.mk 1 (bs.map aP) (.typed 5)
theorem sV (used:Bool)(q y n:Nat)(bs:List UInt8)(M:aq)(nm:Nat)(hqy:q≠y)(hq:M q=some (bK used q (.own y 0 n)))(hy:M y=some (rK bs))(ho:∀ z,(M z).isSome=true→z∈[q,y])(hn:q<nm)(hny:y<nm) :
  Ev cx 180 nm [.ptr q 0 0] M (.tup []) [(q,some (bK true q (.own y 0 n))),(y,some (rK bs))]:=by
 have yz:(y=q)=False:=eq_false (fun h=>hqy h.symm)
 have zy:(q=y)=False:=eq_false hqy
 cases used with
 | false =>
  refine ay rfl (fun cargs w=>call180 cargs w) func180 rfl mixed (by kernel_rfl) rfl ?_;intro b0 hb0
  have lq:q<b0:=ax hb0 (by rw[hq];rfl)
  have ly:y<b0:=ax hb0 (by rw[hy];rfl)
  have y0:=aT ly;have y1:=aw ly;have y2:=aK ly;have y3:=ao ly
  have z0:=aT lq;have z1:=aw lq;have z2:=aK lq;have z3:=ao lq
  repeat' first|simp only[al,aj,results180,ntmps180,am,jy,eo,dI,hq,hy,y0,y1,y2,y3,yz,zy,z0,z1,z2,z3,ai,seval,ah,TypeDesc.pointer.injEq,exists_eq_left']|exact rfl|refine aa (v:=.any) ?_|(first|(refine ac ?_ (pa (.ptr q 0 0) aq.nil _) ?_)|(refine ab ?_ (fun _=>pa (.ptr q 0 0) aq.nil _) ?_))|(refine oN (y:=?_) (sz:=?_) (row:=?_) (rows:=?_) (o:=?_) (te:=?_) ?_ ?_ ?_ ?_ ?_ ?_ ?_ ?_;rotate_left 6;(iterate 2 (focus (simp only[results180,ntmps180,am,jy,eo,dI,hq,hy,y0,y1,y2,y3,yz,zy,z0,z1,z2,z3,ai,seval,ah,TypeDesc.pointer.injEq,exists_eq_left']<;>exact rfl)));(focus (exact rfl));(focus (omega));(iterate 2 (focus (simp only[results180,ntmps180,am,jy,eo,dI,hq,hy,y0,y1,y2,y3,yz,zy,z0,z1,z2,z3,ai,seval,ah,TypeDesc.pointer.injEq,exists_eq_left']<;>exact rfl)));(focus (kernel_rfl)))|(refine bm ?_)|(refine be ?_)|(refine lR (y:=?_) (sz:=?_) (row:=?_) (rows:=?_) (u:=?_) ?_ ?_ ?_ ?_ ?_ ?_ ?_ ?_;rotate_left 5;(iterate 2 (focus (simp only[results180,ntmps180,am,jy,eo,dI,hq,hy,y0,y1,y2,y3,yz,zy,z0,z1,z2,z3,ai,seval,ah,TypeDesc.pointer.injEq,exists_eq_left']<;>exact rfl)));(focus (omega));(iterate 2 (focus (simp only[results180,ntmps180,am,jy,eo,dI,hq,hy,y0,y1,y2,y3,yz,zy,z0,z1,z2,z3,ai,seval,ah,TypeDesc.pointer.injEq,exists_eq_left']<;>exact rfl)));(iterate 2 (focus (kernel_rfl))))|((first|apply Ca|apply Cb)<;>intro hb)|refine Ai (by omega) ?_|(apply Ai<;>intro hb)
  all_goals ((refine Fin.give [(q,none),(y,none)] [] ?_ ?_ ?_ ?_ ?_ (fun q hq=>by have hqq:=ho q hq;first|(simp only[aF,tgt,Lc,Lo,Lk,Ln,or_false]at hqq ⊢;omega)|(simp only[aF,tgt,Lc,Lo,Lk,Ln,or_false]at hqq))<;>(try simp only[results180,ntmps180,am,rK,fp,dM,ite_self,Bool.false_and,Bool.false_eq_true,if_false,eo,dI,hq,hy,y0,y1,y2,y3,yz,zy,z0,z1,z2,z3,eH,ai,seval,ah,TypeDesc.pointer.injEq,exists_eq_left'])<;>(try simp only[au])<;>(try omega)))
 | true =>
  refine ay rfl (fun cargs w=>call180 cargs w) func180 rfl mixed (by kernel_rfl) rfl ?_;intro b0 hb0
  have lq:q<b0:=ax hb0 (by rw[hq];rfl)
  have ly:y<b0:=ax hb0 (by rw[hy];rfl)
  have y0:=aT ly;have y1:=aw ly;have y2:=aK ly;have y3:=ao ly
  have z0:=aT lq;have z1:=aw lq;have z2:=aK lq;have z3:=ao lq
  repeat' first|simp only[al,aj,results180,ntmps180,am,jy,eo,dI,hq,hy,y0,y1,y2,y3,yz,zy,z0,z1,z2,z3,ai,seval,ah,TypeDesc.pointer.injEq,exists_eq_left']|exact rfl|refine aa (v:=.any) ?_|((first|apply Ca|apply Cb)<;>intro hb)|refine Ai (by omega) ?_|(apply Ai<;>intro hb)
  all_goals ((refine Fin.give [(q,none),(y,none)] [] ?_ ?_ ?_ ?_ ?_ (fun q hq=>by have hqq:=ho q hq;first|(simp only[aF,tgt,Lc,Lo,Lk,Ln,or_false]at hqq ⊢;omega)|(simp only[aF,tgt,Lc,Lo,Lk,Ln,or_false]at hqq))<;>(try simp only[results180,ntmps180,am,rK,fp,dM,ite_self,Bool.false_and,Bool.false_eq_true,if_false,eo,dI,hq,hy,y0,y1,y2,y3,yz,zy,z0,z1,z2,z3,eH,ai,seval,ah,TypeDesc.pointer.injEq,exists_eq_left'])<;>(try simp only[au])<;>(try omega)))
theorem Gj (used:Bool)(q y:Nat)(bs s:List UInt8)(hl:bs.length+s.length≤bh)(M:aq)(nm:Nat)(hqy:q≠y)(hq:M q=some (bK used q (.own y 0 bs.length)))(hy:M y=some (rK bs))(ho:∀ z,(M z).isSome=true→z∈[q,y])(hn:q<nm)(hny:y<nm) :
  Ev cx 144 nm [.ptr q 0 0,.str s] M (.tup [.int .i64 s.length,.val .nilIface]) [(y,none),(q,some (bK true q (.own nm 0 (bs.length+s.length)))),(nm,some (rK (bs++s)))]:=by
 unfold bh at hl
 have yz:(y=q)=False:=eq_false (fun h=>hqy h.symm)
 have zy:(q=y)=False:=eq_false hqy
 refine ay rfl (fun cargs w=>call144 cargs w) func144 rfl mixed (by kernel_rfl) rfl ?_;intro b0 hb0
 have lq:q<b0:=ax hb0 (by rw[hq];rfl)
 have ly:y<b0:=ax hb0 (by rw[hy];rfl)
 have y0:=aT ly;have y1:=aw ly;have y2:=aK ly;have y3:=ao ly
 have z0:=aT lq;have z1:=aw lq;have z2:=aK lq;have z3:=ao lq
 repeat' first|simp only[al,aj,results144,ntmps144,am,eo,hq,z0,z1,z2,z3,ai,seval,ah,TypeDesc.pointer.injEq,exists_eq_left']|exact rfl|refine aa (v:=.any) ?_|((first|apply Ca|apply Cb)<;>intro hb)|refine Ai (by omega) ?_|(apply Ai<;>intro hb)
 refine ag ?_ [q,y] (sV used q y bs.length bs _ _ hqy ?_ ?_ ap (by omega) (by omega)) ?_ ?_
 ·simp only[ai,seval,ah,TypeDesc.pointer.injEq,exists_eq_left']
 ·simp only[oF,Lk,Ln,true_or,or_true,hq,hy,yz,zy,ai,seval,ah,TypeDesc.pointer.injEq,exists_eq_left']
 ·simp only[oF,Lk,Ln,true_or,or_true,hq,hy,yz,zy,ai,seval,ah,TypeDesc.pointer.injEq,exists_eq_left']
 ·simp only[Lk,Ln,forall_eq,forall_eq_or_imp,true_or,or_true,hq,hy,yz,zy,ai,seval,ah,TypeDesc.pointer.injEq,exists_eq_left']
 repeat' first|simp only[al,aj,results144,ntmps144,am,rK,eo,hq,hy,yz,zy,y0,y1,y2,y3,z0,z1,z2,z3,LR,Il,Lm,List.take_of_length_le,Nat.le_refl,List.map_append.symm,ai,seval,ah,TypeDesc.pointer.injEq,exists_eq_left']|exact rfl|refine aa (v:=.any) ?_|((first|apply Ca|apply Cb)<;>intro hb)|refine Ai (by omega) ?_|(apply Ai<;>intro hb)
 all_goals ((refine Fin.give [(q,none),(b0+160,some 0)] [y] ?_ ?_ ?_ ?_ ?_ (fun q hq=>by have hqq:=ho q hq;first|(simp only[aF,tgt,Lc,Lo,Lk,Ln,or_false]at hqq ⊢;omega)|(simp only[aF,tgt,Lc,Lo,Lk,Ln,or_false]at hqq))<;>(try simp only[results144,ntmps144,am,rK,Option.bind_some,fp,dM,ite_self,Bool.false_and,Bool.false_eq_true,if_false,eo,hq,hy,yz,zy,y0,y1,y2,y3,z0,z1,z2,z3,aR,eH,ai,seval,ah,TypeDesc.pointer.injEq,exists_eq_left'])<;>(try simp only[au])<;>(try omega)))
theorem DJ (used:Bool)(q y:Nat)(bs:List UInt8)(c:UInt8)(hl:bs.length+1≤bh)(M:aq)(nm:Nat)(hqy:q≠y)(hq:M q=some (bK used q (.own y 0 bs.length)))(hy:M y=some (rK bs))(ho:∀ z,(M z).isSome=true→z∈[q,y])(hn:q<nm)(hny:y<nm) :
  Ev cx 182 nm [.ptr q 0 0,.int .u8 c.toNat] M (.val .nilIface) [(y,none),(q,some (bK true q (.own nm 0 (bs.length+1)))),(nm,some (rK (bs++[c])))]:=by
 unfold bh at hl
 have yz:(y=q)=False:=eq_false (fun h=>hqy h.symm)
 have zy:(q=y)=False:=eq_false hqy
 refine ay rfl (fun cargs w=>call182 cargs w) func182 rfl mixed (by kernel_rfl) rfl ?_;intro b0 hb0
 have lq:q<b0:=ax hb0 (by rw[hq];rfl)
 have ly:y<b0:=ax hb0 (by rw[hy];rfl)
 have y0:=aT ly;have y1:=aw ly;have y2:=aK ly;have y3:=ao ly
 have z0:=aT lq;have z1:=aw lq;have z2:=aK lq;have z3:=ao lq
 repeat' first|simp only[al,aj,results182,ntmps182,am,eo,hq,z0,z1,z2,z3,ai,seval,ah,TypeDesc.pointer.injEq,exists_eq_left']|exact rfl|refine aa (v:=.any) ?_|((first|apply Ca|apply Cb)<;>intro hb)|refine Ai (by omega) ?_|(apply Ai<;>intro hb)
 refine ag ?_ [q,y] (sV used q y bs.length bs _ _ hqy ?_ ?_ ap (by omega) (by omega)) ?_ ?_
 ·simp only[ai,seval,ah,TypeDesc.pointer.injEq,exists_eq_left']
 ·simp only[oF,Lk,Ln,true_or,or_true,hq,hy,yz,zy,ai,seval,ah,TypeDesc.pointer.injEq,exists_eq_left']
 ·simp only[oF,Lk,Ln,true_or,or_true,hq,hy,yz,zy,ai,seval,ah,TypeDesc.pointer.injEq,exists_eq_left']
 ·simp only[Lk,Ln,forall_eq,forall_eq_or_imp,true_or,or_true,hq,hy,yz,zy,ai,seval,ah,TypeDesc.pointer.injEq,exists_eq_left']
 repeat' first|simp only[al,aj,results182,ntmps182,am,rK,eo,hq,hy,yz,zy,y0,y1,y2,y3,z0,z1,z2,z3,LR,Il,Lm,List.take_of_length_le,Nat.le_refl,ai,seval,ah,TypeDesc.pointer.injEq,exists_eq_left']|exact rfl|refine aa (v:=.any) ?_|((first|apply Ca|apply Cb)<;>intro hb)|refine Ai (by omega) ?_|(apply Ai<;>intro hb)
 all_goals ((refine Fin.give [(q,none),(b0+160,some 0)] [y] ?_ ?_ ?_ ?_ ?_ (fun q hq=>by have hqq:=ho q hq;first|(simp only[aF,tgt,Lc,Lo,Lk,Ln,or_false]at hqq ⊢;omega)|(simp only[aF,tgt,Lc,Lo,Lk,Ln,or_false]at hqq))<;>(try simp only[results182,ntmps182,am,rK,F5,Az,aP,List.map_append,Lc,Lo,Option.bind_some,fp,dM,ite_self,Bool.false_and,Bool.false_eq_true,if_false,eo,hq,hy,yz,zy,y0,y1,y2,y3,z0,z1,z2,z3,aR,eH,ai,seval,ah,TypeDesc.pointer.injEq,exists_eq_left'])<;>(try simp only[au])<;>(try omega)))
theorem FZ (used:Bool)(q y:Nat)(bs:List UInt8)(hb:bs≠[])(hl:bs.length≤bh)(M:aq)(nm:Nat)(hqy:q≠y)(hq:M q=some (bK used q (.own y 0 bs.length)))(hy:M y=some (rK bs))(ho:∀ z,(M z).isSome=true→z∈[q,y])(hn:q<nm)(hny:y<nm) :
  Ev cx 147 nm [.ptr q 0 0] M (.str bs) [(q,none),(y,none)]:=by
 unfold bh at hl
 have hp:0<bs.length:=List.length_pos_iff.2 hb
 have yz:(y=q)=False:=eq_false (fun h=>hqy h.symm)
 have zy:(q=y)=False:=eq_false hqy
 refine ay rfl (fun cargs w=>call147 cargs w) func147 rfl mixed (by kernel_rfl) rfl ?_;intro b0 hb0
 have lq:q<b0:=ax hb0 (by rw[hq];rfl)
 have ly:y<b0:=ax hb0 (by rw[hy];rfl)
 have y0:=aT ly;have y1:=aw ly;have y2:=aK ly;have y3:=ao ly
 have z0:=aT lq;have z1:=aw lq;have z2:=aK lq;have z3:=ao lq
 cases used<;>(repeat' first|simp only[al,aj,results147,ntmps147,am,rK,eo,dI,hq,hy,yz,zy,y0,y1,y2,y3,z0,z1,z2,z3,hb,ne_eq,not_false_eq_true,ai,seval,ah,TypeDesc.pointer.injEq,exists_eq_left']|exact rfl|refine aa (v:=.any) ?_|(refine uE (y:=?_) (n:=?_) rfl ?_ ?_ ?_;rotate_left 2;(focus (simp only[results147,ntmps147,am,rK,eo,dI,hq,hy,yz,zy,y0,y1,y2,y3,z0,z1,z2,z3,hb,ne_eq,not_false_eq_true,ai,seval,ah,TypeDesc.pointer.injEq,exists_eq_left']<;>exact rfl));(focus (first|omega|(simp only[results147,ntmps147,am,rK,eo,dI,hq,hy,yz,zy,y0,y1,y2,y3,z0,z1,z2,z3,hb,ne_eq,not_false_eq_true,ai,seval,ah,TypeDesc.pointer.injEq,exists_eq_left']<;>omega))))|(refine bm ?_)|(refine be ?_)|(refine pD (y:=?_) (bs:=?_) (u:=?_) rfl ?_ ?_ ?_ ?_ ?_ ?_ ?_ ?_;rotate_left 3;(iterate 3 (focus (simp only[results147,ntmps147,am,rK,eo,dI,hq,hy,yz,zy,y0,y1,y2,y3,z0,z1,z2,z3,hb,ne_eq,not_false_eq_true,ai,seval,ah,TypeDesc.pointer.injEq,exists_eq_left']<;>exact rfl)));(focus (first|assumption|(simp only[results147,ntmps147,am,rK,eo,dI,hq,hy,yz,zy,y0,y1,y2,y3,z0,z1,z2,z3,hb,ne_eq,not_false_eq_true,ai,seval,ah,TypeDesc.pointer.injEq,exists_eq_left'];done)));(focus (first|omega|(simp only[results147,ntmps147,am,rK,eo,dI,hq,hy,yz,zy,y0,y1,y2,y3,z0,z1,z2,z3,hb,ne_eq,not_false_eq_true,ai,seval,ah,TypeDesc.pointer.injEq,exists_eq_left']<;>omega)));(focus (simp only[results147,ntmps147,am,rK,eo,dI,hq,hy,yz,zy,y0,y1,y2,y3,z0,z1,z2,z3,hb,ne_eq,not_false_eq_true,ai,seval,ah,TypeDesc.pointer.injEq,exists_eq_left']<;>exact rfl));(focus (kernel_rfl)))|refine bn (ps:=[(4,8)]) (by decide +kernel) (by simp only[List.forall_mem_cons,List.getD_cons_zero,List.getD_cons_succ,results147,ntmps147,am,rK,eo,dI,hq,hy,yz,zy,y0,y1,y2,y3,z0,z1,z2,z3,hb,ne_eq,not_false_eq_true,ai,seval,ah,TypeDesc.pointer.injEq,exists_eq_left']<;>(try simp)<;>(try omega)) ?_|refine aC (by decide +kernel) ?_|((first|apply Ca|apply Cb)<;>intro hb)|refine Ai (by omega) ?_|(apply Ai<;>intro hb))
 all_goals ((refine Fin.give [] [q,y] ?_ ?_ ?_ ?_ ?_ (fun q hq=>by have hqq:=ho q hq;first|(simp only[aF,tgt,Lc,Lo,Lk,Ln,or_false]at hqq ⊢;omega)|(simp only[aF,tgt,Lc,Lo,Lk,Ln,or_false]at hqq))<;>(try simp only[results147,ntmps147,am,rK,ite_self,Bool.false_and,Bool.false_eq_true,if_false,eo,dI,hq,hy,yz,zy,y0,y1,y2,y3,z0,z1,z2,z3,aR,eH,ai,seval,ah,TypeDesc.pointer.injEq,exists_eq_left'])<;>(try simp only[au])<;>(try omega)))
theorem Bj (σ:List (Nat×Nat))(bs:List UInt8):Blk.ren σ (rK bs)=rK bs:=fp σ bs _
theorem sX (σ:List (Nat×Nat))(bs:List UInt8):Blk.renOk σ (rK bs)=true:=dM σ bs _
theorem Np {l:List Nat} : ∀ z,((aq.nil:aq) z).isSome=true→z∈l:=fun z h=>by cases h
section
variable (u:Bool) (q y:Nat) (bs:List UInt8) (M:aq) (nm:Nat)
end
end Go.Proofs.YtidmkaalhmeflaaGreatDoor
