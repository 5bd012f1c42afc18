/-
 Texts joined: XEb,XEf,XEg.
-/
import Derived.Test.YtcllbjanalhjgaaGreatDoorQf
import Derived.Test.YtcllbjanalhjgaaGreatDoorQe
import Derived.Test.YtcllbjanalhjgaaGreatDoorQg
namespace Go.Proofs.YtcllbjanalhjgaaGreatDoor
set_option maxRecDepth 100000
set_option maxHeartbeats 32000000
set_option linter.unusedSimpArgs false
set_option linter.unusedVariables false
open Go Go.RowKit Vm Go.Lib Tryz
open Vm renaming be→Ca,bo→Cb
open And renaming intro→Ai
open List renaming length_map→Lm,not_mem_nil→Ln,map_nil→Lo,map_cons→Lc,mem_cons→Lk
open Bool renaming not_false→Bf,not_true→Bt
theorem oa (v:V)(M:ao)(nm:Nat):Ev cx 184 nm [v] M v [] :=
 Ev.noEscape func184 (by kernel_rfl) (by kernel_rfl) (by kernel_rfl) (by kernel_rfl) v M nm
theorem aP (n:Nat):bV n n=True:=eq_true ⟨Nat.le_refl _,by omega⟩
def bK (used:Bool)(q:Nat)(c:V):Blk:=if used then ⟨2,[[.ptr q 0 0,c]]⟩ else @Blk.mk 2 [[.nilp,c]] (.typed 197)
theorem dW (q:Nat)(c:V):bK true q c=⟨2,[[.ptr q 0 0,c]]⟩:=rfl
theorem dx (q:Nat)(c:V):bK false q c = @Blk.mk 2 [[.nilp,c]] (.typed 197):=rfl
theorem jh:(cx.P.info? 197).isSome=true:=by kernel_rfl
theorem E8 (used:Bool)(q:Nat)(M:ao)(nm:Nat)(hq:M q=some (bK used q .nils))(ho:∀ z,(M z).isSome=true→z∈[q])(hn:q<nm) :
  Ev cx 179 nm [.ptr q 0 0] M (.tup []) [(q,some (bK true q .nils))]:=by
 cases used with
 | false =>
  refine ay rfl (fun cargs w=>call179 cargs w) func179 rfl mixed (by kernel_rfl) rfl ?_;intro b0 hb0
  have lq:q<b0:=av hb0 (by rw[hq];rfl)
  have z0:=aS lq;have z1:=aq lq;have z2:=aI lq;have z3:=aj lq
  repeat' first|simp only[am,ah,results179,ntmps179,ap,jh,dW,dx,hq,z0,z1,z2,z3,ag,seval,ae,TypeDesc.pointer.injEq,exists_eq_left']|exact rfl|refine aa (v:=.any) ?_|(first|(refine ac ?_ (oa (.ptr q 0 0) ao.nil _) ?_)|(refine ab ?_ (fun _=>oa (.ptr q 0 0) ao.nil _) ?_))|(refine nL (y:=?_) (sz:=?_) (row:=?_) (rows:=?_) (o:=?_) (te:=?_) ?_ ?_ ?_ ?_ ?_ ?_ ?_ ?_;rotate_left 6;(iterate 2 (focus (simp only[results179,ntmps179,ap,jh,dW,dx,hq,z0,z1,z2,z3,ag,seval,ae,TypeDesc.pointer.injEq,exists_eq_left']<;>exact rfl)));(focus (exact rfl));(focus (omega));(iterate 2 (focus (simp only[results179,ntmps179,ap,jh,dW,dx,hq,z0,z1,z2,z3,ag,seval,ae,TypeDesc.pointer.injEq,exists_eq_left']<;>exact rfl)));(focus (kernel_rfl)))|(refine bh ?_)|(refine ba ?_)|(refine lf (y:=?_) (sz:=?_) (row:=?_) (rows:=?_) (u:=?_) ?_ ?_ ?_ ?_ ?_ ?_ ?_ ?_;rotate_left 5;(iterate 2 (focus (simp only[results179,ntmps179,ap,jh,dW,dx,hq,z0,z1,z2,z3,ag,seval,ae,TypeDesc.pointer.injEq,exists_eq_left']<;>exact rfl)));(focus (omega));(iterate 2 (focus (simp only[results179,ntmps179,ap,jh,dW,dx,hq,z0,z1,z2,z3,ag,seval,ae,TypeDesc.pointer.injEq,exists_eq_left']<;>exact rfl)));(iterate 2 (focus (kernel_rfl))))|((first|apply Ca|apply Cb)<;>intro hb)|refine Ai (by omega) ?_|(apply Ai<;>intro hb)
  all_goals ((refine Fin.give [(q,none)] [] ?_ ?_ ?_ ?_ ?_ (fun q hq=>by have hqq:=ho q hq;first|(simp only[aD,tgt,Lc,Lo,Lk,Ln,or_false]at hqq ⊢;omega)|(simp only[aD,tgt,Lc,Lo,Lk,Ln,or_false]at hqq))<;>(try simp only[results179,ntmps179,ap,jh,dW,dx,hq,z0,z1,z2,z3,ec,ag,seval,ae,TypeDesc.pointer.injEq,exists_eq_left'])<;>(try simp only[au])<;>(try omega)))
 | true =>
  refine ay rfl (fun cargs w=>call179 cargs w) func179 rfl mixed (by kernel_rfl) rfl ?_;intro b0 hb0
  have lq:q<b0:=av hb0 (by rw[hq];rfl)
  have z0:=aS lq;have z1:=aq lq;have z2:=aI lq;have z3:=aj lq
  repeat' first|simp only[am,ah,results179,ntmps179,ap,jh,dW,dx,hq,z0,z1,z2,z3,ag,seval,ae,TypeDesc.pointer.injEq,exists_eq_left']|exact rfl|refine aa (v:=.any) ?_|((first|apply Ca|apply Cb)<;>intro hb)|refine Ai (by omega) ?_|(apply Ai<;>intro hb)
  all_goals ((refine Fin.give [(q,none)] [] ?_ ?_ ?_ ?_ ?_ (fun q hq=>by have hqq:=ho q hq;first|(simp only[aD,tgt,Lc,Lo,Lk,Ln,or_false]at hqq ⊢;omega)|(simp only[aD,tgt,Lc,Lo,Lk,Ln,or_false]at hqq))<;>(try simp only[results179,ntmps179,ap,jh,dW,dx,hq,z0,z1,z2,z3,ec,ag,seval,ae,TypeDesc.pointer.injEq,exists_eq_left'])<;>(try simp only[au])<;>(try omega)))
theorem eZ (σ:List (Nat×Nat))(bs:List UInt8)(t:TypeId):Blk.ren σ (@Blk.mk 1 (bs.map aN) (.typed t)) = @Blk.mk 1 (bs.map aN) (.typed t):=by
 have h:plainLL (bs.map aN)=true:=cn _ (fun _=>rfl) bs
 simp only[Blk.ren,hH,h,if_true]
theorem dD (σ:List (Nat×Nat))(bs:List UInt8)(t:TypeId):Blk.renOk σ (@Blk.mk 1 (bs.map aN) (.typed t))=true:=by
 have h:plainLL (bs.map aN)=true:=cn _ (fun _=>rfl) bs
 simp only[Blk.renOk,fR,h,Bool.true_or,Bool.true_and]
 rfl
theorem GS (σ:List (Nat×Nat))(c:UInt8)(bs:List UInt8)(t:TypeId):Blk.ren σ (@Blk.mk 1 (bs.map aN++[[.int .u8 c.toNat]]) (.typed t)) = @Blk.mk 1 (bs.map aN++[[.int .u8 c.toNat]]) (.typed t):=by
 have:=eZ σ (bs++[c]) t
 rwa[List.map_append]at this
theorem AK (σ:List (Nat×Nat))(c:UInt8)(bs:List UInt8)(t:TypeId):Blk.renOk σ (@Blk.mk 1 (bs.map aN++[[.int .u8 c.toNat]]) (.typed t))=true:=by
 have:=dD σ (bs++[c]) t
 rwa[List.map_append]at this
theorem qG (σ:List (Nat×Nat))(s:Nat)(rows:List (List V))(t:TypeId):Blk.ren σ (@Blk.mk s rows (.typed t)) = @Blk.mk s (hH σ rows) (.typed t):=rfl
theorem md (σ:List (Nat×Nat))(s:Nat)(rows:List (List V))(t:TypeId):Blk.renOk σ (@Blk.mk s rows (.typed t))=fR σ rows:=by
 simp only[Blk.renOk,Ob.renOk,Bool.and_true]
theorem J2 (c:UInt8):(aN c).all V.one=true:=rfl
theorem GB (bs:List UInt8):((bs.map aN).all fun r=>r.all V.one)=true:=by
 rw[List.all_eq_true]
 intro r hr
 obtain⟨c,_,rfl⟩:=List.mem_map.1 hr
 rfl
def rK (bs:List UInt8):Blk:=@Blk.mk 1 (bs.map aN) (.typed 5)
theorem rj (used:Bool)(q y n:Nat)(bs:List UInt8)(M:ao)(nm:Nat)(hqy:q≠y)(hq:M q=some (bK used q (.own y 0 n)))(hy:M y=some (rK bs))(ho:∀ z,(M z).isSome=true→z∈[q,y])(hn:q<nm)(hny:y<nm) :
  Ev cx 179 nm [.ptr q 0 0] M (.tup []) [(q,some (bK true q (.own y 0 n))),(y,some (rK bs))]:=by
 have yz:(y=q)=False:=eq_false (fun h=>hqy h.symm)
 have zy:(q=y)=False:=eq_false hqy
 cases used with
 | false =>
  refine ay rfl (fun cargs w=>call179 cargs w) func179 rfl mixed (by kernel_rfl) rfl ?_;intro b0 hb0
  have lq:q<b0:=av hb0 (by rw[hq];rfl)
  have ly:y<b0:=av hb0 (by rw[hy];rfl)
  have y0:=aS ly;have y1:=aq ly;have y2:=aI ly;have y3:=aj ly
  have z0:=aS lq;have z1:=aq lq;have z2:=aI lq;have z3:=aj lq
  repeat' first|simp only[am,ah,results179,ntmps179,ap,jh,dW,dx,hq,hy,y0,y1,y2,y3,yz,zy,z0,z1,z2,z3,ag,seval,ae,TypeDesc.pointer.injEq,exists_eq_left']|exact rfl|refine aa (v:=.any) ?_|(first|(refine ac ?_ (oa (.ptr q 0 0) ao.nil _) ?_)|(refine ab ?_ (fun _=>oa (.ptr q 0 0) ao.nil _) ?_))|(refine nL (y:=?_) (sz:=?_) (row:=?_) (rows:=?_) (o:=?_) (te:=?_) ?_ ?_ ?_ ?_ ?_ ?_ ?_ ?_;rotate_left 6;(iterate 2 (focus (simp only[results179,ntmps179,ap,jh,dW,dx,hq,hy,y0,y1,y2,y3,yz,zy,z0,z1,z2,z3,ag,seval,ae,TypeDesc.pointer.injEq,exists_eq_left']<;>exact rfl)));(focus (exact rfl));(focus (omega));(iterate 2 (focus (simp only[results179,ntmps179,ap,jh,dW,dx,hq,hy,y0,y1,y2,y3,yz,zy,z0,z1,z2,z3,ag,seval,ae,TypeDesc.pointer.injEq,exists_eq_left']<;>exact rfl)));(focus (kernel_rfl)))|(refine bh ?_)|(refine ba ?_)|(refine lf (y:=?_) (sz:=?_) (row:=?_) (rows:=?_) (u:=?_) ?_ ?_ ?_ ?_ ?_ ?_ ?_ ?_;rotate_left 5;(iterate 2 (focus (simp only[results179,ntmps179,ap,jh,dW,dx,hq,hy,y0,y1,y2,y3,yz,zy,z0,z1,z2,z3,ag,seval,ae,TypeDesc.pointer.injEq,exists_eq_left']<;>exact rfl)));(focus (omega));(iterate 2 (focus (simp only[results179,ntmps179,ap,jh,dW,dx,hq,hy,y0,y1,y2,y3,yz,zy,z0,z1,z2,z3,ag,seval,ae,TypeDesc.pointer.injEq,exists_eq_left']<;>exact rfl)));(iterate 2 (focus (kernel_rfl))))|((first|apply Ca|apply Cb)<;>intro hb)|refine Ai (by omega) ?_|(apply Ai<;>intro hb)
  all_goals ((refine Fin.give [(q,none),(y,none)] [] ?_ ?_ ?_ ?_ ?_ (fun q hq=>by have hqq:=ho q hq;first|(simp only[aD,tgt,Lc,Lo,Lk,Ln,or_false]at hqq ⊢;omega)|(simp only[aD,tgt,Lc,Lo,Lk,Ln,or_false]at hqq))<;>(try simp only[results179,ntmps179,ap,rK,eZ,dD,ite_self,Bool.false_and,Bool.false_eq_true,if_false,dW,dx,hq,hy,y0,y1,y2,y3,yz,zy,z0,z1,z2,z3,ec,ag,seval,ae,TypeDesc.pointer.injEq,exists_eq_left'])<;>(try simp only[au])<;>(try omega)))
 | true =>
  refine ay rfl (fun cargs w=>call179 cargs w) func179 rfl mixed (by kernel_rfl) rfl ?_;intro b0 hb0
  have lq:q<b0:=av hb0 (by rw[hq];rfl)
  have ly:y<b0:=av hb0 (by rw[hy];rfl)
  have y0:=aS ly;have y1:=aq ly;have y2:=aI ly;have y3:=aj ly
  have z0:=aS lq;have z1:=aq lq;have z2:=aI lq;have z3:=aj lq
  repeat' first|simp only[am,ah,results179,ntmps179,ap,jh,dW,dx,hq,hy,y0,y1,y2,y3,yz,zy,z0,z1,z2,z3,ag,seval,ae,TypeDesc.pointer.injEq,exists_eq_left']|exact rfl|refine aa (v:=.any) ?_|((first|apply Ca|apply Cb)<;>intro hb)|refine Ai (by omega) ?_|(apply Ai<;>intro hb)
  all_goals ((refine Fin.give [(q,none),(y,none)] [] ?_ ?_ ?_ ?_ ?_ (fun q hq=>by have hqq:=ho q hq;first|(simp only[aD,tgt,Lc,Lo,Lk,Ln,or_false]at hqq ⊢;omega)|(simp only[aD,tgt,Lc,Lo,Lk,Ln,or_false]at hqq))<;>(try simp only[results179,ntmps179,ap,rK,eZ,dD,ite_self,Bool.false_and,Bool.false_eq_true,if_false,dW,dx,hq,hy,y0,y1,y2,y3,yz,zy,z0,z1,z2,z3,ec,ag,seval,ae,TypeDesc.pointer.injEq,exists_eq_left'])<;>(try simp only[au])<;>(try omega)))
theorem Hn (used:Bool)(q y:Nat)(bs s:List UInt8)(hl:bs.length+s.length≤bk)(M:ao)(nm:Nat)(hqy:q≠y)(hq:M q=some (bK used q (.own y 0 bs.length)))(hy:M y=some (rK bs))(ho:∀ z,(M z).isSome=true→z∈[q,y])(hn:q<nm)(hny:y<nm) :
  Ev cx 167 nm [.ptr q 0 0,.str s] M (.tup [.int .i64 s.length,.val .nilIface]) [(y,none),(q,some (bK true q (.own nm 0 (bs.length+s.length)))),(nm,some (rK (bs++s)))]:=by
 unfold bk at hl
 have yz:(y=q)=False:=eq_false (fun h=>hqy h.symm)
 have zy:(q=y)=False:=eq_false hqy
 refine ay rfl (fun cargs w=>call167 cargs w) func167 rfl mixed (by kernel_rfl) rfl ?_;intro b0 hb0
 have lq:q<b0:=av hb0 (by rw[hq];rfl)
 have ly:y<b0:=av hb0 (by rw[hy];rfl)
 have y0:=aS ly;have y1:=aq ly;have y2:=aI ly;have y3:=aj ly
 have z0:=aS lq;have z1:=aq lq;have z2:=aI lq;have z3:=aj lq
 repeat' first|simp only[am,ah,results167,ntmps167,ap,dW,hq,z0,z1,z2,z3,ag,seval,ae,TypeDesc.pointer.injEq,exists_eq_left']|exact rfl|refine aa (v:=.any) ?_|((first|apply Ca|apply Cb)<;>intro hb)|refine Ai (by omega) ?_|(apply Ai<;>intro hb)
 refine ad ?_ [q,y] (rj used q y bs.length bs _ _ hqy ?_ ?_ ak (by omega) (by omega)) ?_ ?_
 ·simp only[ag,seval,ae,TypeDesc.pointer.injEq,exists_eq_left']
 ·simp only[od,Lk,Ln,true_or,or_true,hq,hy,yz,zy,ag,seval,ae,TypeDesc.pointer.injEq,exists_eq_left']
 ·simp only[od,Lk,Ln,true_or,or_true,hq,hy,yz,zy,ag,seval,ae,TypeDesc.pointer.injEq,exists_eq_left']
 ·simp only[Lk,Ln,forall_eq,forall_eq_or_imp,true_or,or_true,hq,hy,yz,zy,ag,seval,ae,TypeDesc.pointer.injEq,exists_eq_left']
 repeat' first|simp only[am,ah,results167,ntmps167,ap,rK,dW,hq,hy,yz,zy,y0,y1,y2,y3,z0,z1,z2,z3,J2,GB,Lm,List.take_of_length_le,Nat.le_refl,List.map_append.symm,ag,seval,ae,TypeDesc.pointer.injEq,exists_eq_left']|exact rfl|refine aa (v:=.any) ?_|((first|apply Ca|apply Cb)<;>intro hb)|refine Ai (by omega) ?_|(apply Ai<;>intro hb)
 all_goals ((refine Fin.give [(q,none),(b0+160,some 0)] [y] ?_ ?_ ?_ ?_ ?_ (fun q hq=>by have hqq:=ho q hq;first|(simp only[aD,tgt,Lc,Lo,Lk,Ln,or_false]at hqq ⊢;omega)|(simp only[aD,tgt,Lc,Lo,Lk,Ln,or_false]at hqq))<;>(try simp only[results167,ntmps167,ap,rK,Option.bind_some,eZ,dD,ite_self,Bool.false_and,Bool.false_eq_true,if_false,dW,hq,hy,yz,zy,y0,y1,y2,y3,z0,z1,z2,z3,aP,ec,ag,seval,ae,TypeDesc.pointer.injEq,exists_eq_left'])<;>(try simp only[au])<;>(try omega)))
theorem EH (used:Bool)(q y:Nat)(bs:List UInt8)(c:UInt8)(hl:bs.length+1≤bk)(M:ao)(nm:Nat)(hqy:q≠y)(hq:M q=some (bK used q (.own y 0 bs.length)))(hy:M y=some (rK bs))(ho:∀ z,(M z).isSome=true→z∈[q,y])(hn:q<nm)(hny:y<nm) :
  Ev cx 170 nm [.ptr q 0 0,.int .u8 c.toNat] M (.val .nilIface) [(y,none),(q,some (bK true q (.own nm 0 (bs.length+1)))),(nm,some (rK (bs++[c])))]:=by
 unfold bk at hl
 have yz:(y=q)=False:=eq_false (fun h=>hqy h.symm)
 have zy:(q=y)=False:=eq_false hqy
 refine ay rfl (fun cargs w=>call170 cargs w) func170 rfl mixed (by kernel_rfl) rfl ?_;intro b0 hb0
 have lq:q<b0:=av hb0 (by rw[hq];rfl)
 have ly:y<b0:=av hb0 (by rw[hy];rfl)
 have y0:=aS ly;have y1:=aq ly;have y2:=aI ly;have y3:=aj ly
 have z0:=aS lq;have z1:=aq lq;have z2:=aI lq;have z3:=aj lq
 repeat' first|simp only[am,ah,results170,ntmps170,ap,dW,hq,z0,z1,z2,z3,ag,seval,ae,TypeDesc.pointer.injEq,exists_eq_left']|exact rfl|refine aa (v:=.any) ?_|((first|apply Ca|apply Cb)<;>intro hb)|refine Ai (by omega) ?_|(apply Ai<;>intro hb)
 refine ad ?_ [q,y] (rj used q y bs.length bs _ _ hqy ?_ ?_ ak (by omega) (by omega)) ?_ ?_
 ·simp only[ag,seval,ae,TypeDesc.pointer.injEq,exists_eq_left']
 ·simp only[od,Lk,Ln,true_or,or_true,hq,hy,yz,zy,ag,seval,ae,TypeDesc.pointer.injEq,exists_eq_left']
 ·simp only[od,Lk,Ln,true_or,or_true,hq,hy,yz,zy,ag,seval,ae,TypeDesc.pointer.injEq,exists_eq_left']
 ·simp only[Lk,Ln,forall_eq,forall_eq_or_imp,true_or,or_true,hq,hy,yz,zy,ag,seval,ae,TypeDesc.pointer.injEq,exists_eq_left']
 repeat' first|simp only[am,ah,results170,ntmps170,ap,rK,dW,hq,hy,yz,zy,y0,y1,y2,y3,z0,z1,z2,z3,J2,GB,Lm,List.take_of_length_le,Nat.le_refl,ag,seval,ae,TypeDesc.pointer.injEq,exists_eq_left']|exact rfl|refine aa (v:=.any) ?_|((first|apply Ca|apply Cb)<;>intro hb)|refine Ai (by omega) ?_|(apply Ai<;>intro hb)
 all_goals ((refine Fin.give [(q,none),(b0+160,some 0)] [y] ?_ ?_ ?_ ?_ ?_ (fun q hq=>by have hqq:=ho q hq;first|(simp only[aD,tgt,Lc,Lo,Lk,Ln,or_false]at hqq ⊢;omega)|(simp only[aD,tgt,Lc,Lo,Lk,Ln,or_false]at hqq))<;>(try simp only[results170,ntmps170,ap,rK,GS,AK,aN,List.map_append,Lc,Lo,Option.bind_some,eZ,dD,ite_self,Bool.false_and,Bool.false_eq_true,if_false,dW,hq,hy,yz,zy,y0,y1,y2,y3,z0,z1,z2,z3,aP,ec,ag,seval,ae,TypeDesc.pointer.injEq,exists_eq_left'])<;>(try simp only[au])<;>(try omega)))
theorem E1 (used:Bool)(q y:Nat)(bs:List UInt8)(hb:bs≠[])(hl:bs.length≤bk)(M:ao)(nm:Nat)(hqy:q≠y)(hq:M q=some (bK used q (.own y 0 bs.length)))(hy:M y=some (rK bs))(ho:∀ z,(M z).isSome=true→z∈[q,y])(hn:q<nm)(hny:y<nm) :
  Ev cx 171 nm [.ptr q 0 0] M (.str bs) [(q,none),(y,none)]:=by
 unfold bk at hl
 have hp:0<bs.length:=List.length_pos_iff.2 hb
 have yz:(y=q)=False:=eq_false (fun h=>hqy h.symm)
 have zy:(q=y)=False:=eq_false hqy
 refine ay rfl (fun cargs w=>call171 cargs w) func171 rfl mixed (by kernel_rfl) rfl ?_;intro b0 hb0
 have lq:q<b0:=av hb0 (by rw[hq];rfl)
 have ly:y<b0:=av hb0 (by rw[hy];rfl)
 have y0:=aS ly;have y1:=aq ly;have y2:=aI ly;have y3:=aj ly
 have z0:=aS lq;have z1:=aq lq;have z2:=aI lq;have z3:=aj lq
 cases used<;>(repeat' first|simp only[am,ah,results171,ntmps171,ap,rK,dW,dx,hq,hy,yz,zy,y0,y1,y2,y3,z0,z1,z2,z3,hb,ne_eq,not_false_eq_true,ag,seval,ae,TypeDesc.pointer.injEq,exists_eq_left']|exact rfl|refine aa (v:=.any) ?_|(refine tf (y:=?_) (n:=?_) rfl ?_ ?_ ?_;rotate_left 2;(focus (simp only[results171,ntmps171,ap,rK,dW,dx,hq,hy,yz,zy,y0,y1,y2,y3,z0,z1,z2,z3,hb,ne_eq,not_false_eq_true,ag,seval,ae,TypeDesc.pointer.injEq,exists_eq_left']<;>exact rfl));(focus (first|omega|(simp only[results171,ntmps171,ap,rK,dW,dx,hq,hy,yz,zy,y0,y1,y2,y3,z0,z1,z2,z3,hb,ne_eq,not_false_eq_true,ag,seval,ae,TypeDesc.pointer.injEq,exists_eq_left']<;>omega))))|(refine bh ?_)|(refine ba ?_)|(refine oG (y:=?_) (bs:=?_) (u:=?_) rfl ?_ ?_ ?_ ?_ ?_ ?_ ?_ ?_;rotate_left 3;(iterate 3 (focus (simp only[results171,ntmps171,ap,rK,dW,dx,hq,hy,yz,zy,y0,y1,y2,y3,z0,z1,z2,z3,hb,ne_eq,not_false_eq_true,ag,seval,ae,TypeDesc.pointer.injEq,exists_eq_left']<;>exact rfl)));(focus (first|assumption|(simp only[results171,ntmps171,ap,rK,dW,dx,hq,hy,yz,zy,y0,y1,y2,y3,z0,z1,z2,z3,hb,ne_eq,not_false_eq_true,ag,seval,ae,TypeDesc.pointer.injEq,exists_eq_left'];done)));(focus (first|omega|(simp only[results171,ntmps171,ap,rK,dW,dx,hq,hy,yz,zy,y0,y1,y2,y3,z0,z1,z2,z3,hb,ne_eq,not_false_eq_true,ag,seval,ae,TypeDesc.pointer.injEq,exists_eq_left']<;>omega)));(focus (simp only[results171,ntmps171,ap,rK,dW,dx,hq,hy,yz,zy,y0,y1,y2,y3,z0,z1,z2,z3,hb,ne_eq,not_false_eq_true,ag,seval,ae,TypeDesc.pointer.injEq,exists_eq_left']<;>exact rfl));(focus (kernel_rfl)))|refine bg (ps:=[(4,8)]) (by decide +kernel) (by simp only[List.forall_mem_cons,List.getD_cons_zero,List.getD_cons_succ,results171,ntmps171,ap,rK,dW,dx,hq,hy,yz,zy,y0,y1,y2,y3,z0,z1,z2,z3,hb,ne_eq,not_false_eq_true,ag,seval,ae,TypeDesc.pointer.injEq,exists_eq_left']<;>(try simp)<;>(try omega)) ?_|refine aG (by decide +kernel) ?_|((first|apply Ca|apply Cb)<;>intro hb)|refine Ai (by omega) ?_|(apply Ai<;>intro hb))
 all_goals ((refine Fin.give [] [q,y] ?_ ?_ ?_ ?_ ?_ (fun q hq=>by have hqq:=ho q hq;first|(simp only[aD,tgt,Lc,Lo,Lk,Ln,or_false]at hqq ⊢;omega)|(simp only[aD,tgt,Lc,Lo,Lk,Ln,or_false]at hqq))<;>(try simp only[results171,ntmps171,ap,rK,ite_self,Bool.false_and,Bool.false_eq_true,if_false,dW,dx,hq,hy,yz,zy,y0,y1,y2,y3,z0,z1,z2,z3,aP,ec,ag,seval,ae,TypeDesc.pointer.injEq,exists_eq_left'])<;>(try simp only[au])<;>(try omega)))
theorem AM (σ:List (Nat×Nat))(bs:List UInt8):Blk.ren σ (rK bs)=rK bs:=eZ σ bs _
theorem sA (σ:List (Nat×Nat))(bs:List UInt8):Blk.renOk σ (rK bs)=true:=dD σ bs _
theorem LF {l:List Nat} : ∀ z,((ao.nil:ao) z).isSome=true→z∈l:=fun z h=>by cases h
section
variable (u:Bool) (q y:Nat) (bs:List UInt8) (M:ao) (nm:Nat)
end
end Go.Proofs.YtcllbjanalhjgaaGreatDoor
