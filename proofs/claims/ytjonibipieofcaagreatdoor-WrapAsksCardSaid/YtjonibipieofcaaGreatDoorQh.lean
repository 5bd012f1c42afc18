/-
 Texts joined: XEb,XEf,XEg.
-/
import Derived.Test.YtjonibipieofcaaGreatDoorQg
set_option linter.all false
namespace Go.Proofs.YtjonibipieofcaaGreatDoor
set_option maxRecDepth 100000
set_option maxHeartbeats 32000000
open Go Go.RowKit Vm Go.Lib Tryz
open Vm renaming aI->Ca,aP->Cb
open And renaming intro->Ai
open List renaming length_map->Lm,not_mem_nil->Ln,map_nil->Lo,map_cons->Lc,mem_cons->Lk
open Bool renaming not_false->Bf,not_true->Bt
def oN (v:V)(M:ao)(nm:Nat):Ev cx 172 nm [v] M v [] :=
 Ev.noEscape func172 (by kernel_rfl) (by kernel_rfl) (by kernel_rfl) (by kernel_rfl) v M nm
def aA (n:Nat):cm n n=True:=eq_true ⟨Nat.le_refl _,by omega⟩
def bK (used:Bool)(q:Nat)(c:V):Blk:=if used then ⟨2,[[.ptr q 0 0,c]]⟩ else @Blk.mk 2 [[.nilp,c]] (.typed 165)
def df (q:Nat)(c:V):bK true q c=⟨2,[[.ptr q 0 0,c]]⟩:=rfl
def eF (q:Nat)(c:V):bK false q c = @Blk.mk 2 [[.nilp,c]] (.typed 165):=rfl
def jm:(cx.P.info? 165).isSome=true:=by kernel_rfl
def rQ (used:Bool)(q:Nat)(M:ao)(nm:Nat)(hq:M q=some (bK used q .nils))(ho:∀ z,(M z).isSome=true->z∈[q])(hn:q<nm) :
  Ev cx 159 nm [.ptr q 0 0] M (.tup []) [(q,some (bK true q .nils))]:=by
 cases used with
 | false =>
  refine aX call159 func159 ?_;intro b0 hb0;have zF:=Ai results159 ntmps159
  have lq:=bp hb0 hq
  have z0:=bB lq
  repeat' first|simp only[au,ap,zF,am,jm,df,eF,hq,z0,aj,ai,TypeDesc.pointer.injEq,exists_eq_left',seval]|exact rfl|refine aa (v:=.any) ?_|(first|(refine ah ?_ (oN (.ptr q 0 0) ao.nil _) ?_)|(refine ac ?_ (fun _=>oN (.ptr q 0 0) ao.nil _) ?_))|(refine oh (y:=?_) (sz:=?_) (row:=?_) (rows:=?_) (o:=?_) (te:=?_) ?_ ?_ ?_ ?_ ?_ ?_ ?_ ?_;rotate_left 6;(iterate 2 (focus (simp only[zF,am,jm,df,eF,hq,z0,aj,ai,TypeDesc.pointer.injEq,exists_eq_left',seval]<;>exact rfl)));(focus (exact rfl));(focus (omega));(iterate 2 (focus (simp only[zF,am,jm,df,eF,hq,z0,aj,ai,TypeDesc.pointer.injEq,exists_eq_left',seval]<;>exact rfl)));(focus (kernel_rfl)))|(refine bo ?_)|(refine bc ?_)|(refine lD (y:=?_) (sz:=?_) (row:=?_) (rows:=?_) (u:=?_) ?_ ?_ ?_ ?_ ?_ ?_ ?_ ?_;rotate_left 5;(iterate 2 (focus (simp only[zF,am,jm,df,eF,hq,z0,aj,ai,TypeDesc.pointer.injEq,exists_eq_left',seval]<;>exact rfl)));(focus (omega));(iterate 2 (focus (simp only[zF,am,jm,df,eF,hq,z0,aj,ai,TypeDesc.pointer.injEq,exists_eq_left',seval]<;>exact rfl)));(iterate 2 (focus (kernel_rfl))))|((first|apply Ca|apply Cb)<;>intro hb)|refine Ai (by omega) ?_|(apply Ai<;>intro hb)
  all_goals ((refine Fin.give [(q,none)] [] ?_ ?_ ?_ ?_ ?_ (bA ho (by simp[bt,tgt]))<;>(try simp only[zF,am,jm,df,eF,hq,z0,jK,aj,ai,TypeDesc.pointer.injEq,exists_eq_left',seval])<;>(try simp only[aq])<;>(try omega)))
 | true =>
  refine aX call159 func159 ?_;intro b0 hb0;have zF:=Ai results159 ntmps159
  have lq:=bp hb0 hq
  have z0:=bB lq
  repeat' first|simp only[au,ap,zF,am,jm,df,eF,hq,z0,aj,ai,TypeDesc.pointer.injEq,exists_eq_left',seval]|exact rfl|refine aa (v:=.any) ?_|((first|apply Ca|apply Cb)<;>intro hb)|refine Ai (by omega) ?_|(apply Ai<;>intro hb)
  all_goals ((refine Fin.give [(q,none)] [] ?_ ?_ ?_ ?_ ?_ (bA ho (by simp[bt,tgt]))<;>(try simp only[zF,am,jm,df,eF,hq,z0,jK,aj,ai,TypeDesc.pointer.injEq,exists_eq_left',seval])<;>(try simp only[aq])<;>(try omega)))
def fQ (σ:List (Nat×Nat))(bs:List UInt8)(t:TypeId):Blk.ren σ (@Blk.mk 1 (bs.map aL) (.typed t)) = @Blk.mk 1 (bs.map aL) (.typed t):=by
 have h:plainLL (bs.map aL)=true:=ce _ (fun _=>rfl) bs
 simp only[Blk.ren,hU,h,if_true]
def dV (σ:List (Nat×Nat))(bs:List UInt8)(t:TypeId):Blk.renOk σ (@Blk.mk 1 (bs.map aL) (.typed t))=true:=by
 have h:plainLL (bs.map aL)=true:=ce _ (fun _=>rfl) bs
 simp only[Blk.renOk,fp,h,Bool.true_or,Bool.true_and]
 rfl
def Hs (σ:List (Nat×Nat))(c:UInt8)(bs:List UInt8)(t:TypeId):Blk.ren σ (@Blk.mk 1 (aL c::bs.map aL) (.typed t)) = @Blk.mk 1 (aL c::bs.map aL) (.typed t):=fQ σ (c::bs) t
def Bc (σ:List (Nat×Nat))(c:UInt8)(bs:List UInt8)(t:TypeId):Blk.renOk σ (@Blk.mk 1 (aL c::bs.map aL) (.typed t))=true:=dV σ (c::bs) t
def Hv (σ:List (Nat×Nat))(c:UInt8)(bs:List UInt8)(t:TypeId):Blk.ren σ (@Blk.mk 1 (bs.map aL++[[.int .u8 c.toNat]]) (.typed t)) = @Blk.mk 1 (bs.map aL++[[.int .u8 c.toNat]]) (.typed t):=by
 have:=fQ σ (bs++[c]) t
 rwa[List.map_append]at this
def Be (σ:List (Nat×Nat))(c:UInt8)(bs:List UInt8)(t:TypeId):Blk.renOk σ (@Blk.mk 1 (bs.map aL++[[.int .u8 c.toNat]]) (.typed t))=true:=by
 have:=dV σ (bs++[c]) t
 rwa[List.map_append]at this
def jr (σ:List (Nat×Nat))(s:Nat)(rows:List (List V))(t:TypeId):Blk.ren σ (@Blk.mk s rows (.typed t)) = @Blk.mk s (hU σ rows) (.typed t):=rfl
def fP (σ:List (Nat×Nat))(s:Nat)(rows:List (List V))(t:TypeId):Blk.renOk σ (@Blk.mk s rows (.typed t))=fp σ rows:=by
 simp only[Blk.renOk,Ob.renOk,Bool.and_true]
def lV (bs:List UInt8):plainLL (bs.map aL)=true:=ce _ (fun _=>rfl) bs
def G5 (c:UInt8):(aL c).all V.one=true:=rfl
def AQ (bs:List UInt8):((bs.map aL).all fun r=>r.all V.one)=true:=by
 rw[List.all_eq_true]
 intro r hr
 obtain⟨c,_,rfl⟩:=List.mem_map.1 hr
 rfl
def rK (bs:List UInt8):Blk:=@Blk.mk 1 (bs.map aL) (.typed 5)
def xD (used:Bool)(q y n:Nat)(bs:List UInt8)(M:ao)(nm:Nat)(hqy:q≠y)(hq:M q=some (bK used q (.own y 0 n)))(hy:M y=some (rK bs))(ho:∀ z,(M z).isSome=true->z∈[q,y])(hn:q<nm)(hny:y<nm) :
  Ev cx 159 nm [.ptr q 0 0] M (.tup []) [(q,some (bK true q (.own y 0 n))),(y,some (rK bs))]:=by
 have yz:(y=q)=False:=eq_false (fun h=>hqy h.symm)
 have zy:(q=y)=False:=eq_false hqy
 cases used with
 | false =>
  refine aX call159 func159 ?_;intro b0 hb0;have zF:=Ai results159 ntmps159
  have lq:=bp hb0 hq
  have ly:=bp hb0 hy
  have y0:=bB ly
  have z0:=bB lq
  repeat' first|simp only[au,ap,zF,am,jm,df,eF,hq,hy,y0,yz,zy,z0,aj,ai,TypeDesc.pointer.injEq,exists_eq_left',seval]|exact rfl|refine aa (v:=.any) ?_|(first|(refine ah ?_ (oN (.ptr q 0 0) ao.nil _) ?_)|(refine ac ?_ (fun _=>oN (.ptr q 0 0) ao.nil _) ?_))|(refine oh (y:=?_) (sz:=?_) (row:=?_) (rows:=?_) (o:=?_) (te:=?_) ?_ ?_ ?_ ?_ ?_ ?_ ?_ ?_;rotate_left 6;(iterate 2 (focus (simp only[zF,am,jm,df,eF,hq,hy,y0,yz,zy,z0,aj,ai,TypeDesc.pointer.injEq,exists_eq_left',seval]<;>exact rfl)));(focus (exact rfl));(focus (omega));(iterate 2 (focus (simp only[zF,am,jm,df,eF,hq,hy,y0,yz,zy,z0,aj,ai,TypeDesc.pointer.injEq,exists_eq_left',seval]<;>exact rfl)));(focus (kernel_rfl)))|(refine bo ?_)|(refine bc ?_)|(refine lD (y:=?_) (sz:=?_) (row:=?_) (rows:=?_) (u:=?_) ?_ ?_ ?_ ?_ ?_ ?_ ?_ ?_;rotate_left 5;(iterate 2 (focus (simp only[zF,am,jm,df,eF,hq,hy,y0,yz,zy,z0,aj,ai,TypeDesc.pointer.injEq,exists_eq_left',seval]<;>exact rfl)));(focus (omega));(iterate 2 (focus (simp only[zF,am,jm,df,eF,hq,hy,y0,yz,zy,z0,aj,ai,TypeDesc.pointer.injEq,exists_eq_left',seval]<;>exact rfl)));(iterate 2 (focus (kernel_rfl))))|((first|apply Ca|apply Cb)<;>intro hb)|refine Ai (by omega) ?_|(apply Ai<;>intro hb)
  all_goals ((refine Fin.give [(q,none),(y,none)] [] ?_ ?_ ?_ ?_ ?_ (bA ho (by simp[bt,tgt]))<;>(try simp only[zF,am,rK,fQ,dV,ite_self,Bool.false_and,Bool.false_eq_true,if_false,df,eF,hq,hy,y0,yz,zy,z0,jK,aj,ai,TypeDesc.pointer.injEq,exists_eq_left',seval])<;>(try simp only[aq])<;>(try omega)))
 | true =>
  refine aX call159 func159 ?_;intro b0 hb0;have zF:=Ai results159 ntmps159
  have lq:=bp hb0 hq
  have ly:=bp hb0 hy
  have y0:=bB ly
  have z0:=bB lq
  repeat' first|simp only[au,ap,zF,am,jm,df,eF,hq,hy,y0,yz,zy,z0,aj,ai,TypeDesc.pointer.injEq,exists_eq_left',seval]|exact rfl|refine aa (v:=.any) ?_|((first|apply Ca|apply Cb)<;>intro hb)|refine Ai (by omega) ?_|(apply Ai<;>intro hb)
  all_goals ((refine Fin.give [(q,none),(y,none)] [] ?_ ?_ ?_ ?_ ?_ (bA ho (by simp[bt,tgt]))<;>(try simp only[zF,am,rK,fQ,dV,ite_self,Bool.false_and,Bool.false_eq_true,if_false,df,eF,hq,hy,y0,yz,zy,z0,jK,aj,ai,TypeDesc.pointer.injEq,exists_eq_left',seval])<;>(try simp only[aq])<;>(try omega)))
def zq (used:Bool)(q:Nat)(s:List UInt8)(hs:s≠[])(hl:s.length<=aT)(M:ao)(nm:Nat)(hq:M q=some (bK used q .nils))(ho:∀ z,(M z).isSome=true->z∈[q])(hn:q<nm) :
  Ev cx 134 nm [.ptr q 0 0,.str s] M (.tup [.int .i64 s.length,.val .nilIface]) [(q,some (bK true q (.own nm 0 s.length))),(nm,some (rK s))]:=by
 unfold aT at hl
 refine aX call134 func134 ?_;intro b0 hb0
 have lq:=bp hb0 hq
 have z0:=bB lq
 obtain⟨c,s,rfl⟩:=List.exists_cons_of_ne_nil hs
 repeat' first|simp only[au,ap,results134,ntmps134,am,df,hq,z0,aj,ai,TypeDesc.pointer.injEq,exists_eq_left',seval]|exact rfl|refine aa (v:=.any) ?_|(refine aB ?_ [[q]] (rQ used q _ _ ?_ aN (by omega)) ?_ ?_)|((first|apply Ca|apply Cb)<;>intro hb)|refine Ai (by omega) ?_|(apply Ai<;>intro hb)
 refine aB ?_ [q] (rQ used q _ _ ?_ aN (by omega)) ?_ ?_
 ·simp only[aj,ai,TypeDesc.pointer.injEq,exists_eq_left',seval]
 ·simp only[kB,Lk,Ln,hq,aj,ai,TypeDesc.pointer.injEq,exists_eq_left',seval]
 ·simp only[Lk,Ln,forall_eq,forall_eq_or_imp,hq,aj,ai,TypeDesc.pointer.injEq,exists_eq_left',seval]
 simp only[List.length_cons]at hl
 repeat' first|simp only[au,ap,results134,ntmps134,am,df,hq,z0,G5,AQ,Lm,aj,ai,TypeDesc.pointer.injEq,exists_eq_left',seval]|exact rfl|refine aa (v:=.any) ?_|((first|apply Ca|apply Cb)<;>intro hb)|refine Ai (by omega) ?_|(apply Ai<;>intro hb)
 all_goals ((refine Fin.give [(q,none),(b0+160,some 0)] [] ?_ ?_ ?_ ?_ ?_ (bA ho (by simp[bt,tgt]))<;>(try simp only[results134,ntmps134,am,rK,Hs,Bc,fQ,dV,ite_self,Bool.false_and,Bool.false_eq_true,if_false,df,hq,z0,aA,jK,aj,ai,TypeDesc.pointer.injEq,exists_eq_left',seval])<;>(try simp only[aq])<;>(try omega)))
def Ia (used:Bool)(q y:Nat)(bs s:List UInt8)(hl:bs.length+s.length<=aT)(M:ao)(nm:Nat)(hqy:q≠y)(hq:M q=some (bK used q (.own y 0 bs.length)))(hy:M y=some (rK bs))(ho:∀ z,(M z).isSome=true->z∈[q,y])(hn:q<nm)(hny:y<nm) :
  Ev cx 134 nm [.ptr q 0 0,.str s] M (.tup [.int .i64 s.length,.val .nilIface]) [(y,none),(q,some (bK true q (.own nm 0 (bs.length+s.length)))),(nm,some (rK (bs++s)))]:=by
 unfold aT at hl
 have yz:(y=q)=False:=eq_false (fun h=>hqy h.symm)
 have zy:(q=y)=False:=eq_false hqy
 refine aX call134 func134 ?_;intro b0 hb0
 have lq:=bp hb0 hq
 have ly:=bp hb0 hy
 have y0:=bB ly
 have z0:=bB lq
 repeat' first|simp only[au,ap,results134,ntmps134,am,df,hq,z0,aj,ai,TypeDesc.pointer.injEq,exists_eq_left',seval]|exact rfl|refine aa (v:=.any) ?_|((first|apply Ca|apply Cb)<;>intro hb)|refine Ai (by omega) ?_|(apply Ai<;>intro hb)
 refine aB ?_ [q,y] (xD used q y bs.length bs _ _ hqy ?_ ?_ aN (by omega) (by omega)) ?_ ?_
 ·simp only[aj,ai,TypeDesc.pointer.injEq,exists_eq_left',seval]
 ·simp only[kB,Lk,Ln,true_or,or_true,hq,hy,yz,zy,aj,ai,TypeDesc.pointer.injEq,exists_eq_left',seval]
 ·simp only[kB,Lk,Ln,true_or,or_true,hq,hy,yz,zy,aj,ai,TypeDesc.pointer.injEq,exists_eq_left',seval]
 ·simp only[Lk,Ln,forall_eq,forall_eq_or_imp,true_or,or_true,hq,hy,yz,zy,aj,ai,TypeDesc.pointer.injEq,exists_eq_left',seval]
 repeat' first|simp only[au,ap,results134,ntmps134,am,rK,df,hq,hy,yz,zy,y0,z0,G5,AQ,Lm,List.take_of_length_le,Nat.le_refl,List.map_append.symm,aj,ai,TypeDesc.pointer.injEq,exists_eq_left',seval]|exact rfl|refine aa (v:=.any) ?_|((first|apply Ca|apply Cb)<;>intro hb)|refine Ai (by omega) ?_|(apply Ai<;>intro hb)
 all_goals ((refine Fin.give [(q,none),(b0+160,some 0)] [y] ?_ ?_ ?_ ?_ ?_ (bA ho (by simp[bt,tgt]))<;>(try simp only[results134,ntmps134,am,rK,Option.bind_some,fQ,dV,ite_self,Bool.false_and,Bool.false_eq_true,if_false,df,hq,hy,yz,zy,y0,z0,aA,jK,aj,ai,TypeDesc.pointer.injEq,exists_eq_left',seval])<;>(try simp only[aq])<;>(try omega)))
def E5 (used:Bool)(q y:Nat)(bs:List UInt8)(c:UInt8)(hl:bs.length+1<=aT)(M:ao)(nm:Nat)(hqy:q≠y)(hq:M q=some (bK used q (.own y 0 bs.length)))(hy:M y=some (rK bs))(ho:∀ z,(M z).isSome=true->z∈[q,y])(hn:q<nm)(hny:y<nm) :
  Ev cx 161 nm [.ptr q 0 0,.int .u8 c.toNat] M (.val .nilIface) [(y,none),(q,some (bK true q (.own nm 0 (bs.length+1)))),(nm,some (rK (bs++[c])))]:=by
 unfold aT at hl
 have yz:(y=q)=False:=eq_false (fun h=>hqy h.symm)
 have zy:(q=y)=False:=eq_false hqy
 refine aX call161 func161 ?_;intro b0 hb0
 have lq:=bp hb0 hq
 have ly:=bp hb0 hy
 have y0:=bB ly
 have z0:=bB lq
 repeat' first|simp only[au,ap,results161,ntmps161,am,df,hq,z0,aj,ai,TypeDesc.pointer.injEq,exists_eq_left',seval]|exact rfl|refine aa (v:=.any) ?_|((first|apply Ca|apply Cb)<;>intro hb)|refine Ai (by omega) ?_|(apply Ai<;>intro hb)
 refine aB ?_ [q,y] (xD used q y bs.length bs _ _ hqy ?_ ?_ aN (by omega) (by omega)) ?_ ?_
 ·simp only[aj,ai,TypeDesc.pointer.injEq,exists_eq_left',seval]
 ·simp only[kB,Lk,Ln,true_or,or_true,hq,hy,yz,zy,aj,ai,TypeDesc.pointer.injEq,exists_eq_left',seval]
 ·simp only[kB,Lk,Ln,true_or,or_true,hq,hy,yz,zy,aj,ai,TypeDesc.pointer.injEq,exists_eq_left',seval]
 ·simp only[Lk,Ln,forall_eq,forall_eq_or_imp,true_or,or_true,hq,hy,yz,zy,aj,ai,TypeDesc.pointer.injEq,exists_eq_left',seval]
 repeat' first|simp only[au,ap,results161,ntmps161,am,rK,df,hq,hy,yz,zy,y0,z0,G5,AQ,Lm,List.take_of_length_le,Nat.le_refl,aj,ai,TypeDesc.pointer.injEq,exists_eq_left',seval]|exact rfl|refine aa (v:=.any) ?_|((first|apply Ca|apply Cb)<;>intro hb)|refine Ai (by omega) ?_|(apply Ai<;>intro hb)
 all_goals ((refine Fin.give [(q,none),(b0+160,some 0)] [y] ?_ ?_ ?_ ?_ ?_ (bA ho (by simp[bt,tgt]))<;>(try simp only[results161,ntmps161,am,rK,Hv,Be,aL,List.map_append,Lc,Lo,Option.bind_some,fQ,dV,ite_self,Bool.false_and,Bool.false_eq_true,if_false,df,hq,hy,yz,zy,y0,z0,aA,jK,aj,ai,TypeDesc.pointer.injEq,exists_eq_left',seval])<;>(try simp only[aq])<;>(try omega)))
def Fs (used:Bool)(q y:Nat)(bs:List UInt8)(M:ao)(nm:Nat)(hqy:q≠y)(hq:M q=some (bK used q (.own y 0 bs.length)))(hy:M y=some (rK bs))(ho:∀ z,(M z).isSome=true->z∈[q,y])(hn:q<nm)(hny:y<nm) :
  Ev cx 136 nm [.ptr q 0 0] M (.int .i64 bs.length) [(q,some (bK used q (.own y 0 bs.length))),(y,some (rK bs))]:=by
 have yz:(y=q)=False:=eq_false (fun h=>hqy h.symm)
 have zy:(q=y)=False:=eq_false hqy
 refine aX call136 func136 ?_;intro b0 hb0
 have lq:=bp hb0 hq
 have ly:=bp hb0 hy
 have y0:=bB ly
 have z0:=bB lq
 cases used<;>(repeat' first|simp only[au,ap,results136,ntmps136,am,df,eF,hq,hy,yz,zy,y0,z0,aj,ai,TypeDesc.pointer.injEq,exists_eq_left',seval]|exact rfl|refine aa (v:=.any) ?_|((first|apply Ca|apply Cb)<;>intro hb)|refine Ai (by omega) ?_|(apply Ai<;>intro hb))
 all_goals ((refine Fin.give [(q,none),(y,none)] [] ?_ ?_ ?_ ?_ ?_ (bA ho (by simp[bt,tgt]))<;>(try simp only[results136,ntmps136,am,rK,jr,fP,lV,ite_self,Bool.false_and,Bool.false_eq_true,if_false,df,eF,hq,hy,yz,zy,y0,z0,aA,jK,aj,ai,TypeDesc.pointer.injEq,exists_eq_left',seval])<;>(try simp only[aq])<;>(try omega)))
def Fu (used:Bool)(q y:Nat)(bs:List UInt8)(hb:bs≠[])(hl:bs.length<=aT)(M:ao)(nm:Nat)(hqy:q≠y)(hq:M q=some (bK used q (.own y 0 bs.length)))(hy:M y=some (rK bs))(ho:∀ z,(M z).isSome=true->z∈[q,y])(hn:q<nm)(hny:y<nm) :
  Ev cx 137 nm [.ptr q 0 0] M (.str bs) [(q,none),(y,none)]:=by
 unfold aT at hl
 have hp:0<bs.length:=List.length_pos_iff.2 hb
 have yz:(y=q)=False:=eq_false (fun h=>hqy h.symm)
 have zy:(q=y)=False:=eq_false hqy
 refine aX call137 func137 ?_;intro b0 hb0;have zF:=Ai results137 ntmps137
 have lq:=bp hb0 hq
 have ly:=bp hb0 hy
 have y0:=bB ly
 have z0:=bB lq
 cases used<;>(repeat' first|simp only[au,ap,zF,am,rK,df,eF,hq,hy,yz,zy,y0,z0,hb,ne_eq,not_false_eq_true,aj,ai,TypeDesc.pointer.injEq,exists_eq_left',seval]|exact rfl|refine aa (v:=.any) ?_|(refine tU (y:=?_) (n:=?_) rfl ?_ ?_ ?_;rotate_left 2;(focus (simp only[zF,am,rK,df,eF,hq,hy,yz,zy,y0,z0,hb,ne_eq,not_false_eq_true,aj,ai,TypeDesc.pointer.injEq,exists_eq_left',seval]<;>exact rfl));(focus (first|omega|(simp only[zF,am,rK,df,eF,hq,hy,yz,zy,y0,z0,hb,ne_eq,not_false_eq_true,aj,ai,TypeDesc.pointer.injEq,exists_eq_left',seval]<;>omega))))|(refine bo ?_)|(refine bc ?_)|(refine py (y:=?_) (bs:=?_) (u:=?_) rfl ?_ ?_ ?_ ?_ ?_ ?_ ?_ ?_;rotate_left 3;(iterate 3 (focus (simp only[zF,am,rK,df,eF,hq,hy,yz,zy,y0,z0,hb,ne_eq,not_false_eq_true,aj,ai,TypeDesc.pointer.injEq,exists_eq_left',seval]<;>exact rfl)));(focus (first|assumption|(simp only[zF,am,rK,df,eF,hq,hy,yz,zy,y0,z0,hb,ne_eq,not_false_eq_true,aj,ai,TypeDesc.pointer.injEq,exists_eq_left',seval];done)));(focus (first|omega|(simp only[zF,am,rK,df,eF,hq,hy,yz,zy,y0,z0,hb,ne_eq,not_false_eq_true,aj,ai,TypeDesc.pointer.injEq,exists_eq_left',seval]<;>omega)));(focus (simp only[zF,am,rK,df,eF,hq,hy,yz,zy,y0,z0,hb,ne_eq,not_false_eq_true,aj,ai,TypeDesc.pointer.injEq,exists_eq_left',seval]<;>exact rfl));(focus (kernel_rfl)))|refine ag (ps:=[(4,8)]) (by decide +kernel) (by simp only[List.forall_mem_cons,List.getD_cons_zero,List.getD_cons_succ,zF,am,rK,df,eF,hq,hy,yz,zy,y0,z0,hb,ne_eq,not_false_eq_true,aj,ai,TypeDesc.pointer.injEq,exists_eq_left',seval]<;>(try simp)<;>(try omega)) ?_|refine av (by decide +kernel) ?_|((first|apply Ca|apply Cb)<;>intro hb)|refine Ai (by omega) ?_|(apply Ai<;>intro hb))
 all_goals ((refine Fin.give [] [q,y] ?_ ?_ ?_ ?_ ?_ (bA ho (by simp[bt,tgt]))<;>(try simp only[zF,am,rK,ite_self,Bool.false_and,Bool.false_eq_true,if_false,df,eF,hq,hy,yz,zy,y0,z0,aA,jK,aj,ai,TypeDesc.pointer.injEq,exists_eq_left',seval])<;>(try simp only[aq])<;>(try omega)))
def E4 (used:Bool)(q:Nat)(c:UInt8)(M:ao)(nm:Nat)(hq:M q=some (bK used q .nils))(ho:∀ z,(M z).isSome=true->z∈[q])(hn:q<nm) :
  Ev cx 161 nm [.ptr q 0 0,.int .u8 c.toNat] M (.val .nilIface) [(q,some (bK true q (.own nm 0 1))),(nm,some (rK [c]))]:=by
 refine aX call161 func161 ?_;intro b0 hb0
 have lq:=bp hb0 hq
 have z0:=bB lq
 repeat' first|simp only[au,ap,results161,ntmps161,am,df,hq,z0,aj,ai,TypeDesc.pointer.injEq,exists_eq_left',seval]|exact rfl|refine aa (v:=.any) ?_|((first|apply Ca|apply Cb)<;>intro hb)|refine Ai (by omega) ?_|(apply Ai<;>intro hb)
 refine aB ?_ [q] (rQ used q _ _ ?_ aN (by omega)) ?_ ?_
 ·simp only[aj,ai,TypeDesc.pointer.injEq,exists_eq_left',seval]
 ·simp only[kB,Lk,Ln,hq,aj,ai,TypeDesc.pointer.injEq,exists_eq_left',seval]
 ·simp only[Lk,Ln,forall_eq,forall_eq_or_imp,hq,aj,ai,TypeDesc.pointer.injEq,exists_eq_left',seval]
 repeat' first|simp only[au,ap,results161,ntmps161,am,df,hq,z0,aj,ai,TypeDesc.pointer.injEq,exists_eq_left',seval]|exact rfl|refine aa (v:=.any) ?_|((first|apply Ca|apply Cb)<;>intro hb)|refine Ai (by omega) ?_|(apply Ai<;>intro hb)
 all_goals ((refine Fin.give [(q,none),(b0+160,some 0)] [] ?_ ?_ ?_ ?_ ?_ (bA ho (by simp[bt,tgt]))<;>(try simp only[results161,ntmps161,am,rK,jr,fP,aL,List.map_append,Lc,Lo,ite_self,Bool.false_and,Bool.false_eq_true,if_false,df,hq,z0,aA,jK,aj,ai,TypeDesc.pointer.injEq,exists_eq_left',seval])<;>(try simp only[aq])<;>(try omega)))
def Fr (used:Bool)(q:Nat)(M:ao)(nm:Nat)(hq:M q=some (bK used q .nils))(ho:∀ z,(M z).isSome=true->z∈[q])(hn:q<nm) :
  Ev cx 136 nm [.ptr q 0 0] M (.int .i64 0) [(q,some (bK used q .nils))]:=by
 refine aX call136 func136 ?_;intro b0 hb0
 have lq:=bp hb0 hq
 have z0:=bB lq
 cases used<;>(repeat' first|simp only[au,ap,results136,ntmps136,am,df,eF,hq,z0,aj,ai,TypeDesc.pointer.injEq,exists_eq_left',seval]|exact rfl|refine aa (v:=.any) ?_|((first|apply Ca|apply Cb)<;>intro hb)|refine Ai (by omega) ?_|(apply Ai<;>intro hb))
 all_goals ((refine Fin.give [(q,none)] [] ?_ ?_ ?_ ?_ ?_ (bA ho (by simp[bt,tgt]))<;>(try simp only[results136,ntmps136,am,jr,fP,ite_self,Bool.false_and,Bool.false_eq_true,if_false,df,eF,hq,z0,aA,jK,aj,ai,TypeDesc.pointer.injEq,exists_eq_left',seval])<;>(try simp only[aq])<;>(try omega)))
def Ft (used:Bool)(q:Nat)(M:ao)(nm:Nat)(hq:M q=some (bK used q .nils))(ho:∀ z,(M z).isSome=true->z∈[q])(hn:q<nm) :
  Ev cx 137 nm [.ptr q 0 0] M (.str []) [(q,none)]:=by
 refine aX call137 func137 ?_;intro b0 hb0;have zF:=Ai results137 ntmps137
 have lq:=bp hb0 hq
 have z0:=bB lq
 cases used<;>(repeat' first|simp only[au,ap,zF,am,df,eF,hq,z0,aj,ai,TypeDesc.pointer.injEq,exists_eq_left',seval]|exact rfl|refine aa (v:=.any) ?_|(refine og rfl ?_ ?_;(focus (simp only[zF,am,df,eF,hq,z0,aj,ai,TypeDesc.pointer.injEq,exists_eq_left',seval]<;>exact rfl)))|(refine bo ?_)|(refine bc ?_)|(refine lF rfl ?_ ?_ ?_;(iterate 2 (focus (simp only[zF,am,df,eF,hq,z0,aj,ai,TypeDesc.pointer.injEq,exists_eq_left',seval]<;>exact rfl))))|refine ag (ps:=[(4,8)]) (by decide +kernel) (by simp only[List.forall_mem_cons,List.getD_cons_zero,List.getD_cons_succ,zF,am,df,eF,hq,z0,aj,ai,TypeDesc.pointer.injEq,exists_eq_left',seval]<;>(try simp)<;>(try omega)) ?_|refine av (by decide +kernel) ?_|((first|apply Ca|apply Cb)<;>intro hb)|refine Ai (by omega) ?_|(apply Ai<;>intro hb))
 all_goals ((refine Fin.give [] [q] ?_ ?_ ?_ ?_ ?_ (bA ho (by simp[bt,tgt]))<;>(try simp only[zF,am,ite_self,Bool.false_and,Bool.false_eq_true,if_false,df,eF,hq,z0,aA,jK,aj,ai,TypeDesc.pointer.injEq,exists_eq_left',seval])<;>(try simp only[aq])<;>(try omega)))
def bS (u:Bool)(q y:Nat)(bs:List UInt8):Blk:=if bs=[] then bK u q .nils else bK true q (.own y 0 bs.length)
def rF (u:Bool)(q y:Nat):bS u q y []=bK u q .nils:=by unfold bS;rw[if_pos rfl]
def rE (u:Bool)(q y:Nat){bs:List UInt8}(h:bs≠[]):bS u q y bs=bK true q (.own y 0 bs.length):=by unfold bS;rw[if_neg h]
def zL (q y:Nat):bS false q y [] = @Blk.mk 2 [[.nilp,.nils]] (.typed 165):=by rw[rF];rfl
def kE (σ:List (Nat×Nat))(u:Bool)(q y:Nat)(bs:List UInt8):Blk.ren σ (bS u q y bs)=bS u ((aS σ q).getD q) ((aS σ y).getD y) bs:=by
 unfold bS
 by_cases h:bs=[]
 ·rw[if_pos h,if_pos h]
  cases u<;>simp[bK,Blk.ren,hU,renL,V.ren,plainLL,plainL,V.plain,Ob.ren,instCells]
 ·rw[if_neg h,if_neg h]
  simp[bK,Blk.ren,hU,renL,V.ren,plainLL,plainL,V.plain,Ob.ren,instCells]
def gh (σ:List (Nat×Nat))(u:Bool)(q y:Nat)(bs:List UInt8)(h1:(aS σ q).isSome=true)(h2:(aS σ y).isSome=true):Blk.renOk σ (bS u q y bs)=true:=by
 unfold bS
 by_cases h:bs=[]
 ·rw[if_pos h]
  cases u<;>simp[bK,Blk.renOk,fp,renOkL,V.renOk,h1,Ob.renOk,instCells]
 ·rw[if_neg h]
  simp[bK,Blk.renOk,fp,renOkL,V.renOk,h1,h2,Ob.renOk,instCells]
def A3 (bs:List UInt8):(rK bs).ob.isRow=true:=rfl
def A2:(rK []).rows=[]:=rfl
def im (σ:List (Nat×Nat))(bs:List UInt8):Blk.ren σ (rK bs)=rK bs:=fQ σ bs _
def eg (σ:List (Nat×Nat))(bs:List UInt8):Blk.renOk σ (rK bs)=true:=dV σ bs _
def mo {M:ao}{q y nm:Nat}(ho:∀ z,(M z).isSome=true->z∈[q,y])(hn:q<nm)(hny:y<nm):∀ x,cm nm x->M x=none:=fun x hx=>by
 cases hm:M x with
 | none=>rfl
 | some k =>
  have:=ho x (by rw[hm];rfl)
  simp only[Lk,Ln,or_false]at this
  have:=hx.1
  omega
def G0 {l:List Nat} : ∀ z,((ao.nil:ao) z).isSome=true->z∈l:=fun z h=>by cases h
def Cj {M:ao}{q:Nat}{k:Blk}(h:M q=some k):(M.only [q]) q=some k:=wF.2 ⟨h,by simp⟩
section
variable (u:Bool) (q y:Nat) (bs:List UInt8) (M:ao) (nm:Nat)
def mG (s:List UInt8)(hs:s≠[])(hl:bs.length+s.length<=aT)(hqy:q≠y)(hq:M q=some (bS u q y bs))(hy:M y=some (rK bs))(ho:∀ z,(M z).isSome=true->z∈[q,y])(hn:q<nm)(hny:y<nm) :
  Ev cx 134 nm [.ptr q 0 0,.str s] M (.tup [.int .i64 s.length,.val .nilIface]) [(y,none),(q,some (bS false q nm (bs++s))),(nm,some (rK (bs++s)))]:=by
 rw[rE false q nm (bs:=bs++s) (by simp[hs]),List.length_append]
 by_cases hb:bs=[]
 ·subst hb
  rw[rF]at hq
  simp only[List.nil_append,List.length_nil,Nat.zero_add]at hl ⊢
  refine Ev.dropM y (Ev.frame [q] (zq u q s hs hl _ nm (Cj hq) aN hn) (fun x hx=>?_) (mo ho hn hny))
  simp only[ak,Lc,Lo,Lk,Ln,or_false]at hx
  rcases hx with rfl|rfl
  ·left;simp
  ·right;exact⟨Nat.le_refl _,by omega⟩
 ·rw[rE u q y hb]at hq
  exact Ia true q y bs s hl M nm hqy hq hy ho hn hny
def o0 (c:UInt8)(hl:bs.length+1<=aT)(hqy:q≠y)(hq:M q=some (bS u q y bs))(hy:M y=some (rK bs))(ho:∀ z,(M z).isSome=true->z∈[q,y])(hn:q<nm)(hny:y<nm) :
  Ev cx 161 nm [.ptr q 0 0,.int .u8 c.toNat] M (.val .nilIface) [(y,none),(q,some (bS false q nm (bs++[c]))),(nm,some (rK (bs++[c])))]:=by
 rw[rE false q nm (bs:=bs++[c]) (by simp),List.length_append,List.length_singleton]
 by_cases hb:bs=[]
 ·subst hb
  rw[rF]at hq
  simp only[List.nil_append,List.length_nil,Nat.zero_add]at hl ⊢
  refine Ev.dropM y (Ev.frame [q] (E4 u q c _ nm (Cj hq) aN hn) (fun x hx=>?_) (mo ho hn hny))
  simp only[ak,Lc,Lo,Lk,Ln,or_false]at hx
  rcases hx with rfl|rfl
  ·left;simp
  ·right;exact⟨Nat.le_refl _,by omega⟩
 ·rw[rE u q y hb]at hq
  exact E5 true q y bs c hl M nm hqy hq hy ho hn hny
def Fb {M:ao}{q y:Nat}{a b:Blk}(hq:M q=some a)(hy:M y=some b):M.app [(q,some a)]=M.app [(q,some a),(y,some b)]:=by
 funext x
 simp only[ao.app,ao.put]
 by_cases e:x=y
 ·subst e
  by_cases e2:x=q
  ·subst e2;rw[hq]at hy;cases hy;simp
  ·simp[e2,hy]
 ·simp[e]
def qZ (hqy:q≠y)(hq:M q=some (bS u q y bs))(hy:M y=some (rK bs))(ho:∀ z,(M z).isSome=true->z∈[q,y])(hn:q<nm)(hny:y<nm) :
  Ev cx 136 nm [.ptr q 0 0] M (.int .i64 bs.length) [(q,some (bS u q y bs)),(y,some (rK bs))]:=by
 by_cases hb:bs=[]
 ·subst hb
  refine Ev.eff_eq ?_ (Fb hq hy)
  rw[rF]at hq ⊢
  refine Ev.frame [q] (Fr u q _ nm (Cj hq) aN hn) (fun x hx=>?_) (mo ho hn hny)
  simp only[ak,Lc,Lo,Lk,Ln,or_false]at hx
  subst hx;left;simp
 ·rw[rE u q y hb]at hq ⊢
  exact Fs true q y bs M nm hqy hq hy ho hn hny
def nQ (hl:bs.length<=aT)(hqy:q≠y)(hq:M q=some (bS u q y bs))(hy:M y=some (rK bs))(ho:∀ z,(M z).isSome=true->z∈[q,y])(hn:q<nm)(hny:y<nm) :
  Ev cx 137 nm [.ptr q 0 0] M (.str bs) [(q,none),(y,none)]:=by
 by_cases hb:bs=[]
 ·subst hb
  rw[rF]at hq
  have h1:Ev cx 137 nm [.ptr q 0 0] M (.str []) [(q,none)]:=by
   refine Ev.frame [q] (Ft u q _ nm (Cj hq) aN hn) (fun x hx=>?_) (mo ho hn hny)
   simp only[ak,Lc,Lo,Lk,Ln,or_false]at hx
   subst hx;left;simp
  refine Ev.eff_eq (Ev.dropM y h1) ?_
  funext x
  simp only[ao.app,ao.put]
  by_cases e:x=y<;>by_cases e2:x=q<;>simp[e,e2]
 ·rw[rE u q y hb]at hq
  exact Fu true q y bs hb hl M nm hqy hq hy ho hn hny
end
def qb (q:Bool):List (V×V):=[(.int .u8 38,.agg [.str [38,97,109,112,59]]),(.int .u8 60,.agg [.str [38,108,116,59]]),(.int .u8 62,.agg [.str [38,103,116,59]]),(.int .u8 13,.agg [.str [38,35,49,51,59]])] ++
 (if q=true then [(.int .u8 34,.agg [.str [38,113,117,111,116,59]]),(.int .u8 9,.agg [.str [38,35,57,59]]),(.int .u8 10,.agg [.str [38,35,49,48,59]])] else [])
def iq:AL cx.P 213=some (5,216):=by kernel_rfl
def md:zeroOf cx.P 216=some (.agg #[.string ⟨#[]⟩]):=by kernel_rfl
def kN:qb false=[(.int .u8 38,.agg [.str [38,97,109,112,59]]),(.int .u8 60,.agg [.str [38,108,116,59]]),(.int .u8 62,.agg [.str [38,103,116,59]]),(.int .u8 13,.agg [.str [38,35,49,51,59]])]:=rfl
def BF:qb true=[(.int .u8 38,.agg [.str [38,97,109,112,59]]),(.int .u8 60,.agg [.str [38,108,116,59]]),(.int .u8 62,.agg [.str [38,103,116,59]]),(.int .u8 13,.agg [.str [38,35,49,51,59]]),(.int .u8 34,.agg [.str [38,113,117,111,116,59]]),(.int .u8 9,.agg [.str [38,35,57,59]]),(.int .u8 10,.agg [.str [38,35,49,48,59]])]:=rfl
def Ih (q:Bool)(nm:Nat):Ev cx 182 nm [.bool q] ao.nil (.mp nm) [(nm,some (nz (qb q)))]:=by
 cases q with
 | false =>
  refine aX call182 func182 ?_;intro b0 hb0;have zF:=Ai results182 ntmps182
  repeat' first|simp only[au,ap,zF,am,iq,kN,aj,ai,seval]|exact rfl|refine aa (v:=.any) ?_|(refine qm ?_)|(refine bo ?_)|(refine bc ?_)|(refine sf (y:=?_) (kv:=?_) (xv:=?_) (kvs:=?_) ?_ ?_ ?_ ?_ iq ?_ ?_ ?_ ?_ ?_;rotate_left 4;(iterate 4 (focus (simp only[zF,am,iq,kN,aj,ai,seval]<;>exact rfl)));(focus (kernel_rfl));(iterate 3 (focus (exact rfl))))|(refine mS (y:=?_) (kv:=?_) (xv:=?_) (kvs:=?_) ?_ ?_ ?_ ?_ iq ?_ ?_ ?_ ?_ ?_;rotate_left 4;(iterate 4 (focus (simp only[zF,am,iq,kN,aj,ai,seval]<;>exact rfl)));(focus (kernel_rfl));(iterate 3 (focus (exact rfl))))|((first|apply Ca|apply Cb)<;>intro hb)|refine Ai (by omega) ?_|(apply Ai<;>intro hb)
  all_goals ((refine Fin.give [(b0+16,some 0)] [] ?_ ?_ ?_ ?_ ?_ (fun q hq=>by have hqq:=G0 (l:=[]) q hq;first|(simp only[bt,tgt,Lc,Lo,Lk,Ln,or_false]at hqq ⊢;omega)|(simp only[bt,tgt,Lc,Lo,Lk,Ln,or_false]at hqq))<;>(try simp only[zF,am,kN,BF,kG,gI,jK,aj,ai,seval])<;>(try simp only[aq])<;>(try omega)))
 | true =>
  refine aX call182 func182 ?_;intro b0 hb0;have zF:=Ai results182 ntmps182
  repeat' first|simp only[au,ap,zF,am,iq,kN,aj,ai,seval]|exact rfl|refine aa (v:=.any) ?_|(refine qm ?_)|(refine bo ?_)|(refine bc ?_)|(refine sf (y:=?_) (kv:=?_) (xv:=?_) (kvs:=?_) ?_ ?_ ?_ ?_ iq ?_ ?_ ?_ ?_ ?_;rotate_left 4;(iterate 4 (focus (simp only[zF,am,iq,kN,aj,ai,seval]<;>exact rfl)));(focus (kernel_rfl));(iterate 3 (focus (exact rfl))))|(refine mS (y:=?_) (kv:=?_) (xv:=?_) (kvs:=?_) ?_ ?_ ?_ ?_ iq ?_ ?_ ?_ ?_ ?_;rotate_left 4;(iterate 4 (focus (simp only[zF,am,iq,kN,aj,ai,seval]<;>exact rfl)));(focus (kernel_rfl));(iterate 3 (focus (exact rfl))))|((first|apply Ca|apply Cb)<;>intro hb)|refine Ai (by omega) ?_|(apply Ai<;>intro hb)
  all_goals ((refine Fin.give [(b0+16,some 0)] [] ?_ ?_ ?_ ?_ ?_ (fun q hq=>by have hqq:=G0 (l:=[]) q hq;first|(simp only[bt,tgt,Lc,Lo,Lk,Ln,or_false]at hqq ⊢;omega)|(simp only[bt,tgt,Lc,Lo,Lk,Ln,or_false]at hqq))<;>(try simp only[zF,am,kN,BF,kG,gI,jK,aj,ai,seval])<;>(try simp only[aq])<;>(try omega)))
def kA {c d:UInt8}(h:¬ c=d):((c.toNat:Int)==(d.toNat:Int))=false:=by
 rw[beq_eq_false_iff_ne]
 intro e
 exact h (UInt8.toNat_inj.1 (by omega))
def Aj (q:Bool)(c:UInt8):(fZ (.int .u8 c.toNat) (qb q)=some none/\lC q c=[c])\/fZ (.int .u8 c.toNat) (qb q)=some (some (.agg [.str (lC q c)])):=by
 by_cases h1:c=38
 ·subst h1;right;cases q<;>rfl
 by_cases h2:c=60
 ·subst h2;right;cases q<;>rfl
 by_cases h3:c=62
 ·subst h3;right;cases q<;>rfl
 by_cases h4:c=13
 ·subst h4;right;cases q<;>rfl
 have e1:((c.toNat:Int)==38)=false:=kA (d:=38) h1
 have e2:((c.toNat:Int)==60)=false:=kA (d:=60) h2
 have e3:((c.toNat:Int)==62)=false:=kA (d:=62) h3
 have e4:((c.toNat:Int)==13)=false:=kA (d:=13) h4
 cases q with
 | false =>
  left
  simp only[kN,fZ,l0,if_true,e1,e2,e3,e4,lC,h1,h2,h3,h4,if_false,Bool.false_eq_true,and_self]
 | true =>
  by_cases h5:c=34
  ·subst h5;right;rfl
  by_cases h6:c=9
  ·subst h6;right;rfl
  by_cases h7:c=10
  ·subst h7;right;rfl
  have e5:((c.toNat:Int)==34)=false:=kA (d:=34) h5
  have e6:((c.toNat:Int)==9)=false:=kA (d:=9) h6
  have e7:((c.toNat:Int)==10)=false:=kA (d:=10) h7
  left
  simp only[BF,fZ,l0,if_true,e1,e2,e3,e4,e5,e6,e7,lC,h1,h2,h3,h4,h5,h6,h7,if_false,and_self]
def sU (q:Bool)(s:List UInt8):Int:=if aF s≠0 then aF s else if 16384<(bI q s).length then 4 else 0
def wJ (q:Bool)(s:List UInt8):List UInt8:=if sU q s=0 then bI q s else []
def I7 (s:List UInt8)(q:Bool)(hs:s.length<=aT)(nm:Nat):Ev cx 173 nm [.str s,.bool q] ao.nil (.tup [.str (wJ q s),.int .i64 (sU q s)]) []:=by
 by_cases hz:aF s=0
 ·have hb:(aF s != 0)=false:=by rw[hz];rfl
  have hlen:=sT hz
  have hw:=bG q s
  refine aX call173 func173 ?_;intro b0 hb0
  repeat' first|simp only[au,ap,results173,ntmps173,am,hb,aj,ai,seval]|exact rfl|refine aa (v:=.any) ?_|(first|(refine ah ?_ (db s hs _) ?_)|(refine ac ?_ (fun _=>db s hs _) ?_))|(refine ay ?_ (Ih q _) ?_ ?_)|(refine xY (bs:=?_) ?_ ?_ ?_ ?_;rotate_left 1;(iterate 2 (focus (simp only[results173,ntmps173,am,hb,aj,ai,seval];done)));(focus (simp only[results173,ntmps173,am,hb,aj,ai,seval]<;>exact rfl)))|(refine bo ?_)|(refine bc ?_)|omega|((first|apply Ca|apply Cb)<;>intro hb)|refine Ai (by omega) ?_|(apply Ai<;>intro hb)
  (refine ew (fun x:Nat=>s.length-x) (fun x=>x<=s.length) (b0+16) (fun x=>[(7,.mp b0),(8,.ptr (b0+1) 0 0),(21,.sl false 1 (s.map aL)),(22,.int .i64 s.length),(23,.int .i64 x)]) (fun x=>[(b0,nz (qb q)),(b0+1,bS false (b0+1) (b0+2) (bI q (s.take x))),(b0+2,rK (bI q (s.take x)))]) (0) [some (b0+128),some (b0+160),none] ?_ ?_ ?_;(focus (refine⟨?_,?_⟩<;>(try simp only[aE,zL,sd,List.take_zero,A2,A3,kG,gI,jr,fP,im,eg,lV,Lm,aj,ai,aq,seval])<;>(try omega))))
  ·exact Nat.zero_le _
  ·intro k hk
   by_cases hlt:k<s.length
   ·obtain⟨c,hc⟩:=ic hlt
    have hh:(s.map aL)[k]? = some (aL c):=by rw[List.getElem?_map,hc];rfl
    have hd:=decide_eq_true hlt
    have hwk:=eD k
    have hnx:=uI q hc
    have hw1:=bG q (s.take k)
    have hw2:=ji q c
    have hw3:(s.take k).length=k:=by rw[List.length_take];omega
    have hll:(bI q (s.take k)).length+(lC q c).length<=aT:=by unfold aT;omega
    rcases Aj q c with ⟨hf,hb1⟩|hf
    ·rw[hb1]at hnx hll
     repeat' first|simp only[au,ap,results173,ntmps173,am,hh,hd,hlt,hf,md,aA,Lm,iG,aL,List.getElem?_cons_zero,Option.getD_none,Option.isSome_none,aj,ai,seval]|exact rfl|refine aa (v:=.any) ?_|(refine aB ?_ [b0+1,b0+2] (o0 false (b0+1) (b0+2) (bI q (s.take k)) _ _ c hll (by omega) ?_ ?_ aN (by omega) (by omega)) ?_ ?_)|(refine sg (y:=?_) (kv:=?_) (kvs:=?_) (q:=?_) ?_ ?_ ?_ iq ?_ ?_ md ?_ ?_ ?_;rotate_left 4;(iterate 3 (focus (simp only[results173,ntmps173,am,hh,hd,hlt,hf,md,aA,Lm,iG,aL,List.getElem?_cons_zero,Option.getD_none,Option.isSome_none,aj,ai,seval]<;>exact rfl)));(focus (kernel_rfl));(focus (exact rfl));(focus (simp only[results173,ntmps173,am,hh,hd,hlt,hf,md,aA,Lm,iG,aL,List.getElem?_cons_zero,Option.getD_none,Option.isSome_none,aj,ai,seval]<;>exact rfl));(focus (intro v hv;cases hv<;>exact rfl)))|(refine bo ?_)|(refine bc ?_)|((first|apply Ca|apply Cb)<;>intro hb)|refine Ai (by omega) ?_|(apply Ai<;>intro hb)
     all_goals ((refine de (k+1) [some b0,some (b0+1),some (b0+256)] ?_ ?_ ?_;(focus (refine⟨?_,?_⟩<;>(try simp only[aE,hwk,hnx.symm,kG,gI,jr,fP,kE,gh,im,eg,lV,Lm,Option.getD_some,Option.isSome_some,aj,ai,aq,seval])<;>(try omega)))))
     all_goals (first|(show s.length-(k+1)<s.length-k;omega)|(show k+1<=s.length;omega)|skip)
    ·repeat' first|simp only[au,ap,results173,ntmps173,am,hh,hd,hlt,hf,md,aA,Lm,iG,aL,List.getElem?_cons_zero,Option.getD_some,Option.isSome_some,aj,ai,seval]|exact rfl|refine aa (v:=.any) ?_|(refine aB ?_ [b0+1,b0+2] (mG false (b0+1) (b0+2) (bI q (s.take k)) _ _ (lC q c) (Jp q c) hll (by omega) ?_ ?_ aN (by omega) (by omega)) ?_ ?_)|(refine sg (y:=?_) (kv:=?_) (kvs:=?_) (q:=?_) ?_ ?_ ?_ iq ?_ ?_ md ?_ ?_ ?_;rotate_left 4;(iterate 3 (focus (simp only[results173,ntmps173,am,hh,hd,hlt,hf,md,aA,Lm,iG,aL,List.getElem?_cons_zero,Option.getD_some,Option.isSome_some,aj,ai,seval]<;>exact rfl)));(focus (kernel_rfl));(focus (exact rfl));(focus (simp only[results173,ntmps173,am,hh,hd,hlt,hf,md,aA,Lm,iG,aL,List.getElem?_cons_zero,Option.getD_some,Option.isSome_some,aj,ai,seval]<;>exact rfl));(focus (intro v hv;cases hv<;>exact rfl)))|(refine bo ?_)|(refine bc ?_)|((first|apply Ca|apply Cb)<;>intro hb)|refine Ai (by omega) ?_|(apply Ai<;>intro hb)
     all_goals ((refine de (k+1) [some b0,some (b0+1),some (b0+272)] ?_ ?_ ?_;(focus (refine⟨?_,?_⟩<;>(try simp only[aE,hwk,hnx.symm,kG,gI,jr,fP,kE,gh,im,eg,lV,Lm,Option.getD_some,Option.isSome_some,aj,ai,aq,seval])<;>(try omega)))))
     all_goals (first|(show s.length-(k+1)<s.length-k;omega)|(show k+1<=s.length;omega)|skip)
   ·have hke:k=s.length:=by omega
    subst hke
    have hd:decide (s.length<s.length)=false:=bi
    have hll:(bI q s).length<=aT:=by unfold aT;omega
    by_cases hbig:16384<(bI q s).length
    ·have hp:sU q s=4:=by unfold sU;rw[if_neg (fun h=>h hz),if_pos hbig]
     have hp2:wJ q s=[]:=by unfold wJ;rw[hp];rfl
     have hd2:decide ((16384:Int)<((bI q s).length:Int))=true:=dh
     (repeat' first|simp only[au,ap,results173,ntmps173,am,hd,hd2,hp,hp2,List.take_length,aj,ai,seval]|exact rfl|refine aa (v:=.any) ?_|(refine aB ?_ [b0+1,b0+2] (qZ false (b0+1) (b0+2) (bI q s) _ _ (by omega) ?_ ?_ aN (by omega) (by omega)) ?_ ?_)|((first|apply Ca|apply Cb)<;>intro hb)|refine Ai (by omega) ?_|(apply Ai<;>intro hb)|apply Fin.pure|simp only[aq])
    ·have hp:sU q s=0:=by unfold sU;rw[if_neg (fun h=>h hz),if_neg hbig]
     have hp2:wJ q s=bI q s:=by unfold wJ;rw[hp];rfl
     have hd2:decide ((16384:Int)<((bI q s).length:Int))=false:=bi
     (repeat' first|simp only[au,ap,results173,ntmps173,am,hd,hd2,hp,hp2,List.take_length,aj,ai,seval]|exact rfl|refine aa (v:=.any) ?_|(refine aB ?_ [b0+1,b0+2] (qZ false (b0+1) (b0+2) (bI q s) _ _ (by omega) ?_ ?_ aN (by omega) (by omega)) ?_ ?_)|(refine aB ?_ [b0+1,b0+2] (nQ false (b0+1) (b0+2) (bI q s) _ _ hll (by omega) ?_ ?_ aN (by omega) (by omega)) ?_ ?_)|((first|apply Ca|apply Cb)<;>intro hb)|refine Ai (by omega) ?_|(apply Ai<;>intro hb)|apply Fin.pure|simp only[aq])
 ·have hb:(aF s != 0)=true:=by rw[bne_iff_ne];exact hz
  have h1:sU q s=aF s:=by unfold sU;rw[if_pos hz]
  have h2:wJ q s=[]:=by unfold wJ;rw[h1,if_neg hz]
  refine aX call173 func173 ?_;intro b0 hb0
  exact wP (a5 results173 ntmps173 hb h1 h2) (db s hs)
end Go.Proofs.YtjonibipieofcaaGreatDoor
