/-
 Texts joined: XEb,XEf,XEg.
-/
import Derived.Test.YtlnlopnpcmahgaaGreatDoorQf
import Derived.Test.YtlnlopnpcmahgaaGreatDoorQe
import Derived.Test.YtlnlopnpcmahgaaGreatDoorQg
set_option linter.all false
namespace Go.Proofs.YtlnlopnpcmahgaaGreatDoor
set_option maxRecDepth 100000
set_option maxHeartbeats 32000000
open Go Go.RowKit Vm Go.Lib Tryz
open Vm renaming aH->Ca,aL->Cb
open And renaming intro->Ai
open List renaming length_map->Lm,not_mem_nil->Ln,map_nil->Lo,map_cons->Lc,mem_cons->Lk
open Bool renaming not_false->Bf,not_true->Bt
def mG (v:V)(M:am)(nm:Nat):Ev cx 174 nm [v] M v [] :=
 Ev.noEscape func174 (by kernel_rfl) (by kernel_rfl) (by kernel_rfl) (by kernel_rfl) v M nm
def aI (n:Nat):bY n n=True:=eq_true ⟨Nat.le_refl _,by omega⟩
def bK (used:Bool)(q:Nat)(c:V):Blk:=if used then ⟨2,[[.ptr q 0 0,c]]⟩ else @Blk.mk 2 [[.nilp,c]] (.typed 131)
def cJ (q:Nat)(c:V):bK true q c=⟨2,[[.ptr q 0 0,c]]⟩:=rfl
def dB (q:Nat)(c:V):bK false q c = @Blk.mk 2 [[.nilp,c]] (.typed 131):=rfl
def gS:(cx.P.info? 131).isSome=true:=by kernel_rfl
def pL (used:Bool)(q:Nat)(M:am)(nm:Nat)(hq:M q=some (bK used q .nils))(ho:∀ z,(M z).isSome=true->z∈[q])(hn:q<nm) :
  Ev cx 134 nm [.ptr q 0 0] M (.tup []) [(q,some (bK true q .nils))]:=by
 cases used with
 | false =>
  refine aV call134 func134 rfl (by kernel_rfl) rfl ?_;intro b0 hb0;have zF:=Ai results134 ntmps134
  have lq:=aY hb0 hq
  have z0:=aZ lq
  repeat' first|simp only[aj,ag,zF,ap,gS,cJ,dB,hq,z0,ai,seval,ah,TypeDesc.pointer.injEq,exists_eq_left']|exact rfl|refine aa (v:=.any) ?_|(first|(refine ac ?_ (mG (.ptr q 0 0) am.nil _) ?_)|(refine ab ?_ (fun _=>mG (.ptr q 0 0) am.nil _) ?_))|(refine ma (y:=?_) (sz:=?_) (row:=?_) (rows:=?_) (o:=?_) (te:=?_) ?_ ?_ ?_ ?_ ?_ ?_ ?_ ?_;rotate_left 6;(iterate 2 (focus (simp only[zF,ap,gS,cJ,dB,hq,z0,ai,seval,ah,TypeDesc.pointer.injEq,exists_eq_left']<;>exact rfl)));(focus (exact rfl));(focus (omega));(iterate 2 (focus (simp only[zF,ap,gS,cJ,dB,hq,z0,ai,seval,ah,TypeDesc.pointer.injEq,exists_eq_left']<;>exact rfl)));(focus (kernel_rfl)))|(refine bf ?_)|(refine aW ?_)|(refine jP (y:=?_) (sz:=?_) (row:=?_) (rows:=?_) (u:=?_) ?_ ?_ ?_ ?_ ?_ ?_ ?_ ?_;rotate_left 5;(iterate 2 (focus (simp only[zF,ap,gS,cJ,dB,hq,z0,ai,seval,ah,TypeDesc.pointer.injEq,exists_eq_left']<;>exact rfl)));(focus (omega));(iterate 2 (focus (simp only[zF,ap,gS,cJ,dB,hq,z0,ai,seval,ah,TypeDesc.pointer.injEq,exists_eq_left']<;>exact rfl)));(iterate 2 (focus (kernel_rfl))))|((first|apply Ca|apply Cb)<;>intro hb)|refine Ai (by omega) ?_|(apply Ai<;>intro hb)
  all_goals ((refine Fin.give [(q,none)] [] ?_ ?_ ?_ ?_ ?_ (bB ho (by simp[bg,tgt]))<;>(try simp only[zF,ap,gS,cJ,dB,hq,z0,jU,ai,seval,ah,TypeDesc.pointer.injEq,exists_eq_left'])<;>(try simp only[al])<;>(try omega)))
 | true =>
  refine aV call134 func134 rfl (by kernel_rfl) rfl ?_;intro b0 hb0;have zF:=Ai results134 ntmps134
  have lq:=aY hb0 hq
  have z0:=aZ lq
  repeat' first|simp only[aj,ag,zF,ap,gS,cJ,dB,hq,z0,ai,seval,ah,TypeDesc.pointer.injEq,exists_eq_left']|exact rfl|refine aa (v:=.any) ?_|((first|apply Ca|apply Cb)<;>intro hb)|refine Ai (by omega) ?_|(apply Ai<;>intro hb)
  all_goals ((refine Fin.give [(q,none)] [] ?_ ?_ ?_ ?_ ?_ (bB ho (by simp[bg,tgt]))<;>(try simp only[zF,ap,gS,cJ,dB,hq,z0,jU,ai,seval,ah,TypeDesc.pointer.injEq,exists_eq_left'])<;>(try simp only[al])<;>(try omega)))
def eO (σ:List (Nat×Nat))(bs:List UInt8)(t:TypeId):Blk.ren σ (@Blk.mk 1 (bs.map aE) (.typed t)) = @Blk.mk 1 (bs.map aE) (.typed t):=by
 have h:plainLL (bs.map aE)=true:=bR _ (fun _=>rfl) bs
 simp only[Blk.ren,fT,h,if_true]
def dc (σ:List (Nat×Nat))(bs:List UInt8)(t:TypeId):Blk.renOk σ (@Blk.mk 1 (bs.map aE) (.typed t))=true:=by
 have h:plainLL (bs.map aE)=true:=bR _ (fun _=>rfl) bs
 simp only[Blk.renOk,ek,h,Bool.true_or,Bool.true_and]
 rfl
def Ef (σ:List (Nat×Nat))(c:UInt8)(bs:List UInt8)(t:TypeId):Blk.ren σ (@Blk.mk 1 (aE c::bs.map aE) (.typed t)) = @Blk.mk 1 (aE c::bs.map aE) (.typed t):=eO σ (c::bs) t
def yj (σ:List (Nat×Nat))(c:UInt8)(bs:List UInt8)(t:TypeId):Blk.renOk σ (@Blk.mk 1 (aE c::bs.map aE) (.typed t))=true:=dc σ (c::bs) t
def Ei (σ:List (Nat×Nat))(c:UInt8)(bs:List UInt8)(t:TypeId):Blk.ren σ (@Blk.mk 1 (bs.map aE++[[.int .u8 c.toNat]]) (.typed t)) = @Blk.mk 1 (bs.map aE++[[.int .u8 c.toNat]]) (.typed t):=by
 have:=eO σ (bs++[c]) t
 rwa[List.map_append]at this
def yk (σ:List (Nat×Nat))(c:UInt8)(bs:List UInt8)(t:TypeId):Blk.renOk σ (@Blk.mk 1 (bs.map aE++[[.int .u8 c.toNat]]) (.typed t))=true:=by
 have:=dc σ (bs++[c]) t
 rwa[List.map_append]at this
def gY (σ:List (Nat×Nat))(s:Nat)(rows:List (List V))(t:TypeId):Blk.ren σ (@Blk.mk s rows (.typed t)) = @Blk.mk s (fT σ rows) (.typed t):=rfl
def eN (σ:List (Nat×Nat))(s:Nat)(rows:List (List V))(t:TypeId):Blk.renOk σ (@Blk.mk s rows (.typed t))=ek σ rows:=by
 simp only[Blk.renOk,Ob.renOk,Bool.and_true]
def j8 (bs:List UInt8):plainLL (bs.map aE)=true:=bR _ (fun _=>rfl) bs
def DQ (c:UInt8):(aE c).all V.one=true:=rfl
def xX (bs:List UInt8):((bs.map aE).all fun r=>r.all V.one)=true:=by
 rw[List.all_eq_true]
 intro r hr
 obtain⟨c,_,rfl⟩:=List.mem_map.1 hr
 rfl
def rK (bs:List UInt8):Blk:=@Blk.mk 1 (bs.map aE) (.typed 5)
def uZ (used:Bool)(q y n:Nat)(bs:List UInt8)(M:am)(nm:Nat)(hqy:q≠y)(hq:M q=some (bK used q (.own y 0 n)))(hy:M y=some (rK bs))(ho:∀ z,(M z).isSome=true->z∈[q,y])(hn:q<nm)(hny:y<nm) :
  Ev cx 134 nm [.ptr q 0 0] M (.tup []) [(q,some (bK true q (.own y 0 n))),(y,some (rK bs))]:=by
 have yz:(y=q)=False:=eq_false (fun h=>hqy h.symm)
 have zy:(q=y)=False:=eq_false hqy
 cases used with
 | false =>
  refine aV call134 func134 rfl (by kernel_rfl) rfl ?_;intro b0 hb0;have zF:=Ai results134 ntmps134
  have lq:=aY hb0 hq
  have ly:=aY hb0 hy
  have y0:=aZ ly
  have z0:=aZ lq
  repeat' first|simp only[aj,ag,zF,ap,gS,cJ,dB,hq,hy,y0,yz,zy,z0,ai,seval,ah,TypeDesc.pointer.injEq,exists_eq_left']|exact rfl|refine aa (v:=.any) ?_|(first|(refine ac ?_ (mG (.ptr q 0 0) am.nil _) ?_)|(refine ab ?_ (fun _=>mG (.ptr q 0 0) am.nil _) ?_))|(refine ma (y:=?_) (sz:=?_) (row:=?_) (rows:=?_) (o:=?_) (te:=?_) ?_ ?_ ?_ ?_ ?_ ?_ ?_ ?_;rotate_left 6;(iterate 2 (focus (simp only[zF,ap,gS,cJ,dB,hq,hy,y0,yz,zy,z0,ai,seval,ah,TypeDesc.pointer.injEq,exists_eq_left']<;>exact rfl)));(focus (exact rfl));(focus (omega));(iterate 2 (focus (simp only[zF,ap,gS,cJ,dB,hq,hy,y0,yz,zy,z0,ai,seval,ah,TypeDesc.pointer.injEq,exists_eq_left']<;>exact rfl)));(focus (kernel_rfl)))|(refine bf ?_)|(refine aW ?_)|(refine jP (y:=?_) (sz:=?_) (row:=?_) (rows:=?_) (u:=?_) ?_ ?_ ?_ ?_ ?_ ?_ ?_ ?_;rotate_left 5;(iterate 2 (focus (simp only[zF,ap,gS,cJ,dB,hq,hy,y0,yz,zy,z0,ai,seval,ah,TypeDesc.pointer.injEq,exists_eq_left']<;>exact rfl)));(focus (omega));(iterate 2 (focus (simp only[zF,ap,gS,cJ,dB,hq,hy,y0,yz,zy,z0,ai,seval,ah,TypeDesc.pointer.injEq,exists_eq_left']<;>exact rfl)));(iterate 2 (focus (kernel_rfl))))|((first|apply Ca|apply Cb)<;>intro hb)|refine Ai (by omega) ?_|(apply Ai<;>intro hb)
  all_goals ((refine Fin.give [(q,none),(y,none)] [] ?_ ?_ ?_ ?_ ?_ (bB ho (by simp[bg,tgt]))<;>(try simp only[zF,ap,rK,eO,dc,ite_self,Bool.false_and,Bool.false_eq_true,if_false,cJ,dB,hq,hy,y0,yz,zy,z0,jU,ai,seval,ah,TypeDesc.pointer.injEq,exists_eq_left'])<;>(try simp only[al])<;>(try omega)))
 | true =>
  refine aV call134 func134 rfl (by kernel_rfl) rfl ?_;intro b0 hb0;have zF:=Ai results134 ntmps134
  have lq:=aY hb0 hq
  have ly:=aY hb0 hy
  have y0:=aZ ly
  have z0:=aZ lq
  repeat' first|simp only[aj,ag,zF,ap,gS,cJ,dB,hq,hy,y0,yz,zy,z0,ai,seval,ah,TypeDesc.pointer.injEq,exists_eq_left']|exact rfl|refine aa (v:=.any) ?_|((first|apply Ca|apply Cb)<;>intro hb)|refine Ai (by omega) ?_|(apply Ai<;>intro hb)
  all_goals ((refine Fin.give [(q,none),(y,none)] [] ?_ ?_ ?_ ?_ ?_ (bB ho (by simp[bg,tgt]))<;>(try simp only[zF,ap,rK,eO,dc,ite_self,Bool.false_and,Bool.false_eq_true,if_false,cJ,dB,hq,hy,y0,yz,zy,z0,jU,ai,seval,ah,TypeDesc.pointer.injEq,exists_eq_left'])<;>(try simp only[al])<;>(try omega)))
def wH (used:Bool)(q:Nat)(s:List UInt8)(hs:s≠[])(hl:s.length<=aS)(M:am)(nm:Nat)(hq:M q=some (bK used q .nils))(ho:∀ z,(M z).isSome=true->z∈[q])(hn:q<nm) :
  Ev cx 86 nm [.ptr q 0 0,.str s] M (.tup [.int .i64 s.length,.val .nilIface]) [(q,some (bK true q (.own nm 0 s.length))),(nm,some (rK s))]:=by
 unfold aS at hl
 refine aV call86 func86 rfl (by kernel_rfl) rfl ?_;intro b0 hb0
 have lq:=aY hb0 hq
 have z0:=aZ lq
 obtain⟨c,s,rfl⟩:=List.exists_cons_of_ne_nil hs
 repeat' first|simp only[aj,ag,results86,ntmps86,ap,cJ,hq,z0,ai,seval,ah,TypeDesc.pointer.injEq,exists_eq_left']|exact rfl|refine aa (v:=.any) ?_|(refine aJ ?_ [[q]] (pL used q _ _ ?_ aP (by omega)) ?_ ?_)|((first|apply Ca|apply Cb)<;>intro hb)|refine Ai (by omega) ?_|(apply Ai<;>intro hb)
 refine aJ ?_ [q] (pL used q _ _ ?_ aP (by omega)) ?_ ?_
 ·simp only[ai,seval,ah,TypeDesc.pointer.injEq,exists_eq_left']
 ·simp only[iX,Lk,Ln,hq,ai,seval,ah,TypeDesc.pointer.injEq,exists_eq_left']
 ·simp only[Lk,Ln,forall_eq,forall_eq_or_imp,hq,ai,seval,ah,TypeDesc.pointer.injEq,exists_eq_left']
 simp only[List.length_cons]at hl
 repeat' first|simp only[aj,ag,results86,ntmps86,ap,cJ,hq,z0,DQ,xX,Lm,ai,seval,ah,TypeDesc.pointer.injEq,exists_eq_left']|exact rfl|refine aa (v:=.any) ?_|((first|apply Ca|apply Cb)<;>intro hb)|refine Ai (by omega) ?_|(apply Ai<;>intro hb)
 all_goals ((refine Fin.give [(q,none),(b0+160,some 0)] [] ?_ ?_ ?_ ?_ ?_ (bB ho (by simp[bg,tgt]))<;>(try simp only[results86,ntmps86,ap,rK,Ef,yj,eO,dc,ite_self,Bool.false_and,Bool.false_eq_true,if_false,cJ,hq,z0,aI,jU,ai,seval,ah,TypeDesc.pointer.injEq,exists_eq_left'])<;>(try simp only[al])<;>(try omega)))
def ES (used:Bool)(q y:Nat)(bs s:List UInt8)(hl:bs.length+s.length<=aS)(M:am)(nm:Nat)(hqy:q≠y)(hq:M q=some (bK used q (.own y 0 bs.length)))(hy:M y=some (rK bs))(ho:∀ z,(M z).isSome=true->z∈[q,y])(hn:q<nm)(hny:y<nm) :
  Ev cx 86 nm [.ptr q 0 0,.str s] M (.tup [.int .i64 s.length,.val .nilIface]) [(y,none),(q,some (bK true q (.own nm 0 (bs.length+s.length)))),(nm,some (rK (bs++s)))]:=by
 unfold aS at hl
 have yz:(y=q)=False:=eq_false (fun h=>hqy h.symm)
 have zy:(q=y)=False:=eq_false hqy
 refine aV call86 func86 rfl (by kernel_rfl) rfl ?_;intro b0 hb0
 have lq:=aY hb0 hq
 have ly:=aY hb0 hy
 have y0:=aZ ly
 have z0:=aZ lq
 repeat' first|simp only[aj,ag,results86,ntmps86,ap,cJ,hq,z0,ai,seval,ah,TypeDesc.pointer.injEq,exists_eq_left']|exact rfl|refine aa (v:=.any) ?_|((first|apply Ca|apply Cb)<;>intro hb)|refine Ai (by omega) ?_|(apply Ai<;>intro hb)
 refine aJ ?_ [q,y] (uZ used q y bs.length bs _ _ hqy ?_ ?_ aP (by omega) (by omega)) ?_ ?_
 ·simp only[ai,seval,ah,TypeDesc.pointer.injEq,exists_eq_left']
 ·simp only[iX,Lk,Ln,true_or,or_true,hq,hy,yz,zy,ai,seval,ah,TypeDesc.pointer.injEq,exists_eq_left']
 ·simp only[iX,Lk,Ln,true_or,or_true,hq,hy,yz,zy,ai,seval,ah,TypeDesc.pointer.injEq,exists_eq_left']
 ·simp only[Lk,Ln,forall_eq,forall_eq_or_imp,true_or,or_true,hq,hy,yz,zy,ai,seval,ah,TypeDesc.pointer.injEq,exists_eq_left']
 repeat' first|simp only[aj,ag,results86,ntmps86,ap,rK,cJ,hq,hy,yz,zy,y0,z0,DQ,xX,Lm,List.take_of_length_le,Nat.le_refl,List.map_append.symm,ai,seval,ah,TypeDesc.pointer.injEq,exists_eq_left']|exact rfl|refine aa (v:=.any) ?_|((first|apply Ca|apply Cb)<;>intro hb)|refine Ai (by omega) ?_|(apply Ai<;>intro hb)
 all_goals ((refine Fin.give [(q,none),(b0+160,some 0)] [y] ?_ ?_ ?_ ?_ ?_ (bB ho (by simp[bg,tgt]))<;>(try simp only[results86,ntmps86,ap,rK,Option.bind_some,eO,dc,ite_self,Bool.false_and,Bool.false_eq_true,if_false,cJ,hq,hy,yz,zy,y0,z0,aI,jU,ai,seval,ah,TypeDesc.pointer.injEq,exists_eq_left'])<;>(try simp only[al])<;>(try omega)))
def B9 (used:Bool)(q y:Nat)(bs:List UInt8)(c:UInt8)(hl:bs.length+1<=aS)(M:am)(nm:Nat)(hqy:q≠y)(hq:M q=some (bK used q (.own y 0 bs.length)))(hy:M y=some (rK bs))(ho:∀ z,(M z).isSome=true->z∈[q,y])(hn:q<nm)(hny:y<nm) :
  Ev cx 136 nm [.ptr q 0 0,.int .u8 c.toNat] M (.val .nilIface) [(y,none),(q,some (bK true q (.own nm 0 (bs.length+1)))),(nm,some (rK (bs++[c])))]:=by
 unfold aS at hl
 have yz:(y=q)=False:=eq_false (fun h=>hqy h.symm)
 have zy:(q=y)=False:=eq_false hqy
 refine aV call136 func136 rfl (by kernel_rfl) rfl ?_;intro b0 hb0
 have lq:=aY hb0 hq
 have ly:=aY hb0 hy
 have y0:=aZ ly
 have z0:=aZ lq
 repeat' first|simp only[aj,ag,results136,ntmps136,ap,cJ,hq,z0,ai,seval,ah,TypeDesc.pointer.injEq,exists_eq_left']|exact rfl|refine aa (v:=.any) ?_|((first|apply Ca|apply Cb)<;>intro hb)|refine Ai (by omega) ?_|(apply Ai<;>intro hb)
 refine aJ ?_ [q,y] (uZ used q y bs.length bs _ _ hqy ?_ ?_ aP (by omega) (by omega)) ?_ ?_
 ·simp only[ai,seval,ah,TypeDesc.pointer.injEq,exists_eq_left']
 ·simp only[iX,Lk,Ln,true_or,or_true,hq,hy,yz,zy,ai,seval,ah,TypeDesc.pointer.injEq,exists_eq_left']
 ·simp only[iX,Lk,Ln,true_or,or_true,hq,hy,yz,zy,ai,seval,ah,TypeDesc.pointer.injEq,exists_eq_left']
 ·simp only[Lk,Ln,forall_eq,forall_eq_or_imp,true_or,or_true,hq,hy,yz,zy,ai,seval,ah,TypeDesc.pointer.injEq,exists_eq_left']
 repeat' first|simp only[aj,ag,results136,ntmps136,ap,rK,cJ,hq,hy,yz,zy,y0,z0,DQ,xX,Lm,List.take_of_length_le,Nat.le_refl,ai,seval,ah,TypeDesc.pointer.injEq,exists_eq_left']|exact rfl|refine aa (v:=.any) ?_|((first|apply Ca|apply Cb)<;>intro hb)|refine Ai (by omega) ?_|(apply Ai<;>intro hb)
 all_goals ((refine Fin.give [(q,none),(b0+160,some 0)] [y] ?_ ?_ ?_ ?_ ?_ (bB ho (by simp[bg,tgt]))<;>(try simp only[results136,ntmps136,ap,rK,Ei,yk,aE,List.map_append,Lc,Lo,Option.bind_some,eO,dc,ite_self,Bool.false_and,Bool.false_eq_true,if_false,cJ,hq,hy,yz,zy,y0,z0,aI,jU,ai,seval,ah,TypeDesc.pointer.injEq,exists_eq_left'])<;>(try simp only[al])<;>(try omega)))
def Cu (used:Bool)(q y:Nat)(bs:List UInt8)(M:am)(nm:Nat)(hqy:q≠y)(hq:M q=some (bK used q (.own y 0 bs.length)))(hy:M y=some (rK bs))(ho:∀ z,(M z).isSome=true->z∈[q,y])(hn:q<nm)(hny:y<nm) :
  Ev cx 88 nm [.ptr q 0 0] M (.int .i64 bs.length) [(q,some (bK used q (.own y 0 bs.length))),(y,some (rK bs))]:=by
 have yz:(y=q)=False:=eq_false (fun h=>hqy h.symm)
 have zy:(q=y)=False:=eq_false hqy
 refine aV call88 func88 rfl (by kernel_rfl) rfl ?_;intro b0 hb0
 have lq:=aY hb0 hq
 have ly:=aY hb0 hy
 have y0:=aZ ly
 have z0:=aZ lq
 cases used<;>(repeat' first|simp only[aj,ag,results88,ntmps88,ap,cJ,dB,hq,hy,yz,zy,y0,z0,ai,seval,ah,TypeDesc.pointer.injEq,exists_eq_left']|exact rfl|refine aa (v:=.any) ?_|((first|apply Ca|apply Cb)<;>intro hb)|refine Ai (by omega) ?_|(apply Ai<;>intro hb))
 all_goals ((refine Fin.give [(q,none),(y,none)] [] ?_ ?_ ?_ ?_ ?_ (bB ho (by simp[bg,tgt]))<;>(try simp only[results88,ntmps88,ap,rK,gY,eN,j8,ite_self,Bool.false_and,Bool.false_eq_true,if_false,cJ,dB,hq,hy,yz,zy,y0,z0,aI,jU,ai,seval,ah,TypeDesc.pointer.injEq,exists_eq_left'])<;>(try simp only[al])<;>(try omega)))
def Cw (used:Bool)(q y:Nat)(bs:List UInt8)(hb:bs≠[])(hl:bs.length<=aS)(M:am)(nm:Nat)(hqy:q≠y)(hq:M q=some (bK used q (.own y 0 bs.length)))(hy:M y=some (rK bs))(ho:∀ z,(M z).isSome=true->z∈[q,y])(hn:q<nm)(hny:y<nm) :
  Ev cx 89 nm [.ptr q 0 0] M (.str bs) [(q,none),(y,none)]:=by
 unfold aS at hl
 have hp:0<bs.length:=List.length_pos_iff.2 hb
 have yz:(y=q)=False:=eq_false (fun h=>hqy h.symm)
 have zy:(q=y)=False:=eq_false hqy
 refine aV call89 func89 rfl (by kernel_rfl) rfl ?_;intro b0 hb0;have zF:=Ai results89 ntmps89
 have lq:=aY hb0 hq
 have ly:=aY hb0 hy
 have y0:=aZ ly
 have z0:=aZ lq
 cases used<;>(repeat' first|simp only[aj,ag,zF,ap,rK,cJ,dB,hq,hy,yz,zy,y0,z0,hb,ne_eq,not_false_eq_true,ai,seval,ah,TypeDesc.pointer.injEq,exists_eq_left']|exact rfl|refine aa (v:=.any) ?_|(refine rB (y:=?_) (n:=?_) rfl ?_ ?_ ?_;rotate_left 2;(focus (simp only[zF,ap,rK,cJ,dB,hq,hy,yz,zy,y0,z0,hb,ne_eq,not_false_eq_true,ai,seval,ah,TypeDesc.pointer.injEq,exists_eq_left']<;>exact rfl));(focus (first|omega|(simp only[zF,ap,rK,cJ,dB,hq,hy,yz,zy,y0,z0,hb,ne_eq,not_false_eq_true,ai,seval,ah,TypeDesc.pointer.injEq,exists_eq_left']<;>omega))))|(refine bf ?_)|(refine aW ?_)|(refine np (y:=?_) (bs:=?_) (u:=?_) rfl ?_ ?_ ?_ ?_ ?_ ?_ ?_ ?_;rotate_left 3;(iterate 3 (focus (simp only[zF,ap,rK,cJ,dB,hq,hy,yz,zy,y0,z0,hb,ne_eq,not_false_eq_true,ai,seval,ah,TypeDesc.pointer.injEq,exists_eq_left']<;>exact rfl)));(focus (first|assumption|(simp only[zF,ap,rK,cJ,dB,hq,hy,yz,zy,y0,z0,hb,ne_eq,not_false_eq_true,ai,seval,ah,TypeDesc.pointer.injEq,exists_eq_left'];done)));(focus (first|omega|(simp only[zF,ap,rK,cJ,dB,hq,hy,yz,zy,y0,z0,hb,ne_eq,not_false_eq_true,ai,seval,ah,TypeDesc.pointer.injEq,exists_eq_left']<;>omega)));(focus (simp only[zF,ap,rK,cJ,dB,hq,hy,yz,zy,y0,z0,hb,ne_eq,not_false_eq_true,ai,seval,ah,TypeDesc.pointer.injEq,exists_eq_left']<;>exact rfl));(focus (kernel_rfl)))|refine aq (ps:=[(4,8)]) (by decide +kernel) (by simp only[List.forall_mem_cons,List.getD_cons_zero,List.getD_cons_succ,zF,ap,rK,cJ,dB,hq,hy,yz,zy,y0,z0,hb,ne_eq,not_false_eq_true,ai,seval,ah,TypeDesc.pointer.injEq,exists_eq_left']<;>(try simp)<;>(try omega)) ?_|refine ao (by decide +kernel) ?_|((first|apply Ca|apply Cb)<;>intro hb)|refine Ai (by omega) ?_|(apply Ai<;>intro hb))
 all_goals ((refine Fin.give [] [q,y] ?_ ?_ ?_ ?_ ?_ (bB ho (by simp[bg,tgt]))<;>(try simp only[zF,ap,rK,ite_self,Bool.false_and,Bool.false_eq_true,if_false,cJ,dB,hq,hy,yz,zy,y0,z0,aI,jU,ai,seval,ah,TypeDesc.pointer.injEq,exists_eq_left'])<;>(try simp only[al])<;>(try omega)))
def B8 (used:Bool)(q:Nat)(c:UInt8)(M:am)(nm:Nat)(hq:M q=some (bK used q .nils))(ho:∀ z,(M z).isSome=true->z∈[q])(hn:q<nm) :
  Ev cx 136 nm [.ptr q 0 0,.int .u8 c.toNat] M (.val .nilIface) [(q,some (bK true q (.own nm 0 1))),(nm,some (rK [c]))]:=by
 refine aV call136 func136 rfl (by kernel_rfl) rfl ?_;intro b0 hb0
 have lq:=aY hb0 hq
 have z0:=aZ lq
 repeat' first|simp only[aj,ag,results136,ntmps136,ap,cJ,hq,z0,ai,seval,ah,TypeDesc.pointer.injEq,exists_eq_left']|exact rfl|refine aa (v:=.any) ?_|((first|apply Ca|apply Cb)<;>intro hb)|refine Ai (by omega) ?_|(apply Ai<;>intro hb)
 refine aJ ?_ [q] (pL used q _ _ ?_ aP (by omega)) ?_ ?_
 ·simp only[ai,seval,ah,TypeDesc.pointer.injEq,exists_eq_left']
 ·simp only[iX,Lk,Ln,hq,ai,seval,ah,TypeDesc.pointer.injEq,exists_eq_left']
 ·simp only[Lk,Ln,forall_eq,forall_eq_or_imp,hq,ai,seval,ah,TypeDesc.pointer.injEq,exists_eq_left']
 repeat' first|simp only[aj,ag,results136,ntmps136,ap,cJ,hq,z0,ai,seval,ah,TypeDesc.pointer.injEq,exists_eq_left']|exact rfl|refine aa (v:=.any) ?_|((first|apply Ca|apply Cb)<;>intro hb)|refine Ai (by omega) ?_|(apply Ai<;>intro hb)
 all_goals ((refine Fin.give [(q,none),(b0+160,some 0)] [] ?_ ?_ ?_ ?_ ?_ (bB ho (by simp[bg,tgt]))<;>(try simp only[results136,ntmps136,ap,rK,gY,eN,aE,List.map_append,Lc,Lo,ite_self,Bool.false_and,Bool.false_eq_true,if_false,cJ,hq,z0,aI,jU,ai,seval,ah,TypeDesc.pointer.injEq,exists_eq_left'])<;>(try simp only[al])<;>(try omega)))
def Ct (used:Bool)(q:Nat)(M:am)(nm:Nat)(hq:M q=some (bK used q .nils))(ho:∀ z,(M z).isSome=true->z∈[q])(hn:q<nm) :
  Ev cx 88 nm [.ptr q 0 0] M (.int .i64 0) [(q,some (bK used q .nils))]:=by
 refine aV call88 func88 rfl (by kernel_rfl) rfl ?_;intro b0 hb0
 have lq:=aY hb0 hq
 have z0:=aZ lq
 cases used<;>(repeat' first|simp only[aj,ag,results88,ntmps88,ap,cJ,dB,hq,z0,ai,seval,ah,TypeDesc.pointer.injEq,exists_eq_left']|exact rfl|refine aa (v:=.any) ?_|((first|apply Ca|apply Cb)<;>intro hb)|refine Ai (by omega) ?_|(apply Ai<;>intro hb))
 all_goals ((refine Fin.give [(q,none)] [] ?_ ?_ ?_ ?_ ?_ (bB ho (by simp[bg,tgt]))<;>(try simp only[results88,ntmps88,ap,gY,eN,ite_self,Bool.false_and,Bool.false_eq_true,if_false,cJ,dB,hq,z0,aI,jU,ai,seval,ah,TypeDesc.pointer.injEq,exists_eq_left'])<;>(try simp only[al])<;>(try omega)))
def Cv (used:Bool)(q:Nat)(M:am)(nm:Nat)(hq:M q=some (bK used q .nils))(ho:∀ z,(M z).isSome=true->z∈[q])(hn:q<nm) :
  Ev cx 89 nm [.ptr q 0 0] M (.str []) [(q,none)]:=by
 refine aV call89 func89 rfl (by kernel_rfl) rfl ?_;intro b0 hb0;have zF:=Ai results89 ntmps89
 have lq:=aY hb0 hq
 have z0:=aZ lq
 cases used<;>(repeat' first|simp only[aj,ag,zF,ap,cJ,dB,hq,z0,ai,seval,ah,TypeDesc.pointer.injEq,exists_eq_left']|exact rfl|refine aa (v:=.any) ?_|(refine l9 rfl ?_ ?_;(focus (simp only[zF,ap,cJ,dB,hq,z0,ai,seval,ah,TypeDesc.pointer.injEq,exists_eq_left']<;>exact rfl)))|(refine bf ?_)|(refine aW ?_)|(refine jQ rfl ?_ ?_ ?_;(iterate 2 (focus (simp only[zF,ap,cJ,dB,hq,z0,ai,seval,ah,TypeDesc.pointer.injEq,exists_eq_left']<;>exact rfl))))|refine aq (ps:=[(4,8)]) (by decide +kernel) (by simp only[List.forall_mem_cons,List.getD_cons_zero,List.getD_cons_succ,zF,ap,cJ,dB,hq,z0,ai,seval,ah,TypeDesc.pointer.injEq,exists_eq_left']<;>(try simp)<;>(try omega)) ?_|refine ao (by decide +kernel) ?_|((first|apply Ca|apply Cb)<;>intro hb)|refine Ai (by omega) ?_|(apply Ai<;>intro hb))
 all_goals ((refine Fin.give [] [q] ?_ ?_ ?_ ?_ ?_ (bB ho (by simp[bg,tgt]))<;>(try simp only[zF,ap,ite_self,Bool.false_and,Bool.false_eq_true,if_false,cJ,dB,hq,z0,aI,jU,ai,seval,ah,TypeDesc.pointer.injEq,exists_eq_left'])<;>(try simp only[al])<;>(try omega)))
def bS (u:Bool)(q y:Nat)(bs:List UInt8):Blk:=if bs=[] then bK u q .nils else bK true q (.own y 0 bs.length)
def pD (u:Bool)(q y:Nat):bS u q y []=bK u q .nils:=by unfold bS;rw[if_pos rfl]
def pC (u:Bool)(q y:Nat){bs:List UInt8}(h:bs≠[]):bS u q y bs=bK true q (.own y 0 bs.length):=by unfold bS;rw[if_neg h]
def wV (q y:Nat):bS false q y [] = @Blk.mk 2 [[.nilp,.nils]] (.typed 131):=by rw[pD];rfl
def ja (σ:List (Nat×Nat))(u:Bool)(q y:Nat)(bs:List UInt8):Blk.ren σ (bS u q y bs)=bS u ((aN σ q).getD q) ((aN σ y).getD y) bs:=by
 unfold bS
 by_cases h:bs=[]
 ·rw[if_pos h,if_pos h]
  cases u<;>simp[bK,Blk.ren,fT,renL,V.ren,plainLL,plainL,V.plain,Ob.ren,instCells]
 ·rw[if_neg h,if_neg h]
  simp[bK,Blk.ren,fT,renL,V.ren,plainLL,plainL,V.plain,Ob.ren,instCells]
def e8 (σ:List (Nat×Nat))(u:Bool)(q y:Nat)(bs:List UInt8)(h1:(aN σ q).isSome=true)(h2:(aN σ y).isSome=true):Blk.renOk σ (bS u q y bs)=true:=by
 unfold bS
 by_cases h:bs=[]
 ·rw[if_pos h]
  cases u<;>simp[bK,Blk.renOk,ek,renOkL,V.renOk,h1,Ob.renOk,instCells]
 ·rw[if_neg h]
  simp[bK,Blk.renOk,ek,renOkL,V.renOk,h1,h2,Ob.renOk,instCells]
def ya (bs:List UInt8):(rK bs).ob.isRow=true:=rfl
def x9:(rK []).rows=[]:=rfl
def fY (σ:List (Nat×Nat))(bs:List UInt8):Blk.ren σ (rK bs)=rK bs:=eO σ bs _
def dm (σ:List (Nat×Nat))(bs:List UInt8):Blk.renOk σ (rK bs)=true:=dc σ bs _
def kH {M:am}{q y nm:Nat}(ho:∀ z,(M z).isSome=true->z∈[q,y])(hn:q<nm)(hny:y<nm):∀ x,bY nm x->M x=none:=fun x hx=>by
 cases hm:M x with
 | none=>rfl
 | some k =>
  have:=ho x (by rw[hm];rfl)
  simp only[Lk,Ln,or_false]at this
  have:=hx.1
  omega
def DM {l:List Nat} : ∀ z,((am.nil:am) z).isSome=true->z∈l:=fun z h=>by cases h
def zi {M:am}{q:Nat}{k:Blk}(h:M q=some k):(M.only [q]) q=some k:=ui.2 ⟨h,by simp⟩
section
variable (u:Bool) (q y:Nat) (bs:List UInt8) (M:am) (nm:Nat)
def kQ (s:List UInt8)(hs:s≠[])(hl:bs.length+s.length<=aS)(hqy:q≠y)(hq:M q=some (bS u q y bs))(hy:M y=some (rK bs))(ho:∀ z,(M z).isSome=true->z∈[q,y])(hn:q<nm)(hny:y<nm) :
  Ev cx 86 nm [.ptr q 0 0,.str s] M (.tup [.int .i64 s.length,.val .nilIface]) [(y,none),(q,some (bS false q nm (bs++s))),(nm,some (rK (bs++s)))]:=by
 rw[pC false q nm (bs:=bs++s) (by simp[hs]),List.length_append]
 by_cases hb:bs=[]
 ·subst hb
  rw[pD]at hq
  simp only[List.nil_append,List.length_nil,Nat.zero_add]at hl ⊢
  refine Ev.dropM y (Ev.frame [q] (wH u q s hs hl _ nm (zi hq) aP hn) (fun x hx=>?_) (kH ho hn hny))
  simp only[ak,Lc,Lo,Lk,Ln,or_false]at hx
  rcases hx with rfl|rfl
  ·left;simp
  ·right;exact⟨Nat.le_refl _,by omega⟩
 ·rw[pC u q y hb]at hq
  exact ES true q y bs s hl M nm hqy hq hy ho hn hny
def mS (c:UInt8)(hl:bs.length+1<=aS)(hqy:q≠y)(hq:M q=some (bS u q y bs))(hy:M y=some (rK bs))(ho:∀ z,(M z).isSome=true->z∈[q,y])(hn:q<nm)(hny:y<nm) :
  Ev cx 136 nm [.ptr q 0 0,.int .u8 c.toNat] M (.val .nilIface) [(y,none),(q,some (bS false q nm (bs++[c]))),(nm,some (rK (bs++[c])))]:=by
 rw[pC false q nm (bs:=bs++[c]) (by simp),List.length_append,List.length_singleton]
 by_cases hb:bs=[]
 ·subst hb
  rw[pD]at hq
  simp only[List.nil_append,List.length_nil,Nat.zero_add]at hl ⊢
  refine Ev.dropM y (Ev.frame [q] (B8 u q c _ nm (zi hq) aP hn) (fun x hx=>?_) (kH ho hn hny))
  simp only[ak,Lc,Lo,Lk,Ln,or_false]at hx
  rcases hx with rfl|rfl
  ·left;simp
  ·right;exact⟨Nat.le_refl _,by omega⟩
 ·rw[pC u q y hb]at hq
  exact B9 true q y bs c hl M nm hqy hq hy ho hn hny
def Ch {M:am}{q y:Nat}{a b:Blk}(hq:M q=some a)(hy:M y=some b):M.app [(q,some a)]=M.app [(q,some a),(y,some b)]:=by
 funext x
 simp only[am.app,am.put]
 by_cases e:x=y
 ·subst e
  by_cases e2:x=q
  ·subst e2;rw[hq]at hy;cases hy;simp
  ·simp[e2,hy]
 ·simp[e]
def o9 (hqy:q≠y)(hq:M q=some (bS u q y bs))(hy:M y=some (rK bs))(ho:∀ z,(M z).isSome=true->z∈[q,y])(hn:q<nm)(hny:y<nm) :
  Ev cx 88 nm [.ptr q 0 0] M (.int .i64 bs.length) [(q,some (bS u q y bs)),(y,some (rK bs))]:=by
 by_cases hb:bs=[]
 ·subst hb
  refine Ev.eff_eq ?_ (Ch hq hy)
  rw[pD]at hq ⊢
  refine Ev.frame [q] (Ct u q _ nm (zi hq) aP hn) (fun x hx=>?_) (kH ho hn hny)
  simp only[ak,Lc,Lo,Lk,Ln,or_false]at hx
  subst hx;left;simp
 ·rw[pC u q y hb]at hq ⊢
  exact Cu true q y bs M nm hqy hq hy ho hn hny
def lT (hl:bs.length<=aS)(hqy:q≠y)(hq:M q=some (bS u q y bs))(hy:M y=some (rK bs))(ho:∀ z,(M z).isSome=true->z∈[q,y])(hn:q<nm)(hny:y<nm) :
  Ev cx 89 nm [.ptr q 0 0] M (.str bs) [(q,none),(y,none)]:=by
 by_cases hb:bs=[]
 ·subst hb
  rw[pD]at hq
  have h1:Ev cx 89 nm [.ptr q 0 0] M (.str []) [(q,none)]:=by
   refine Ev.frame [q] (Cv u q _ nm (zi hq) aP hn) (fun x hx=>?_) (kH ho hn hny)
   simp only[ak,Lc,Lo,Lk,Ln,or_false]at hx
   subst hx;left;simp
  refine Ev.eff_eq (Ev.dropM y h1) ?_
  funext x
  simp only[am.app,am.put]
  by_cases e:x=y<;>by_cases e2:x=q<;>simp[e,e2]
 ·rw[pC u q y hb]at hq
  exact Cw true q y bs hb hl M nm hqy hq hy ho hn hny
end
def nX (q:Bool):List (V×V):=[(.int .u8 38,.agg [.str [38,97,109,112,59]]),(.int .u8 60,.agg [.str [38,108,116,59]]),(.int .u8 62,.agg [.str [38,103,116,59]]),(.int .u8 13,.agg [.str [38,35,49,51,59]])] ++
 (if q=true then [(.int .u8 34,.agg [.str [38,113,117,111,116,59]]),(.int .u8 9,.agg [.str [38,35,57,59]]),(.int .u8 10,.agg [.str [38,35,49,48,59]])] else [])
def fZ:xR cx.P 237=some (5,240):=by kernel_rfl
def kr:zeroOf cx.P 240=some (.agg #[.string ⟨#[]⟩]):=by kernel_rfl
def jg:nX false=[(.int .u8 38,.agg [.str [38,97,109,112,59]]),(.int .u8 60,.agg [.str [38,108,116,59]]),(.int .u8 62,.agg [.str [38,103,116,59]]),(.int .u8 13,.agg [.str [38,35,49,51,59]])]:=rfl
def yJ:nX true=[(.int .u8 38,.agg [.str [38,97,109,112,59]]),(.int .u8 60,.agg [.str [38,108,116,59]]),(.int .u8 62,.agg [.str [38,103,116,59]]),(.int .u8 13,.agg [.str [38,35,49,51,59]]),(.int .u8 34,.agg [.str [38,113,117,111,116,59]]),(.int .u8 9,.agg [.str [38,35,57,59]]),(.int .u8 10,.agg [.str [38,35,49,48,59]])]:=rfl
def EW (q:Bool)(nm:Nat):Ev cx 204 nm [.bool q] am.nil (.mp nm) [(nm,some (lH (nX q)))]:=by
 cases q with
 | false =>
  refine aV call204 func204 rfl (by kernel_rfl) rfl ?_;intro b0 hb0;have zF:=Ai results204 ntmps204
  repeat' first|simp only[aj,ag,zF,ap,fZ,jg,ai,seval,ah]|exact rfl|refine aa (v:=.any) ?_|(refine oq ?_)|(refine bf ?_)|(refine aW ?_)|(refine pY (y:=?_) (kv:=?_) (xv:=?_) (kvs:=?_) ?_ ?_ ?_ ?_ fZ ?_ ?_ ?_ ?_ ?_;rotate_left 4;(iterate 4 (focus (simp only[zF,ap,fZ,jg,ai,seval,ah]<;>exact rfl)));(focus (kernel_rfl));(iterate 3 (focus (exact rfl))))|(refine kX (y:=?_) (kv:=?_) (xv:=?_) (kvs:=?_) ?_ ?_ ?_ ?_ fZ ?_ ?_ ?_ ?_ ?_;rotate_left 4;(iterate 4 (focus (simp only[zF,ap,fZ,jg,ai,seval,ah]<;>exact rfl)));(focus (kernel_rfl));(iterate 3 (focus (exact rfl))))|((first|apply Ca|apply Cb)<;>intro hb)|refine Ai (by omega) ?_|(apply Ai<;>intro hb)
  all_goals ((refine Fin.give [(b0+16,some 0)] [] ?_ ?_ ?_ ?_ ?_ (fun q hq=>by have hqq:=DM (l:=[]) q hq;first|(simp only[bg,tgt,Lc,Lo,Lk,Ln,or_false]at hqq ⊢;omega)|(simp only[bg,tgt,Lc,Lo,Lk,Ln,or_false]at hqq))<;>(try simp only[zF,ap,jg,yJ,jb,fy,jU,ai,seval,ah])<;>(try simp only[al])<;>(try omega)))
 | true =>
  refine aV call204 func204 rfl (by kernel_rfl) rfl ?_;intro b0 hb0;have zF:=Ai results204 ntmps204
  repeat' first|simp only[aj,ag,zF,ap,fZ,jg,ai,seval,ah]|exact rfl|refine aa (v:=.any) ?_|(refine oq ?_)|(refine bf ?_)|(refine aW ?_)|(refine pY (y:=?_) (kv:=?_) (xv:=?_) (kvs:=?_) ?_ ?_ ?_ ?_ fZ ?_ ?_ ?_ ?_ ?_;rotate_left 4;(iterate 4 (focus (simp only[zF,ap,fZ,jg,ai,seval,ah]<;>exact rfl)));(focus (kernel_rfl));(iterate 3 (focus (exact rfl))))|(refine kX (y:=?_) (kv:=?_) (xv:=?_) (kvs:=?_) ?_ ?_ ?_ ?_ fZ ?_ ?_ ?_ ?_ ?_;rotate_left 4;(iterate 4 (focus (simp only[zF,ap,fZ,jg,ai,seval,ah]<;>exact rfl)));(focus (kernel_rfl));(iterate 3 (focus (exact rfl))))|((first|apply Ca|apply Cb)<;>intro hb)|refine Ai (by omega) ?_|(apply Ai<;>intro hb)
  all_goals ((refine Fin.give [(b0+16,some 0)] [] ?_ ?_ ?_ ?_ ?_ (fun q hq=>by have hqq:=DM (l:=[]) q hq;first|(simp only[bg,tgt,Lc,Lo,Lk,Ln,or_false]at hqq ⊢;omega)|(simp only[bg,tgt,Lc,Lo,Lk,Ln,or_false]at hqq))<;>(try simp only[zF,ap,jg,yJ,jb,fy,jU,ai,seval,ah])<;>(try simp only[al])<;>(try omega)))
def iW {c d:UInt8}(h:¬ c=d):((c.toNat:Int)==(d.toNat:Int))=false:=by
 rw[beq_eq_false_iff_ne]
 intro e
 exact h (UInt8.toNat_inj.1 (by omega))
def xt (q:Bool)(c:UInt8):(eU (.int .u8 c.toNat) (nX q)=some none/\jO q c=[c])\/eU (.int .u8 c.toNat) (nX q)=some (some (.agg [.str (jO q c)])):=by
 by_cases h1:c=38
 ·subst h1;right;cases q<;>rfl
 by_cases h2:c=60
 ·subst h2;right;cases q<;>rfl
 by_cases h3:c=62
 ·subst h3;right;cases q<;>rfl
 by_cases h4:c=13
 ·subst h4;right;cases q<;>rfl
 have e1:((c.toNat:Int)==38)=false:=iW (d:=38) h1
 have e2:((c.toNat:Int)==60)=false:=iW (d:=60) h2
 have e3:((c.toNat:Int)==62)=false:=iW (d:=62) h3
 have e4:((c.toNat:Int)==13)=false:=iW (d:=13) h4
 cases q with
 | false =>
  left
  simp only[jg,eU,ke,if_true,e1,e2,e3,e4,jO,h1,h2,h3,h4,if_false,Bool.false_eq_true,and_self]
 | true =>
  by_cases h5:c=34
  ·subst h5;right;rfl
  by_cases h6:c=9
  ·subst h6;right;rfl
  by_cases h7:c=10
  ·subst h7;right;rfl
  have e5:((c.toNat:Int)==34)=false:=iW (d:=34) h5
  have e6:((c.toNat:Int)==9)=false:=iW (d:=9) h6
  have e7:((c.toNat:Int)==10)=false:=iW (d:=10) h7
  left
  simp only[yJ,eU,ke,if_true,e1,e2,e3,e4,e5,e6,e7,jO,h1,h2,h3,h4,h5,h6,h7,if_false,and_self]
def qE (q:Bool)(s:List UInt8):Int:=if az s≠0 then az s else if 16384<(bo q s).length then 4 else 0
def ul (q:Bool)(s:List UInt8):List UInt8:=if qE q s=0 then bo q s else []
def FU (s:List UInt8)(q:Bool)(hs:s.length<=aS)(nm:Nat):Ev cx 175 nm [.str s,.bool q] am.nil (.tup [.str (ul q s),.int .i64 (qE q s)]) []:=by
 by_cases hz:az s=0
 ·have hb:(az s != 0)=false:=by rw[hz];rfl
  have hlen:=qD hz
  have hw:=bm q s
  refine aV call175 func175 rfl (by kernel_rfl) rfl ?_;intro b0 hb0;have zF:=Ai results175 ntmps175
  repeat' first|simp only[aj,ag,zF,ap,hb,ai,seval,ah]|exact rfl|refine aa (v:=.any) ?_|(first|(refine ac ?_ (cE s hs _) ?_)|(refine ab ?_ (fun _=>cE s hs _) ?_))|(refine jG ?_ (EW q _) ?_ ?_)|(refine vp (bs:=?_) ?_ ?_ ?_ ?_;rotate_left 1;(iterate 2 (focus (simp only[zF,ap,hb,ai,seval,ah];done)));(focus (simp only[zF,ap,hb,ai,seval,ah]<;>exact rfl)))|(refine bf ?_)|(refine aW ?_)|omega|((first|apply Ca|apply Cb)<;>intro hb)|refine Ai (by omega) ?_|(apply Ai<;>intro hb)
  (refine ay bu (fun x:Nat=>s.length-x) (fun x=>x<=s.length) (b0+16) (fun x=>[(7,.mp b0),(8,.ptr (b0+1) 0 0),(21,.sl false 1 (s.map aE)),(22,.int .i64 s.length),(23,.int .i64 x)]) (fun x=>[(b0,lH (nX q)),(b0+1,bS false (b0+1) (b0+2) (bo q (s.take x))),(b0+2,rK (bo q (s.take x)))]) (0) [some (b0+128),some (b0+160),none] ?_ ?_ ?_ ?_;rotate_left 1;(focus (show b0<=_;omega));(focus (refine⟨?_,?_⟩<;>(try simp only[aM,wV,pW,List.take_zero,x9,ya,jb,fy,gY,eN,fY,dm,j8,Lm,ai,seval,ah,al])<;>(try omega)));rotate_left 1)
  ·exact Nat.zero_le _
  ·intro k hk
   by_cases hlt:k<s.length
   ·obtain⟨c,hc⟩:∃ c,s[k]? = some c:=⟨_,List.getElem?_eq_getElem hlt⟩
    have hh:(s.map aE)[k]? = some (aE c):=by rw[List.getElem?_map,hc];rfl
    have hd:decide (k<s.length)=true:=decide_eq_true hlt
    have hwk:IntKind.i64.wrap ((k:Int)+1)=((k+1:Nat):Int):=aK
    have hnx:=sj q hc
    have hw1:=bm q (s.take k)
    have hw2:=gP q c
    have hw3:(s.take k).length=k:=by rw[List.length_take];omega
    have hll:(bo q (s.take k)).length+(jO q c).length<=aS:=by unfold aS;omega
    rcases xt q c with ⟨hf,hb1⟩|hf
    ·rw[hb1]at hnx hll
     repeat' first|simp only[aj,ag,zF,ap,hh,hd,hlt,hf,kr,aI,Lm,gl,aE,List.getElem?_cons_zero,Option.getD_none,Option.isSome_none,ai,seval,ah]|exact rfl|refine aa (v:=.any) ?_|(refine aJ ?_ [b0+1,b0+2] (mS false (b0+1) (b0+2) (bo q (s.take k)) _ _ c hll (by omega) ?_ ?_ aP (by omega) (by omega)) ?_ ?_)|(refine pZ (y:=?_) (kv:=?_) (kvs:=?_) (q:=?_) ?_ ?_ ?_ fZ ?_ ?_ kr ?_ ?_ ?_;rotate_left 4;(iterate 3 (focus (simp only[zF,ap,hh,hd,hlt,hf,kr,aI,Lm,gl,aE,List.getElem?_cons_zero,Option.getD_none,Option.isSome_none,ai,seval,ah]<;>exact rfl)));(focus (kernel_rfl));(focus (exact rfl));(focus (simp only[zF,ap,hh,hd,hlt,hf,kr,aI,Lm,gl,aE,List.getElem?_cons_zero,Option.getD_none,Option.isSome_none,ai,seval,ah]<;>exact rfl));(focus (intro v hv;cases hv<;>exact rfl)))|(refine bf ?_)|(refine aW ?_)|((first|apply Ca|apply Cb)<;>intro hb)|refine Ai (by omega) ?_|(apply Ai<;>intro hb)
     all_goals ((refine au bu (k+1) [some b0,some (b0+1),some (b0+256)] ?_ ?_ ?_ ?_;rotate_left 2;(focus (show b0<=_;omega));(focus (refine⟨?_,?_⟩<;>(try simp only[aM,hwk,hnx.symm,jb,fy,gY,eN,ja,e8,fY,dm,j8,Lm,Option.getD_some,Option.isSome_some,ai,seval,ah,al])<;>(try omega)))))
     all_goals (first|(show s.length-(k+1)<s.length-k;omega)|(show k+1<=s.length;omega)|skip)
    ·repeat' first|simp only[aj,ag,zF,ap,hh,hd,hlt,hf,kr,aI,Lm,gl,aE,List.getElem?_cons_zero,Option.getD_some,Option.isSome_some,ai,seval,ah]|exact rfl|refine aa (v:=.any) ?_|(refine aJ ?_ [b0+1,b0+2] (kQ false (b0+1) (b0+2) (bo q (s.take k)) _ _ (jO q c) (Ge q c) hll (by omega) ?_ ?_ aP (by omega) (by omega)) ?_ ?_)|(refine pZ (y:=?_) (kv:=?_) (kvs:=?_) (q:=?_) ?_ ?_ ?_ fZ ?_ ?_ kr ?_ ?_ ?_;rotate_left 4;(iterate 3 (focus (simp only[zF,ap,hh,hd,hlt,hf,kr,aI,Lm,gl,aE,List.getElem?_cons_zero,Option.getD_some,Option.isSome_some,ai,seval,ah]<;>exact rfl)));(focus (kernel_rfl));(focus (exact rfl));(focus (simp only[zF,ap,hh,hd,hlt,hf,kr,aI,Lm,gl,aE,List.getElem?_cons_zero,Option.getD_some,Option.isSome_some,ai,seval,ah]<;>exact rfl));(focus (intro v hv;cases hv<;>exact rfl)))|(refine bf ?_)|(refine aW ?_)|((first|apply Ca|apply Cb)<;>intro hb)|refine Ai (by omega) ?_|(apply Ai<;>intro hb)
     all_goals ((refine au bu (k+1) [some b0,some (b0+1),some (b0+272)] ?_ ?_ ?_ ?_;rotate_left 2;(focus (show b0<=_;omega));(focus (refine⟨?_,?_⟩<;>(try simp only[aM,hwk,hnx.symm,jb,fy,gY,eN,ja,e8,fY,dm,j8,Lm,Option.getD_some,Option.isSome_some,ai,seval,ah,al])<;>(try omega)))))
     all_goals (first|(show s.length-(k+1)<s.length-k;omega)|(show k+1<=s.length;omega)|skip)
   ·have hke:k=s.length:=by omega
    subst hke
    have hd:decide (s.length<s.length)=false:=aR
    have hll:(bo q s).length<=aS:=by unfold aS;omega
    by_cases hbig:16384<(bo q s).length
    ·have hp:qE q s=4:=by unfold qE;rw[if_neg (fun h=>h hz),if_pos hbig]
     have hp2:ul q s=[]:=by unfold ul;rw[hp];rfl
     have hd2:decide ((16384:Int)<((bo q s).length:Int))=true:=cn
     (repeat' first|simp only[aj,ag,zF,ap,hd,hd2,hp,hp2,List.take_length,ai,seval,ah]|exact rfl|refine aa (v:=.any) ?_|(refine aJ ?_ [b0+1,b0+2] (o9 false (b0+1) (b0+2) (bo q s) _ _ (by omega) ?_ ?_ aP (by omega) (by omega)) ?_ ?_)|((first|apply Ca|apply Cb)<;>intro hb)|refine Ai (by omega) ?_|(apply Ai<;>intro hb)|refine Fin.pure ?_ ?_ ?_|simp only[al])
    ·have hp:qE q s=0:=by unfold qE;rw[if_neg (fun h=>h hz),if_neg hbig]
     have hp2:ul q s=bo q s:=by unfold ul;rw[hp];rfl
     have hd2:decide ((16384:Int)<((bo q s).length:Int))=false:=aR
     (repeat' first|simp only[aj,ag,zF,ap,hd,hd2,hp,hp2,List.take_length,ai,seval,ah]|exact rfl|refine aa (v:=.any) ?_|(refine aJ ?_ [b0+1,b0+2] (o9 false (b0+1) (b0+2) (bo q s) _ _ (by omega) ?_ ?_ aP (by omega) (by omega)) ?_ ?_)|(refine aJ ?_ [b0+1,b0+2] (lT false (b0+1) (b0+2) (bo q s) _ _ hll (by omega) ?_ ?_ aP (by omega) (by omega)) ?_ ?_)|((first|apply Ca|apply Cb)<;>intro hb)|refine Ai (by omega) ?_|(apply Ai<;>intro hb)|refine Fin.pure ?_ ?_ ?_|simp only[al])
 ·have hb:(az s != 0)=true:=by rw[bne_iff_ne];exact hz
  have h1:qE q s=az s:=by unfold qE;rw[if_pos hz]
  have h2:ul q s=[]:=by unfold ul;rw[h1,if_neg hz]
  refine aV call175 func175 rfl (by kernel_rfl) rfl ?_;intro b0 hb0;have zF:=Ai results175 ntmps175
  (repeat' first|simp only[aj,ag,zF,ap,hb,h1,h2,ai,seval,ah]|exact rfl|refine aa (v:=.any) ?_|(first|(refine ac ?_ (cE s hs _) ?_)|(refine ab ?_ (fun _=>cE s hs _) ?_))|((first|apply Ca|apply Cb)<;>intro hb)|refine Ai (by omega) ?_|(apply Ai<;>intro hb)|refine Fin.pure ?_ ?_ ?_|simp only[al])
end Go.Proofs.YtlnlopnpcmahgaaGreatDoor
