/-
 Texts joined: XEb,XEf,XEg.
-/
import Derived.Test.YtlnlopnpcmahgaaGreatDoorQf
import Derived.Test.YtlnlopnpcmahgaaGreatDoorQe
import Derived.Test.YtlnlopnpcmahgaaGreatDoorQg
set_option linter.all false
namespace Go.Proofs.YtlnlopnpcmahgaaGreatDoor
set_option maxRecDepth 100000
set_option maxHeartbeats 32000000
open Go Go.RowKit Vm Go.Lib Tryz
open Vm renaming ba->Ca,bh->Cb
open And renaming intro->Ai
open List renaming length_map->Lm,not_mem_nil->Ln,map_nil->Lo,map_cons->Lc,mem_cons->Lk
open Bool renaming not_false->Bf,not_true->Bt
def qc (v:V)(M:ap)(nm:Nat):Ev cx 174 nm [v] M v [] :=
 Ev.noEscape func174 (by kernel_rfl) (by kernel_rfl) (by kernel_rfl) (by kernel_rfl) v M nm
def au (n:Nat):cg n n=True:=eq_true ⟨Nat.le_refl _,by omega⟩
def bK (used:Bool)(q:Nat)(c:V):Blk:=if used then ⟨2,[[.ptr q 0 0,c]]⟩ else @Blk.mk 2 [[.nilp,c]] (.typed 131)
def dc (q:Nat)(c:V):bK true q c=⟨2,[[.ptr q 0 0,c]]⟩:=rfl
def cW (q:Nat)(c:V):bK false q c = @Blk.mk 2 [[.nilp,c]] (.typed 131):=rfl
def kp:(cx.P.info? 131).isSome=true:=by kernel_rfl
def py (used:Bool)(q:Nat)(M:ap)(nm:Nat)(hq:M q=some (bK used q .nils))(ho:∀ z,(M z).isSome=true->z∈[q])(hn:q<nm) :
  Ev cx 134 nm [.ptr q 0 0] M (.tup []) [(q,some (bK true q .nils))]:=by
 cases used with
 | false =>
  refine bi call134 func134 rfl (by kernel_rfl) rfl ?_;intro b0 hb0;have zF:=Ai results134 ntmps134
  have lq:=aC hb0 hq
  have z0:=aE lq
  repeat' first|simp only[ak,aj,zF,al,kp,dc,cW,hq,z0,ai,seval,ah,TypeDesc.pointer.injEq,exists_eq_left']|exact rfl|refine aa (v:=.any) ?_|(first|(refine ad ?_ (qc (.ptr q 0 0) ap.nil _) ?_)|(refine ab ?_ (fun _=>qc (.ptr q 0 0) ap.nil _) ?_))|(refine pH (y:=?_) (sz:=?_) (row:=?_) (rows:=?_) (o:=?_) (te:=?_) ?_ ?_ ?_ ?_ ?_ ?_ ?_ ?_;rotate_left 6;(iterate 2 (focus (simp only[zF,al,kp,dc,cW,hq,z0,ai,seval,ah,TypeDesc.pointer.injEq,exists_eq_left']<;>exact rfl)));(focus (exact rfl));(focus (omega));(iterate 2 (focus (simp only[zF,al,kp,dc,cW,hq,z0,ai,seval,ah,TypeDesc.pointer.injEq,exists_eq_left']<;>exact rfl)));(focus (kernel_rfl)))|(refine bd ?_)|(refine aV ?_)|(refine mN (y:=?_) (sz:=?_) (row:=?_) (rows:=?_) (u:=?_) ?_ ?_ ?_ ?_ ?_ ?_ ?_ ?_;rotate_left 5;(iterate 2 (focus (simp only[zF,al,kp,dc,cW,hq,z0,ai,seval,ah,TypeDesc.pointer.injEq,exists_eq_left']<;>exact rfl)));(focus (omega));(iterate 2 (focus (simp only[zF,al,kp,dc,cW,hq,z0,ai,seval,ah,TypeDesc.pointer.injEq,exists_eq_left']<;>exact rfl)));(iterate 2 (focus (kernel_rfl))))|((first|apply Ca|apply Cb)<;>intro hb)|refine Ai (by omega) ?_|(apply Ai<;>intro hb)
  all_goals ((refine Fin.give [(q,none)] [] ?_ ?_ ?_ ?_ ?_ (aO ho (by simp[aS,tgt]))<;>(try simp only[zF,al,kp,dc,cW,hq,z0,dM,ai,seval,ah,TypeDesc.pointer.injEq,exists_eq_left'])<;>(try simp only[ao])<;>(try omega)))
 | true =>
  refine bi call134 func134 rfl (by kernel_rfl) rfl ?_;intro b0 hb0;have zF:=Ai results134 ntmps134
  have lq:=aC hb0 hq
  have z0:=aE lq
  repeat' first|simp only[ak,aj,zF,al,kp,dc,cW,hq,z0,ai,seval,ah,TypeDesc.pointer.injEq,exists_eq_left']|exact rfl|refine aa (v:=.any) ?_|((first|apply Ca|apply Cb)<;>intro hb)|refine Ai (by omega) ?_|(apply Ai<;>intro hb)
  all_goals ((refine Fin.give [(q,none)] [] ?_ ?_ ?_ ?_ ?_ (aO ho (by simp[aS,tgt]))<;>(try simp only[zF,al,kp,dc,cW,hq,z0,dM,ai,seval,ah,TypeDesc.pointer.injEq,exists_eq_left'])<;>(try simp only[ao])<;>(try omega)))
def eK (O:List (Nat×Nat))(bs:List UInt8)(t:TypeId):Blk.ren O (@Blk.mk 1 (bs.map aJ) (.typed t)) = @Blk.mk 1 (bs.map aJ) (.typed t):=by
 have h:plainLL (bs.map aJ)=true:=cI _ (fun _=>rfl) bs
 simp only[Blk.ren,gY,h,if_true]
def dm (O:List (Nat×Nat))(bs:List UInt8)(t:TypeId):Blk.renOk O (@Blk.mk 1 (bs.map aJ) (.typed t))=true:=by
 have h:plainLL (bs.map aJ)=true:=cI _ (fun _=>rfl) bs
 simp only[Blk.renOk,fM,h,Bool.true_or,Bool.true_and]
 rfl
def Le (O:List (Nat×Nat))(c:UInt8)(bs:List UInt8)(t:TypeId):Blk.ren O (@Blk.mk 1 (aJ c::bs.map aJ) (.typed t)) = @Blk.mk 1 (aJ c::bs.map aJ) (.typed t):=eK O (c::bs) t
def DG (O:List (Nat×Nat))(c:UInt8)(bs:List UInt8)(t:TypeId):Blk.renOk O (@Blk.mk 1 (aJ c::bs.map aJ) (.typed t))=true:=dm O (c::bs) t
def Lg (O:List (Nat×Nat))(c:UInt8)(bs:List UInt8)(t:TypeId):Blk.ren O (@Blk.mk 1 (bs.map aJ++[[.int .u8 c.toNat]]) (.typed t)) = @Blk.mk 1 (bs.map aJ++[[.int .u8 c.toNat]]) (.typed t):=by
 have:=eK O (bs++[c]) t
 rwa[List.map_append]at this
def DH (O:List (Nat×Nat))(c:UInt8)(bs:List UInt8)(t:TypeId):Blk.renOk O (@Blk.mk 1 (bs.map aJ++[[.int .u8 c.toNat]]) (.typed t))=true:=by
 have:=dm O (bs++[c]) t
 rwa[List.map_append]at this
def gi (O:List (Nat×Nat))(s:Nat)(rows:List (List V))(t:TypeId):Blk.ren O (@Blk.mk s rows (.typed t)) = @Blk.mk s (gY O rows) (.typed t):=rfl
def dY (O:List (Nat×Nat))(s:Nat)(rows:List (List V))(t:TypeId):Blk.renOk O (@Blk.mk s rows (.typed t))=fM O rows:=by
 simp only[Blk.renOk,Ob.renOk,Bool.and_true]
def nb (bs:List UInt8):plainLL (bs.map aJ)=true:=cI _ (fun _=>rfl) bs
def KP (c:UInt8):(aJ c).all V.one=true:=rfl
def Dj (bs:List UInt8):((bs.map aJ).all fun r=>r.all V.one)=true:=by
 rw[List.all_eq_true]
 intro r hr
 obtain⟨c,_,rfl⟩:=List.mem_map.1 hr
 rfl
def rK (bs:List UInt8):Blk:=@Blk.mk 1 (bs.map aJ) (.typed 5)
def tC (used:Bool)(q y n:Nat)(bs:List UInt8)(M:ap)(nm:Nat)(hqy:q≠y)(hq:M q=some (bK used q (.own y 0 n)))(hy:M y=some (rK bs))(ho:∀ z,(M z).isSome=true->z∈[q,y])(hn:q<nm)(hny:y<nm) :
  Ev cx 134 nm [.ptr q 0 0] M (.tup []) [(q,some (bK true q (.own y 0 n))),(y,some (rK bs))]:=by
 have yz:(y=q)=False:=eq_false (fun h=>hqy h.symm)
 have zy:(q=y)=False:=eq_false hqy
 cases used with
 | false =>
  refine bi call134 func134 rfl (by kernel_rfl) rfl ?_;intro b0 hb0;have zF:=Ai results134 ntmps134
  have lq:=aC hb0 hq
  have ly:=aC hb0 hy
  have y0:=aE ly
  have z0:=aE lq
  repeat' first|simp only[ak,aj,zF,al,kp,dc,cW,hq,hy,y0,yz,zy,z0,ai,seval,ah,TypeDesc.pointer.injEq,exists_eq_left']|exact rfl|refine aa (v:=.any) ?_|(first|(refine ad ?_ (qc (.ptr q 0 0) ap.nil _) ?_)|(refine ab ?_ (fun _=>qc (.ptr q 0 0) ap.nil _) ?_))|(refine pH (y:=?_) (sz:=?_) (row:=?_) (rows:=?_) (o:=?_) (te:=?_) ?_ ?_ ?_ ?_ ?_ ?_ ?_ ?_;rotate_left 6;(iterate 2 (focus (simp only[zF,al,kp,dc,cW,hq,hy,y0,yz,zy,z0,ai,seval,ah,TypeDesc.pointer.injEq,exists_eq_left']<;>exact rfl)));(focus (exact rfl));(focus (omega));(iterate 2 (focus (simp only[zF,al,kp,dc,cW,hq,hy,y0,yz,zy,z0,ai,seval,ah,TypeDesc.pointer.injEq,exists_eq_left']<;>exact rfl)));(focus (kernel_rfl)))|(refine bd ?_)|(refine aV ?_)|(refine mN (y:=?_) (sz:=?_) (row:=?_) (rows:=?_) (u:=?_) ?_ ?_ ?_ ?_ ?_ ?_ ?_ ?_;rotate_left 5;(iterate 2 (focus (simp only[zF,al,kp,dc,cW,hq,hy,y0,yz,zy,z0,ai,seval,ah,TypeDesc.pointer.injEq,exists_eq_left']<;>exact rfl)));(focus (omega));(iterate 2 (focus (simp only[zF,al,kp,dc,cW,hq,hy,y0,yz,zy,z0,ai,seval,ah,TypeDesc.pointer.injEq,exists_eq_left']<;>exact rfl)));(iterate 2 (focus (kernel_rfl))))|((first|apply Ca|apply Cb)<;>intro hb)|refine Ai (by omega) ?_|(apply Ai<;>intro hb)
  all_goals ((refine Fin.give [(q,none),(y,none)] [] ?_ ?_ ?_ ?_ ?_ (aO ho (by simp[aS,tgt]))<;>(try simp only[zF,al,rK,eK,dm,ite_self,Bool.false_and,Bool.false_eq_true,if_false,dc,cW,hq,hy,y0,yz,zy,z0,dM,ai,seval,ah,TypeDesc.pointer.injEq,exists_eq_left'])<;>(try simp only[ao])<;>(try omega)))
 | true =>
  refine bi call134 func134 rfl (by kernel_rfl) rfl ?_;intro b0 hb0;have zF:=Ai results134 ntmps134
  have lq:=aC hb0 hq
  have ly:=aC hb0 hy
  have y0:=aE ly
  have z0:=aE lq
  repeat' first|simp only[ak,aj,zF,al,kp,dc,cW,hq,hy,y0,yz,zy,z0,ai,seval,ah,TypeDesc.pointer.injEq,exists_eq_left']|exact rfl|refine aa (v:=.any) ?_|((first|apply Ca|apply Cb)<;>intro hb)|refine Ai (by omega) ?_|(apply Ai<;>intro hb)
  all_goals ((refine Fin.give [(q,none),(y,none)] [] ?_ ?_ ?_ ?_ ?_ (aO ho (by simp[aS,tgt]))<;>(try simp only[zF,al,rK,eK,dm,ite_self,Bool.false_and,Bool.false_eq_true,if_false,dc,cW,hq,hy,y0,yz,zy,z0,dM,ai,seval,ah,TypeDesc.pointer.injEq,exists_eq_left'])<;>(try simp only[ao])<;>(try omega)))
def BF (used:Bool)(q:Nat)(s:List UInt8)(hs:s≠[])(hl:s.length<=be)(M:ap)(nm:Nat)(hq:M q=some (bK used q .nils))(ho:∀ z,(M z).isSome=true->z∈[q])(hn:q<nm) :
  Ev cx 86 nm [.ptr q 0 0,.str s] M (.tup [.int .i64 s.length,.val .nilIface]) [(q,some (bK true q (.own nm 0 s.length))),(nm,some (rK s))]:=by
 unfold be at hl
 refine bi call86 func86 rfl (by kernel_rfl) rfl ?_;intro b0 hb0
 have lq:=aC hb0 hq
 have z0:=aE lq
 obtain⟨c,s,rfl⟩:=List.exists_cons_of_ne_nil hs
 repeat' first|simp only[ak,aj,results86,ntmps86,al,dc,hq,z0,ai,seval,ah,TypeDesc.pointer.injEq,exists_eq_left']|exact rfl|refine aa (v:=.any) ?_|(refine ac ?_ [[q]] (py used q _ _ ?_ ag (by omega)) ?_ ?_)|((first|apply Ca|apply Cb)<;>intro hb)|refine Ai (by omega) ?_|(apply Ai<;>intro hb)
 refine ac ?_ [q] (py used q _ _ ?_ ag (by omega)) ?_ ?_
 ·simp only[ai,seval,ah,TypeDesc.pointer.injEq,exists_eq_left']
 ·simp only[lN,Lk,Ln,hq,ai,seval,ah,TypeDesc.pointer.injEq,exists_eq_left']
 ·simp only[Lk,Ln,forall_eq,forall_eq_or_imp,hq,ai,seval,ah,TypeDesc.pointer.injEq,exists_eq_left']
 simp only[List.length_cons]at hl
 repeat' first|simp only[ak,aj,results86,ntmps86,al,dc,hq,z0,KP,Dj,Lm,ai,seval,ah,TypeDesc.pointer.injEq,exists_eq_left']|exact rfl|refine aa (v:=.any) ?_|((first|apply Ca|apply Cb)<;>intro hb)|refine Ai (by omega) ?_|(apply Ai<;>intro hb)
 all_goals ((refine Fin.give [(q,none),(b0+160,some 0)] [] ?_ ?_ ?_ ?_ ?_ (aO ho (by simp[aS,tgt]))<;>(try simp only[results86,ntmps86,al,rK,Le,DG,eK,dm,ite_self,Bool.false_and,Bool.false_eq_true,if_false,dc,hq,z0,au,dM,ai,seval,ah,TypeDesc.pointer.injEq,exists_eq_left'])<;>(try simp only[ao])<;>(try omega)))
def BG (used:Bool)(q y:Nat)(bs s:List UInt8)(hl:bs.length+s.length<=be)(M:ap)(nm:Nat)(hqy:q≠y)(hq:M q=some (bK used q (.own y 0 bs.length)))(hy:M y=some (rK bs))(ho:∀ z,(M z).isSome=true->z∈[q,y])(hn:q<nm)(hny:y<nm) :
  Ev cx 86 nm [.ptr q 0 0,.str s] M (.tup [.int .i64 s.length,.val .nilIface]) [(y,none),(q,some (bK true q (.own nm 0 (bs.length+s.length)))),(nm,some (rK (bs++s)))]:=by
 unfold be at hl
 have yz:(y=q)=False:=eq_false (fun h=>hqy h.symm)
 have zy:(q=y)=False:=eq_false hqy
 refine bi call86 func86 rfl (by kernel_rfl) rfl ?_;intro b0 hb0
 have lq:=aC hb0 hq
 have ly:=aC hb0 hy
 have y0:=aE ly
 have z0:=aE lq
 repeat' first|simp only[ak,aj,results86,ntmps86,al,dc,hq,z0,ai,seval,ah,TypeDesc.pointer.injEq,exists_eq_left']|exact rfl|refine aa (v:=.any) ?_|((first|apply Ca|apply Cb)<;>intro hb)|refine Ai (by omega) ?_|(apply Ai<;>intro hb)
 refine ac ?_ [q,y] (tC used q y bs.length bs _ _ hqy ?_ ?_ ag (by omega) (by omega)) ?_ ?_
 ·simp only[ai,seval,ah,TypeDesc.pointer.injEq,exists_eq_left']
 ·simp only[lN,Lk,Ln,true_or,or_true,hq,hy,yz,zy,ai,seval,ah,TypeDesc.pointer.injEq,exists_eq_left']
 ·simp only[lN,Lk,Ln,true_or,or_true,hq,hy,yz,zy,ai,seval,ah,TypeDesc.pointer.injEq,exists_eq_left']
 ·simp only[Lk,Ln,forall_eq,forall_eq_or_imp,true_or,or_true,hq,hy,yz,zy,ai,seval,ah,TypeDesc.pointer.injEq,exists_eq_left']
 repeat' first|simp only[ak,aj,results86,ntmps86,al,rK,dc,hq,hy,yz,zy,y0,z0,KP,Dj,Lm,List.take_of_length_le,Nat.le_refl,List.map_append.symm,ai,seval,ah,TypeDesc.pointer.injEq,exists_eq_left']|exact rfl|refine aa (v:=.any) ?_|((first|apply Ca|apply Cb)<;>intro hb)|refine Ai (by omega) ?_|(apply Ai<;>intro hb)
 all_goals ((refine Fin.give [(q,none),(b0+160,some 0)] [y] ?_ ?_ ?_ ?_ ?_ (aO ho (by simp[aS,tgt]))<;>(try simp only[results86,ntmps86,al,rK,Option.bind_some,eK,dm,ite_self,Bool.false_and,Bool.false_eq_true,if_false,dc,hq,hy,yz,zy,y0,z0,au,dM,ai,seval,ah,TypeDesc.pointer.injEq,exists_eq_left'])<;>(try simp only[ao])<;>(try omega)))
def xm (used:Bool)(q y:Nat)(bs:List UInt8)(c:UInt8)(hl:bs.length+1<=be)(M:ap)(nm:Nat)(hqy:q≠y)(hq:M q=some (bK used q (.own y 0 bs.length)))(hy:M y=some (rK bs))(ho:∀ z,(M z).isSome=true->z∈[q,y])(hn:q<nm)(hny:y<nm) :
  Ev cx 136 nm [.ptr q 0 0,.int .u8 c.toNat] M (.val .nilIface) [(y,none),(q,some (bK true q (.own nm 0 (bs.length+1)))),(nm,some (rK (bs++[c])))]:=by
 unfold be at hl
 have yz:(y=q)=False:=eq_false (fun h=>hqy h.symm)
 have zy:(q=y)=False:=eq_false hqy
 refine bi call136 func136 rfl (by kernel_rfl) rfl ?_;intro b0 hb0
 have lq:=aC hb0 hq
 have ly:=aC hb0 hy
 have y0:=aE ly
 have z0:=aE lq
 repeat' first|simp only[ak,aj,results136,ntmps136,al,dc,hq,z0,ai,seval,ah,TypeDesc.pointer.injEq,exists_eq_left']|exact rfl|refine aa (v:=.any) ?_|((first|apply Ca|apply Cb)<;>intro hb)|refine Ai (by omega) ?_|(apply Ai<;>intro hb)
 refine ac ?_ [q,y] (tC used q y bs.length bs _ _ hqy ?_ ?_ ag (by omega) (by omega)) ?_ ?_
 ·simp only[ai,seval,ah,TypeDesc.pointer.injEq,exists_eq_left']
 ·simp only[lN,Lk,Ln,true_or,or_true,hq,hy,yz,zy,ai,seval,ah,TypeDesc.pointer.injEq,exists_eq_left']
 ·simp only[lN,Lk,Ln,true_or,or_true,hq,hy,yz,zy,ai,seval,ah,TypeDesc.pointer.injEq,exists_eq_left']
 ·simp only[Lk,Ln,forall_eq,forall_eq_or_imp,true_or,or_true,hq,hy,yz,zy,ai,seval,ah,TypeDesc.pointer.injEq,exists_eq_left']
 repeat' first|simp only[ak,aj,results136,ntmps136,al,rK,dc,hq,hy,yz,zy,y0,z0,KP,Dj,Lm,List.take_of_length_le,Nat.le_refl,ai,seval,ah,TypeDesc.pointer.injEq,exists_eq_left']|exact rfl|refine aa (v:=.any) ?_|((first|apply Ca|apply Cb)<;>intro hb)|refine Ai (by omega) ?_|(apply Ai<;>intro hb)
 all_goals ((refine Fin.give [(q,none),(b0+160,some 0)] [y] ?_ ?_ ?_ ?_ ?_ (aO ho (by simp[aS,tgt]))<;>(try simp only[results136,ntmps136,al,rK,Lg,DH,aJ,List.map_append,Lc,Lo,Option.bind_some,eK,dm,ite_self,Bool.false_and,Bool.false_eq_true,if_false,dc,hq,hy,yz,zy,y0,z0,au,dM,ai,seval,ah,TypeDesc.pointer.injEq,exists_eq_left'])<;>(try simp only[ao])<;>(try omega)))
def IH (used:Bool)(q y:Nat)(bs:List UInt8)(M:ap)(nm:Nat)(hqy:q≠y)(hq:M q=some (bK used q (.own y 0 bs.length)))(hy:M y=some (rK bs))(ho:∀ z,(M z).isSome=true->z∈[q,y])(hn:q<nm)(hny:y<nm) :
  Ev cx 88 nm [.ptr q 0 0] M (.int .i64 bs.length) [(q,some (bK used q (.own y 0 bs.length))),(y,some (rK bs))]:=by
 have yz:(y=q)=False:=eq_false (fun h=>hqy h.symm)
 have zy:(q=y)=False:=eq_false hqy
 refine bi call88 func88 rfl (by kernel_rfl) rfl ?_;intro b0 hb0
 have lq:=aC hb0 hq
 have ly:=aC hb0 hy
 have y0:=aE ly
 have z0:=aE lq
 cases used<;>(repeat' first|simp only[ak,aj,results88,ntmps88,al,dc,cW,hq,hy,yz,zy,y0,z0,ai,seval,ah,TypeDesc.pointer.injEq,exists_eq_left']|exact rfl|refine aa (v:=.any) ?_|((first|apply Ca|apply Cb)<;>intro hb)|refine Ai (by omega) ?_|(apply Ai<;>intro hb))
 all_goals ((refine Fin.give [(q,none),(y,none)] [] ?_ ?_ ?_ ?_ ?_ (aO ho (by simp[aS,tgt]))<;>(try simp only[results88,ntmps88,al,rK,gi,dY,nb,ite_self,Bool.false_and,Bool.false_eq_true,if_false,dc,cW,hq,hy,yz,zy,y0,z0,au,dM,ai,seval,ah,TypeDesc.pointer.injEq,exists_eq_left'])<;>(try simp only[ao])<;>(try omega)))
def zp (used:Bool)(q y:Nat)(bs:List UInt8)(hb:bs≠[])(hl:bs.length<=be)(M:ap)(nm:Nat)(hqy:q≠y)(hq:M q=some (bK used q (.own y 0 bs.length)))(hy:M y=some (rK bs))(ho:∀ z,(M z).isSome=true->z∈[q,y])(hn:q<nm)(hny:y<nm) :
  Ev cx 89 nm [.ptr q 0 0] M (.str bs) [(q,none),(y,none)]:=by
 unfold be at hl
 have hp:0<bs.length:=List.length_pos_iff.2 hb
 have yz:(y=q)=False:=eq_false (fun h=>hqy h.symm)
 have zy:(q=y)=False:=eq_false hqy
 refine bi call89 func89 rfl (by kernel_rfl) rfl ?_;intro b0 hb0;have zF:=Ai results89 ntmps89
 have lq:=aC hb0 hq
 have ly:=aC hb0 hy
 have y0:=aE ly
 have z0:=aE lq
 cases used<;>(repeat' first|simp only[ak,aj,zF,al,rK,dc,cW,hq,hy,yz,zy,y0,z0,hb,ne_eq,not_false_eq_true,ai,seval,ah,TypeDesc.pointer.injEq,exists_eq_left']|exact rfl|refine aa (v:=.any) ?_|(refine vB (y:=?_) (n:=?_) rfl ?_ ?_ ?_;rotate_left 2;(focus (simp only[zF,al,rK,dc,cW,hq,hy,yz,zy,y0,z0,hb,ne_eq,not_false_eq_true,ai,seval,ah,TypeDesc.pointer.injEq,exists_eq_left']<;>exact rfl));(focus (first|omega|(simp only[zF,al,rK,dc,cW,hq,hy,yz,zy,y0,z0,hb,ne_eq,not_false_eq_true,ai,seval,ah,TypeDesc.pointer.injEq,exists_eq_left']<;>omega))))|(refine bd ?_)|(refine aV ?_)|(refine qF (y:=?_) (bs:=?_) (u:=?_) rfl ?_ ?_ ?_ ?_ ?_ ?_ ?_ ?_;rotate_left 3;(iterate 3 (focus (simp only[zF,al,rK,dc,cW,hq,hy,yz,zy,y0,z0,hb,ne_eq,not_false_eq_true,ai,seval,ah,TypeDesc.pointer.injEq,exists_eq_left']<;>exact rfl)));(focus (first|assumption|(simp only[zF,al,rK,dc,cW,hq,hy,yz,zy,y0,z0,hb,ne_eq,not_false_eq_true,ai,seval,ah,TypeDesc.pointer.injEq,exists_eq_left'];done)));(focus (first|omega|(simp only[zF,al,rK,dc,cW,hq,hy,yz,zy,y0,z0,hb,ne_eq,not_false_eq_true,ai,seval,ah,TypeDesc.pointer.injEq,exists_eq_left']<;>omega)));(focus (simp only[zF,al,rK,dc,cW,hq,hy,yz,zy,y0,z0,hb,ne_eq,not_false_eq_true,ai,seval,ah,TypeDesc.pointer.injEq,exists_eq_left']<;>exact rfl));(focus (kernel_rfl)))|refine bc (ps:=[(4,8)]) (by decide +kernel) (by simp only[List.forall_mem_cons,List.getD_cons_zero,List.getD_cons_succ,zF,al,rK,dc,cW,hq,hy,yz,zy,y0,z0,hb,ne_eq,not_false_eq_true,ai,seval,ah,TypeDesc.pointer.injEq,exists_eq_left']<;>(try simp)<;>(try omega)) ?_|refine aA (by decide +kernel) ?_|((first|apply Ca|apply Cb)<;>intro hb)|refine Ai (by omega) ?_|(apply Ai<;>intro hb))
 all_goals ((refine Fin.give [] [q,y] ?_ ?_ ?_ ?_ ?_ (aO ho (by simp[aS,tgt]))<;>(try simp only[zF,al,rK,ite_self,Bool.false_and,Bool.false_eq_true,if_false,dc,cW,hq,hy,yz,zy,y0,z0,au,dM,ai,seval,ah,TypeDesc.pointer.injEq,exists_eq_left'])<;>(try simp only[ao])<;>(try omega)))
def H9 (used:Bool)(q:Nat)(c:UInt8)(M:ap)(nm:Nat)(hq:M q=some (bK used q .nils))(ho:∀ z,(M z).isSome=true->z∈[q])(hn:q<nm) :
  Ev cx 136 nm [.ptr q 0 0,.int .u8 c.toNat] M (.val .nilIface) [(q,some (bK true q (.own nm 0 1))),(nm,some (rK [c]))]:=by
 refine bi call136 func136 rfl (by kernel_rfl) rfl ?_;intro b0 hb0
 have lq:=aC hb0 hq
 have z0:=aE lq
 repeat' first|simp only[ak,aj,results136,ntmps136,al,dc,hq,z0,ai,seval,ah,TypeDesc.pointer.injEq,exists_eq_left']|exact rfl|refine aa (v:=.any) ?_|((first|apply Ca|apply Cb)<;>intro hb)|refine Ai (by omega) ?_|(apply Ai<;>intro hb)
 refine ac ?_ [q] (py used q _ _ ?_ ag (by omega)) ?_ ?_
 ·simp only[ai,seval,ah,TypeDesc.pointer.injEq,exists_eq_left']
 ·simp only[lN,Lk,Ln,hq,ai,seval,ah,TypeDesc.pointer.injEq,exists_eq_left']
 ·simp only[Lk,Ln,forall_eq,forall_eq_or_imp,hq,ai,seval,ah,TypeDesc.pointer.injEq,exists_eq_left']
 repeat' first|simp only[ak,aj,results136,ntmps136,al,dc,hq,z0,ai,seval,ah,TypeDesc.pointer.injEq,exists_eq_left']|exact rfl|refine aa (v:=.any) ?_|((first|apply Ca|apply Cb)<;>intro hb)|refine Ai (by omega) ?_|(apply Ai<;>intro hb)
 all_goals ((refine Fin.give [(q,none),(b0+160,some 0)] [] ?_ ?_ ?_ ?_ ?_ (aO ho (by simp[aS,tgt]))<;>(try simp only[results136,ntmps136,al,rK,gi,dY,aJ,List.map_append,Lc,Lo,ite_self,Bool.false_and,Bool.false_eq_true,if_false,dc,hq,z0,au,dM,ai,seval,ah,TypeDesc.pointer.injEq,exists_eq_left'])<;>(try simp only[ao])<;>(try omega)))
def IG (used:Bool)(q:Nat)(M:ap)(nm:Nat)(hq:M q=some (bK used q .nils))(ho:∀ z,(M z).isSome=true->z∈[q])(hn:q<nm) :
  Ev cx 88 nm [.ptr q 0 0] M (.int .i64 0) [(q,some (bK used q .nils))]:=by
 refine bi call88 func88 rfl (by kernel_rfl) rfl ?_;intro b0 hb0
 have lq:=aC hb0 hq
 have z0:=aE lq
 cases used<;>(repeat' first|simp only[ak,aj,results88,ntmps88,al,dc,cW,hq,z0,ai,seval,ah,TypeDesc.pointer.injEq,exists_eq_left']|exact rfl|refine aa (v:=.any) ?_|((first|apply Ca|apply Cb)<;>intro hb)|refine Ai (by omega) ?_|(apply Ai<;>intro hb))
 all_goals ((refine Fin.give [(q,none)] [] ?_ ?_ ?_ ?_ ?_ (aO ho (by simp[aS,tgt]))<;>(try simp only[results88,ntmps88,al,gi,dY,ite_self,Bool.false_and,Bool.false_eq_true,if_false,dc,cW,hq,z0,au,dM,ai,seval,ah,TypeDesc.pointer.injEq,exists_eq_left'])<;>(try simp only[ao])<;>(try omega)))
def II (used:Bool)(q:Nat)(M:ap)(nm:Nat)(hq:M q=some (bK used q .nils))(ho:∀ z,(M z).isSome=true->z∈[q])(hn:q<nm) :
  Ev cx 89 nm [.ptr q 0 0] M (.str []) [(q,none)]:=by
 refine bi call89 func89 rfl (by kernel_rfl) rfl ?_;intro b0 hb0;have zF:=Ai results89 ntmps89
 have lq:=aC hb0 hq
 have z0:=aE lq
 cases used<;>(repeat' first|simp only[ak,aj,zF,al,dc,cW,hq,z0,ai,seval,ah,TypeDesc.pointer.injEq,exists_eq_left']|exact rfl|refine aa (v:=.any) ?_|(refine pG rfl ?_ ?_;(focus (simp only[zF,al,dc,cW,hq,z0,ai,seval,ah,TypeDesc.pointer.injEq,exists_eq_left']<;>exact rfl)))|(refine bd ?_)|(refine aV ?_)|(refine mP rfl ?_ ?_ ?_;(iterate 2 (focus (simp only[zF,al,dc,cW,hq,z0,ai,seval,ah,TypeDesc.pointer.injEq,exists_eq_left']<;>exact rfl))))|refine bc (ps:=[(4,8)]) (by decide +kernel) (by simp only[List.forall_mem_cons,List.getD_cons_zero,List.getD_cons_succ,zF,al,dc,cW,hq,z0,ai,seval,ah,TypeDesc.pointer.injEq,exists_eq_left']<;>(try simp)<;>(try omega)) ?_|refine aA (by decide +kernel) ?_|((first|apply Ca|apply Cb)<;>intro hb)|refine Ai (by omega) ?_|(apply Ai<;>intro hb))
 all_goals ((refine Fin.give [] [q] ?_ ?_ ?_ ?_ ?_ (aO ho (by simp[aS,tgt]))<;>(try simp only[zF,al,ite_self,Bool.false_and,Bool.false_eq_true,if_false,dc,cW,hq,z0,au,dM,ai,seval,ah,TypeDesc.pointer.injEq,exists_eq_left'])<;>(try simp only[ao])<;>(try omega)))
def bS (u:Bool)(q y:Nat)(bs:List UInt8):Blk:=if bs=[] then bK u q .nils else bK true q (.own y 0 bs.length)
def tn (u:Bool)(q y:Nat):bS u q y []=bK u q .nils:=by unfold bS;rw[if_pos rfl]
def tm (u:Bool)(q y:Nat){bs:List UInt8}(h:bs≠[]):bS u q y bs=bK true q (.own y 0 bs.length):=by unfold bS;rw[if_neg h]
def B6 (q y:Nat):bS false q y [] = @Blk.mk 2 [[.nilp,.nils]] (.typed 131):=by rw[tn];rfl
def lR (O:List (Nat×Nat))(u:Bool)(q y:Nat)(bs:List UInt8):Blk.ren O (bS u q y bs)=bS u ((aU O q).getD q) ((aU O y).getD y) bs:=by
 unfold bS
 by_cases h:bs=[]
 ·rw[if_pos h,if_pos h]
  cases u<;>simp[bK,Blk.ren,gY,renL,V.ren,plainLL,plainL,V.plain,Ob.ren,instCells]
 ·rw[if_neg h,if_neg h]
  simp[bK,Blk.ren,gY,renL,V.ren,plainLL,plainL,V.plain,Ob.ren,instCells]
def gT (O:List (Nat×Nat))(u:Bool)(q y:Nat)(bs:List UInt8)(h1:(aU O q).isSome=true)(h2:(aU O y).isSome=true):Blk.renOk O (bS u q y bs)=true:=by
 unfold bS
 by_cases h:bs=[]
 ·rw[if_pos h]
  cases u<;>simp[bK,Blk.renOk,fM,renOkL,V.renOk,h1,Ob.renOk,instCells]
 ·rw[if_neg h]
  simp[bK,Blk.renOk,fM,renOkL,V.renOk,h1,h2,Ob.renOk,instCells]
def Dw (bs:List UInt8):(rK bs).ob.isRow=true:=rfl
def Dv:(rK []).rows=[]:=rfl
def gr (O:List (Nat×Nat))(bs:List UInt8):Blk.ren O (rK bs)=rK bs:=eK O bs _
def dP (O:List (Nat×Nat))(bs:List UInt8):Blk.renOk O (rK bs)=true:=dm O bs _
def nG {M:ap}{q y nm:Nat}(ho:∀ z,(M z).isSome=true->z∈[q,y])(hn:q<nm)(hny:y<nm):∀ x,cg nm x->M x=none:=fun x hx=>by
 cases hm:M x with
 | none=>rfl
 | some k =>
  have:=ho x (by rw[hm];rfl)
  simp only[Lk,Ln,or_false]at this
  have:=hx.1
  omega
def De {l:List Nat} : ∀ z,((ap.nil:ap) z).isSome=true->z∈l:=fun z h=>by cases h
def E4 {M:ap}{q:Nat}{k:Blk}(h:M q=some k):(M.only [q]) q=some k:=yA.2 ⟨h,by simp⟩
section
variable (u:Bool) (q y:Nat) (bs:List UInt8) (M:ap) (nm:Nat)
def nR (s:List UInt8)(hs:s≠[])(hl:bs.length+s.length<=be)(hqy:q≠y)(hq:M q=some (bS u q y bs))(hy:M y=some (rK bs))(ho:∀ z,(M z).isSome=true->z∈[q,y])(hn:q<nm)(hny:y<nm) :
  Ev cx 86 nm [.ptr q 0 0,.str s] M (.tup [.int .i64 s.length,.val .nilIface]) [(y,none),(q,some (bS false q nm (bs++s))),(nm,some (rK (bs++s)))]:=by
 rw[tm false q nm (bs:=bs++s) (by simp[hs]),List.length_append]
 by_cases hb:bs=[]
 ·subst hb
  rw[tn]at hq
  simp only[List.nil_append,List.length_nil,Nat.zero_add]at hl ⊢
  refine Ev.dropM y (Ev.frame [q] (BF u q s hs hl _ nm (E4 hq) ag hn) (fun x hx=>?_) (nG ho hn hny))
  simp only[am,Lc,Lo,Lk,Ln,or_false]at hx
  rcases hx with rfl|rfl
  ·left;simp
  ·right;exact⟨Nat.le_refl _,by omega⟩
 ·rw[tm u q y hb]at hq
  exact BG true q y bs s hl M nm hqy hq hy ho hn hny
def qp (c:UInt8)(hl:bs.length+1<=be)(hqy:q≠y)(hq:M q=some (bS u q y bs))(hy:M y=some (rK bs))(ho:∀ z,(M z).isSome=true->z∈[q,y])(hn:q<nm)(hny:y<nm) :
  Ev cx 136 nm [.ptr q 0 0,.int .u8 c.toNat] M (.val .nilIface) [(y,none),(q,some (bS false q nm (bs++[c]))),(nm,some (rK (bs++[c])))]:=by
 rw[tm false q nm (bs:=bs++[c]) (by simp),List.length_append,List.length_singleton]
 by_cases hb:bs=[]
 ·subst hb
  rw[tn]at hq
  simp only[List.nil_append,List.length_nil,Nat.zero_add]at hl ⊢
  refine Ev.dropM y (Ev.frame [q] (H9 u q c _ nm (E4 hq) ag hn) (fun x hx=>?_) (nG ho hn hny))
  simp only[am,Lc,Lo,Lk,Ln,or_false]at hx
  rcases hx with rfl|rfl
  ·left;simp
  ·right;exact⟨Nat.le_refl _,by omega⟩
 ·rw[tm u q y hb]at hq
  exact xm true q y bs c hl M nm hqy hq hy ho hn hny
def Ip {M:ap}{q y:Nat}{a b:Blk}(hq:M q=some a)(hy:M y=some b):M.app [(q,some a)]=M.app [(q,some a),(y,some b)]:=by
 funext x
 simp only[ap.app,ap.put]
 by_cases e:x=y
 ·subst e
  by_cases e2:x=q
  ·subst e2;rw[hq]at hy;cases hy;simp
  ·simp[e2,hy]
 ·simp[e]
def sC (hqy:q≠y)(hq:M q=some (bS u q y bs))(hy:M y=some (rK bs))(ho:∀ z,(M z).isSome=true->z∈[q,y])(hn:q<nm)(hny:y<nm) :
  Ev cx 88 nm [.ptr q 0 0] M (.int .i64 bs.length) [(q,some (bS u q y bs)),(y,some (rK bs))]:=by
 by_cases hb:bs=[]
 ·subst hb
  refine Ev.eff_eq ?_ (Ip hq hy)
  rw[tn]at hq ⊢
  refine Ev.frame [q] (IG u q _ nm (E4 hq) ag hn) (fun x hx=>?_) (nG ho hn hny)
  simp only[am,Lc,Lo,Lk,Ln,or_false]at hx
  subst hx;left;simp
 ·rw[tm u q y hb]at hq ⊢
  exact IH true q y bs M nm hqy hq hy ho hn hny
def pq (hl:bs.length<=be)(hqy:q≠y)(hq:M q=some (bS u q y bs))(hy:M y=some (rK bs))(ho:∀ z,(M z).isSome=true->z∈[q,y])(hn:q<nm)(hny:y<nm) :
  Ev cx 89 nm [.ptr q 0 0] M (.str bs) [(q,none),(y,none)]:=by
 by_cases hb:bs=[]
 ·subst hb
  rw[tn]at hq
  have h1:Ev cx 89 nm [.ptr q 0 0] M (.str []) [(q,none)]:=by
   refine Ev.frame [q] (II u q _ nm (E4 hq) ag hn) (fun x hx=>?_) (nG ho hn hny)
   simp only[am,Lc,Lo,Lk,Ln,or_false]at hx
   subst hx;left;simp
  refine Ev.eff_eq (Ev.dropM y h1) ?_
  funext x
  simp only[ap.app,ap.put]
  by_cases e:x=y<;>by_cases e2:x=q<;>simp[e,e2]
 ·rw[tm u q y hb]at hq
  exact zp true q y bs hb hl M nm hqy hq hy ho hn hny
end
def rJ (q:Bool):List (V×V):=[(.int .u8 38,.agg [.str [38,97,109,112,59]]),(.int .u8 60,.agg [.str [38,108,116,59]]),(.int .u8 62,.agg [.str [38,103,116,59]]),(.int .u8 13,.agg [.str [38,35,49,51,59]])] ++
 (if q=true then [(.int .u8 34,.agg [.str [38,113,117,111,116,59]]),(.int .u8 9,.agg [.str [38,35,57,59]]),(.int .u8 10,.agg [.str [38,35,49,48,59]])] else [])
def jc:vO cx.P 237=some (5,240):=by kernel_rfl
def nt:zeroOf cx.P 240=some (.agg #[.string ⟨#[]⟩]):=by kernel_rfl
def lZ:rJ false=[(.int .u8 38,.agg [.str [38,97,109,112,59]]),(.int .u8 60,.agg [.str [38,108,116,59]]),(.int .u8 62,.agg [.str [38,103,116,59]]),(.int .u8 13,.agg [.str [38,35,49,51,59]])]:=rfl
def Ea:rJ true=[(.int .u8 38,.agg [.str [38,97,109,112,59]]),(.int .u8 60,.agg [.str [38,108,116,59]]),(.int .u8 62,.agg [.str [38,103,116,59]]),(.int .u8 13,.agg [.str [38,35,49,51,59]]),(.int .u8 34,.agg [.str [38,113,117,111,116,59]]),(.int .u8 9,.agg [.str [38,35,57,59]]),(.int .u8 10,.agg [.str [38,35,49,48,59]])]:=rfl
def L3 (q:Bool)(nm:Nat):Ev cx 204 nm [.bool q] ap.nil (.mp nm) [(nm,some (eW (rJ q)))]:=by
 cases q with
 | false =>
  refine bi call204 func204 rfl (by kernel_rfl) rfl ?_;intro b0 hb0;have zF:=Ai results204 ntmps204
  repeat' first|simp only[ak,aj,zF,al,jc,lZ,ai,seval,ah]|exact rfl|refine aa (v:=.any) ?_|(refine iI ?_)|(refine bd ?_)|(refine aV ?_)|(refine jK (y:=?_) (kv:=?_) (xv:=?_) (kvs:=?_) ?_ ?_ ?_ ?_ jc ?_ ?_ ?_ ?_ ?_;rotate_left 4;(iterate 4 (focus (simp only[zF,al,jc,lZ,ai,seval,ah]<;>exact rfl)));(focus (kernel_rfl));(iterate 3 (focus (exact rfl))))|(refine oc (y:=?_) (kv:=?_) (xv:=?_) (kvs:=?_) ?_ ?_ ?_ ?_ jc ?_ ?_ ?_ ?_ ?_;rotate_left 4;(iterate 4 (focus (simp only[zF,al,jc,lZ,ai,seval,ah]<;>exact rfl)));(focus (kernel_rfl));(iterate 3 (focus (exact rfl))))|((first|apply Ca|apply Cb)<;>intro hb)|refine Ai (by omega) ?_|(apply Ai<;>intro hb)
  all_goals ((refine Fin.give [(b0+16,some 0)] [] ?_ ?_ ?_ ?_ ?_ (fun q hq=>by have hqq:=De (l:=[]) q hq;first|(simp only[aS,tgt,Lc,Lo,Lk,Ln,or_false]at hqq ⊢;omega)|(simp only[aS,tgt,Lc,Lo,Lk,Ln,or_false]at hqq))<;>(try simp only[zF,al,lZ,Ea,cM,bt,dM,ai,seval,ah])<;>(try simp only[ao])<;>(try omega)))
 | true =>
  refine bi call204 func204 rfl (by kernel_rfl) rfl ?_;intro b0 hb0;have zF:=Ai results204 ntmps204
  repeat' first|simp only[ak,aj,zF,al,jc,lZ,ai,seval,ah]|exact rfl|refine aa (v:=.any) ?_|(refine iI ?_)|(refine bd ?_)|(refine aV ?_)|(refine jK (y:=?_) (kv:=?_) (xv:=?_) (kvs:=?_) ?_ ?_ ?_ ?_ jc ?_ ?_ ?_ ?_ ?_;rotate_left 4;(iterate 4 (focus (simp only[zF,al,jc,lZ,ai,seval,ah]<;>exact rfl)));(focus (kernel_rfl));(iterate 3 (focus (exact rfl))))|(refine oc (y:=?_) (kv:=?_) (xv:=?_) (kvs:=?_) ?_ ?_ ?_ ?_ jc ?_ ?_ ?_ ?_ ?_;rotate_left 4;(iterate 4 (focus (simp only[zF,al,jc,lZ,ai,seval,ah]<;>exact rfl)));(focus (kernel_rfl));(iterate 3 (focus (exact rfl))))|((first|apply Ca|apply Cb)<;>intro hb)|refine Ai (by omega) ?_|(apply Ai<;>intro hb)
  all_goals ((refine Fin.give [(b0+16,some 0)] [] ?_ ?_ ?_ ?_ ?_ (fun q hq=>by have hqq:=De (l:=[]) q hq;first|(simp only[aS,tgt,Lc,Lo,Lk,Ln,or_false]at hqq ⊢;omega)|(simp only[aS,tgt,Lc,Lo,Lk,Ln,or_false]at hqq))<;>(try simp only[zF,al,lZ,Ea,cM,bt,dM,ai,seval,ah])<;>(try simp only[ao])<;>(try omega)))
def lL {c d:UInt8}(h:¬ c=d):((c.toNat:Int)==(d.toNat:Int))=false:=by
 rw[beq_eq_false_iff_ne]
 intro e
 exact h (UInt8.toNat_inj.1 (by omega))
def CA (q:Bool)(c:UInt8):(dL (.int .u8 c.toNat) (rJ q)=some none/\gJ q c=[c])\/dL (.int .u8 c.toNat) (rJ q)=some (some (.agg [.str (gJ q c)])):=by
 by_cases h1:c=38
 ·subst h1;right;cases q<;>rfl
 by_cases h2:c=60
 ·subst h2;right;cases q<;>rfl
 by_cases h3:c=62
 ·subst h3;right;cases q<;>rfl
 by_cases h4:c=13
 ·subst h4;right;cases q<;>rfl
 have e1:((c.toNat:Int)==38)=false:=lL (d:=38) h1
 have e2:((c.toNat:Int)==60)=false:=lL (d:=60) h2
 have e3:((c.toNat:Int)==62)=false:=lL (d:=62) h3
 have e4:((c.toNat:Int)==13)=false:=lL (d:=13) h4
 cases q with
 | false =>
  left
  simp only[lZ,dL,kB,if_true,e1,e2,e3,e4,gJ,h1,h2,h3,h4,if_false,Bool.false_eq_true,and_self]
 | true =>
  by_cases h5:c=34
  ·subst h5;right;rfl
  by_cases h6:c=9
  ·subst h6;right;rfl
  by_cases h7:c=10
  ·subst h7;right;rfl
  have e5:((c.toNat:Int)==34)=false:=lL (d:=34) h5
  have e6:((c.toNat:Int)==9)=false:=lL (d:=9) h6
  have e7:((c.toNat:Int)==10)=false:=lL (d:=10) h7
  left
  simp only[Ea,dL,kB,if_true,e1,e2,e3,e4,e5,e6,e7,gJ,h1,h2,h3,h4,h5,h6,h7,if_false,and_self]
def uG (q:Bool)(s:List UInt8):Int:=if aN s≠0 then aN s else if 16384<(bq q s).length then 4 else 0
def yE (q:Bool)(s:List UInt8):List UInt8:=if uG q s=0 then bq q s else []
def M7 (s:List UInt8)(q:Bool)(hs:s.length<=be)(nm:Nat):Ev cx 175 nm [.str s,.bool q] ap.nil (.tup [.str (yE q s),.int .i64 (uG q s)]) []:=by
 by_cases hz:aN s=0
 ·have hb:(aN s != 0)=false:=by rw[hz];rfl
  have hlen:=oZ hz
  have hw:=cj q s
  refine bi call175 func175 rfl (by kernel_rfl) rfl ?_;intro b0 hb0;have zF:=Ai results175 ntmps175
  repeat' first|simp only[ak,aj,zF,al,hb,ai,seval,ah]|exact rfl|refine aa (v:=.any) ?_|(first|(refine ad ?_ (cm s hs _) ?_)|(refine ab ?_ (fun _=>cm s hs _) ?_))|(refine gA ?_ (L3 q _) ?_ ?_)|(refine mO (bs:=?_) ?_ ?_ ?_ ?_;rotate_left 1;(iterate 2 (focus (simp only[zF,al,hb,ai,seval,ah];done)));(focus (simp only[zF,al,hb,ai,seval,ah]<;>exact rfl)))|(refine bd ?_)|(refine aV ?_)|omega|((first|apply Ca|apply Cb)<;>intro hb)|refine Ai (by omega) ?_|(apply Ai<;>intro hb)
  (refine aR bR (fun x:Nat=>s.length-x) (fun x=>x<=s.length) (b0+16) (fun x=>[(7,.mp b0),(8,.ptr (b0+1) 0 0),(21,.sl false 1 (s.map aJ)),(22,.int .i64 s.length),(23,.int .i64 x)]) (fun x=>[(b0,eW (rJ q)),(b0+1,bS false (b0+1) (b0+2) (bq q (s.take x))),(b0+2,rK (bq q (s.take x)))]) (0) [some (b0+128),some (b0+160),none] ?_ ?_ ?_ ?_;rotate_left 1;(focus (show b0<=_;omega));(focus (refine⟨?_,?_⟩<;>(try simp only[aX,B6,zY,List.take_zero,Dv,Dw,cM,bt,gi,dY,gr,dP,nb,Lm,ai,seval,ah,ao])<;>(try omega)));rotate_left 1)
  ·exact Nat.zero_le _
  ·intro k hk
   by_cases hlt:k<s.length
   ·obtain⟨c,hc⟩:∃ c,s[k]? = some c:=⟨_,List.getElem?_eq_getElem hlt⟩
    have hh:(s.map aJ)[k]? = some (aJ c):=by rw[List.getElem?_map,hc];rfl
    have hd:decide (k<s.length)=true:=decide_eq_true hlt
    have hwk:IntKind.i64.wrap ((k:Int)+1)=((k+1:Nat):Int):=bf
    have hnx:=Ga q hc
    have hw1:=cj q (s.take k)
    have hw2:=mL q c
    have hw3:(s.take k).length=k:=by rw[List.length_take];omega
    have hll:(bq q (s.take k)).length+(gJ q c).length<=be:=by unfold be;omega
    rcases CA q c with ⟨hf,hb1⟩|hf
    ·rw[hb1]at hnx hll
     repeat' first|simp only[ak,aj,zF,al,hh,hd,hlt,hf,nt,au,Lm,c6,aJ,List.getElem?_cons_zero,Option.getD_none,Option.isSome_none,ai,seval,ah]|exact rfl|refine aa (v:=.any) ?_|(refine ac ?_ [b0+1,b0+2] (qp false (b0+1) (b0+2) (bq q (s.take k)) _ _ c hll (by omega) ?_ ?_ ag (by omega) (by omega)) ?_ ?_)|(refine jL (y:=?_) (kv:=?_) (kvs:=?_) (q:=?_) ?_ ?_ ?_ jc ?_ ?_ nt ?_ ?_ ?_;rotate_left 4;(iterate 3 (focus (simp only[zF,al,hh,hd,hlt,hf,nt,au,Lm,c6,aJ,List.getElem?_cons_zero,Option.getD_none,Option.isSome_none,ai,seval,ah]<;>exact rfl)));(focus (kernel_rfl));(focus (exact rfl));(focus (simp only[zF,al,hh,hd,hlt,hf,nt,au,Lm,c6,aJ,List.getElem?_cons_zero,Option.getD_none,Option.isSome_none,ai,seval,ah]<;>exact rfl));(focus (intro v hv;cases hv<;>exact rfl)))|(refine bd ?_)|(refine aV ?_)|((first|apply Ca|apply Cb)<;>intro hb)|refine Ai (by omega) ?_|(apply Ai<;>intro hb)
     all_goals ((refine aD bR (k+1) [some b0,some (b0+1),some (b0+256)] ?_ ?_ ?_ ?_;rotate_left 2;(focus (show b0<=_;omega));(focus (refine⟨?_,?_⟩<;>(try simp only[aX,hwk,hnx.symm,cM,bt,gi,dY,lR,gT,gr,dP,nb,Lm,Option.getD_some,Option.isSome_some,ai,seval,ah,ao])<;>(try omega)))))
     all_goals (first|(show s.length-(k+1)<s.length-k;omega)|(show k+1<=s.length;omega)|skip)
    ·repeat' first|simp only[ak,aj,zF,al,hh,hd,hlt,hf,nt,au,Lm,c6,aJ,List.getElem?_cons_zero,Option.getD_some,Option.isSome_some,ai,seval,ah]|exact rfl|refine aa (v:=.any) ?_|(refine ac ?_ [b0+1,b0+2] (nR false (b0+1) (b0+2) (bq q (s.take k)) _ _ (gJ q c) (Nv q c) hll (by omega) ?_ ?_ ag (by omega) (by omega)) ?_ ?_)|(refine jL (y:=?_) (kv:=?_) (kvs:=?_) (q:=?_) ?_ ?_ ?_ jc ?_ ?_ nt ?_ ?_ ?_;rotate_left 4;(iterate 3 (focus (simp only[zF,al,hh,hd,hlt,hf,nt,au,Lm,c6,aJ,List.getElem?_cons_zero,Option.getD_some,Option.isSome_some,ai,seval,ah]<;>exact rfl)));(focus (kernel_rfl));(focus (exact rfl));(focus (simp only[zF,al,hh,hd,hlt,hf,nt,au,Lm,c6,aJ,List.getElem?_cons_zero,Option.getD_some,Option.isSome_some,ai,seval,ah]<;>exact rfl));(focus (intro v hv;cases hv<;>exact rfl)))|(refine bd ?_)|(refine aV ?_)|((first|apply Ca|apply Cb)<;>intro hb)|refine Ai (by omega) ?_|(apply Ai<;>intro hb)
     all_goals ((refine aD bR (k+1) [some b0,some (b0+1),some (b0+272)] ?_ ?_ ?_ ?_;rotate_left 2;(focus (show b0<=_;omega));(focus (refine⟨?_,?_⟩<;>(try simp only[aX,hwk,hnx.symm,cM,bt,gi,dY,lR,gT,gr,dP,nb,Lm,Option.getD_some,Option.isSome_some,ai,seval,ah,ao])<;>(try omega)))))
     all_goals (first|(show s.length-(k+1)<s.length-k;omega)|(show k+1<=s.length;omega)|skip)
   ·have hke:k=s.length:=by omega
    subst hke
    have hd:decide (s.length<s.length)=false:=bo
    have hll:(bq q s).length<=be:=by unfold be;omega
    by_cases hbig:16384<(bq q s).length
    ·have hp:uG q s=4:=by unfold uG;rw[if_neg (fun h=>h hz),if_pos hbig]
     have hp2:yE q s=[]:=by unfold yE;rw[hp];rfl
     have hd2:decide ((16384:Int)<((bq q s).length:Int))=true:=cn
     (repeat' first|simp only[ak,aj,zF,al,hd,hd2,hp,hp2,List.take_length,ai,seval,ah]|exact rfl|refine aa (v:=.any) ?_|(refine ac ?_ [b0+1,b0+2] (sC false (b0+1) (b0+2) (bq q s) _ _ (by omega) ?_ ?_ ag (by omega) (by omega)) ?_ ?_)|((first|apply Ca|apply Cb)<;>intro hb)|refine Ai (by omega) ?_|(apply Ai<;>intro hb)|refine Fin.pure ?_ ?_ ?_|simp only[ao])
    ·have hp:uG q s=0:=by unfold uG;rw[if_neg (fun h=>h hz),if_neg hbig]
     have hp2:yE q s=bq q s:=by unfold yE;rw[hp];rfl
     have hd2:decide ((16384:Int)<((bq q s).length:Int))=false:=bo
     (repeat' first|simp only[ak,aj,zF,al,hd,hd2,hp,hp2,List.take_length,ai,seval,ah]|exact rfl|refine aa (v:=.any) ?_|(refine ac ?_ [b0+1,b0+2] (sC false (b0+1) (b0+2) (bq q s) _ _ (by omega) ?_ ?_ ag (by omega) (by omega)) ?_ ?_)|(refine ac ?_ [b0+1,b0+2] (pq false (b0+1) (b0+2) (bq q s) _ _ hll (by omega) ?_ ?_ ag (by omega) (by omega)) ?_ ?_)|((first|apply Ca|apply Cb)<;>intro hb)|refine Ai (by omega) ?_|(apply Ai<;>intro hb)|refine Fin.pure ?_ ?_ ?_|simp only[ao])
 ·have hb:(aN s != 0)=true:=by rw[bne_iff_ne];exact hz
  have h1:uG q s=aN s:=by unfold uG;rw[if_pos hz]
  have h2:yE q s=[]:=by unfold yE;rw[h1,if_neg hz]
  refine bi call175 func175 rfl (by kernel_rfl) rfl ?_;intro b0 hb0;have zF:=Ai results175 ntmps175
  (repeat' first|simp only[ak,aj,zF,al,hb,h1,h2,ai,seval,ah]|exact rfl|refine aa (v:=.any) ?_|(first|(refine ad ?_ (cm s hs _) ?_)|(refine ab ?_ (fun _=>cm s hs _) ?_))|((first|apply Ca|apply Cb)<;>intro hb)|refine Ai (by omega) ?_|(apply Ai<;>intro hb)|refine Fin.pure ?_ ?_ ?_|simp only[ao])
end Go.Proofs.YtlnlopnpcmahgaaGreatDoor
