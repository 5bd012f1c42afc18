/-
 Texts joined: XEb,XEf,XEg.
-/
import Derived.Test.YtlnlopnpcmahgaaGreatDoorQf
import Derived.Test.YtlnlopnpcmahgaaGreatDoorQe
import Derived.Test.YtlnlopnpcmahgaaGreatDoorQg
set_option linter.all false
namespace Go.Proofs.YtlnlopnpcmahgaaGreatDoor
set_option maxRecDepth 100000
set_option maxHeartbeats 32000000
open Go Go.RowKit Vm Go.Lib Tryz
open Vm renaming aW->Ca,bf->Cb
open And renaming intro->Ai
open List renaming length_map->Lm,not_mem_nil->Ln,map_nil->Lo,map_cons->Lc,mem_cons->Lk
open Bool renaming not_false->Bf,not_true->Bt
def qc (v:V)(M:am)(nm:Nat):Ev cx 174 nm [v] M v [] :=
 Ev.noEscape func174 (by kernel_rfl) (by kernel_rfl) (by kernel_rfl) (by kernel_rfl) v M nm
def au (n:Nat):b7 n n=True:=eq_true ⟨Nat.le_refl _,by omega⟩
def bK (used:Bool)(q:Nat)(c:V):Blk:=if used then ⟨2,[[.ptr q 0 0,c]]⟩ else @Blk.mk 2 [[.nilp,c]] (.typed 131)
def c9 (q:Nat)(c:V):bK true q c=⟨2,[[.ptr q 0 0,c]]⟩:=rfl
def cV (q:Nat)(c:V):bK false q c = @Blk.mk 2 [[.nilp,c]] (.typed 131):=rfl
def j9:(cx.P.info? 131).isSome=true:=by kernel_rfl
def pC (used:Bool)(q:Nat)(M:am)(nm:Nat)(hq:M q=some (bK used q .nils))(ho:∀ z,(M z).isSome=true->z∈[q])(hn:q<nm) :
  Ev cx 134 nm [.ptr q 0 0] M (.tup []) [(q,some (bK true q .nils))]:=by
 cases used with
 | false =>
  refine bh call134 func134 rfl (by kernel_rfl) rfl ?_;intro b0 hb0;have zF:=Ai results134 ntmps134
  have lq:=aB hb0 hq
  have z0:=aD lq
  repeat' first|simp only[ak,ag,zF,al,j9,c9,cV,hq,z0,ai,seval,ah,TypeDesc.pointer.injEq,exists_eq_left']|exact rfl|refine aa (v:=.any) ?_|(first|(refine ae ?_ (qc (.ptr q 0 0) am.nil _) ?_)|(refine ab ?_ (fun _=>qc (.ptr q 0 0) am.nil _) ?_))|(refine pL (y:=?_) (sz:=?_) (row:=?_) (rows:=?_) (o:=?_) (te:=?_) ?_ ?_ ?_ ?_ ?_ ?_ ?_ ?_;rotate_left 6;(iterate 2 (focus (simp only[zF,al,j9,c9,cV,hq,z0,ai,seval,ah,TypeDesc.pointer.injEq,exists_eq_left']<;>exact rfl)));(focus (exact rfl));(focus (omega));(iterate 2 (focus (simp only[zF,al,j9,c9,cV,hq,z0,ai,seval,ah,TypeDesc.pointer.injEq,exists_eq_left']<;>exact rfl)));(focus (kernel_rfl)))|(refine ba ?_)|(refine aU ?_)|(refine mP (y:=?_) (sz:=?_) (row:=?_) (rows:=?_) (u:=?_) ?_ ?_ ?_ ?_ ?_ ?_ ?_ ?_;rotate_left 5;(iterate 2 (focus (simp only[zF,al,j9,c9,cV,hq,z0,ai,seval,ah,TypeDesc.pointer.injEq,exists_eq_left']<;>exact rfl)));(focus (omega));(iterate 2 (focus (simp only[zF,al,j9,c9,cV,hq,z0,ai,seval,ah,TypeDesc.pointer.injEq,exists_eq_left']<;>exact rfl)));(iterate 2 (focus (kernel_rfl))))|((first|apply Ca|apply Cb)<;>intro hb)|refine Ai (by omega) ?_|(apply Ai<;>intro hb)
  all_goals ((refine Fin.give [(q,none)] [] ?_ ?_ ?_ ?_ ?_ (aL ho (by simp[aP,tgt]))<;>(try simp only[zF,al,j9,c9,cV,hq,z0,dx,ai,seval,ah,TypeDesc.pointer.injEq,exists_eq_left'])<;>(try simp only[ap])<;>(try omega)))
 | true =>
  refine bh call134 func134 rfl (by kernel_rfl) rfl ?_;intro b0 hb0;have zF:=Ai results134 ntmps134
  have lq:=aB hb0 hq
  have z0:=aD lq
  repeat' first|simp only[ak,ag,zF,al,j9,c9,cV,hq,z0,ai,seval,ah,TypeDesc.pointer.injEq,exists_eq_left']|exact rfl|refine aa (v:=.any) ?_|((first|apply Ca|apply Cb)<;>intro hb)|refine Ai (by omega) ?_|(apply Ai<;>intro hb)
  all_goals ((refine Fin.give [(q,none)] [] ?_ ?_ ?_ ?_ ?_ (aL ho (by simp[aP,tgt]))<;>(try simp only[zF,al,j9,c9,cV,hq,z0,dx,ai,seval,ah,TypeDesc.pointer.injEq,exists_eq_left'])<;>(try simp only[ap])<;>(try omega)))
def eJ (O:List (Nat×Nat))(bs:List UInt8)(t:TypeId):Blk.ren O (@Blk.mk 1 (bs.map aI) (.typed t)) = @Blk.mk 1 (bs.map aI) (.typed t):=by
 have h:plainLL (bs.map aI)=true:=cA _ (fun _=>rfl) bs
 simp only[Blk.ren,gW,h,if_true]
def dj (O:List (Nat×Nat))(bs:List UInt8)(t:TypeId):Blk.renOk O (@Blk.mk 1 (bs.map aI) (.typed t))=true:=by
 have h:plainLL (bs.map aI)=true:=cA _ (fun _=>rfl) bs
 simp only[Blk.renOk,fH,h,Bool.true_or,Bool.true_and]
 rfl
def KY (O:List (Nat×Nat))(c:UInt8)(bs:List UInt8)(t:TypeId):Blk.ren O (@Blk.mk 1 (aI c::bs.map aI) (.typed t)) = @Blk.mk 1 (aI c::bs.map aI) (.typed t):=eJ O (c::bs) t
def Dp (O:List (Nat×Nat))(c:UInt8)(bs:List UInt8)(t:TypeId):Blk.renOk O (@Blk.mk 1 (aI c::bs.map aI) (.typed t))=true:=dj O (c::bs) t
def K0 (O:List (Nat×Nat))(c:UInt8)(bs:List UInt8)(t:TypeId):Blk.ren O (@Blk.mk 1 (bs.map aI++[[.int .u8 c.toNat]]) (.typed t)) = @Blk.mk 1 (bs.map aI++[[.int .u8 c.toNat]]) (.typed t):=by
 have:=eJ O (bs++[c]) t
 rwa[List.map_append]at this
def Dr (O:List (Nat×Nat))(c:UInt8)(bs:List UInt8)(t:TypeId):Blk.renOk O (@Blk.mk 1 (bs.map aI++[[.int .u8 c.toNat]]) (.typed t))=true:=by
 have:=dj O (bs++[c]) t
 rwa[List.map_append]at this
def fY (O:List (Nat×Nat))(s:Nat)(rows:List (List V))(t:TypeId):Blk.ren O (@Blk.mk s rows (.typed t)) = @Blk.mk s (gW O rows) (.typed t):=rfl
def dX (O:List (Nat×Nat))(s:Nat)(rows:List (List V))(t:TypeId):Blk.renOk O (@Blk.mk s rows (.typed t))=fH O rows:=by
 simp only[Blk.renOk,Ob.renOk,Bool.and_true]
def nh (bs:List UInt8):plainLL (bs.map aI)=true:=cA _ (fun _=>rfl) bs
def KA (c:UInt8):(aI c).all V.one=true:=rfl
def C6 (bs:List UInt8):((bs.map aI).all fun r=>r.all V.one)=true:=by
 rw[List.all_eq_true]
 intro r hr
 obtain⟨c,_,rfl⟩:=List.mem_map.1 hr
 rfl
def rK (bs:List UInt8):Blk:=@Blk.mk 1 (bs.map aI) (.typed 5)
def tx (used:Bool)(q y n:Nat)(bs:List UInt8)(M:am)(nm:Nat)(hqy:q≠y)(hq:M q=some (bK used q (.own y 0 n)))(hy:M y=some (rK bs))(ho:∀ z,(M z).isSome=true->z∈[q,y])(hn:q<nm)(hny:y<nm) :
  Ev cx 134 nm [.ptr q 0 0] M (.tup []) [(q,some (bK true q (.own y 0 n))),(y,some (rK bs))]:=by
 have yz:(y=q)=False:=eq_false (fun h=>hqy h.symm)
 have zy:(q=y)=False:=eq_false hqy
 cases used with
 | false =>
  refine bh call134 func134 rfl (by kernel_rfl) rfl ?_;intro b0 hb0;have zF:=Ai results134 ntmps134
  have lq:=aB hb0 hq
  have ly:=aB hb0 hy
  have y0:=aD ly
  have z0:=aD lq
  repeat' first|simp only[ak,ag,zF,al,j9,c9,cV,hq,hy,y0,yz,zy,z0,ai,seval,ah,TypeDesc.pointer.injEq,exists_eq_left']|exact rfl|refine aa (v:=.any) ?_|(first|(refine ae ?_ (qc (.ptr q 0 0) am.nil _) ?_)|(refine ab ?_ (fun _=>qc (.ptr q 0 0) am.nil _) ?_))|(refine pL (y:=?_) (sz:=?_) (row:=?_) (rows:=?_) (o:=?_) (te:=?_) ?_ ?_ ?_ ?_ ?_ ?_ ?_ ?_;rotate_left 6;(iterate 2 (focus (simp only[zF,al,j9,c9,cV,hq,hy,y0,yz,zy,z0,ai,seval,ah,TypeDesc.pointer.injEq,exists_eq_left']<;>exact rfl)));(focus (exact rfl));(focus (omega));(iterate 2 (focus (simp only[zF,al,j9,c9,cV,hq,hy,y0,yz,zy,z0,ai,seval,ah,TypeDesc.pointer.injEq,exists_eq_left']<;>exact rfl)));(focus (kernel_rfl)))|(refine ba ?_)|(refine aU ?_)|(refine mP (y:=?_) (sz:=?_) (row:=?_) (rows:=?_) (u:=?_) ?_ ?_ ?_ ?_ ?_ ?_ ?_ ?_;rotate_left 5;(iterate 2 (focus (simp only[zF,al,j9,c9,cV,hq,hy,y0,yz,zy,z0,ai,seval,ah,TypeDesc.pointer.injEq,exists_eq_left']<;>exact rfl)));(focus (omega));(iterate 2 (focus (simp only[zF,al,j9,c9,cV,hq,hy,y0,yz,zy,z0,ai,seval,ah,TypeDesc.pointer.injEq,exists_eq_left']<;>exact rfl)));(iterate 2 (focus (kernel_rfl))))|((first|apply Ca|apply Cb)<;>intro hb)|refine Ai (by omega) ?_|(apply Ai<;>intro hb)
  all_goals ((refine Fin.give [(q,none),(y,none)] [] ?_ ?_ ?_ ?_ ?_ (aL ho (by simp[aP,tgt]))<;>(try simp only[zF,al,rK,eJ,dj,ite_self,Bool.false_and,Bool.false_eq_true,if_false,c9,cV,hq,hy,y0,yz,zy,z0,dx,ai,seval,ah,TypeDesc.pointer.injEq,exists_eq_left'])<;>(try simp only[ap])<;>(try omega)))
 | true =>
  refine bh call134 func134 rfl (by kernel_rfl) rfl ?_;intro b0 hb0;have zF:=Ai results134 ntmps134
  have lq:=aB hb0 hq
  have ly:=aB hb0 hy
  have y0:=aD ly
  have z0:=aD lq
  repeat' first|simp only[ak,ag,zF,al,j9,c9,cV,hq,hy,y0,yz,zy,z0,ai,seval,ah,TypeDesc.pointer.injEq,exists_eq_left']|exact rfl|refine aa (v:=.any) ?_|((first|apply Ca|apply Cb)<;>intro hb)|refine Ai (by omega) ?_|(apply Ai<;>intro hb)
  all_goals ((refine Fin.give [(q,none),(y,none)] [] ?_ ?_ ?_ ?_ ?_ (aL ho (by simp[aP,tgt]))<;>(try simp only[zF,al,rK,eJ,dj,ite_self,Bool.false_and,Bool.false_eq_true,if_false,c9,cV,hq,hy,y0,yz,zy,z0,dx,ai,seval,ah,TypeDesc.pointer.injEq,exists_eq_left'])<;>(try simp only[ap])<;>(try omega)))
def Bj (used:Bool)(q:Nat)(s:List UInt8)(hs:s≠[])(hl:s.length<=bc)(M:am)(nm:Nat)(hq:M q=some (bK used q .nils))(ho:∀ z,(M z).isSome=true->z∈[q])(hn:q<nm) :
  Ev cx 86 nm [.ptr q 0 0,.str s] M (.tup [.int .i64 s.length,.val .nilIface]) [(q,some (bK true q (.own nm 0 s.length))),(nm,some (rK s))]:=by
 unfold bc at hl
 refine bh call86 func86 rfl (by kernel_rfl) rfl ?_;intro b0 hb0
 have lq:=aB hb0 hq
 have z0:=aD lq
 obtain⟨c,s,rfl⟩:=List.exists_cons_of_ne_nil hs
 repeat' first|simp only[ak,ag,results86,ntmps86,al,c9,hq,z0,ai,seval,ah,TypeDesc.pointer.injEq,exists_eq_left']|exact rfl|refine aa (v:=.any) ?_|(refine ac ?_ [[q]] (pC used q _ _ ?_ aj (by omega)) ?_ ?_)|((first|apply Ca|apply Cb)<;>intro hb)|refine Ai (by omega) ?_|(apply Ai<;>intro hb)
 refine ac ?_ [q] (pC used q _ _ ?_ aj (by omega)) ?_ ?_
 ·simp only[ai,seval,ah,TypeDesc.pointer.injEq,exists_eq_left']
 ·simp only[lN,Lk,Ln,hq,ai,seval,ah,TypeDesc.pointer.injEq,exists_eq_left']
 ·simp only[Lk,Ln,forall_eq,forall_eq_or_imp,hq,ai,seval,ah,TypeDesc.pointer.injEq,exists_eq_left']
 simp only[List.length_cons]at hl
 repeat' first|simp only[ak,ag,results86,ntmps86,al,c9,hq,z0,KA,C6,Lm,ai,seval,ah,TypeDesc.pointer.injEq,exists_eq_left']|exact rfl|refine aa (v:=.any) ?_|((first|apply Ca|apply Cb)<;>intro hb)|refine Ai (by omega) ?_|(apply Ai<;>intro hb)
 all_goals ((refine Fin.give [(q,none),(b0+160,some 0)] [] ?_ ?_ ?_ ?_ ?_ (aL ho (by simp[aP,tgt]))<;>(try simp only[results86,ntmps86,al,rK,KY,Dp,eJ,dj,ite_self,Bool.false_and,Bool.false_eq_true,if_false,c9,hq,z0,au,dx,ai,seval,ah,TypeDesc.pointer.injEq,exists_eq_left'])<;>(try simp only[ap])<;>(try omega)))
def Bk (used:Bool)(q y:Nat)(bs s:List UInt8)(hl:bs.length+s.length<=bc)(M:am)(nm:Nat)(hqy:q≠y)(hq:M q=some (bK used q (.own y 0 bs.length)))(hy:M y=some (rK bs))(ho:∀ z,(M z).isSome=true->z∈[q,y])(hn:q<nm)(hny:y<nm) :
  Ev cx 86 nm [.ptr q 0 0,.str s] M (.tup [.int .i64 s.length,.val .nilIface]) [(y,none),(q,some (bK true q (.own nm 0 (bs.length+s.length)))),(nm,some (rK (bs++s)))]:=by
 unfold bc at hl
 have yz:(y=q)=False:=eq_false (fun h=>hqy h.symm)
 have zy:(q=y)=False:=eq_false hqy
 refine bh call86 func86 rfl (by kernel_rfl) rfl ?_;intro b0 hb0
 have lq:=aB hb0 hq
 have ly:=aB hb0 hy
 have y0:=aD ly
 have z0:=aD lq
 repeat' first|simp only[ak,ag,results86,ntmps86,al,c9,hq,z0,ai,seval,ah,TypeDesc.pointer.injEq,exists_eq_left']|exact rfl|refine aa (v:=.any) ?_|((first|apply Ca|apply Cb)<;>intro hb)|refine Ai (by omega) ?_|(apply Ai<;>intro hb)
 refine ac ?_ [q,y] (tx used q y bs.length bs _ _ hqy ?_ ?_ aj (by omega) (by omega)) ?_ ?_
 ·simp only[ai,seval,ah,TypeDesc.pointer.injEq,exists_eq_left']
 ·simp only[lN,Lk,Ln,true_or,or_true,hq,hy,yz,zy,ai,seval,ah,TypeDesc.pointer.injEq,exists_eq_left']
 ·simp only[lN,Lk,Ln,true_or,or_true,hq,hy,yz,zy,ai,seval,ah,TypeDesc.pointer.injEq,exists_eq_left']
 ·simp only[Lk,Ln,forall_eq,forall_eq_or_imp,true_or,or_true,hq,hy,yz,zy,ai,seval,ah,TypeDesc.pointer.injEq,exists_eq_left']
 repeat' first|simp only[ak,ag,results86,ntmps86,al,rK,c9,hq,hy,yz,zy,y0,z0,KA,C6,Lm,List.take_of_length_le,Nat.le_refl,List.map_append.symm,ai,seval,ah,TypeDesc.pointer.injEq,exists_eq_left']|exact rfl|refine aa (v:=.any) ?_|((first|apply Ca|apply Cb)<;>intro hb)|refine Ai (by omega) ?_|(apply Ai<;>intro hb)
 all_goals ((refine Fin.give [(q,none),(b0+160,some 0)] [y] ?_ ?_ ?_ ?_ ?_ (aL ho (by simp[aP,tgt]))<;>(try simp only[results86,ntmps86,al,rK,Option.bind_some,eJ,dj,ite_self,Bool.false_and,Bool.false_eq_true,if_false,c9,hq,hy,yz,zy,y0,z0,au,dx,ai,seval,ah,TypeDesc.pointer.injEq,exists_eq_left'])<;>(try simp only[ap])<;>(try omega)))
def w7 (used:Bool)(q y:Nat)(bs:List UInt8)(c:UInt8)(hl:bs.length+1<=bc)(M:am)(nm:Nat)(hqy:q≠y)(hq:M q=some (bK used q (.own y 0 bs.length)))(hy:M y=some (rK bs))(ho:∀ z,(M z).isSome=true->z∈[q,y])(hn:q<nm)(hny:y<nm) :
  Ev cx 136 nm [.ptr q 0 0,.int .u8 c.toNat] M (.val .nilIface) [(y,none),(q,some (bK true q (.own nm 0 (bs.length+1)))),(nm,some (rK (bs++[c])))]:=by
 unfold bc at hl
 have yz:(y=q)=False:=eq_false (fun h=>hqy h.symm)
 have zy:(q=y)=False:=eq_false hqy
 refine bh call136 func136 rfl (by kernel_rfl) rfl ?_;intro b0 hb0
 have lq:=aB hb0 hq
 have ly:=aB hb0 hy
 have y0:=aD ly
 have z0:=aD lq
 repeat' first|simp only[ak,ag,results136,ntmps136,al,c9,hq,z0,ai,seval,ah,TypeDesc.pointer.injEq,exists_eq_left']|exact rfl|refine aa (v:=.any) ?_|((first|apply Ca|apply Cb)<;>intro hb)|refine Ai (by omega) ?_|(apply Ai<;>intro hb)
 refine ac ?_ [q,y] (tx used q y bs.length bs _ _ hqy ?_ ?_ aj (by omega) (by omega)) ?_ ?_
 ·simp only[ai,seval,ah,TypeDesc.pointer.injEq,exists_eq_left']
 ·simp only[lN,Lk,Ln,true_or,or_true,hq,hy,yz,zy,ai,seval,ah,TypeDesc.pointer.injEq,exists_eq_left']
 ·simp only[lN,Lk,Ln,true_or,or_true,hq,hy,yz,zy,ai,seval,ah,TypeDesc.pointer.injEq,exists_eq_left']
 ·simp only[Lk,Ln,forall_eq,forall_eq_or_imp,true_or,or_true,hq,hy,yz,zy,ai,seval,ah,TypeDesc.pointer.injEq,exists_eq_left']
 repeat' first|simp only[ak,ag,results136,ntmps136,al,rK,c9,hq,hy,yz,zy,y0,z0,KA,C6,Lm,List.take_of_length_le,Nat.le_refl,ai,seval,ah,TypeDesc.pointer.injEq,exists_eq_left']|exact rfl|refine aa (v:=.any) ?_|((first|apply Ca|apply Cb)<;>intro hb)|refine Ai (by omega) ?_|(apply Ai<;>intro hb)
 all_goals ((refine Fin.give [(q,none),(b0+160,some 0)] [y] ?_ ?_ ?_ ?_ ?_ (aL ho (by simp[aP,tgt]))<;>(try simp only[results136,ntmps136,al,rK,K0,Dr,aI,List.map_append,Lc,Lo,Option.bind_some,eJ,dj,ite_self,Bool.false_and,Bool.false_eq_true,if_false,c9,hq,hy,yz,zy,y0,z0,au,dx,ai,seval,ah,TypeDesc.pointer.injEq,exists_eq_left'])<;>(try simp only[ap])<;>(try omega)))
def Io (used:Bool)(q y:Nat)(bs:List UInt8)(M:am)(nm:Nat)(hqy:q≠y)(hq:M q=some (bK used q (.own y 0 bs.length)))(hy:M y=some (rK bs))(ho:∀ z,(M z).isSome=true->z∈[q,y])(hn:q<nm)(hny:y<nm) :
  Ev cx 88 nm [.ptr q 0 0] M (.int .i64 bs.length) [(q,some (bK used q (.own y 0 bs.length))),(y,some (rK bs))]:=by
 have yz:(y=q)=False:=eq_false (fun h=>hqy h.symm)
 have zy:(q=y)=False:=eq_false hqy
 refine bh call88 func88 rfl (by kernel_rfl) rfl ?_;intro b0 hb0
 have lq:=aB hb0 hq
 have ly:=aB hb0 hy
 have y0:=aD ly
 have z0:=aD lq
 cases used<;>(repeat' first|simp only[ak,ag,results88,ntmps88,al,c9,cV,hq,hy,yz,zy,y0,z0,ai,seval,ah,TypeDesc.pointer.injEq,exists_eq_left']|exact rfl|refine aa (v:=.any) ?_|((first|apply Ca|apply Cb)<;>intro hb)|refine Ai (by omega) ?_|(apply Ai<;>intro hb))
 all_goals ((refine Fin.give [(q,none),(y,none)] [] ?_ ?_ ?_ ?_ ?_ (aL ho (by simp[aP,tgt]))<;>(try simp only[results88,ntmps88,al,rK,fY,dX,nh,ite_self,Bool.false_and,Bool.false_eq_true,if_false,c9,cV,hq,hy,yz,zy,y0,z0,au,dx,ai,seval,ah,TypeDesc.pointer.injEq,exists_eq_left'])<;>(try simp only[ap])<;>(try omega)))
def zf (used:Bool)(q y:Nat)(bs:List UInt8)(hb:bs≠[])(hl:bs.length<=bc)(M:am)(nm:Nat)(hqy:q≠y)(hq:M q=some (bK used q (.own y 0 bs.length)))(hy:M y=some (rK bs))(ho:∀ z,(M z).isSome=true->z∈[q,y])(hn:q<nm)(hny:y<nm) :
  Ev cx 89 nm [.ptr q 0 0] M (.str bs) [(q,none),(y,none)]:=by
 unfold bc at hl
 have hp:0<bs.length:=List.length_pos_iff.2 hb
 have yz:(y=q)=False:=eq_false (fun h=>hqy h.symm)
 have zy:(q=y)=False:=eq_false hqy
 refine bh call89 func89 rfl (by kernel_rfl) rfl ?_;intro b0 hb0;have zF:=Ai results89 ntmps89
 have lq:=aB hb0 hq
 have ly:=aB hb0 hy
 have y0:=aD ly
 have z0:=aD lq
 cases used<;>(repeat' first|simp only[ak,ag,zF,al,rK,c9,cV,hq,hy,yz,zy,y0,z0,hb,ne_eq,not_false_eq_true,ai,seval,ah,TypeDesc.pointer.injEq,exists_eq_left']|exact rfl|refine aa (v:=.any) ?_|(refine vr (y:=?_) (n:=?_) rfl ?_ ?_ ?_;rotate_left 2;(focus (simp only[zF,al,rK,c9,cV,hq,hy,yz,zy,y0,z0,hb,ne_eq,not_false_eq_true,ai,seval,ah,TypeDesc.pointer.injEq,exists_eq_left']<;>exact rfl));(focus (first|omega|(simp only[zF,al,rK,c9,cV,hq,hy,yz,zy,y0,z0,hb,ne_eq,not_false_eq_true,ai,seval,ah,TypeDesc.pointer.injEq,exists_eq_left']<;>omega))))|(refine ba ?_)|(refine aU ?_)|(refine qG (y:=?_) (bs:=?_) (u:=?_) rfl ?_ ?_ ?_ ?_ ?_ ?_ ?_ ?_;rotate_left 3;(iterate 3 (focus (simp only[zF,al,rK,c9,cV,hq,hy,yz,zy,y0,z0,hb,ne_eq,not_false_eq_true,ai,seval,ah,TypeDesc.pointer.injEq,exists_eq_left']<;>exact rfl)));(focus (first|assumption|(simp only[zF,al,rK,c9,cV,hq,hy,yz,zy,y0,z0,hb,ne_eq,not_false_eq_true,ai,seval,ah,TypeDesc.pointer.injEq,exists_eq_left'];done)));(focus (first|omega|(simp only[zF,al,rK,c9,cV,hq,hy,yz,zy,y0,z0,hb,ne_eq,not_false_eq_true,ai,seval,ah,TypeDesc.pointer.injEq,exists_eq_left']<;>omega)));(focus (simp only[zF,al,rK,c9,cV,hq,hy,yz,zy,y0,z0,hb,ne_eq,not_false_eq_true,ai,seval,ah,TypeDesc.pointer.injEq,exists_eq_left']<;>exact rfl));(focus (kernel_rfl)))|refine aZ (ps:=[(4,8)]) (by decide +kernel) (by simp only[List.forall_mem_cons,List.getD_cons_zero,List.getD_cons_succ,zF,al,rK,c9,cV,hq,hy,yz,zy,y0,z0,hb,ne_eq,not_false_eq_true,ai,seval,ah,TypeDesc.pointer.injEq,exists_eq_left']<;>(try simp)<;>(try omega)) ?_|refine az (by decide +kernel) ?_|((first|apply Ca|apply Cb)<;>intro hb)|refine Ai (by omega) ?_|(apply Ai<;>intro hb))
 all_goals ((refine Fin.give [] [q,y] ?_ ?_ ?_ ?_ ?_ (aL ho (by simp[aP,tgt]))<;>(try simp only[zF,al,rK,ite_self,Bool.false_and,Bool.false_eq_true,if_false,c9,cV,hq,hy,yz,zy,y0,z0,au,dx,ai,seval,ah,TypeDesc.pointer.injEq,exists_eq_left'])<;>(try simp only[ap])<;>(try omega)))
def HS (used:Bool)(q:Nat)(c:UInt8)(M:am)(nm:Nat)(hq:M q=some (bK used q .nils))(ho:∀ z,(M z).isSome=true->z∈[q])(hn:q<nm) :
  Ev cx 136 nm [.ptr q 0 0,.int .u8 c.toNat] M (.val .nilIface) [(q,some (bK true q (.own nm 0 1))),(nm,some (rK [c]))]:=by
 refine bh call136 func136 rfl (by kernel_rfl) rfl ?_;intro b0 hb0
 have lq:=aB hb0 hq
 have z0:=aD lq
 repeat' first|simp only[ak,ag,results136,ntmps136,al,c9,hq,z0,ai,seval,ah,TypeDesc.pointer.injEq,exists_eq_left']|exact rfl|refine aa (v:=.any) ?_|((first|apply Ca|apply Cb)<;>intro hb)|refine Ai (by omega) ?_|(apply Ai<;>intro hb)
 refine ac ?_ [q] (pC used q _ _ ?_ aj (by omega)) ?_ ?_
 ·simp only[ai,seval,ah,TypeDesc.pointer.injEq,exists_eq_left']
 ·simp only[lN,Lk,Ln,hq,ai,seval,ah,TypeDesc.pointer.injEq,exists_eq_left']
 ·simp only[Lk,Ln,forall_eq,forall_eq_or_imp,hq,ai,seval,ah,TypeDesc.pointer.injEq,exists_eq_left']
 repeat' first|simp only[ak,ag,results136,ntmps136,al,c9,hq,z0,ai,seval,ah,TypeDesc.pointer.injEq,exists_eq_left']|exact rfl|refine aa (v:=.any) ?_|((first|apply Ca|apply Cb)<;>intro hb)|refine Ai (by omega) ?_|(apply Ai<;>intro hb)
 all_goals ((refine Fin.give [(q,none),(b0+160,some 0)] [] ?_ ?_ ?_ ?_ ?_ (aL ho (by simp[aP,tgt]))<;>(try simp only[results136,ntmps136,al,rK,fY,dX,aI,List.map_append,Lc,Lo,ite_self,Bool.false_and,Bool.false_eq_true,if_false,c9,hq,z0,au,dx,ai,seval,ah,TypeDesc.pointer.injEq,exists_eq_left'])<;>(try simp only[ap])<;>(try omega)))
def Im (used:Bool)(q:Nat)(M:am)(nm:Nat)(hq:M q=some (bK used q .nils))(ho:∀ z,(M z).isSome=true->z∈[q])(hn:q<nm) :
  Ev cx 88 nm [.ptr q 0 0] M (.int .i64 0) [(q,some (bK used q .nils))]:=by
 refine bh call88 func88 rfl (by kernel_rfl) rfl ?_;intro b0 hb0
 have lq:=aB hb0 hq
 have z0:=aD lq
 cases used<;>(repeat' first|simp only[ak,ag,results88,ntmps88,al,c9,cV,hq,z0,ai,seval,ah,TypeDesc.pointer.injEq,exists_eq_left']|exact rfl|refine aa (v:=.any) ?_|((first|apply Ca|apply Cb)<;>intro hb)|refine Ai (by omega) ?_|(apply Ai<;>intro hb))
 all_goals ((refine Fin.give [(q,none)] [] ?_ ?_ ?_ ?_ ?_ (aL ho (by simp[aP,tgt]))<;>(try simp only[results88,ntmps88,al,fY,dX,ite_self,Bool.false_and,Bool.false_eq_true,if_false,c9,cV,hq,z0,au,dx,ai,seval,ah,TypeDesc.pointer.injEq,exists_eq_left'])<;>(try simp only[ap])<;>(try omega)))
def Ip (used:Bool)(q:Nat)(M:am)(nm:Nat)(hq:M q=some (bK used q .nils))(ho:∀ z,(M z).isSome=true->z∈[q])(hn:q<nm) :
  Ev cx 89 nm [.ptr q 0 0] M (.str []) [(q,none)]:=by
 refine bh call89 func89 rfl (by kernel_rfl) rfl ?_;intro b0 hb0;have zF:=Ai results89 ntmps89
 have lq:=aB hb0 hq
 have z0:=aD lq
 cases used<;>(repeat' first|simp only[ak,ag,zF,al,c9,cV,hq,z0,ai,seval,ah,TypeDesc.pointer.injEq,exists_eq_left']|exact rfl|refine aa (v:=.any) ?_|(refine pK rfl ?_ ?_;(focus (simp only[zF,al,c9,cV,hq,z0,ai,seval,ah,TypeDesc.pointer.injEq,exists_eq_left']<;>exact rfl)))|(refine ba ?_)|(refine aU ?_)|(refine mR rfl ?_ ?_ ?_;(iterate 2 (focus (simp only[zF,al,c9,cV,hq,z0,ai,seval,ah,TypeDesc.pointer.injEq,exists_eq_left']<;>exact rfl))))|refine aZ (ps:=[(4,8)]) (by decide +kernel) (by simp only[List.forall_mem_cons,List.getD_cons_zero,List.getD_cons_succ,zF,al,c9,cV,hq,z0,ai,seval,ah,TypeDesc.pointer.injEq,exists_eq_left']<;>(try simp)<;>(try omega)) ?_|refine az (by decide +kernel) ?_|((first|apply Ca|apply Cb)<;>intro hb)|refine Ai (by omega) ?_|(apply Ai<;>intro hb))
 all_goals ((refine Fin.give [] [q] ?_ ?_ ?_ ?_ ?_ (aL ho (by simp[aP,tgt]))<;>(try simp only[zF,al,ite_self,Bool.false_and,Bool.false_eq_true,if_false,c9,cV,hq,z0,au,dx,ai,seval,ah,TypeDesc.pointer.injEq,exists_eq_left'])<;>(try simp only[ap])<;>(try omega)))
def bS (u:Bool)(q y:Nat)(bs:List UInt8):Blk:=if bs=[] then bK u q .nils else bK true q (.own y 0 bs.length)
def th (u:Bool)(q y:Nat):bS u q y []=bK u q .nils:=by unfold bS;rw[if_pos rfl]
def tf (u:Bool)(q y:Nat){bs:List UInt8}(h:bs≠[]):bS u q y bs=bK true q (.own y 0 bs.length):=by unfold bS;rw[if_neg h]
def BK (q y:Nat):bS false q y [] = @Blk.mk 2 [[.nilp,.nils]] (.typed 131):=by rw[th];rfl
def lS (O:List (Nat×Nat))(u:Bool)(q y:Nat)(bs:List UInt8):Blk.ren O (bS u q y bs)=bS u ((aT O q).getD q) ((aT O y).getD y) bs:=by
 unfold bS
 by_cases h:bs=[]
 ·rw[if_pos h,if_pos h]
  cases u<;>simp[bK,Blk.ren,gW,renL,V.ren,plainLL,plainL,V.plain,Ob.ren,instCells]
 ·rw[if_neg h,if_neg h]
  simp[bK,Blk.ren,gW,renL,V.ren,plainLL,plainL,V.plain,Ob.ren,instCells]
def gO (O:List (Nat×Nat))(u:Bool)(q y:Nat)(bs:List UInt8)(h1:(aT O q).isSome=true)(h2:(aT O y).isSome=true):Blk.renOk O (bS u q y bs)=true:=by
 unfold bS
 by_cases h:bs=[]
 ·rw[if_pos h]
  cases u<;>simp[bK,Blk.renOk,fH,renOkL,V.renOk,h1,Ob.renOk,instCells]
 ·rw[if_neg h]
  simp[bK,Blk.renOk,fH,renOkL,V.renOk,h1,h2,Ob.renOk,instCells]
def Di (bs:List UInt8):(rK bs).ob.isRow=true:=rfl
def Dh:(rK []).rows=[]:=rfl
def gf (O:List (Nat×Nat))(bs:List UInt8):Blk.ren O (rK bs)=rK bs:=eJ O bs _
def dL (O:List (Nat×Nat))(bs:List UInt8):Blk.renOk O (rK bs)=true:=dj O bs _
def nM {M:am}{q y nm:Nat}(ho:∀ z,(M z).isSome=true->z∈[q,y])(hn:q<nm)(hny:y<nm):∀ x,b7 nm x->M x=none:=fun x hx=>by
 cases hm:M x with
 | none=>rfl
 | some k =>
  have:=ho x (by rw[hm];rfl)
  simp only[Lk,Ln,or_false]at this
  have:=hx.1
  omega
def C1 {l:List Nat} : ∀ z,((am.nil:am) z).isSome=true->z∈l:=fun z h=>by cases h
def EO {M:am}{q:Nat}{k:Blk}(h:M q=some k):(M.only [q]) q=some k:=yp.2 ⟨h,by simp⟩
section
variable (u:Bool) (q y:Nat) (bs:List UInt8) (M:am) (nm:Nat)
def nX (s:List UInt8)(hs:s≠[])(hl:bs.length+s.length<=bc)(hqy:q≠y)(hq:M q=some (bS u q y bs))(hy:M y=some (rK bs))(ho:∀ z,(M z).isSome=true->z∈[q,y])(hn:q<nm)(hny:y<nm) :
  Ev cx 86 nm [.ptr q 0 0,.str s] M (.tup [.int .i64 s.length,.val .nilIface]) [(y,none),(q,some (bS false q nm (bs++s))),(nm,some (rK (bs++s)))]:=by
 rw[tf false q nm (bs:=bs++s) (by simp[hs]),List.length_append]
 by_cases hb:bs=[]
 ·subst hb
  rw[th]at hq
  simp only[List.nil_append,List.length_nil,Nat.zero_add]at hl ⊢
  refine Ev.dropM y (Ev.frame [q] (Bj u q s hs hl _ nm (EO hq) aj hn) (fun x hx=>?_) (nM ho hn hny))
  simp only[ao,Lc,Lo,Lk,Ln,or_false]at hx
  rcases hx with rfl|rfl
  ·left;simp
  ·right;exact⟨Nat.le_refl _,by omega⟩
 ·rw[tf u q y hb]at hq
  exact Bk true q y bs s hl M nm hqy hq hy ho hn hny
def qr (c:UInt8)(hl:bs.length+1<=bc)(hqy:q≠y)(hq:M q=some (bS u q y bs))(hy:M y=some (rK bs))(ho:∀ z,(M z).isSome=true->z∈[q,y])(hn:q<nm)(hny:y<nm) :
  Ev cx 136 nm [.ptr q 0 0,.int .u8 c.toNat] M (.val .nilIface) [(y,none),(q,some (bS false q nm (bs++[c]))),(nm,some (rK (bs++[c])))]:=by
 rw[tf false q nm (bs:=bs++[c]) (by simp),List.length_append,List.length_singleton]
 by_cases hb:bs=[]
 ·subst hb
  rw[th]at hq
  simp only[List.nil_append,List.length_nil,Nat.zero_add]at hl ⊢
  refine Ev.dropM y (Ev.frame [q] (HS u q c _ nm (EO hq) aj hn) (fun x hx=>?_) (nM ho hn hny))
  simp only[ao,Lc,Lo,Lk,Ln,or_false]at hx
  rcases hx with rfl|rfl
  ·left;simp
  ·right;exact⟨Nat.le_refl _,by omega⟩
 ·rw[tf u q y hb]at hq
  exact w7 true q y bs c hl M nm hqy hq hy ho hn hny
def H2 {M:am}{q y:Nat}{a b:Blk}(hq:M q=some a)(hy:M y=some b):M.app [(q,some a)]=M.app [(q,some a),(y,some b)]:=by
 funext x
 simp only[am.app,am.put]
 by_cases e:x=y
 ·subst e
  by_cases e2:x=q
  ·subst e2;rw[hq]at hy;cases hy;simp
  ·simp[e2,hy]
 ·simp[e]
def sv (hqy:q≠y)(hq:M q=some (bS u q y bs))(hy:M y=some (rK bs))(ho:∀ z,(M z).isSome=true->z∈[q,y])(hn:q<nm)(hny:y<nm) :
  Ev cx 88 nm [.ptr q 0 0] M (.int .i64 bs.length) [(q,some (bS u q y bs)),(y,some (rK bs))]:=by
 by_cases hb:bs=[]
 ·subst hb
  refine Ev.eff_eq ?_ (H2 hq hy)
  rw[th]at hq ⊢
  refine Ev.frame [q] (Im u q _ nm (EO hq) aj hn) (fun x hx=>?_) (nM ho hn hny)
  simp only[ao,Lc,Lo,Lk,Ln,or_false]at hx
  subst hx;left;simp
 ·rw[tf u q y hb]at hq ⊢
  exact Io true q y bs M nm hqy hq hy ho hn hny
def pw (hl:bs.length<=bc)(hqy:q≠y)(hq:M q=some (bS u q y bs))(hy:M y=some (rK bs))(ho:∀ z,(M z).isSome=true->z∈[q,y])(hn:q<nm)(hny:y<nm) :
  Ev cx 89 nm [.ptr q 0 0] M (.str bs) [(q,none),(y,none)]:=by
 by_cases hb:bs=[]
 ·subst hb
  rw[th]at hq
  have h1:Ev cx 89 nm [.ptr q 0 0] M (.str []) [(q,none)]:=by
   refine Ev.frame [q] (Ip u q _ nm (EO hq) aj hn) (fun x hx=>?_) (nM ho hn hny)
   simp only[ao,Lc,Lo,Lk,Ln,or_false]at hx
   subst hx;left;simp
  refine Ev.eff_eq (Ev.dropM y h1) ?_
  funext x
  simp only[am.app,am.put]
  by_cases e:x=y<;>by_cases e2:x=q<;>simp[e,e2]
 ·rw[tf u q y hb]at hq
  exact zf true q y bs hb hl M nm hqy hq hy ho hn hny
end
def rF (q:Bool):List (V×V):=[(.int .u8 38,.agg [.str [38,97,109,112,59]]),(.int .u8 60,.agg [.str [38,108,116,59]]),(.int .u8 62,.agg [.str [38,103,116,59]]),(.int .u8 13,.agg [.str [38,35,49,51,59]])] ++
 (if q=true then [(.int .u8 34,.agg [.str [38,113,117,111,116,59]]),(.int .u8 9,.agg [.str [38,35,57,59]]),(.int .u8 10,.agg [.str [38,35,49,48,59]])] else [])
def iV:vF cx.P 237=some (5,240):=by kernel_rfl
def ny:zeroOf cx.P 240=some (.agg #[.string ⟨#[]⟩]):=by kernel_rfl
def l8:rF false=[(.int .u8 38,.agg [.str [38,97,109,112,59]]),(.int .u8 60,.agg [.str [38,108,116,59]]),(.int .u8 62,.agg [.str [38,103,116,59]]),(.int .u8 13,.agg [.str [38,35,49,51,59]])]:=rfl
def DT:rF true=[(.int .u8 38,.agg [.str [38,97,109,112,59]]),(.int .u8 60,.agg [.str [38,108,116,59]]),(.int .u8 62,.agg [.str [38,103,116,59]]),(.int .u8 13,.agg [.str [38,35,49,51,59]]),(.int .u8 34,.agg [.str [38,113,117,111,116,59]]),(.int .u8 9,.agg [.str [38,35,57,59]]),(.int .u8 10,.agg [.str [38,35,49,48,59]])]:=rfl
def LN (q:Bool)(nm:Nat):Ev cx 204 nm [.bool q] am.nil (.mp nm) [(nm,some (eT (rF q)))]:=by
 cases q with
 | false =>
  refine bh call204 func204 rfl (by kernel_rfl) rfl ?_;intro b0 hb0;have zF:=Ai results204 ntmps204
  repeat' first|simp only[ak,ag,zF,al,iV,l8,ai,seval,ah]|exact rfl|refine aa (v:=.any) ?_|(refine iA ?_)|(refine ba ?_)|(refine aU ?_)|(refine jB (y:=?_) (kv:=?_) (xv:=?_) (kvs:=?_) ?_ ?_ ?_ ?_ iV ?_ ?_ ?_ ?_ ?_;rotate_left 4;(iterate 4 (focus (simp only[zF,al,iV,l8,ai,seval,ah]<;>exact rfl)));(focus (kernel_rfl));(iterate 3 (focus (exact rfl))))|(refine ov (y:=?_) (kv:=?_) (xv:=?_) (kvs:=?_) ?_ ?_ ?_ ?_ iV ?_ ?_ ?_ ?_ ?_;rotate_left 4;(iterate 4 (focus (simp only[zF,al,iV,l8,ai,seval,ah]<;>exact rfl)));(focus (kernel_rfl));(iterate 3 (focus (exact rfl))))|((first|apply Ca|apply Cb)<;>intro hb)|refine Ai (by omega) ?_|(apply Ai<;>intro hb)
  all_goals ((refine Fin.give [(b0+16,some 0)] [] ?_ ?_ ?_ ?_ ?_ (fun q hq=>by have hqq:=C1 (l:=[]) q hq;first|(simp only[aP,tgt,Lc,Lo,Lk,Ln,or_false]at hqq ⊢;omega)|(simp only[aP,tgt,Lc,Lo,Lk,Ln,or_false]at hqq))<;>(try simp only[zF,al,l8,DT,cC,bv,dx,ai,seval,ah])<;>(try simp only[ap])<;>(try omega)))
 | true =>
  refine bh call204 func204 rfl (by kernel_rfl) rfl ?_;intro b0 hb0;have zF:=Ai results204 ntmps204
  repeat' first|simp only[ak,ag,zF,al,iV,l8,ai,seval,ah]|exact rfl|refine aa (v:=.any) ?_|(refine iA ?_)|(refine ba ?_)|(refine aU ?_)|(refine jB (y:=?_) (kv:=?_) (xv:=?_) (kvs:=?_) ?_ ?_ ?_ ?_ iV ?_ ?_ ?_ ?_ ?_;rotate_left 4;(iterate 4 (focus (simp only[zF,al,iV,l8,ai,seval,ah]<;>exact rfl)));(focus (kernel_rfl));(iterate 3 (focus (exact rfl))))|(refine ov (y:=?_) (kv:=?_) (xv:=?_) (kvs:=?_) ?_ ?_ ?_ ?_ iV ?_ ?_ ?_ ?_ ?_;rotate_left 4;(iterate 4 (focus (simp only[zF,al,iV,l8,ai,seval,ah]<;>exact rfl)));(focus (kernel_rfl));(iterate 3 (focus (exact rfl))))|((first|apply Ca|apply Cb)<;>intro hb)|refine Ai (by omega) ?_|(apply Ai<;>intro hb)
  all_goals ((refine Fin.give [(b0+16,some 0)] [] ?_ ?_ ?_ ?_ ?_ (fun q hq=>by have hqq:=C1 (l:=[]) q hq;first|(simp only[aP,tgt,Lc,Lo,Lk,Ln,or_false]at hqq ⊢;omega)|(simp only[aP,tgt,Lc,Lo,Lk,Ln,or_false]at hqq))<;>(try simp only[zF,al,l8,DT,cC,bv,dx,ai,seval,ah])<;>(try simp only[ap])<;>(try omega)))
def lL {c d:UInt8}(h:¬ c=d):((c.toNat:Int)==(d.toNat:Int))=false:=by
 rw[beq_eq_false_iff_ne]
 intro e
 exact h (UInt8.toNat_inj.1 (by omega))
def Cm (q:Bool)(c:UInt8):(dH (.int .u8 c.toNat) (rF q)=some none/\qF q c=[c])\/dH (.int .u8 c.toNat) (rF q)=some (some (.agg [.str (qF q c)])):=by
 by_cases h1:c=38
 ·subst h1;right;cases q<;>rfl
 by_cases h2:c=60
 ·subst h2;right;cases q<;>rfl
 by_cases h3:c=62
 ·subst h3;right;cases q<;>rfl
 by_cases h4:c=13
 ·subst h4;right;cases q<;>rfl
 have e1:((c.toNat:Int)==38)=false:=lL (d:=38) h1
 have e2:((c.toNat:Int)==60)=false:=lL (d:=60) h2
 have e3:((c.toNat:Int)==62)=false:=lL (d:=62) h3
 have e4:((c.toNat:Int)==13)=false:=lL (d:=13) h4
 cases q with
 | false =>
  left
  simp only[l8,dH,kq,if_true,e1,e2,e3,e4,qF,h1,h2,h3,h4,if_false,Bool.false_eq_true,and_self]
 | true =>
  by_cases h5:c=34
  ·subst h5;right;rfl
  by_cases h6:c=9
  ·subst h6;right;rfl
  by_cases h7:c=10
  ·subst h7;right;rfl
  have e5:((c.toNat:Int)==34)=false:=lL (d:=34) h5
  have e6:((c.toNat:Int)==9)=false:=lL (d:=9) h6
  have e7:((c.toNat:Int)==10)=false:=lL (d:=10) h7
  left
  simp only[DT,dH,kq,if_true,e1,e2,e3,e4,e5,e6,e7,qF,h1,h2,h3,h4,h5,h6,h7,if_false,and_self]
def uy (q:Bool)(s:List UInt8):Int:=if aN s≠0 then aN s else if 16384<(cE q s).length then 4 else 0
def yv (q:Bool)(s:List UInt8):List UInt8:=if uy q s=0 then cE q s else []
def MP (s:List UInt8)(q:Bool)(hs:s.length<=bc)(nm:Nat):Ev cx 175 nm [.str s,.bool q] am.nil (.tup [.str (yv q s),.int .i64 (uy q s)]) []:=by
 by_cases hz:aN s=0
 ·have hb:(aN s != 0)=false:=by rw[hz];rfl
  have hlen:=pd hz
  have hw:=co q s
  refine bh call175 func175 rfl (by kernel_rfl) rfl ?_;intro b0 hb0;have zF:=Ai results175 ntmps175
  repeat' first|simp only[ak,ag,zF,al,hb,ai,seval,ah]|exact rfl|refine aa (v:=.any) ?_|(first|(refine ae ?_ (ce s hs _) ?_)|(refine ab ?_ (fun _=>ce s hs _) ?_))|(refine b8 ?_ (LN q _) ?_ ?_)|(refine mQ (bs:=?_) ?_ ?_ ?_ ?_;rotate_left 1;(iterate 2 (focus (simp only[zF,al,hb,ai,seval,ah];done)));(focus (simp only[zF,al,hb,ai,seval,ah]<;>exact rfl)))|(refine ba ?_)|(refine aU ?_)|omega|((first|apply Ca|apply Cb)<;>intro hb)|refine Ai (by omega) ?_|(apply Ai<;>intro hb)
  (refine aQ bM (fun x:Nat=>s.length-x) (fun x=>x<=s.length) (b0+16) (fun x=>[(7,.mp b0),(8,.ptr (b0+1) 0 0),(21,.sl false 1 (s.map aI)),(22,.int .i64 s.length),(23,.int .i64 x)]) (fun x=>[(b0,eT (rF q)),(b0+1,bS false (b0+1) (b0+2) (cE q (s.take x))),(b0+2,rK (cE q (s.take x)))]) (0) [some (b0+128),some (b0+160),none] ?_ ?_ ?_ ?_;rotate_left 1;(focus (show b0<=_;omega));(focus (refine⟨?_,?_⟩<;>(try simp only[aX,BK,zJ,List.take_zero,Dh,Di,cC,bv,fY,dX,gf,dL,nh,Lm,ai,seval,ah,ap])<;>(try omega)));rotate_left 1)
  ·exact Nat.zero_le _
  ·intro k hk
   by_cases hlt:k<s.length
   ·obtain⟨c,hc⟩:∃ c,s[k]? = some c:=⟨_,List.getElem?_eq_getElem hlt⟩
    have hh:(s.map aI)[k]? = some (aI c):=by rw[List.getElem?_map,hc];rfl
    have hd:decide (k<s.length)=true:=decide_eq_true hlt
    have hwk:IntKind.i64.wrap ((k:Int)+1)=((k+1:Nat):Int):=bd
    have hnx:=FQ q hc
    have hw1:=co q (s.take k)
    have hw2:=mN q c
    have hw3:(s.take k).length=k:=by rw[List.length_take];omega
    have hll:(cE q (s.take k)).length+(qF q c).length<=bc:=by unfold bc;omega
    rcases Cm q c with ⟨hf,hb1⟩|hf
    ·rw[hb1]at hnx hll
     repeat' first|simp only[ak,ag,zF,al,hh,hd,hlt,hf,ny,au,Lm,cZ,aI,List.getElem?_cons_zero,Option.getD_none,Option.isSome_none,ai,seval,ah]|exact rfl|refine aa (v:=.any) ?_|(refine ac ?_ [b0+1,b0+2] (qr false (b0+1) (b0+2) (cE q (s.take k)) _ _ c hll (by omega) ?_ ?_ aj (by omega) (by omega)) ?_ ?_)|(refine jC (y:=?_) (kv:=?_) (kvs:=?_) (q:=?_) ?_ ?_ ?_ iV ?_ ?_ ny ?_ ?_ ?_;rotate_left 4;(iterate 3 (focus (simp only[zF,al,hh,hd,hlt,hf,ny,au,Lm,cZ,aI,List.getElem?_cons_zero,Option.getD_none,Option.isSome_none,ai,seval,ah]<;>exact rfl)));(focus (kernel_rfl));(focus (exact rfl));(focus (simp only[zF,al,hh,hd,hlt,hf,ny,au,Lm,cZ,aI,List.getElem?_cons_zero,Option.getD_none,Option.isSome_none,ai,seval,ah]<;>exact rfl));(focus (intro v hv;cases hv<;>exact rfl)))|(refine ba ?_)|(refine aU ?_)|((first|apply Ca|apply Cb)<;>intro hb)|refine Ai (by omega) ?_|(apply Ai<;>intro hb)
     all_goals ((refine aC bM (k+1) [some b0,some (b0+1),some (b0+256)] ?_ ?_ ?_ ?_;rotate_left 2;(focus (show b0<=_;omega));(focus (refine⟨?_,?_⟩<;>(try simp only[aX,hwk,hnx.symm,cC,bv,fY,dX,lS,gO,gf,dL,nh,Lm,Option.getD_some,Option.isSome_some,ai,seval,ah,ap])<;>(try omega)))))
     all_goals (first|(show s.length-(k+1)<s.length-k;omega)|(show k+1<=s.length;omega)|skip)
    ·repeat' first|simp only[ak,ag,zF,al,hh,hd,hlt,hf,ny,au,Lm,cZ,aI,List.getElem?_cons_zero,Option.getD_some,Option.isSome_some,ai,seval,ah]|exact rfl|refine aa (v:=.any) ?_|(refine ac ?_ [b0+1,b0+2] (nX false (b0+1) (b0+2) (cE q (s.take k)) _ _ (qF q c) (Na q c) hll (by omega) ?_ ?_ aj (by omega) (by omega)) ?_ ?_)|(refine jC (y:=?_) (kv:=?_) (kvs:=?_) (q:=?_) ?_ ?_ ?_ iV ?_ ?_ ny ?_ ?_ ?_;rotate_left 4;(iterate 3 (focus (simp only[zF,al,hh,hd,hlt,hf,ny,au,Lm,cZ,aI,List.getElem?_cons_zero,Option.getD_some,Option.isSome_some,ai,seval,ah]<;>exact rfl)));(focus (kernel_rfl));(focus (exact rfl));(focus (simp only[zF,al,hh,hd,hlt,hf,ny,au,Lm,cZ,aI,List.getElem?_cons_zero,Option.getD_some,Option.isSome_some,ai,seval,ah]<;>exact rfl));(focus (intro v hv;cases hv<;>exact rfl)))|(refine ba ?_)|(refine aU ?_)|((first|apply Ca|apply Cb)<;>intro hb)|refine Ai (by omega) ?_|(apply Ai<;>intro hb)
     all_goals ((refine aC bM (k+1) [some b0,some (b0+1),some (b0+272)] ?_ ?_ ?_ ?_;rotate_left 2;(focus (show b0<=_;omega));(focus (refine⟨?_,?_⟩<;>(try simp only[aX,hwk,hnx.symm,cC,bv,fY,dX,lS,gO,gf,dL,nh,Lm,Option.getD_some,Option.isSome_some,ai,seval,ah,ap])<;>(try omega)))))
     all_goals (first|(show s.length-(k+1)<s.length-k;omega)|(show k+1<=s.length;omega)|skip)
   ·have hke:k=s.length:=by omega
    subst hke
    have hd:decide (s.length<s.length)=false:=bm
    have hll:(cE q s).length<=bc:=by unfold bc;omega
    by_cases hbig:16384<(cE q s).length
    ·have hp:uy q s=4:=by unfold uy;rw[if_neg (fun h=>h hz),if_pos hbig]
     have hp2:yv q s=[]:=by unfold yv;rw[hp];rfl
     have hd2:decide ((16384:Int)<((cE q s).length:Int))=true:=bR
     (repeat' first|simp only[ak,ag,zF,al,hd,hd2,hp,hp2,List.take_length,ai,seval,ah]|exact rfl|refine aa (v:=.any) ?_|(refine ac ?_ [b0+1,b0+2] (sv false (b0+1) (b0+2) (cE q s) _ _ (by omega) ?_ ?_ aj (by omega) (by omega)) ?_ ?_)|((first|apply Ca|apply Cb)<;>intro hb)|refine Ai (by omega) ?_|(apply Ai<;>intro hb)|refine Fin.pure ?_ ?_ ?_|simp only[ap])
    ·have hp:uy q s=0:=by unfold uy;rw[if_neg (fun h=>h hz),if_neg hbig]
     have hp2:yv q s=cE q s:=by unfold yv;rw[hp];rfl
     have hd2:decide ((16384:Int)<((cE q s).length:Int))=false:=bm
     (repeat' first|simp only[ak,ag,zF,al,hd,hd2,hp,hp2,List.take_length,ai,seval,ah]|exact rfl|refine aa (v:=.any) ?_|(refine ac ?_ [b0+1,b0+2] (sv false (b0+1) (b0+2) (cE q s) _ _ (by omega) ?_ ?_ aj (by omega) (by omega)) ?_ ?_)|(refine ac ?_ [b0+1,b0+2] (pw false (b0+1) (b0+2) (cE q s) _ _ hll (by omega) ?_ ?_ aj (by omega) (by omega)) ?_ ?_)|((first|apply Ca|apply Cb)<;>intro hb)|refine Ai (by omega) ?_|(apply Ai<;>intro hb)|refine Fin.pure ?_ ?_ ?_|simp only[ap])
 ·have hb:(aN s != 0)=true:=by rw[bne_iff_ne];exact hz
  have h1:uy q s=aN s:=by unfold uy;rw[if_pos hz]
  have h2:yv q s=[]:=by unfold yv;rw[h1,if_neg hz]
  refine bh call175 func175 rfl (by kernel_rfl) rfl ?_;intro b0 hb0;have zF:=Ai results175 ntmps175
  (repeat' first|simp only[ak,ag,zF,al,hb,h1,h2,ai,seval,ah]|exact rfl|refine aa (v:=.any) ?_|(first|(refine ae ?_ (ce s hs _) ?_)|(refine ab ?_ (fun _=>ce s hs _) ?_))|((first|apply Ca|apply Cb)<;>intro hb)|refine Ai (by omega) ?_|(apply Ai<;>intro hb)|refine Fin.pure ?_ ?_ ?_|simp only[ap])
end Go.Proofs.YtlnlopnpcmahgaaGreatDoor
