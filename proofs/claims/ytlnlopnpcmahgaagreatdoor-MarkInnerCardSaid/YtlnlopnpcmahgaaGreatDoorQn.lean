/-
 Texts joined: XNq,XNr,XPe,XLo,XLj,XPd,XPf.
-/
import Derived.Test.YtlnlopnpcmahgaaGreatDoorQm
import Derived.Test.YtlnlopnpcmahgaaGreatDoorQe
import Derived.Test.YtlnlopnpcmahgaaGreatDoorQk
import Derived.Test.YtlnlopnpcmahgaaGreatDoorQo
set_option linter.all false
namespace Go.Proofs.YtlnlopnpcmahgaaGreatDoor
set_option maxRecDepth 100000
set_option maxHeartbeats 32000000
open Go Go.RowKit Vm Go.Lib Tryz
open Vm renaming aW->Ca,bf->Cb
open And renaming intro->Ai
open List renaming length_map->Lm,not_mem_nil->Ln,map_nil->Lo,map_cons->Lc,mem_cons->Lk
open Bool renaming not_false->Bf,not_true->Bt
section
variable {cx:Cx} {Q:Post} {st:List Frm} {nm:Nat} {e:Env} {M:am} {d:Bool} {fs:List (List Nat)} {ops r:List Oper} {dst:Option Tmp} {t:TypeId} {pos:String} {af:Array Edge} {gd:Option (Nat×Bool)} {i:Nat}
def pj {P:Program}{w:World}{xt t:TypeId}(v:Value)(h:Fv P t=true):(Instr.typeAssert (.iface t v) xt t false).run P w = .ok v w:=by
 unfold Fv at h
 cases hu:P.underlying t with
 | none=>rw[hu]at h;cases h
 | some u =>
  rw[hu]at h
  simp only[Instr.typeAssert,Sem.run_bind,run_underlying hu w,Result.andThen_ok]
  cases u<;>first|(simp;done)|cases h
def jA {xt ty:TypeId}{x:Operand}{u:V}(hx:aw cx.G true e x = .iface ty u)(ht:Fv cx.P ty=true)
  (h:aK cx Q st nm (e.putD dst u) M d (fs++[[]]) ops r (i+1)):cp cx Q st nm e M d fs ops ⟨dst,.typeAssert x xt ty false,t,pos,af,gd⟩ r i:=by
 refine⟨_,[],_,⟨fun x hx=>by simp[ao]at hx,fun x hx=>by simp[ao]at hx,fun h=>absurd rfl h,fun h=>absurd rfl h,?_⟩,h⟩
 intro N X w0 I Y e' M' a w hr he hin hev hMM hf
 have hxi:=he.eval hr (c:=true) rfl (hin x (by simp[Op.operands]))
 rw[hev x (by simp[Op.operands]),hx]at hxi
 cases hc:a.eval x with
 | iface t' v' =>
  rw[hc]at hxi
  cases hxi with
  | iface hv=>exact⟨v',w,(dc.still (nm:=nm+16*i) hr hv).n,ij (s:=Instr.typeAssert (a.eval x) xt ty false) rfl (by rw[hc];exact pj v' ht)⟩
 | _=>rw[hc]at hxi;cases hxi
end
def Ev.dd {D:List Deferred}{f:FuncId}{nm:Nat}{args:List V}{M:am}{v:V}{eff:List (Nat×Option Blk)}(h:Ev cx f nm args M v eff):Ev ⟨cx.P,cx.G,D⟩ f nm args M v eff:=h
def yT.dd {D:List Deferred}{f:FuncId}{nm:Nat}{args:List V}{M:am}{v:V}(h:yT cx f nm args M v):yT ⟨cx.P,cx.G,D⟩ f nm args M v:=h
def Dj (s t n r:List UInt8)(hs:s.length<=16384)(h1:bZ 60 s=some t)(tag:∀(M:am) (nm q:Nat),M q=some (bV t)->(∀ z,(M z).isSome=true->z∈[q])->q<nm->Ev cx 146 nm [.ptr q 0 0] M (.agg [.int .u8 2,.str n,.nils,.str []]) [(q,some (bV r))])(q:Nat)(M:am)(nm:Nat)(hq:M q=some (bV s))(ho:∀ z,(M z).isSome=true->z∈[q])(hqn:q<nm) :
  Ev cx 99 nm [.ptr q 0 0] M (.tup [.agg [.int .u8 2,.str n,.nils,.str []],.int .i64 0]) [(q,some (bV r))]:=by
 have p1:=fun D (q:Nat) M nm a b c=>Ev.dd (D:=D) (da s [60] true (by omega) (by decide) (by rw[e9,h1];rfl) q M nm a b c)
 have hst:=b6 h1
 subst hst
 simp only[if_true,List.drop_succ_cons,List.drop_zero,List.length_cons,List.length_nil]at p1
 have tg:=fun D M nm (q:Nat) a b c=>Ev.dd (D:=D) (tag M nm q a b c)
 unfold bV at hq tg ⊢
 refine mO rfl mixed call99 call144 func99 rfl ⟨_,_,_,rfl⟩ ⟨_,_,_,_,rfl⟩ (t2:=2) (t3:=3) (N:=9) ⟨⟨_,_,_,_,func144,rfl,rfl,rfl,by decide,by decide,⟨_,_,_,_,rfl⟩,_,_,_,rfl⟩⟩ (by kernel_rfl) (by kernel_rfl) (by kernel_rfl) rfl ?_
 intro b0 hb0
 have lq:=aB hb0 hq
 have z0:=aD lq
 repeat' first|simp only[ak,ag,results99,ntmps99,al,hq,z0,ai,seval,ah]|exact rfl|refine aa (v:=.any) ?_|((first|apply Ca|apply Cb)<;>intro hb)|refine Ai (by omega) ?_|(apply Ai<;>intro hb)|fail
 refine⟨rfl,b0,b0+16,?_,?_,fun D=>?_⟩
 ·simp only[ai,seval,ah]
 ·simp only[ai,seval,ah]
 have p1:=p1 D;have tg:=tg D
 repeat' first|simp only[results99,ntmps99,al,hq,z0,ai,seval,ah]|exact rfl|((first|(refine ac ?_ [q] (p1 q _ _ ?_ aj (by omega)) ?_ ?_)|(refine ac ?_ [q] (tg _ _ q ?_ aj (by omega)) ?_ ?_));iterate 3 (focus (simp only[ag,results99,ntmps99,al,hq,z0,ai,seval,ah]<;>exact rfl)))|((first|apply Ca|apply Cb)<;>intro hb)|refine Ai (by omega) ?_|(apply Ai<;>intro hb)|fail
 refine pE ?_ ?_ ?_
 ·simp only[ai,seval,ah]
 ·simp only[ai,seval,ah]
 repeat' first|simp only[ak,ag,results144,ntmps144,al,hq,z0,ai,seval,ah]|exact rfl|refine aa (v:=.any) ?_|refine az (by decide +kernel) ?_|((first|apply Ca|apply Cb)<;>intro hb)|refine Ai (by omega) ?_|(apply Ai<;>intro hb)|fail
 refine⟨rfl,?_⟩
 (refine Fin.give [(q,none)] [] ?_ ?_ ?_ ?_ ?_ (aL ho (by simp[aP,tgt]))<;>(try simp only[results99,ntmps99,al,lH,hq,z0,dx,ai,seval,ah])<;>(try simp only[ap])<;>(try omega))
def Dk (s t n r:List UInt8)(k:Nat)(l:List Pr)(hs:s.length<=16384)(h1:bZ 60 s=some t)(tag:∀(M:am) (nm q:Nat),M q=some (bV t)->(∀ z,(M z).isSome=true->z∈[q])->q<nm->Ev cx 146 nm [.ptr q 0 0] M (.agg [.int .u8 k,.str n,.own nm 0 l.length,.str []]) [(q,some (bV r)),(nm,some ⟨2,l.map c7⟩)])(q:Nat)(M:am)(nm:Nat)(hq:M q=some (bV s))(ho:∀ z,(M z).isSome=true->z∈[q])(hqn:q<nm) :
  Ev cx 99 nm [.ptr q 0 0] M (.tup [.agg [.int .u8 k,.str n,.own nm 0 l.length,.str []],.int .i64 0]) [(q,some (bV r)),(nm,some ⟨2,l.map c7⟩)]:=by
 have p1:=fun D (q:Nat) M nm a b c=>Ev.dd (D:=D) (da s [60] true (by omega) (by decide) (by rw[e9,h1];rfl) q M nm a b c)
 have hst:=b6 h1
 subst hst
 simp only[if_true,List.drop_succ_cons,List.drop_zero,List.length_cons,List.length_nil]at p1
 have tg:=fun D M nm (q:Nat) a b c=>Ev.dd (D:=D) (tag M nm q a b c)
 unfold bV at hq tg ⊢
 refine mO rfl mixed call99 call144 func99 rfl ⟨_,_,_,rfl⟩ ⟨_,_,_,_,rfl⟩ (t2:=2) (t3:=3) (N:=9) ⟨⟨_,_,_,_,func144,rfl,rfl,rfl,by decide,by decide,⟨_,_,_,_,rfl⟩,_,_,_,rfl⟩⟩ (by kernel_rfl) (by kernel_rfl) (by kernel_rfl) rfl ?_
 intro b0 hb0
 have lq:=aB hb0 hq
 have z0:=aD lq
 repeat' first|simp only[ak,ag,results99,ntmps99,al,hq,z0,ai,seval,ah]|exact rfl|refine aa (v:=.any) ?_|((first|apply Ca|apply Cb)<;>intro hb)|refine Ai (by omega) ?_|(apply Ai<;>intro hb)|fail
 refine⟨rfl,b0,b0+16,?_,?_,fun D=>?_⟩
 ·simp only[ai,seval,ah]
 ·simp only[ai,seval,ah]
 have p1:=p1 D;have tg:=tg D
 repeat' first|simp only[results99,ntmps99,al,au,hq,z0,ai,seval,ah]|exact rfl|((first|(refine ac ?_ [q] (p1 q _ _ ?_ aj (by omega)) ?_ ?_)|(refine ac ?_ [q] (tg _ _ q ?_ aj (by omega)) ?_ ?_));iterate 3 (focus (simp only[ag,results99,ntmps99,al,au,hq,z0,ai,seval,ah]<;>exact rfl)))|((first|apply Ca|apply Cb)<;>intro hb)|refine Ai (by omega) ?_|(apply Ai<;>intro hb)|fail
 refine pE ?_ ?_ ?_
 ·simp only[ai,seval,ah]
 ·simp only[ai,seval,ah]
 repeat' first|simp only[ak,ag,results144,ntmps144,al,hq,z0,ai,seval,ah]|exact rfl|refine aa (v:=.any) ?_|refine az (by decide +kernel) ?_|((first|apply Ca|apply Cb)<;>intro hb)|refine Ai (by omega) ?_|(apply Ai<;>intro hb)|fail
 refine⟨rfl,?_⟩
 (refine Fin.give [(q,none),(b0+112,some 0)] [] ?_ ?_ ?_ ?_ ?_ (aL ho (by simp[aP,tgt]))<;>(try simp only[results99,ntmps99,al,lH,ay,hq,z0,dx,ai,seval,ah])<;>(try simp only[ap])<;>(try omega))
def yx (s t:List UInt8)(hs:s.length<=16384)(h1:bZ 60 s=some t)(tag:∀(M:am) (nm q:Nat),M q=some (bV t)->(∀ z,(M z).isSome=true->z∈[q])->q<nm->yT cx 146 nm [.ptr q 0 0] M C3)(q:Nat)(M:am)(nm:Nat)(hq:M q=some (bV s))(ho:∀ z,(M z).isSome=true->z∈[q])(hqn:q<nm) :
  Ev cx 99 nm [.ptr q 0 0] M (.tup [.agg [.int .u8 0,.str [],.nils,.str []],.int .i64 80]) [(q,none)]:=by
 have p1:=fun D (q:Nat) M nm a b c=>Ev.dd (D:=D) (da s [60] true (by omega) (by decide) (by rw[e9,h1];rfl) q M nm a b c)
 have hst:=b6 h1
 subst hst
 simp only[if_true,List.drop_succ_cons,List.drop_zero,List.length_cons,List.length_nil]at p1
 have tg:=fun D M nm (q:Nat) a b c=>yT.dd (D:=D) (tag M nm q a b c)
 unfold bV at hq tg
 refine mO rfl mixed call99 call144 func99 rfl ⟨_,_,_,rfl⟩ ⟨_,_,_,_,rfl⟩ (t2:=2) (t3:=3) (N:=9) ⟨⟨_,_,_,_,func144,rfl,rfl,rfl,by decide,by decide,⟨_,_,_,_,rfl⟩,_,_,_,rfl⟩⟩ (by kernel_rfl) (by kernel_rfl) (by kernel_rfl) rfl ?_
 intro b0 hb0
 have lq:=aB hb0 hq
 have z0:=aD lq
 repeat' first|simp only[ak,ag,results99,ntmps99,al,hq,z0,ai,seval,ah]|exact rfl|refine aa (v:=.any) ?_|((first|apply Ca|apply Cb)<;>intro hb)|refine Ai (by omega) ?_|(apply Ai<;>intro hb)|fail
 refine⟨rfl,b0,b0+16,?_,?_,fun D=>?_⟩
 ·simp only[ai,seval,ah]
 ·simp only[ai,seval,ah]
 have p1:=p1 D;have tg:=tg D
 repeat' first|simp only[results99,ntmps99,al,hq,z0,ai,seval,ah]|exact rfl|((refine ac ?_ [q] (p1 q _ _ ?_ aj (by omega)) ?_ ?_);iterate 3 (focus (simp only[ag,results99,ntmps99,al,hq,z0,ai,seval,ah]<;>exact rfl)))|((first|apply Ca|apply Cb)<;>intro hb)|refine Ai (by omega) ?_|(apply Ai<;>intro hb)|fail
 refine cW rfl [q] (tg _ _ q ?_ aj (by omega)) ?_
 ·simp only[ag,al,hq,z0,ai,seval,ah]<;>exact rfl
 simp only[aF,aG,ax,aA,av,iE]
 refine tD ?_ ?_ ?_
 ·simp only[ai,seval,ah]
 ·simp only[ai,seval,ah]
 repeat' first|simp only[ak,ag,results144,ntmps144,al,C3,jH,Lc,Lo,hq,z0,ai,seval,ah]|exact rfl|refine aa (v:=.any) ?_|(refine Ai (by kernel_rfl) ?_)|(refine jA rfl (by kernel_rfl) ?_)|refine az (by decide +kernel) ?_|((first|apply Ca|apply Cb)<;>intro hb)|refine Ai (by omega) ?_|(apply Ai<;>intro hb)|fail
 (refine Fin.give [] [q] ?_ ?_ ?_ ?_ ?_ (aL ho (by simp[aP,tgt]))<;>(try simp only[results99,ntmps99,al,lH,hq,z0,dx,ai,seval,ah])<;>(try simp only[ap])<;>(try omega))
def A6 {s:List UInt8} :(gP s=[]->indexByte s 60 = -1/\cP s=s)/\(gP s≠[]->indexByte s 60=((cP s).length:Nat)/\s.take (cP s).length=cP s/\s.drop (cP s).length=gP s/\(cP s).length<s.length):=by
 have e:s=cP s++gP s:=(List.takeWhile_append_dropWhile).symm
 have hn:(60:UInt8) ∉ cP s:=fun h=>by
  have:=oC h
  cases this
 constructor
 ·intro h
  rw[h,List.append_nil]at e
  refine⟨iG.2 (gY.2 ?_),e.symm⟩
  rw[e];exact hn
 ·intro h
  cases hr:gP s with
  | nil=>exact absurd hr h
  | cons c r =>
   have h60:=uS s c (by rw[hr];rfl)
   subst h60
   rw[hr]at e
   have hc:ep 60 s=some (cP s,r):=by
    conv=>lhs;rw[e]
    exact nD hn
   obtain⟨i1,i2,i3,i4⟩:=j8 hc
   refine⟨i1,i2,?_,by omega⟩
   have:=List.drop_left (l₁:=cP s) (l₂:=60::r)
   rw[<- e]at this
   exact this
def AM (s x:List UInt8)(hs:s.length<=16384)(hd:(dW s).isSome=true)(h1:bZ 60 s=none)(h2:bY (cP s)=some x)(q:Nat)(M:am)(nm:Nat)(hq:M q=some (bV s))(ho:∀ z,(M z).isSome=true->z∈[q])(hqn:q<nm) :
  Ev cx 99 nm [.ptr q 0 0] M (.tup [.agg [.int .u8 4,.str [],.nils,.str x],.int .i64 0]) [(q,some (bV (gP s)))]:=by
 have p1:=fun D (q:Nat) M nm a b c=>Ev.dd (D:=D) (da s [60] false (by omega) (by decide) (by rw[e9,h1];rfl) q M nm a b c)
 simp only[Bool.false_eq_true,if_false]at p1
 have hl:(cP s).length<=s.length:=by
  have:=congrArg List.length ((List.takeWhile_append_dropWhile (p:=ku) (l:=s)).symm)
  unfold cP;rw[List.length_append]at this;omega
 have hp:aN (cP s)=0:=c6.2 ⟨by omega,(uT hd).1⟩
 obtain⟨x1,x2⟩:=A6 (s:=s)
 have gt:=fun D nm=>Ev.dd (D:=D) (sC (cP s) (by unfold bc;omega) nm)
 have ix:=fun D nm=>Ev.dd (D:=D) (pT s 60 nm)
 simp only[qN hp h2]at gt
 unfold bV at hq ⊢
 refine mO rfl mixed call99 call144 func99 rfl ⟨_,_,_,rfl⟩ ⟨_,_,_,_,rfl⟩ (t2:=2) (t3:=3) (N:=9) ⟨⟨_,_,_,_,func144,rfl,rfl,rfl,by decide,by decide,⟨_,_,_,_,rfl⟩,_,_,_,rfl⟩⟩ (by kernel_rfl) (by kernel_rfl) (by kernel_rfl) rfl ?_
 intro b0 hb0
 have lq:=aB hb0 hq
 have z0:=aD lq
 repeat' first|simp only[ak,ag,results99,ntmps99,al,hq,z0,ai,seval,ah]|exact rfl|refine aa (v:=.any) ?_|((first|apply Ca|apply Cb)<;>intro hb)|refine Ai (by omega) ?_|(apply Ai<;>intro hb)|fail
 refine⟨rfl,b0,b0+16,?_,?_,fun D=>?_⟩
 ·simp only[ai,seval,ah]
 ·simp only[ai,seval,ah]
 have p1:=p1 D;have gt:=gt D;have ix:=ix D
 by_cases hr:gP s=[]
 ·obtain⟨i1,i2⟩:=x1 hr
  rw[i1]at ix
  rw[i2]at gt
  rw[hr]
  have hneg:decide ((-1:Int)<0)=true:=by decide
  have hz:IntKind.i64.wrap (s.length:Int)=s.length:=bd
  repeat' first|simp only[results99,ntmps99,al,hq,z0,hneg,List.take_length,List.drop_length,Int.toNat_natCast,Nat.le_refl,Int.le_refl,ai,seval,ah]|exact rfl|((first|(refine ae ?_ (ix _) ?_)|(refine ab ?_ (fun _=>ix _) ?_)|(refine ae ?_ (gt _) ?_)|(refine ab ?_ (fun _=>gt _) ?_));(focus (simp only[results99,ntmps99,al,hq,z0,hneg,List.take_length,List.drop_length,Int.toNat_natCast,Nat.le_refl,Int.le_refl,ai,seval,ah]<;>exact rfl)))|((refine ac ?_ [q] (p1 q _ _ ?_ aj (by omega)) ?_ ?_);iterate 3 (focus (simp only[ag,results99,ntmps99,al,hq,z0,hneg,List.take_length,List.drop_length,Int.toNat_natCast,Nat.le_refl,Int.le_refl,ai,seval,ah]<;>exact rfl)))|((first|apply Ca|apply Cb)<;>intro hb)|refine Ai (by omega) ?_|(apply Ai<;>intro hb)|fail
  refine pE ?_ ?_ ?_
  ·simp only[ai,seval,ah]
  ·simp only[ai,seval,ah]
  repeat' first|simp only[ak,ag,results144,ntmps144,al,hq,z0,ai,seval,ah]|exact rfl|refine aa (v:=.any) ?_|refine az (by decide +kernel) ?_|((first|apply Ca|apply Cb)<;>intro hb)|refine Ai (by omega) ?_|(apply Ai<;>intro hb)|fail
  refine⟨rfl,?_⟩
  (refine Fin.give [(q,none)] [] ?_ ?_ ?_ ?_ ?_ (aL ho (by simp[aP,tgt]))<;>(try simp only[results99,ntmps99,al,lH,hq,z0,dx,ai,seval,ah])<;>(try simp only[ap])<;>(try omega))
 ·obtain⟨i1,i2,i3,i4⟩:=x2 hr
  rw[i1]at ix
  have hneg:decide (((cP s).length:Int)<0)=false:=bm
  have k1:((cP s).length:Int)<=s.length:=by omega
  have k2:(0:Int)<=((cP s).length:Int):=by omega
  have k3:(cP s).length<=s.length:=by omega
  repeat' first|simp only[results99,ntmps99,al,hq,z0,hneg,k1,k2,k3,i2,i3,Int.toNat_natCast,Nat.le_refl,Int.le_refl,ai,seval,ah]|exact rfl|((first|(refine ae ?_ (ix _) ?_)|(refine ab ?_ (fun _=>ix _) ?_)|(refine ae ?_ (gt _) ?_)|(refine ab ?_ (fun _=>gt _) ?_));(focus (simp only[results99,ntmps99,al,hq,z0,hneg,k1,k2,k3,i2,i3,Int.toNat_natCast,Nat.le_refl,Int.le_refl,ai,seval,ah]<;>exact rfl)))|((refine ac ?_ [q] (p1 q _ _ ?_ aj (by omega)) ?_ ?_);iterate 3 (focus (simp only[ag,results99,ntmps99,al,hq,z0,hneg,k1,k2,k3,i2,i3,Int.toNat_natCast,Nat.le_refl,Int.le_refl,ai,seval,ah]<;>exact rfl)))|((first|apply Ca|apply Cb)<;>intro hb)|refine Ai (by omega) ?_|(apply Ai<;>intro hb)|fail
  refine pE ?_ ?_ ?_
  ·simp only[ai,seval,ah]
  ·simp only[ai,seval,ah]
  repeat' first|simp only[ak,ag,results144,ntmps144,al,hq,z0,ai,seval,ah]|exact rfl|refine aa (v:=.any) ?_|refine az (by decide +kernel) ?_|((first|apply Ca|apply Cb)<;>intro hb)|refine Ai (by omega) ?_|(apply Ai<;>intro hb)|fail
  refine⟨rfl,?_⟩
  (refine Fin.give [(q,none)] [] ?_ ?_ ?_ ?_ ?_ (aL ho (by simp[aP,tgt]))<;>(try simp only[results99,ntmps99,al,lH,hq,z0,dx,ai,seval,ah])<;>(try simp only[ap])<;>(try omega))
def vJ (s:List UInt8)(hs:s.length<=16384)(hd:(dW s).isSome=true)(h1:bZ 60 s=none)(h2:bY (cP s)=none)(q:Nat)(M:am)(nm:Nat)(hq:M q=some (bV s))(ho:∀ z,(M z).isSome=true->z∈[q])(hqn:q<nm) :
  Ev cx 99 nm [.ptr q 0 0] M (.tup [.agg [.int .u8 0,.str [],.nils,.str []],.int .i64 80]) [(q,none)]:=by
 have p1:=fun D (q:Nat) M nm a b c=>Ev.dd (D:=D) (da s [60] false (by omega) (by decide) (by rw[e9,h1];rfl) q M nm a b c)
 simp only[Bool.false_eq_true,if_false]at p1
 have hl:(cP s).length<=s.length:=by
  have:=congrArg List.length ((List.takeWhile_append_dropWhile (p:=ku) (l:=s)).symm)
  unfold cP;rw[List.length_append]at this;omega
 have hp:aN (cP s)=0:=c6.2 ⟨by omega,(uT hd).1⟩
 obtain⟨x1,x2⟩:=A6 (s:=s)
 have gt:=fun D nm=>Ev.dd (D:=D) (sC (cP s) (by unfold bc;omega) nm)
 have ix:=fun D nm=>Ev.dd (D:=D) (pT s 60 nm)
 simp only[kN hp h2]at gt
 unfold bV at hq
 refine mO rfl mixed call99 call144 func99 rfl ⟨_,_,_,rfl⟩ ⟨_,_,_,_,rfl⟩ (t2:=2) (t3:=3) (N:=9) ⟨⟨_,_,_,_,func144,rfl,rfl,rfl,by decide,by decide,⟨_,_,_,_,rfl⟩,_,_,_,rfl⟩⟩ (by kernel_rfl) (by kernel_rfl) (by kernel_rfl) rfl ?_
 intro b0 hb0
 have lq:=aB hb0 hq
 have z0:=aD lq
 repeat' first|simp only[ak,ag,results99,ntmps99,al,hq,z0,ai,seval,ah]|exact rfl|refine aa (v:=.any) ?_|((first|apply Ca|apply Cb)<;>intro hb)|refine Ai (by omega) ?_|(apply Ai<;>intro hb)|fail
 refine⟨rfl,b0,b0+16,?_,?_,fun D=>?_⟩
 ·simp only[ai,seval,ah]
 ·simp only[ai,seval,ah]
 have p1:=p1 D;have gt:=gt D;have ix:=ix D
 by_cases hr:gP s=[]
 ·obtain⟨i1,i2⟩:=x1 hr
  rw[i1]at ix
  rw[i2]at gt
  have hneg:decide ((-1:Int)<0)=true:=by decide
  have hz:IntKind.i64.wrap (s.length:Int)=s.length:=bd
  repeat' first|simp only[results99,ntmps99,al,hq,z0,hneg,List.take_length,List.drop_length,Int.toNat_natCast,Nat.le_refl,Int.le_refl,aF,aG,ax,aA,av,iE,ai,seval,ah]|exact rfl|((first|(refine ae ?_ (ix _) ?_)|(refine ab ?_ (fun _=>ix _) ?_)|(refine ae ?_ (gt _) ?_)|(refine ab ?_ (fun _=>gt _) ?_));(focus (simp only[results99,ntmps99,al,hq,z0,hneg,List.take_length,List.drop_length,Int.toNat_natCast,Nat.le_refl,Int.le_refl,aF,aG,ax,aA,av,iE,ai,seval,ah]<;>exact rfl)))|((refine ac ?_ [q] (p1 q _ _ ?_ aj (by omega)) ?_ ?_);iterate 3 (focus (simp only[ag,results99,ntmps99,al,hq,z0,hneg,List.take_length,List.drop_length,Int.toNat_natCast,Nat.le_refl,Int.le_refl,aF,aG,ax,aA,av,iE,ai,seval,ah]<;>exact rfl)))|(refine cW rfl [q] (yT.dd (ia q _ _)) ?_)|((first|apply Ca|apply Cb)<;>intro hb)|refine Ai (by omega) ?_|(apply Ai<;>intro hb)|fail
  refine tD ?_ ?_ ?_
  ·simp only[ai,seval,ah]
  ·simp only[ai,seval,ah]
  repeat' first|simp only[ak,ag,results144,ntmps144,al,C3,jH,Lc,Lo,hq,z0,ai,seval,ah]|exact rfl|refine aa (v:=.any) ?_|(refine Ai (by kernel_rfl) ?_)|(refine jA rfl (by kernel_rfl) ?_)|refine az (by decide +kernel) ?_|((first|apply Ca|apply Cb)<;>intro hb)|refine Ai (by omega) ?_|(apply Ai<;>intro hb)|fail
  (refine Fin.give [] [q] ?_ ?_ ?_ ?_ ?_ (aL ho (by simp[aP,tgt]))<;>(try simp only[results99,ntmps99,al,lH,hq,z0,dx,ai,seval,ah])<;>(try simp only[ap])<;>(try omega))
 ·obtain⟨i1,i2,i3,i4⟩:=x2 hr
  rw[i1]at ix
  have hneg:decide (((cP s).length:Int)<0)=false:=bm
  have k1:((cP s).length:Int)<=s.length:=by omega
  have k2:(0:Int)<=((cP s).length:Int):=by omega
  have k3:(cP s).length<=s.length:=by omega
  repeat' first|simp only[results99,ntmps99,al,hq,z0,hneg,k1,k2,k3,i2,i3,Int.toNat_natCast,Nat.le_refl,Int.le_refl,aF,aG,ax,aA,av,iE,ai,seval,ah]|exact rfl|((first|(refine ae ?_ (ix _) ?_)|(refine ab ?_ (fun _=>ix _) ?_)|(refine ae ?_ (gt _) ?_)|(refine ab ?_ (fun _=>gt _) ?_));(focus (simp only[results99,ntmps99,al,hq,z0,hneg,k1,k2,k3,i2,i3,Int.toNat_natCast,Nat.le_refl,Int.le_refl,aF,aG,ax,aA,av,iE,ai,seval,ah]<;>exact rfl)))|((refine ac ?_ [q] (p1 q _ _ ?_ aj (by omega)) ?_ ?_);iterate 3 (focus (simp only[ag,results99,ntmps99,al,hq,z0,hneg,k1,k2,k3,i2,i3,Int.toNat_natCast,Nat.le_refl,Int.le_refl,aF,aG,ax,aA,av,iE,ai,seval,ah]<;>exact rfl)))|(refine cW rfl [q] (yT.dd (ia q _ _)) ?_)|((first|apply Ca|apply Cb)<;>intro hb)|refine Ai (by omega) ?_|(apply Ai<;>intro hb)|fail
  refine tD ?_ ?_ ?_
  ·simp only[ai,seval,ah]
  ·simp only[ai,seval,ah]
  repeat' first|simp only[ak,ag,results144,ntmps144,al,C3,jH,Lc,Lo,hq,z0,ai,seval,ah]|exact rfl|refine aa (v:=.any) ?_|(refine Ai (by kernel_rfl) ?_)|(refine jA rfl (by kernel_rfl) ?_)|refine az (by decide +kernel) ?_|((first|apply Ca|apply Cb)<;>intro hb)|refine Ai (by omega) ?_|(apply Ai<;>intro hb)|fail
  (refine Fin.give [] [q] ?_ ?_ ?_ ?_ ?_ (aL ho (by simp[aP,tgt]))<;>(try simp only[results99,ntmps99,al,lH,hq,z0,dx,ai,seval,ah])<;>(try simp only[ap])<;>(try omega))
def HE {n r0 r:List UInt8}{l:List Pr}{t:Tk}(h:jT n l r0=some (t,r)):t=⟨t.kind,n,t.attrs,[]⟩ :=
 uP (n:=n) (P:=fun _ _ u _=>u=⟨u.kind,n,u.attrs,[]⟩) (fun _ _ _ _ _=>rfl) (fun _ _ _ _ _ _ _ _ _ _ _ ih=>ih) _ l r0 t r (Nat.le_refl _) h
def rW (s r:List UInt8)(t:Tk)(hs:s.length<=16384)(hd:(dW s).isSome=true)(h:jP s=some (t,r)) :
  (t.attrs=[] /\ ∀(q:Nat) (M:am) (nm:Nat),M q=some (bV s)->(∀ z,(M z).isSome=true->z∈[q])->q<nm ->
   Ev cx 99 nm [.ptr q 0 0] M (.tup [.agg [.int .u8 t.kind,.str t.name,.nils,.str t.text],.int .i64 0]) [(q,some (bV r))]) \/
  (t.text=[] /\ ∀(q:Nat) (M:am) (nm:Nat),M q=some (bV s)->(∀ z,(M z).isSome=true->z∈[q])->q<nm ->
   Ev cx 99 nm [.ptr q 0 0] M (.tup [.agg [.int .u8 t.kind,.str t.name,.own nm 0 t.attrs.length,.str []],.int .i64 0]) [(q,some (bV r)),(nm,some ⟨2,t.attrs.map c7⟩)]):=by
 cases h1:bZ 60 s with
 | none =>
  unfold jP at h
  rw[h1]at h
  obtain⟨x,h2,h3⟩:=Option.map_eq_some_iff.1 h
  cases h3
  exact .inl ⟨rfl,fun q M nm a b c=>AM s x hs hd h1 h2 q M nm a b c⟩
 | some u =>
  obtain rfl:=b6 h1
  have hl:u.length<=16384:=by simp at hs;omega
  have hdu:=(bX (d:=60) (by decide) (a:=[]) hd rfl).2
  unfold jP at h
  rw[h1]at h
  simp only at h
  unfold uQ at h
  split at h
  ·rename_i w hw
   obtain⟨⟨n,r1⟩,h2,h3⟩:=Option.bind_eq_some_iff.1 h
   obtain⟨r2,h4,h5⟩:=Option.map_eq_some_iff.1 h3
   cases h5
   exact .inl ⟨rfl,fun q M nm a b c=>Dj (60::u) u n r hs h1 (fun M nm q a b c=>Oa u w n r1 r hl hw h2 h4 q M nm a b c) q M nm a b c⟩
  ·rename_i hw
   obtain⟨⟨n,r1⟩,h2,h3⟩:=Option.bind_eq_some_iff.1 h
   have hk:=HE h3
   obtain⟨k,n',l,x⟩:=t
   simp only[Tk.mk.injEq,true_and]at hk
   obtain⟨rfl,rfl⟩:=hk
   exact .inr ⟨rfl,fun q M nm a b c=>Dk (60::u) u n' r k l hs h1 (fun M nm q a b c=>Oc u n' r1 r k l hl hdu hw h2 h3 q M nm a b c) q M nm a b c⟩
def rV (s:List UInt8)(hs:s.length<=16384)(hd:(dW s).isSome=true)(h:jP s=none)(q:Nat)(M:am)(nm:Nat)(hq:M q=some (bV s))(ho:∀ z,(M z).isSome=true->z∈[q])(hqn:q<nm) :
  Ev cx 99 nm [.ptr q 0 0] M (.tup [.agg [.int .u8 0,.str [],.nils,.str []],.int .i64 80]) [(q,none)]:=by
 cases h1:bZ 60 s with
 | none =>
  unfold jP at h
  rw[h1]at h
  exact vJ s hs hd h1 (by simpa using h) q M nm hq ho hqn
 | some u =>
  obtain rfl:=b6 h1
  have hl:u.length<=16384:=by simp at hs;omega
  have hdu:=(bX (d:=60) (by decide) (a:=[]) hd rfl).2
  unfold jP at h
  rw[h1]at h
  simp only at h
  refine yx (60::u) u hs h1 (fun M nm q a b c=>?_) q M nm hq ho hqn
  cases hw:bZ 47 u with
  | some w=>exact KU u w hl hw h q M nm a b c
  | none =>
   unfold uQ at h
   rw[hw]at h
   cases h2:fy u with
   | none=>exact Ha u hl hw h2 q M nm a b c
   | some p =>
    obtain⟨n,r0⟩:=p
    rw[h2]at h
    exact KV u n r0 hl hdu hw h2 h q M nm a b c
structure LSt where
 l:List Tk
 rest:List UInt8
def NJ (A:List Tk×Nat×Int):V:=.tup [.sl false 4 (A.1.map bE),.int .i64 A.2.1,.int .i64 A.2.2]
def Qb (s:List UInt8)(hs:s.length<=bc)(nm:Nat):Ev cx 57 nm [.str s] am.nil (NJ (dS s)) []:=by
  have hck:=ce s hs
  by_cases hp:aN s=0
  · obtain ⟨hsl,hsd⟩:=c6.1 hp
    have hA:dS s=hU s.length [] s:=by unfold dS;rw[if_neg (by simp[hp])]
    rw[hA]
    generalize hB:hU s.length [] s=A
    obtain⟨L,at0,e0⟩:=A
    unfold NJ
    rw[hp]at hck
    refine bh call57 func57 rfl (by kernel_rfl) rfl ?_;intro b0 hb0;have zF:=Ai results57 ntmps57
    repeat' first|simp only[ak,ag,zF,al,ai,seval,ah]|exact rfl|refine aa (v:=.any) ?_|(first|(refine ae ?_ (hck _) ?_)|(refine ab ?_ (fun _=>hck _) ?_))|((first|apply Ca|apply Cb)<;>intro hb)|refine Ai (by omega) ?_|(apply Ai<;>intro hb)
    (refine aQ bM (fun x:LSt=>x.rest.length) (fun x=>hU s.length x.l x.rest=(L,at0,e0)/\(dW x.rest).isSome=true/\x.rest.length<=s.length/\x.l.length<=512) (b0+16) (fun x=>[(0,.str s),(2,.own (b0+1) 0 x.l.length),(6,.ptr b0 0 0)]) (fun x=>[(b0,⟨1,[[.str x.rest]]⟩),(b0+1,⟨4,x.l.map bE⟩)]) (⟨[],s⟩) [some (b0+176),none] ?_ ?_ ?_ ?_;rotate_left 1;(focus (show b0<=_;omega));(focus (refine⟨?_,?_⟩<;>(try simp only[aX,aJ,Lo,List.length_nil,ai,seval,ah,ap])<;>(try omega)));rotate_left 1)
    · exact⟨hB,hsd,Nat.le_refl _,Nat.zero_le _⟩
    · rintro ⟨xl,xr⟩ ⟨g1,g2,g3,g4⟩
      dsimp only at g1 g2 g3 g4 ⊢
      have hnl:(xl.map bE).length=xl.length:=Lm _
      by_cases hnil:xr=[]
      · subst hnil
        rw[nb]at g1
        cases g1
        have hne:(([]:List UInt8) != [])=false:=by decide
        (repeat' first|simp only[ak,ag,zF,al,hne,aE,hnl,List.take_of_length_le,Nat.le_refl,ai,seval,ah]|exact rfl|refine aa (v:=.any) ?_|((first|apply Ca|apply Cb)<;>intro hb)|refine Ai (by omega) ?_|(apply Ai<;>intro hb)|refine Fin.pure ?_ ?_ ?_|simp only[ap])
      · have hne:(xr==[])=false:=by simpa using hnil
        have hw1:IntKind.i64.wrap ((s.length:Int)-(xr.length:Int))=((s.length-xr.length:Nat):Int):=by rw[bd];omega
        by_cases hm:512<=xl.length
        · have hge:decide ((512:Int)<=(xl.length:Int))=true:=bR
          have hge':decide ((xl.length:Int) ≥ (512:Int))=true:=bR
          rw[rf hnil hm]at g1
          cases g1
          cases ho:jP xr with
          | none =>
            have hone:=rV xr (by omega) g2 ho
            unfold bV at hone
            (repeat' first|simp only[ak,ag,zF,al,hne,Bf,hw1,hge,hnl,aE,ai,seval,ah]|exact rfl|refine aa (v:=.any) ?_|(refine ac ?_ [b0] (hone b0 _ _ ?_ aj (by omega)) ?_ ?_)|((first|apply Ca|apply Cb)<;>intro hb)|refine Ai (by omega) ?_|(apply Ai<;>intro hb)|refine Fin.pure ?_ ?_ ?_|simp only[ap])
          | some p =>
            obtain⟨t,r⟩:=p
            rcases rW xr r t (by omega) g2 ho with ⟨ha,hone⟩|⟨ha,hone⟩
            · unfold bV at hone
              (repeat' first|simp only[ak,ag,zF,al,hne,Bf,hw1,hge,hnl,aE,ai,seval,ah]|exact rfl|refine aa (v:=.any) ?_|(refine ac ?_ [b0] (hone b0 _ _ ?_ aj (by omega)) ?_ ?_)|((first|apply Ca|apply Cb)<;>intro hb)|refine Ai (by omega) ?_|(apply Ai<;>intro hb)|refine Fin.pure ?_ ?_ ?_|simp only[ap])
            · unfold bV at hone
              (repeat' first|simp only[ak,ag,zF,al,au,hne,Bf,hw1,hge,hnl,aE,ai,seval,ah]|exact rfl|refine aa (v:=.any) ?_|(refine ac ?_ [b0] (hone b0 _ _ ?_ aj (by omega)) ?_ ?_)|((first|apply Ca|apply Cb)<;>intro hb)|refine Ai (by omega) ?_|(apply Ai<;>intro hb)|refine Fin.pure ?_ ?_ ?_|simp only[ap])
        · have hge:decide ((512:Int)<=(xl.length:Int))=false:=bm
          cases ho:jP xr with
          | none =>
            rw[ui hnil (by omega) ho]at g1
            cases g1
            have hone:=rV xr (by omega) g2 ho
            unfold bV at hone
            (repeat' first|simp only[ak,ag,zF,al,hne,Bf,hw1,hge,hnl,aE,ai,seval,ah]|exact rfl|refine aa (v:=.any) ?_|(refine ac ?_ [b0] (hone b0 _ _ ?_ aj (by omega)) ?_ ?_)|((first|apply Ca|apply Cb)<;>intro hb)|refine Ai (by omega) ?_|(apply Ai<;>intro hb)|refine Fin.pure ?_ ?_ ?_|simp only[ap])
          | some p =>
            obtain⟨t,r⟩:=p
            have hlt:=yn hnil ho
            have hnl1:(xl++[t]).length=xl.length+1:=by simp
            have hmx:xl.length<512:=by omega
            have hnx:xl.map bE++[bE t]=(xl++[t]).map bE:=by simp
            have hle:∀(k:Nat) (n x:List UInt8) (a:List Pr) (v:V),v.le (.sl false 2 (a.map c7))->gR (xl.map bE++[[.int .u8 k,.str n,v,.str x]]) ((xl++[(⟨k,n,a,x⟩:Tk)]).map bE):=fun k n x a v hv=>by
              rw[List.map_append]
              refine m8 ⟨⟨V.le_refl _,V.le_refl _,hv,V.le_refl _,trivial⟩,trivial⟩
            have h16z:decide ((0:Int)>16)=false:=by decide
            rcases rW xr r t (by omega) g2 ho with ⟨ha,hone⟩|⟨ha,hone⟩
            · obtain⟨k,n,l,x⟩:=t
              dsimp only at ha
              subst ha
              obtain⟨k1,k2,k3,k4,k5⟩:=yo hnil ho g2 (by omega) (Nat.zero_le _)
              rw[sH hnil (by omega) ho (Nat.zero_le _)]at g1
              unfold bV at hone
              repeat' first|simp only[ak,ag,zF,al,hne,Bf,hw1,hge,hnl,aE,h16z,ai,seval,ah]|exact rfl|refine aa (v:=.any) ?_|(refine ac ?_ [b0] (hone b0 _ _ ?_ aj (by omega)) ?_ ?_)|((first|apply Ca|apply Cb)<;>intro hb)|refine Ai (by omega) ?_|(apply Ai<;>intro hb)
              all_goals ((refine eO bM (⟨xl++[⟨k,n,[],x⟩],r⟩) [some b0,some (b0+624)] ?_ ?_ ?_ ?_;rotate_left 2;(focus (show b0<=_;omega));(focus (refine⟨?_,?_⟩<;>(try simp only[aX,iW,aJ,ay,aE,hnx,hnl1,bE,Lo,gn _ _ (aE _),fQ _ _ (aE _),Lm,ai,seval,ah,ap])<;>(try omega)))))
              all_goals (first|exact⟨g1,k2,by show r.length<=s.length;omega,by show(xl++[_]).length<=512;simp;omega⟩|(show r.length<xr.length;omega)|exact .inr (hle _ _ _ _ _ (by simp[V.le]))|exact .inr (hle _ _ _ _ _ (V.le_refl _))|skip)
            · obtain⟨k,n,l,x⟩:=t
              dsimp only at ha hone
              subst ha
              by_cases h16:16<l.length
              · rw[o0 hnil (by omega) ho h16]at g1
                cases g1
                have h16d:decide ((16:Int)<(l.length:Int))=true:=bR
                unfold bV at hone
                (repeat' first|simp only[ak,ag,zF,al,au,hne,Bf,hw1,hge,hnl,aE,h16d,Lm,ai,seval,ah]|exact rfl|refine aa (v:=.any) ?_|(refine ac ?_ [b0] (hone b0 _ _ ?_ aj (by omega)) ?_ ?_)|((first|apply Ca|apply Cb)<;>intro hb)|refine Ai (by omega) ?_|(apply Ai<;>intro hb)|refine Fin.pure ?_ ?_ ?_|simp only[ap])
              · have h16d:decide ((16:Int)<(l.length:Int))=false:=bm
                obtain⟨k1,k2,k3,k4,k5⟩:=yo hnil ho g2 (by omega) (show l.length<=16 by omega)
                rw[sH hnil (by omega) ho (show l.length<=16 by omega)]at g1
                unfold bV at hone
                have htp:(l.map c7).take l.length=l.map c7:=List.take_of_length_le (by simp)
                repeat' first|simp only[ak,ag,zF,al,au,hne,Bf,hw1,hge,hnl,aE,ay,h16d,Lm,ai,seval,ah]|exact rfl|refine aa (v:=.any) ?_|(refine ac ?_ [b0] (hone b0 _ _ ?_ aj (by omega)) ?_ ?_)|((first|apply Ca|apply Cb)<;>intro hb)|refine Ai (by omega) ?_|(apply Ai<;>intro hb)
                all_goals ((refine eO bM (⟨xl++[⟨k,n,l,[]⟩],r⟩) [some b0,some (b0+624)] ?_ ?_ ?_ ?_;rotate_left 2;(focus (show b0<=_;omega));(focus (refine⟨?_,?_⟩<;>(try simp only[aX,iW,aJ,ay,aE,hnx,hnl1,htp,bE,gn _ _ (aE _),fQ _ _ (aE _),Lm,ai,seval,ah,ap])<;>(try omega)))))
                all_goals (first|exact⟨g1,k2,by show r.length<=s.length;omega,by show(xl++[_]).length<=512;simp;omega⟩|(show r.length<xr.length;omega)|exact .inr (hle _ _ _ _ _ (by simp[V.le]))|exact .inr (hle _ _ _ _ _ (V.le_refl _))|skip)
  · have hA:dS s=([],0,aN s):=by unfold dS;rw[if_pos (by simpa using hp)]
    have hb:(aN s != 0)=true:=by simpa using hp
    rw[hA]
    unfold NJ
    refine bh call57 func57 rfl (by kernel_rfl) rfl ?_;intro b0 hb0;have zF:=Ai results57 ntmps57
    (repeat' first|simp only[ak,ag,zF,al,hb,ai,seval,ah]|exact rfl|refine aa (v:=.any) ?_|(first|(refine ae ?_ (hck _) ?_)|(refine ab ?_ (fun _=>hck _) ?_))|((first|apply Ca|apply Cb)<;>intro hb)|refine Ai (by omega) ?_|(apply Ai<;>intro hb)|refine Fin.pure ?_ ?_ ?_|simp only[ap])
end Go.Proofs.YtlnlopnpcmahgaaGreatDoor
namespace Go.Proofs.YtlnlopnpcmahgaaGreatDoor
set_option maxRecDepth 100000
set_option maxHeartbeats 32000000
open Go Go.RowKit Go.Lib
def qh:Nat->List UInt8->Option (List UInt8)
 | _,[]=>some []
 | 0,_::_=>none
 | n+1,c::r=>if c=60 then none else if c=38 then (match ep 59 r with|none=>none|some p=>match cI p.1 with|none=>none|some x=>(qh n p.2).map (x ++ ·)) else (qh n r).map (c :: ·)
def qi:∀(n:Nat) (s:List UInt8),s.length<=n->bY s=qh n s
 | n,[],_=>by rw[kZ];cases n<;>rfl
 | 0,c::r,h=>by simp at h
 | n+1,c::r,h=>by
  have hl:r.length<=n:=by simpa using h
  by_cases h1:c=60
  ·subst h1;rw[nj];rfl
  by_cases h2:c=38
  ·subst h2
   cases hc:ep 59 r with
   | none=>rw[jR hc];simp[qh,hc]
   | some p =>
    obtain⟨a,b⟩:=p
    have:=tz hc
    cases hm:cI a with
    | none=>rw[kY hc hm];simp[qh,hc,hm]
    | some x=>rw[k7 hc hm,qi n b (by omega)];simp[qh,hc,hm]
  ·rw[gA h1 h2,qi n r hl];simp[qh,h1,h2]
def DQ (s:List UInt8):Option (List UInt8×List UInt8):=(uz s).bind fun p=>(qh p.1.length (p.1.map cH)).map fun v=>(v,p.2)
def HP (s:List UInt8):iU s=DQ s:=by
 unfold iU DQ Ba
 congr 1
 funext p
 rw[qi p.1.length _ (by simp)]
def Ig (s:List UInt8):Option (Pr×List UInt8):=(fy s).bind fun p=>(bZ 61 (be p.2)).bind fun t=>(DQ (be t)).map fun q=>(⟨p.1,q.1⟩,q.2)
def zb (s:List UInt8):gS s=Ig s:=by
 unfold gS Ig
 congr 1
 funext p
 congr 1
 funext t
 rw[HP]
def A5:Nat->List UInt8->List Pr->List UInt8->Option (Tk×List UInt8)
 | 0,_,_,_=>none
 | k+1,n,l,s=>match lA (be s) with
  | some p=>some (⟨p.1,n,l,[]⟩,p.2)
  | none=>if (be s).length<s.length then (match Ig (be s) with
   | none=>none
   | some p=>if (l.any fun b=>p.1.name==b.name)=true then none else A5 k n (l++[p.1]) p.2) else none
def Oo:∀(k:Nat) (n:List UInt8) (l:List Pr) (s:List UInt8),s.length<=k->jT n l s=A5 (k+1) n l s:=by
 intro k
 induction k with
 | zero =>
  intro n l s h
  obtain rfl:=List.length_eq_zero_iff.1 (Nat.le_zero.1 h)
  rw[lX (by rfl) (by simp[be])]
  rfl
 | succ k ih =>
  intro n l s h
  have hs:=dB s
  cases he:lA (be s) with
  | some p =>
   obtain⟨m,t⟩:=p
   rw[lW he]
   conv=>rhs;unfold A5
   simp only[he]
  | none =>
   by_cases hg:(be s).length<s.length
   ·cases ha:gS (be s) with
    | none =>
     rw[sO he ha]
     conv=>rhs;unfold A5
     rw[zb]at ha
     simp only[he,if_pos hg,ha]
    | some p =>
     obtain⟨a,r⟩:=p
     have hl:=ln ha
     have ha':=ha
     rw[zb]at ha'
     cases hd:l.any fun b=>a.name==b.name with
     | true =>
      rw[nV he ha hd]
      conv=>rhs;unfold A5
      simp only[he,if_pos hg,ha',hd,if_true]
     | false =>
      rw[nt he hg ha hd,ih _ _ r (by omega)]
      conv=>rhs;unfold A5
      simp only[he,if_pos hg,ha',hd,Bool.false_eq_true,if_false]
   ·rw[lX he hg]
    conv=>rhs;unfold A5
    simp only[he,if_neg hg]
def Qz (s:List UInt8):Option (Tk×List UInt8) :=
 match bZ 47 s with
 | some t=>(fy t).bind fun p=>(bZ 62 (be p.2)).map fun r=>(⟨2,p.1,[],[]⟩,r)
 | none=>(fy s).bind fun p=>A5 (p.2.length+1) p.1 [] p.2
def Ot (s:List UInt8):uQ s=Qz s:=by
 unfold uQ Qz
 cases bZ 47 s with
 | some t=>rfl
 | none =>
  simp only
  congr 1
  funext p
  rw[Oo p.2.length _ _ _ (Nat.le_refl _)]
def Qo (s:List UInt8):Option (Tk×List UInt8) :=
 match bZ 60 s with
 | some t=>Qz t
 | none=>(qh (cP s).length (cP s)).map fun x=>(⟨4,[],[],x⟩,gP s)
def EN (s:List UInt8):jP s=Qo s:=by
 unfold jP Qo
 cases bZ 60 s with
 | some t=>exact Ot t
 | none =>
  simp only
  rw[qi _ _ (Nat.le_refl _)]
def CT:Nat->Nat->List Tk->List UInt8->List Tk×Nat×Int
 | 0,_,l,_=>(l,0,0)
 | k+1,n,l,s=>if s=[] then (l,0,0) else if 512<=l.length then ([],n-s.length,4) else match Qo s with
  | none=>([],n-s.length,80)
  | some p=>if 16<p.1.attrs.length then ([],n-s.length,4) else CT k n (l++[p.1]) p.2
def NI:∀(k n:Nat) (l:List Tk) (s:List UInt8),s.length<=k->hU n l s=CT (k+1) n l s:=by
 intro k
 induction k with
 | zero =>
  intro n l s h
  obtain rfl:=List.length_eq_zero_iff.1 (Nat.le_zero.1 h)
  rw[nb];rfl
 | succ k ih =>
  intro n l s h
  by_cases hs:s=[]
  ·subst hs;rw[nb];rfl
  ·by_cases hm:512<=l.length
   ·rw[rf hs hm]
    conv=>rhs;unfold CT
    rw[if_neg hs,if_pos hm]
   ·cases ho:jP s with
    | none =>
     rw[ui hs (by omega) ho]
     rw[EN]at ho
     conv=>rhs;unfold CT
     simp only[if_neg hs,if_neg hm,ho]
    | some p =>
     obtain⟨t,r⟩:=p
     have hl:=yn hs ho
     have ho':=ho
     rw[EN]at ho'
     by_cases ha:16<t.attrs.length
     ·rw[o0 hs (by omega) ho ha]
      conv=>rhs;unfold CT
      simp only[if_neg hs,if_neg hm,ho',if_pos ha]
     ·rw[sH hs (by omega) ho (by omega),ih _ _ r (by omega)]
      conv=>rhs;unfold CT
      simp only[if_neg hs,if_neg hm,ho',if_neg ha]
def Qa (s:List UInt8):List Tk×Nat×Int:=if aN s≠0 then ([],0,aN s) else CT (s.length+1) s.length [] s
def NK (s:List UInt8):dS s=Qa s:=by
 unfold dS Qa
 rw[NI s.length _ _ _ (Nat.le_refl _)]
end Go.Proofs.YtlnlopnpcmahgaaGreatDoor
namespace Go.Proofs.YtlnlopnpcmahgaaGreatDoor
set_option maxRecDepth 100000
set_option maxHeartbeats 32000000
open Go Go.RowKit Vm Go.Lib Tryz
open Vm renaming aW->Ca,bf->Cb
open And renaming intro->Ai
open List renaming length_map->Lm,not_mem_nil->Ln,map_nil->Lo,map_cons->Lc,mem_cons->Lk
open Bool renaming not_false->Bf,not_true->Bt
def SO:(∀ M,oq M [] []=True)/\(∀ M u v l r,oq M (u::l) (v::r)=(pF M u v/\oq M l r))/\(∀ M,ot M []=True)/\(∀ M u l,ot M (u::l)=(n0 M u/\ot M l)) /\
  (∀ M nm lo n sz rows,pF M (.own nm lo n) (.sl false sz rows)=(sz=dP M nm/\gR (gk [] M (((bl M nm).drop lo).take n)) rows))/\(∀ M nm lo n,n0 M (.own nm lo n)=((M nm).isSome=true/\lo+n<=(bl M nm).length/\fh [] M (((bl M nm).drop lo).take n))) /\
  (∀ M s t,pF M (.str s) (.str t)=(s=t))/\(∀ M s,n0 M (.str s)=True)/\(gR [] []=True) :=
 ⟨FI,B5,FJ,B6,IB,ID,IC,IE,eq_true trivial⟩
def BI {l:List Pr}{a:Pr}(h:a∈l):(mr a).length<=(ef l).length:=by
 unfold ef
 rw[List.length_flatMap]
 exact uO (f:=fun x=>(mr x).length) h
def HM {l:List Tk}{t:Tk}(h:t∈l):(fJ t).length<=(bk l).length:=by
 unfold bk
 rw[List.length_flatMap]
 exact uO (f:=fun x=>(fJ x).length) h
def LG {t:Tk}(ht:ed t=true){n:Nat}(hn:(fJ t).length<=n):t.okTo (n+16):=by
 obtain⟨k,m,l,x⟩:=t
 unfold ed at ht
 dsimp only at ht
 unfold fJ at hn
 dsimp only at hn
 have hx:=(co false x).1
 split at ht
 ·rename_i hk
  rw[if_neg (show ¬ k=4 by omega),if_neg (show ¬ k=2 by omega)]at hn
  simp only[Bool.and_eq_true,List.isEmpty_iff]at ht
  obtain⟨⟨_,h2⟩,rfl⟩:=ht
  have h16:=(gh.1 h2).1
  simp only[List.length_append,List.length_cons,List.length_nil]at hn
  refine⟨by show l.length<=n+16;omega,by show m.length<=n+16;omega,by simp,fun a ha=>?_⟩
  have h3:=BI ha
  have h4:=(co true a.value).1
  simp only[mr,List.length_append,List.length_cons,List.length_nil]at h3
  omega
 ·split at ht
  ·rename_i hk
   subst hk
   rw[if_neg (by decide),if_pos rfl]at hn
   simp only[Bool.and_eq_true,List.isEmpty_iff]at ht
   obtain⟨⟨_,rfl⟩,rfl⟩:=ht
   simp only[List.length_append,List.length_cons,List.length_nil]at hn
   exact⟨by simp,by show m.length<=n+16;omega,by simp,fun a ha=>by simp at ha⟩
  ·split at ht
   ·rename_i hk
    subst hk
    rw[if_pos rfl]at hn
    simp only[Bool.and_eq_true,List.isEmpty_iff]at ht
    obtain⟨⟨⟨rfl,rfl⟩,_⟩,_⟩:=ht
    exact⟨by simp,by simp,by show x.length<=n+16;omega,fun a ha=>by simp at ha⟩
   ·cases ht
def EM {t:Tk}{a b:Nat}(h:t.okTo a)(hab:a<=b):t.okTo b:=by
 obtain⟨h1,h2,h3,h4⟩:=h
 exact⟨by omega,by omega,by omega,fun x hx=>by have:=h4 x hx;omega⟩
def Ay {s:List UInt8}(h:(dS s).2.2=0):∀ t∈(dS s).1,t.okTo (6*s.length+16):=by
 obtain⟨h1,_,_,_,_,h6⟩:=(EB s).1 h
 intro t ht
 exact LG (h1 t ht) (Nat.le_trans (HM ht) h6)
def A7 {t:Tk}(ht:ed t=true):t.attrs.length<=16:=by
 unfold ed at ht
 split at ht
 ·simp only[Bool.and_eq_true]at ht
  exact(gh.1 ht.1.2).1
 ·split at ht
  ·simp only[Bool.and_eq_true,List.isEmpty_iff]at ht
   rw[ht.1.2];simp
  ·split at ht
   ·simp only[Bool.and_eq_true,List.isEmpty_iff]at ht
    rw[ht.1.1.2];simp
   ·cases ht
end Go.Proofs.YtlnlopnpcmahgaaGreatDoor
