/-
 Texts joined: XNq,XNr,XPe,XLo,XLj,XPd,XPf.
-/
import Derived.Test.YtlnlopnpcmahgaaGreatDoorQm
import Derived.Test.YtlnlopnpcmahgaaGreatDoorQe
import Derived.Test.YtlnlopnpcmahgaaGreatDoorQk
import Derived.Test.YtlnlopnpcmahgaaGreatDoorQo
set_option linter.all false
namespace Go.Proofs.YtlnlopnpcmahgaaGreatDoor
set_option maxRecDepth 100000
set_option maxHeartbeats 32000000
open Go Go.RowKit Vm Go.Lib Tryz
open Vm renaming ba->Ca,bh->Cb
open And renaming intro->Ai
open List renaming length_map->Lm,not_mem_nil->Ln,map_nil->Lo,map_cons->Lc,mem_cons->Lk
open Bool renaming not_false->Bf,not_true->Bt
section
variable {cx:Cx} {Q:Post} {st:List Frm} {nm:Nat} {e:Env} {M:ap} {d:Bool} {fs:List (List Nat)} {ops r:List Oper} {dst:Option Tmp} {t:TypeId} {pos:String} {af:Array Edge} {gd:Option (Nat×Bool)} {i:Nat}
def pc {P:Program}{w:World}{xt t:TypeId}(v:Value)(h:FR P t=true):(Instr.typeAssert (.iface t v) xt t false).run P w = .ok v w:=by
 unfold FR at h
 cases hu:P.underlying t with
 | none=>rw[hu]at h;cases h
 | some u =>
  rw[hu]at h
  simp only[Instr.typeAssert,Sem.run_bind,run_underlying hu w,Result.andThen_ok]
  cases u<;>first|(simp;done)|cases h
def jJ {xt ty:TypeId}{x:Operand}{u:V}(hx:aw cx.G true e x = .iface ty u)(ht:FR cx.P ty=true)
  (h:aK cx Q st nm (e.putD dst u) M d (fs++[[]]) ops r (i+1)):cF cx Q st nm e M d fs ops ⟨dst,.typeAssert x xt ty false,t,pos,af,gd⟩ r i:=by
 refine⟨_,[],_,⟨fun x hx=>by simp[am]at hx,fun x hx=>by simp[am]at hx,fun h=>absurd rfl h,fun h=>absurd rfl h,?_⟩,h⟩
 intro N X w0 I Y e' M' a w hr he hin hev hMM hf
 have hxi:=he.eval hr (c:=true) rfl (hin x (by simp[Op.operands]))
 rw[hev x (by simp[Op.operands]),hx]at hxi
 cases hc:a.eval x with
 | iface t' v' =>
  rw[hc]at hxi
  cases hxi with
  | iface hv=>exact⟨v',w,(dh.still (nm:=nm+16*i) hr hv).n,iv (s:=Instr.typeAssert (a.eval x) xt ty false) rfl (by rw[hc];exact pc v' ht)⟩
 | _=>rw[hc]at hxi;cases hxi
end
def Ev.dd {D:List Deferred}{f:FuncId}{nm:Nat}{args:List V}{M:ap}{v:V}{eff:List (Nat×Option Blk)}(h:Ev cx f nm args M v eff):Ev ⟨cx.P,cx.G,D⟩ f nm args M v eff:=h
def y5.dd {D:List Deferred}{f:FuncId}{nm:Nat}{args:List V}{M:ap}{v:V}(h:y5 cx f nm args M v):y5 ⟨cx.P,cx.G,D⟩ f nm args M v:=h
def Dx (s t n r:List UInt8)(hs:s.length<=16384)(h1:bO 60 s=some t)(tag:∀(M:ap) (nm q:Nat),M q=some (bY t)->(∀ z,(M z).isSome=true->z∈[q])->q<nm->Ev cx 146 nm [.ptr q 0 0] M (.agg [.int .u8 2,.str n,.nils,.str []]) [(q,some (bY r))])(q:Nat)(M:ap)(nm:Nat)(hq:M q=some (bY s))(ho:∀ z,(M z).isSome=true->z∈[q])(hqn:q<nm) :
  Ev cx 99 nm [.ptr q 0 0] M (.tup [.agg [.int .u8 2,.str n,.nils,.str []],.int .i64 0]) [(q,some (bY r))]:=by
 have p1:=fun D (q:Nat) M nm a b c=>Ev.dd (D:=D) (de s [60] true (by omega) (by decide) (by rw[fe,h1];rfl) q M nm a b c)
 have hst:=b8 h1
 subst hst
 simp only[if_true,List.drop_succ_cons,List.drop_zero,List.length_cons,List.length_nil]at p1
 have tg:=fun D M nm (q:Nat) a b c=>Ev.dd (D:=D) (tag M nm q a b c)
 unfold bY at hq tg ⊢
 refine mM rfl mixed call99 call144 func99 rfl ⟨_,_,_,rfl⟩ ⟨_,_,_,_,rfl⟩ (t2:=2) (t3:=3) (N:=9) ⟨⟨_,_,_,_,func144,rfl,rfl,rfl,by decide,by decide,⟨_,_,_,_,rfl⟩,_,_,_,rfl⟩⟩ (by kernel_rfl) (by kernel_rfl) (by kernel_rfl) rfl ?_
 intro b0 hb0
 have lq:=aC hb0 hq
 have z0:=aE lq
 repeat' first|simp only[ak,aj,results99,ntmps99,al,hq,z0,ai,seval,ah]|exact rfl|refine aa (v:=.any) ?_|((first|apply Ca|apply Cb)<;>intro hb)|refine Ai (by omega) ?_|(apply Ai<;>intro hb)|fail
 refine⟨rfl,b0,b0+16,?_,?_,fun D=>?_⟩
 ·simp only[ai,seval,ah]
 ·simp only[ai,seval,ah]
 have p1:=p1 D;have tg:=tg D
 repeat' first|simp only[results99,ntmps99,al,hq,z0,ai,seval,ah]|exact rfl|((first|(refine ac ?_ [q] (p1 q _ _ ?_ ag (by omega)) ?_ ?_)|(refine ac ?_ [q] (tg _ _ q ?_ ag (by omega)) ?_ ?_));iterate 3 (focus (simp only[aj,results99,ntmps99,al,hq,z0,ai,seval,ah]<;>exact rfl)))|((first|apply Ca|apply Cb)<;>intro hb)|refine Ai (by omega) ?_|(apply Ai<;>intro hb)|fail
 refine pB ?_ ?_ ?_
 ·simp only[ai,seval,ah]
 ·simp only[ai,seval,ah]
 repeat' first|simp only[ak,aj,results144,ntmps144,al,hq,z0,ai,seval,ah]|exact rfl|refine aa (v:=.any) ?_|refine aA (by decide +kernel) ?_|((first|apply Ca|apply Cb)<;>intro hb)|refine Ai (by omega) ?_|(apply Ai<;>intro hb)|fail
 refine⟨rfl,?_⟩
 (refine Fin.give [(q,none)] [] ?_ ?_ ?_ ?_ ?_ (aO ho (by simp[aS,tgt]))<;>(try simp only[results99,ntmps99,al,lG,hq,z0,dM,ai,seval,ah])<;>(try simp only[ao])<;>(try omega))
def Dy (s t n r:List UInt8)(k:Nat)(l:List Pr)(hs:s.length<=16384)(h1:bO 60 s=some t)(tag:∀(M:ap) (nm q:Nat),M q=some (bY t)->(∀ z,(M z).isSome=true->z∈[q])->q<nm->Ev cx 146 nm [.ptr q 0 0] M (.agg [.int .u8 k,.str n,.own nm 0 l.length,.str []]) [(q,some (bY r)),(nm,some ⟨2,l.map c9⟩)])(q:Nat)(M:ap)(nm:Nat)(hq:M q=some (bY s))(ho:∀ z,(M z).isSome=true->z∈[q])(hqn:q<nm) :
  Ev cx 99 nm [.ptr q 0 0] M (.tup [.agg [.int .u8 k,.str n,.own nm 0 l.length,.str []],.int .i64 0]) [(q,some (bY r)),(nm,some ⟨2,l.map c9⟩)]:=by
 have p1:=fun D (q:Nat) M nm a b c=>Ev.dd (D:=D) (de s [60] true (by omega) (by decide) (by rw[fe,h1];rfl) q M nm a b c)
 have hst:=b8 h1
 subst hst
 simp only[if_true,List.drop_succ_cons,List.drop_zero,List.length_cons,List.length_nil]at p1
 have tg:=fun D M nm (q:Nat) a b c=>Ev.dd (D:=D) (tag M nm q a b c)
 unfold bY at hq tg ⊢
 refine mM rfl mixed call99 call144 func99 rfl ⟨_,_,_,rfl⟩ ⟨_,_,_,_,rfl⟩ (t2:=2) (t3:=3) (N:=9) ⟨⟨_,_,_,_,func144,rfl,rfl,rfl,by decide,by decide,⟨_,_,_,_,rfl⟩,_,_,_,rfl⟩⟩ (by kernel_rfl) (by kernel_rfl) (by kernel_rfl) rfl ?_
 intro b0 hb0
 have lq:=aC hb0 hq
 have z0:=aE lq
 repeat' first|simp only[ak,aj,results99,ntmps99,al,hq,z0,ai,seval,ah]|exact rfl|refine aa (v:=.any) ?_|((first|apply Ca|apply Cb)<;>intro hb)|refine Ai (by omega) ?_|(apply Ai<;>intro hb)|fail
 refine⟨rfl,b0,b0+16,?_,?_,fun D=>?_⟩
 ·simp only[ai,seval,ah]
 ·simp only[ai,seval,ah]
 have p1:=p1 D;have tg:=tg D
 repeat' first|simp only[results99,ntmps99,al,au,hq,z0,ai,seval,ah]|exact rfl|((first|(refine ac ?_ [q] (p1 q _ _ ?_ ag (by omega)) ?_ ?_)|(refine ac ?_ [q] (tg _ _ q ?_ ag (by omega)) ?_ ?_));iterate 3 (focus (simp only[aj,results99,ntmps99,al,au,hq,z0,ai,seval,ah]<;>exact rfl)))|((first|apply Ca|apply Cb)<;>intro hb)|refine Ai (by omega) ?_|(apply Ai<;>intro hb)|fail
 refine pB ?_ ?_ ?_
 ·simp only[ai,seval,ah]
 ·simp only[ai,seval,ah]
 repeat' first|simp only[ak,aj,results144,ntmps144,al,hq,z0,ai,seval,ah]|exact rfl|refine aa (v:=.any) ?_|refine aA (by decide +kernel) ?_|((first|apply Ca|apply Cb)<;>intro hb)|refine Ai (by omega) ?_|(apply Ai<;>intro hb)|fail
 refine⟨rfl,?_⟩
 (refine Fin.give [(q,none),(b0+112,some 0)] [] ?_ ?_ ?_ ?_ ?_ (aO ho (by simp[aS,tgt]))<;>(try simp only[results99,ntmps99,al,lG,ay,hq,z0,dM,ai,seval,ah])<;>(try simp only[ao])<;>(try omega))
def yG (s t:List UInt8)(hs:s.length<=16384)(h1:bO 60 s=some t)(tag:∀(M:ap) (nm q:Nat),M q=some (bY t)->(∀ z,(M z).isSome=true->z∈[q])->q<nm->y5 cx 146 nm [.ptr q 0 0] M Dg)(q:Nat)(M:ap)(nm:Nat)(hq:M q=some (bY s))(ho:∀ z,(M z).isSome=true->z∈[q])(hqn:q<nm) :
  Ev cx 99 nm [.ptr q 0 0] M (.tup [.agg [.int .u8 0,.str [],.nils,.str []],.int .i64 80]) [(q,none)]:=by
 have p1:=fun D (q:Nat) M nm a b c=>Ev.dd (D:=D) (de s [60] true (by omega) (by decide) (by rw[fe,h1];rfl) q M nm a b c)
 have hst:=b8 h1
 subst hst
 simp only[if_true,List.drop_succ_cons,List.drop_zero,List.length_cons,List.length_nil]at p1
 have tg:=fun D M nm (q:Nat) a b c=>y5.dd (D:=D) (tag M nm q a b c)
 unfold bY at hq tg
 refine mM rfl mixed call99 call144 func99 rfl ⟨_,_,_,rfl⟩ ⟨_,_,_,_,rfl⟩ (t2:=2) (t3:=3) (N:=9) ⟨⟨_,_,_,_,func144,rfl,rfl,rfl,by decide,by decide,⟨_,_,_,_,rfl⟩,_,_,_,rfl⟩⟩ (by kernel_rfl) (by kernel_rfl) (by kernel_rfl) rfl ?_
 intro b0 hb0
 have lq:=aC hb0 hq
 have z0:=aE lq
 repeat' first|simp only[ak,aj,results99,ntmps99,al,hq,z0,ai,seval,ah]|exact rfl|refine aa (v:=.any) ?_|((first|apply Ca|apply Cb)<;>intro hb)|refine Ai (by omega) ?_|(apply Ai<;>intro hb)|fail
 refine⟨rfl,b0,b0+16,?_,?_,fun D=>?_⟩
 ·simp only[ai,seval,ah]
 ·simp only[ai,seval,ah]
 have p1:=p1 D;have tg:=tg D
 repeat' first|simp only[results99,ntmps99,al,hq,z0,ai,seval,ah]|exact rfl|((refine ac ?_ [q] (p1 q _ _ ?_ ag (by omega)) ?_ ?_);iterate 3 (focus (simp only[aj,results99,ntmps99,al,hq,z0,ai,seval,ah]<;>exact rfl)))|((first|apply Ca|apply Cb)<;>intro hb)|refine Ai (by omega) ?_|(apply Ai<;>intro hb)|fail
 refine cX rfl [q] (tg _ _ q ?_ ag (by omega)) ?_
 ·simp only[aj,al,hq,z0,ai,seval,ah]<;>exact rfl
 simp only[aG,aH,ax,aB,av,iN]
 refine tI ?_ ?_ ?_
 ·simp only[ai,seval,ah]
 ·simp only[ai,seval,ah]
 repeat' first|simp only[ak,aj,results144,ntmps144,al,Dg,jQ,Lc,Lo,hq,z0,ai,seval,ah]|exact rfl|refine aa (v:=.any) ?_|(refine Ai (by kernel_rfl) ?_)|(refine jJ rfl (by kernel_rfl) ?_)|refine aA (by decide +kernel) ?_|((first|apply Ca|apply Cb)<;>intro hb)|refine Ai (by omega) ?_|(apply Ai<;>intro hb)|fail
 (refine Fin.give [] [q] ?_ ?_ ?_ ?_ ?_ (aO ho (by simp[aS,tgt]))<;>(try simp only[results99,ntmps99,al,lG,hq,z0,dM,ai,seval,ah])<;>(try simp only[ao])<;>(try omega))
def Bu {s:List UInt8} :(fR s=[]->indexByte s 60 = -1/\cK s=s)/\(fR s≠[]->indexByte s 60=((cK s).length:Nat)/\s.take (cK s).length=cK s/\s.drop (cK s).length=fR s/\(cK s).length<s.length):=by
 have e:s=cK s++fR s:=(List.takeWhile_append_dropWhile).symm
 have hn:(60:UInt8) ∉ cK s:=fun h=>by
  have:=om h
  cases this
 constructor
 ·intro h
  rw[h,List.append_nil]at e
  refine⟨iQ.2 (hH.2 ?_),e.symm⟩
  rw[e];exact hn
 ·intro h
  cases hr:fR s with
  | nil=>exact absurd hr h
  | cons c r =>
   have h60:=u0 s c (by rw[hr];rfl)
   subst h60
   rw[hr]at e
   have hc:eg 60 s=some (cK s,r):=by
    conv=>lhs;rw[e]
    exact kg hn
   obtain⟨i1,i2,i3,i4⟩:=ko hc
   refine⟨i1,i2,?_,by omega⟩
   have:=List.drop_left (l₁:=cK s) (l₂:=60::r)
   rw[<- e]at this
   exact this
def A7 (s x:List UInt8)(hs:s.length<=16384)(hd:(dB s).isSome=true)(h1:bO 60 s=none)(h2:bJ (cK s)=some x)(q:Nat)(M:ap)(nm:Nat)(hq:M q=some (bY s))(ho:∀ z,(M z).isSome=true->z∈[q])(hqn:q<nm) :
  Ev cx 99 nm [.ptr q 0 0] M (.tup [.agg [.int .u8 4,.str [],.nils,.str x],.int .i64 0]) [(q,some (bY (fR s)))]:=by
 have p1:=fun D (q:Nat) M nm a b c=>Ev.dd (D:=D) (de s [60] false (by omega) (by decide) (by rw[fe,h1];rfl) q M nm a b c)
 simp only[Bool.false_eq_true,if_false]at p1
 have hl:(cK s).length<=s.length:=by
  have:=congrArg List.length ((List.takeWhile_append_dropWhile (p:=ji) (l:=s)).symm)
  unfold cK;rw[List.length_append]at this;omega
 have hp:aN (cK s)=0:=cC.2 ⟨by omega,(u1 hd).1⟩
 obtain⟨x1,x2⟩:=Bu (s:=s)
 have gt:=fun D nm=>Ev.dd (D:=D) (sG (cK s) (by unfold be;omega) nm)
 have ix:=fun D nm=>Ev.dd (D:=D) (pP s 60 nm)
 simp only[qO hp h2]at gt
 unfold bY at hq ⊢
 refine mM rfl mixed call99 call144 func99 rfl ⟨_,_,_,rfl⟩ ⟨_,_,_,_,rfl⟩ (t2:=2) (t3:=3) (N:=9) ⟨⟨_,_,_,_,func144,rfl,rfl,rfl,by decide,by decide,⟨_,_,_,_,rfl⟩,_,_,_,rfl⟩⟩ (by kernel_rfl) (by kernel_rfl) (by kernel_rfl) rfl ?_
 intro b0 hb0
 have lq:=aC hb0 hq
 have z0:=aE lq
 repeat' first|simp only[ak,aj,results99,ntmps99,al,hq,z0,ai,seval,ah]|exact rfl|refine aa (v:=.any) ?_|((first|apply Ca|apply Cb)<;>intro hb)|refine Ai (by omega) ?_|(apply Ai<;>intro hb)|fail
 refine⟨rfl,b0,b0+16,?_,?_,fun D=>?_⟩
 ·simp only[ai,seval,ah]
 ·simp only[ai,seval,ah]
 have p1:=p1 D;have gt:=gt D;have ix:=ix D
 by_cases hr:fR s=[]
 ·obtain⟨i1,i2⟩:=x1 hr
  rw[i1]at ix
  rw[i2]at gt
  rw[hr]
  have hneg:decide ((-1:Int)<0)=true:=by decide
  have hz:IntKind.i64.wrap (s.length:Int)=s.length:=bf
  repeat' first|simp only[results99,ntmps99,al,hq,z0,hneg,List.take_length,List.drop_length,Int.toNat_natCast,Nat.le_refl,Int.le_refl,ai,seval,ah]|exact rfl|((first|(refine ad ?_ (ix _) ?_)|(refine ab ?_ (fun _=>ix _) ?_)|(refine ad ?_ (gt _) ?_)|(refine ab ?_ (fun _=>gt _) ?_));(focus (simp only[results99,ntmps99,al,hq,z0,hneg,List.take_length,List.drop_length,Int.toNat_natCast,Nat.le_refl,Int.le_refl,ai,seval,ah]<;>exact rfl)))|((refine ac ?_ [q] (p1 q _ _ ?_ ag (by omega)) ?_ ?_);iterate 3 (focus (simp only[aj,results99,ntmps99,al,hq,z0,hneg,List.take_length,List.drop_length,Int.toNat_natCast,Nat.le_refl,Int.le_refl,ai,seval,ah]<;>exact rfl)))|((first|apply Ca|apply Cb)<;>intro hb)|refine Ai (by omega) ?_|(apply Ai<;>intro hb)|fail
  refine pB ?_ ?_ ?_
  ·simp only[ai,seval,ah]
  ·simp only[ai,seval,ah]
  repeat' first|simp only[ak,aj,results144,ntmps144,al,hq,z0,ai,seval,ah]|exact rfl|refine aa (v:=.any) ?_|refine aA (by decide +kernel) ?_|((first|apply Ca|apply Cb)<;>intro hb)|refine Ai (by omega) ?_|(apply Ai<;>intro hb)|fail
  refine⟨rfl,?_⟩
  (refine Fin.give [(q,none)] [] ?_ ?_ ?_ ?_ ?_ (aO ho (by simp[aS,tgt]))<;>(try simp only[results99,ntmps99,al,lG,hq,z0,dM,ai,seval,ah])<;>(try simp only[ao])<;>(try omega))
 ·obtain⟨i1,i2,i3,i4⟩:=x2 hr
  rw[i1]at ix
  have hneg:decide (((cK s).length:Int)<0)=false:=bo
  have k1:((cK s).length:Int)<=s.length:=by omega
  have k2:(0:Int)<=((cK s).length:Int):=by omega
  have k3:(cK s).length<=s.length:=by omega
  repeat' first|simp only[results99,ntmps99,al,hq,z0,hneg,k1,k2,k3,i2,i3,Int.toNat_natCast,Nat.le_refl,Int.le_refl,ai,seval,ah]|exact rfl|((first|(refine ad ?_ (ix _) ?_)|(refine ab ?_ (fun _=>ix _) ?_)|(refine ad ?_ (gt _) ?_)|(refine ab ?_ (fun _=>gt _) ?_));(focus (simp only[results99,ntmps99,al,hq,z0,hneg,k1,k2,k3,i2,i3,Int.toNat_natCast,Nat.le_refl,Int.le_refl,ai,seval,ah]<;>exact rfl)))|((refine ac ?_ [q] (p1 q _ _ ?_ ag (by omega)) ?_ ?_);iterate 3 (focus (simp only[aj,results99,ntmps99,al,hq,z0,hneg,k1,k2,k3,i2,i3,Int.toNat_natCast,Nat.le_refl,Int.le_refl,ai,seval,ah]<;>exact rfl)))|((first|apply Ca|apply Cb)<;>intro hb)|refine Ai (by omega) ?_|(apply Ai<;>intro hb)|fail
  refine pB ?_ ?_ ?_
  ·simp only[ai,seval,ah]
  ·simp only[ai,seval,ah]
  repeat' first|simp only[ak,aj,results144,ntmps144,al,hq,z0,ai,seval,ah]|exact rfl|refine aa (v:=.any) ?_|refine aA (by decide +kernel) ?_|((first|apply Ca|apply Cb)<;>intro hb)|refine Ai (by omega) ?_|(apply Ai<;>intro hb)|fail
  refine⟨rfl,?_⟩
  (refine Fin.give [(q,none)] [] ?_ ?_ ?_ ?_ ?_ (aO ho (by simp[aS,tgt]))<;>(try simp only[results99,ntmps99,al,lG,hq,z0,dM,ai,seval,ah])<;>(try simp only[ao])<;>(try omega))
def vU (s:List UInt8)(hs:s.length<=16384)(hd:(dB s).isSome=true)(h1:bO 60 s=none)(h2:bJ (cK s)=none)(q:Nat)(M:ap)(nm:Nat)(hq:M q=some (bY s))(ho:∀ z,(M z).isSome=true->z∈[q])(hqn:q<nm) :
  Ev cx 99 nm [.ptr q 0 0] M (.tup [.agg [.int .u8 0,.str [],.nils,.str []],.int .i64 80]) [(q,none)]:=by
 have p1:=fun D (q:Nat) M nm a b c=>Ev.dd (D:=D) (de s [60] false (by omega) (by decide) (by rw[fe,h1];rfl) q M nm a b c)
 simp only[Bool.false_eq_true,if_false]at p1
 have hl:(cK s).length<=s.length:=by
  have:=congrArg List.length ((List.takeWhile_append_dropWhile (p:=ji) (l:=s)).symm)
  unfold cK;rw[List.length_append]at this;omega
 have hp:aN (cK s)=0:=cC.2 ⟨by omega,(u1 hd).1⟩
 obtain⟨x1,x2⟩:=Bu (s:=s)
 have gt:=fun D nm=>Ev.dd (D:=D) (sG (cK s) (by unfold be;omega) nm)
 have ix:=fun D nm=>Ev.dd (D:=D) (pP s 60 nm)
 simp only[kS hp h2]at gt
 unfold bY at hq
 refine mM rfl mixed call99 call144 func99 rfl ⟨_,_,_,rfl⟩ ⟨_,_,_,_,rfl⟩ (t2:=2) (t3:=3) (N:=9) ⟨⟨_,_,_,_,func144,rfl,rfl,rfl,by decide,by decide,⟨_,_,_,_,rfl⟩,_,_,_,rfl⟩⟩ (by kernel_rfl) (by kernel_rfl) (by kernel_rfl) rfl ?_
 intro b0 hb0
 have lq:=aC hb0 hq
 have z0:=aE lq
 repeat' first|simp only[ak,aj,results99,ntmps99,al,hq,z0,ai,seval,ah]|exact rfl|refine aa (v:=.any) ?_|((first|apply Ca|apply Cb)<;>intro hb)|refine Ai (by omega) ?_|(apply Ai<;>intro hb)|fail
 refine⟨rfl,b0,b0+16,?_,?_,fun D=>?_⟩
 ·simp only[ai,seval,ah]
 ·simp only[ai,seval,ah]
 have p1:=p1 D;have gt:=gt D;have ix:=ix D
 by_cases hr:fR s=[]
 ·obtain⟨i1,i2⟩:=x1 hr
  rw[i1]at ix
  rw[i2]at gt
  have hneg:decide ((-1:Int)<0)=true:=by decide
  have hz:IntKind.i64.wrap (s.length:Int)=s.length:=bf
  repeat' first|simp only[results99,ntmps99,al,hq,z0,hneg,List.take_length,List.drop_length,Int.toNat_natCast,Nat.le_refl,Int.le_refl,aG,aH,ax,aB,av,iN,ai,seval,ah]|exact rfl|((first|(refine ad ?_ (ix _) ?_)|(refine ab ?_ (fun _=>ix _) ?_)|(refine ad ?_ (gt _) ?_)|(refine ab ?_ (fun _=>gt _) ?_));(focus (simp only[results99,ntmps99,al,hq,z0,hneg,List.take_length,List.drop_length,Int.toNat_natCast,Nat.le_refl,Int.le_refl,aG,aH,ax,aB,av,iN,ai,seval,ah]<;>exact rfl)))|((refine ac ?_ [q] (p1 q _ _ ?_ ag (by omega)) ?_ ?_);iterate 3 (focus (simp only[aj,results99,ntmps99,al,hq,z0,hneg,List.take_length,List.drop_length,Int.toNat_natCast,Nat.le_refl,Int.le_refl,aG,aH,ax,aB,av,iN,ai,seval,ah]<;>exact rfl)))|(refine cX rfl [q] (y5.dd (ii q _ _)) ?_)|((first|apply Ca|apply Cb)<;>intro hb)|refine Ai (by omega) ?_|(apply Ai<;>intro hb)|fail
  refine tI ?_ ?_ ?_
  ·simp only[ai,seval,ah]
  ·simp only[ai,seval,ah]
  repeat' first|simp only[ak,aj,results144,ntmps144,al,Dg,jQ,Lc,Lo,hq,z0,ai,seval,ah]|exact rfl|refine aa (v:=.any) ?_|(refine Ai (by kernel_rfl) ?_)|(refine jJ rfl (by kernel_rfl) ?_)|refine aA (by decide +kernel) ?_|((first|apply Ca|apply Cb)<;>intro hb)|refine Ai (by omega) ?_|(apply Ai<;>intro hb)|fail
  (refine Fin.give [] [q] ?_ ?_ ?_ ?_ ?_ (aO ho (by simp[aS,tgt]))<;>(try simp only[results99,ntmps99,al,lG,hq,z0,dM,ai,seval,ah])<;>(try simp only[ao])<;>(try omega))
 ·obtain⟨i1,i2,i3,i4⟩:=x2 hr
  rw[i1]at ix
  have hneg:decide (((cK s).length:Int)<0)=false:=bo
  have k1:((cK s).length:Int)<=s.length:=by omega
  have k2:(0:Int)<=((cK s).length:Int):=by omega
  have k3:(cK s).length<=s.length:=by omega
  repeat' first|simp only[results99,ntmps99,al,hq,z0,hneg,k1,k2,k3,i2,i3,Int.toNat_natCast,Nat.le_refl,Int.le_refl,aG,aH,ax,aB,av,iN,ai,seval,ah]|exact rfl|((first|(refine ad ?_ (ix _) ?_)|(refine ab ?_ (fun _=>ix _) ?_)|(refine ad ?_ (gt _) ?_)|(refine ab ?_ (fun _=>gt _) ?_));(focus (simp only[results99,ntmps99,al,hq,z0,hneg,k1,k2,k3,i2,i3,Int.toNat_natCast,Nat.le_refl,Int.le_refl,aG,aH,ax,aB,av,iN,ai,seval,ah]<;>exact rfl)))|((refine ac ?_ [q] (p1 q _ _ ?_ ag (by omega)) ?_ ?_);iterate 3 (focus (simp only[aj,results99,ntmps99,al,hq,z0,hneg,k1,k2,k3,i2,i3,Int.toNat_natCast,Nat.le_refl,Int.le_refl,aG,aH,ax,aB,av,iN,ai,seval,ah]<;>exact rfl)))|(refine cX rfl [q] (y5.dd (ii q _ _)) ?_)|((first|apply Ca|apply Cb)<;>intro hb)|refine Ai (by omega) ?_|(apply Ai<;>intro hb)|fail
  refine tI ?_ ?_ ?_
  ·simp only[ai,seval,ah]
  ·simp only[ai,seval,ah]
  repeat' first|simp only[ak,aj,results144,ntmps144,al,Dg,jQ,Lc,Lo,hq,z0,ai,seval,ah]|exact rfl|refine aa (v:=.any) ?_|(refine Ai (by kernel_rfl) ?_)|(refine jJ rfl (by kernel_rfl) ?_)|refine aA (by decide +kernel) ?_|((first|apply Ca|apply Cb)<;>intro hb)|refine Ai (by omega) ?_|(apply Ai<;>intro hb)|fail
  (refine Fin.give [] [q] ?_ ?_ ?_ ?_ ?_ (aO ho (by simp[aS,tgt]))<;>(try simp only[results99,ntmps99,al,lG,hq,z0,dM,ai,seval,ah])<;>(try simp only[ao])<;>(try omega))
def HV {n r0 r:List UInt8}{l:List Pr}{t:Tk}(h:jt n l r0=some (t,r)):t=⟨t.kind,n,t.attrs,[]⟩ :=
 uY (n:=n) (P:=fun _ _ u _=>u=⟨u.kind,n,u.attrs,[]⟩) (fun _ _ _ _ _=>rfl) (fun _ _ _ _ _ _ _ _ _ _ _ ih=>ih) _ l r0 t r (Nat.le_refl _) h
def r8 (s r:List UInt8)(t:Tk)(hs:s.length<=16384)(hd:(dB s).isSome=true)(h:gS s=some (t,r)) :
  (t.attrs=[] /\ ∀(q:Nat) (M:ap) (nm:Nat),M q=some (bY s)->(∀ z,(M z).isSome=true->z∈[q])->q<nm ->
   Ev cx 99 nm [.ptr q 0 0] M (.tup [.agg [.int .u8 t.kind,.str t.name,.nils,.str t.text],.int .i64 0]) [(q,some (bY r))]) \/
  (t.text=[] /\ ∀(q:Nat) (M:ap) (nm:Nat),M q=some (bY s)->(∀ z,(M z).isSome=true->z∈[q])->q<nm ->
   Ev cx 99 nm [.ptr q 0 0] M (.tup [.agg [.int .u8 t.kind,.str t.name,.own nm 0 t.attrs.length,.str []],.int .i64 0]) [(q,some (bY r)),(nm,some ⟨2,t.attrs.map c9⟩)]):=by
 cases h1:bO 60 s with
 | none =>
  unfold gS at h
  rw[h1]at h
  obtain⟨x,h2,h3⟩:=Option.map_eq_some_iff.1 h
  cases h3
  exact .inl ⟨rfl,fun q M nm a b c=>A7 s x hs hd h1 h2 q M nm a b c⟩
 | some u =>
  obtain rfl:=b8 h1
  have hl:u.length<=16384:=by simp at hs;omega
  have hdu:=(b6 (d:=60) (by decide) (a:=[]) hd rfl).2
  unfold gS at h
  rw[h1]at h
  simp only at h
  unfold rG at h
  split at h
  ·rename_i w hw
   obtain⟨⟨n,r1⟩,h2,h3⟩:=Option.bind_eq_some_iff.1 h
   obtain⟨r2,h4,h5⟩:=Option.map_eq_some_iff.1 h3
   cases h5
   exact .inl ⟨rfl,fun q M nm a b c=>Dx (60::u) u n r hs h1 (fun M nm q a b c=>Oq u w n r1 r hl hw h2 h4 q M nm a b c) q M nm a b c⟩
  ·rename_i hw
   obtain⟨⟨n,r1⟩,h2,h3⟩:=Option.bind_eq_some_iff.1 h
   have hk:=HV h3
   obtain⟨k,n',l,x⟩:=t
   simp only[Tk.mk.injEq,true_and]at hk
   obtain⟨rfl,rfl⟩:=hk
   exact .inr ⟨rfl,fun q M nm a b c=>Dy (60::u) u n' r k l hs h1 (fun M nm q a b c=>Ot u n' r1 r k l hl hdu hw h2 h3 q M nm a b c) q M nm a b c⟩
def r7 (s:List UInt8)(hs:s.length<=16384)(hd:(dB s).isSome=true)(h:gS s=none)(q:Nat)(M:ap)(nm:Nat)(hq:M q=some (bY s))(ho:∀ z,(M z).isSome=true->z∈[q])(hqn:q<nm) :
  Ev cx 99 nm [.ptr q 0 0] M (.tup [.agg [.int .u8 0,.str [],.nils,.str []],.int .i64 80]) [(q,none)]:=by
 cases h1:bO 60 s with
 | none =>
  unfold gS at h
  rw[h1]at h
  exact vU s hs hd h1 (by simpa using h) q M nm hq ho hqn
 | some u =>
  obtain rfl:=b8 h1
  have hl:u.length<=16384:=by simp at hs;omega
  have hdu:=(b6 (d:=60) (by decide) (a:=[]) hd rfl).2
  unfold gS at h
  rw[h1]at h
  simp only at h
  refine yG (60::u) u hs h1 (fun M nm q a b c=>?_) q M nm hq ho hqn
  cases hw:bO 47 u with
  | some w=>exact K9 u w hl hw h q M nm a b c
  | none =>
   unfold rG at h
   rw[hw]at h
   cases h2:e9 u with
   | none=>exact Hq u hl hw h2 q M nm a b c
   | some p =>
    obtain⟨n,r0⟩:=p
    rw[h2]at h
    exact La u n r0 hl hdu hw h2 h q M nm a b c
structure LSt where
 l:List Tk
 rest:List UInt8
def NW (A:List Tk×Nat×Int):V:=.tup [.sl false 4 (A.1.map bE),.int .i64 A.2.1,.int .i64 A.2.2]
def Qj (s:List UInt8)(hs:s.length<=be)(nm:Nat):Ev cx 57 nm [.str s] ap.nil (NW (dJ s)) []:=by
  have hck:=cm s hs
  by_cases hp:aN s=0
  · obtain ⟨hsl,hsd⟩:=cC.1 hp
    have hA:dJ s=gQ s.length [] s:=by unfold dJ;rw[if_neg (by simp[hp])]
    rw[hA]
    generalize hB:gQ s.length [] s=A
    obtain⟨L,at0,e0⟩:=A
    unfold NW
    rw[hp]at hck
    refine bi call57 func57 rfl (by kernel_rfl) rfl ?_;intro b0 hb0;have zF:=Ai results57 ntmps57
    repeat' first|simp only[ak,aj,zF,al,ai,seval,ah]|exact rfl|refine aa (v:=.any) ?_|(first|(refine ad ?_ (hck _) ?_)|(refine ab ?_ (fun _=>hck _) ?_))|((first|apply Ca|apply Cb)<;>intro hb)|refine Ai (by omega) ?_|(apply Ai<;>intro hb)
    (refine aR bR (fun x:LSt=>x.rest.length) (fun x=>gQ s.length x.l x.rest=(L,at0,e0)/\(dB x.rest).isSome=true/\x.rest.length<=s.length/\x.l.length<=512) (b0+16) (fun x=>[(0,.str s),(2,.own (b0+1) 0 x.l.length),(6,.ptr b0 0 0)]) (fun x=>[(b0,⟨1,[[.str x.rest]]⟩),(b0+1,⟨4,x.l.map bE⟩)]) (⟨[],s⟩) [some (b0+176),none] ?_ ?_ ?_ ?_;rotate_left 1;(focus (show b0<=_;omega));(focus (refine⟨?_,?_⟩<;>(try simp only[aX,aL,Lo,List.length_nil,ai,seval,ah,ao])<;>(try omega)));rotate_left 1)
    · exact⟨hB,hsd,Nat.le_refl _,Nat.zero_le _⟩
    · rintro ⟨xl,xr⟩ ⟨g1,g2,g3,g4⟩
      dsimp only at g1 g2 g3 g4 ⊢
      have hnl:(xl.map bE).length=xl.length:=Lm _
      by_cases hnil:xr=[]
      · subst hnil
        rw[kX]at g1
        cases g1
        have hne:(([]:List UInt8) != [])=false:=by decide
        (repeat' first|simp only[ak,aj,zF,al,hne,aF,hnl,List.take_of_length_le,Nat.le_refl,ai,seval,ah]|exact rfl|refine aa (v:=.any) ?_|((first|apply Ca|apply Cb)<;>intro hb)|refine Ai (by omega) ?_|(apply Ai<;>intro hb)|refine Fin.pure ?_ ?_ ?_|simp only[ao])
      · have hne:(xr==[])=false:=by simpa using hnil
        have hw1:IntKind.i64.wrap ((s.length:Int)-(xr.length:Int))=((s.length-xr.length:Nat):Int):=by rw[bf];omega
        by_cases hm:512<=xl.length
        · have hge:decide ((512:Int)<=(xl.length:Int))=true:=cn
          have hge':decide ((xl.length:Int) ≥ (512:Int))=true:=cn
          rw[ri hnil hm]at g1
          cases g1
          cases ho:gS xr with
          | none =>
            have hone:=r7 xr (by omega) g2 ho
            unfold bY at hone
            (repeat' first|simp only[ak,aj,zF,al,hne,Bf,hw1,hge,hnl,aF,ai,seval,ah]|exact rfl|refine aa (v:=.any) ?_|(refine ac ?_ [b0] (hone b0 _ _ ?_ ag (by omega)) ?_ ?_)|((first|apply Ca|apply Cb)<;>intro hb)|refine Ai (by omega) ?_|(apply Ai<;>intro hb)|refine Fin.pure ?_ ?_ ?_|simp only[ao])
          | some p =>
            obtain⟨t,r⟩:=p
            rcases r8 xr r t (by omega) g2 ho with ⟨ha,hone⟩|⟨ha,hone⟩
            · unfold bY at hone
              (repeat' first|simp only[ak,aj,zF,al,hne,Bf,hw1,hge,hnl,aF,ai,seval,ah]|exact rfl|refine aa (v:=.any) ?_|(refine ac ?_ [b0] (hone b0 _ _ ?_ ag (by omega)) ?_ ?_)|((first|apply Ca|apply Cb)<;>intro hb)|refine Ai (by omega) ?_|(apply Ai<;>intro hb)|refine Fin.pure ?_ ?_ ?_|simp only[ao])
            · unfold bY at hone
              (repeat' first|simp only[ak,aj,zF,al,au,hne,Bf,hw1,hge,hnl,aF,ai,seval,ah]|exact rfl|refine aa (v:=.any) ?_|(refine ac ?_ [b0] (hone b0 _ _ ?_ ag (by omega)) ?_ ?_)|((first|apply Ca|apply Cb)<;>intro hb)|refine Ai (by omega) ?_|(apply Ai<;>intro hb)|refine Fin.pure ?_ ?_ ?_|simp only[ao])
        · have hge:decide ((512:Int)<=(xl.length:Int))=false:=bo
          cases ho:gS xr with
          | none =>
            rw[uu hnil (by omega) ho]at g1
            cases g1
            have hone:=r7 xr (by omega) g2 ho
            unfold bY at hone
            (repeat' first|simp only[ak,aj,zF,al,hne,Bf,hw1,hge,hnl,aF,ai,seval,ah]|exact rfl|refine aa (v:=.any) ?_|(refine ac ?_ [b0] (hone b0 _ _ ?_ ag (by omega)) ?_ ?_)|((first|apply Ca|apply Cb)<;>intro hb)|refine Ai (by omega) ?_|(apply Ai<;>intro hb)|refine Fin.pure ?_ ?_ ?_|simp only[ao])
          | some p =>
            obtain⟨t,r⟩:=p
            have hlt:=yx hnil ho
            have hnl1:(xl++[t]).length=xl.length+1:=by simp
            have hmx:xl.length<512:=by omega
            have hnx:xl.map bE++[bE t]=(xl++[t]).map bE:=by simp
            have hle:∀(k:Nat) (n x:List UInt8) (a:List Pr) (v:V),v.le (.sl false 2 (a.map c9))->jP (xl.map bE++[[.int .u8 k,.str n,v,.str x]]) ((xl++[(⟨k,n,a,x⟩:Tk)]).map bE):=fun k n x a v hv=>by
              rw[List.map_append]
              refine mY ⟨⟨V.le_refl _,V.le_refl _,hv,V.le_refl _,trivial⟩,trivial⟩
            have h16z:decide ((0:Int)>16)=false:=by decide
            rcases r8 xr r t (by omega) g2 ho with ⟨ha,hone⟩|⟨ha,hone⟩
            · obtain⟨k,n,l,x⟩:=t
              dsimp only at ha
              subst ha
              obtain⟨k1,k2,k3,k4,k5⟩:=yy hnil ho g2 (by omega) (Nat.zero_le _)
              rw[pX hnil (by omega) ho (Nat.zero_le _)]at g1
              unfold bY at hone
              repeat' first|simp only[ak,aj,zF,al,hne,Bf,hw1,hge,hnl,aF,h16z,ai,seval,ah]|exact rfl|refine aa (v:=.any) ?_|(refine ac ?_ [b0] (hone b0 _ _ ?_ ag (by omega)) ?_ ?_)|((first|apply Ca|apply Cb)<;>intro hb)|refine Ai (by omega) ?_|(apply Ai<;>intro hb)
              all_goals ((refine fx bR (⟨xl++[⟨k,n,[],x⟩],r⟩) [some b0,some (b0+624)] ?_ ?_ ?_ ?_;rotate_left 2;(focus (show b0<=_;omega));(focus (refine⟨?_,?_⟩<;>(try simp only[aX,kf,aL,ay,aF,hnx,hnl1,bE,Lo,iK _ _ (aF _),fY _ _ (aF _),Lm,ai,seval,ah,ao])<;>(try omega)))))
              all_goals (first|exact⟨g1,k2,by show r.length<=s.length;omega,by show(xl++[_]).length<=512;simp;omega⟩|(show r.length<xr.length;omega)|exact .inr (hle _ _ _ _ _ (by simp[V.le]))|exact .inr (hle _ _ _ _ _ (V.le_refl _))|skip)
            · obtain⟨k,n,l,x⟩:=t
              dsimp only at ha hone
              subst ha
              by_cases h16:16<l.length
              · rw[oT hnil (by omega) ho h16]at g1
                cases g1
                have h16d:decide ((16:Int)<(l.length:Int))=true:=cn
                unfold bY at hone
                (repeat' first|simp only[ak,aj,zF,al,au,hne,Bf,hw1,hge,hnl,aF,h16d,Lm,ai,seval,ah]|exact rfl|refine aa (v:=.any) ?_|(refine ac ?_ [b0] (hone b0 _ _ ?_ ag (by omega)) ?_ ?_)|((first|apply Ca|apply Cb)<;>intro hb)|refine Ai (by omega) ?_|(apply Ai<;>intro hb)|refine Fin.pure ?_ ?_ ?_|simp only[ao])
              · have h16d:decide ((16:Int)<(l.length:Int))=false:=bo
                obtain⟨k1,k2,k3,k4,k5⟩:=yy hnil ho g2 (by omega) (show l.length<=16 by omega)
                rw[pX hnil (by omega) ho (show l.length<=16 by omega)]at g1
                unfold bY at hone
                have htp:(l.map c9).take l.length=l.map c9:=List.take_of_length_le (by simp)
                repeat' first|simp only[ak,aj,zF,al,au,hne,Bf,hw1,hge,hnl,aF,ay,h16d,Lm,ai,seval,ah]|exact rfl|refine aa (v:=.any) ?_|(refine ac ?_ [b0] (hone b0 _ _ ?_ ag (by omega)) ?_ ?_)|((first|apply Ca|apply Cb)<;>intro hb)|refine Ai (by omega) ?_|(apply Ai<;>intro hb)
                all_goals ((refine fx bR (⟨xl++[⟨k,n,l,[]⟩],r⟩) [some b0,some (b0+624)] ?_ ?_ ?_ ?_;rotate_left 2;(focus (show b0<=_;omega));(focus (refine⟨?_,?_⟩<;>(try simp only[aX,kf,aL,ay,aF,hnx,hnl1,htp,bE,iK _ _ (aF _),fY _ _ (aF _),Lm,ai,seval,ah,ao])<;>(try omega)))))
                all_goals (first|exact⟨g1,k2,by show r.length<=s.length;omega,by show(xl++[_]).length<=512;simp;omega⟩|(show r.length<xr.length;omega)|exact .inr (hle _ _ _ _ _ (by simp[V.le]))|exact .inr (hle _ _ _ _ _ (V.le_refl _))|skip)
  · have hA:dJ s=([],0,aN s):=by unfold dJ;rw[if_pos (by simpa using hp)]
    have hb:(aN s != 0)=true:=by simpa using hp
    rw[hA]
    unfold NW
    refine bi call57 func57 rfl (by kernel_rfl) rfl ?_;intro b0 hb0;have zF:=Ai results57 ntmps57
    (repeat' first|simp only[ak,aj,zF,al,hb,ai,seval,ah]|exact rfl|refine aa (v:=.any) ?_|(first|(refine ad ?_ (hck _) ?_)|(refine ab ?_ (fun _=>hck _) ?_))|((first|apply Ca|apply Cb)<;>intro hb)|refine Ai (by omega) ?_|(apply Ai<;>intro hb)|refine Fin.pure ?_ ?_ ?_|simp only[ao])
end Go.Proofs.YtlnlopnpcmahgaaGreatDoor
namespace Go.Proofs.YtlnlopnpcmahgaaGreatDoor
set_option maxRecDepth 100000
set_option maxHeartbeats 32000000
open Go Go.RowKit Go.Lib
def qg:Nat->List UInt8->Option (List UInt8)
 | _,[]=>some []
 | 0,_::_=>none
 | n+1,c::r=>if c=60 then none else if c=38 then (match eg 59 r with|none=>none|some p=>match ce p.1 with|none=>none|some x=>(qg n p.2).map (x ++ ·)) else (qg n r).map (c :: ·)
def qh:∀(n:Nat) (s:List UInt8),s.length<=n->bJ s=qg n s
 | n,[],_=>by rw[im];cases n<;>rfl
 | 0,c::r,h=>by simp at h
 | n+1,c::r,h=>by
  have hl:r.length<=n:=by simpa using h
  by_cases h1:c=60
  ·subst h1;rw[nd];rfl
  by_cases h2:c=38
  ·subst h2
   cases hc:eg 59 r with
   | none=>rw[jX hc];simp[qg,hc]
   | some p =>
    obtain⟨a,b⟩:=p
    have:=tD hc
    cases hm:ce a with
    | none=>rw[lc hc hm];simp[qg,hc,hm]
    | some x=>rw[jB hc hm,qh n b (by omega)];simp[qg,hc,hm]
  ·rw[eR h1 h2,qh n r hl];simp[qg,h1,h2]
def D6 (s:List UInt8):Option (List UInt8×List UInt8):=(ru s).bind fun p=>(qg p.1.length (p.1.map cP)).map fun v=>(v,p.2)
def H6 (s:List UInt8):gU s=D6 s:=by
 unfold gU D6 u6
 congr 1
 funext p
 rw[qh p.1.length _ (by simp)]
def IA (s:List UInt8):Option (Pr×List UInt8):=(e9 s).bind fun p=>(bO 61 (aW p.2)).bind fun t=>(D6 (aW t)).map fun q=>(⟨p.1,q.1⟩,q.2)
def zm (s:List UInt8):gy s=IA s:=by
 unfold gy IA
 congr 1
 funext p
 congr 1
 funext t
 rw[H6]
def Br:Nat->List UInt8->List Pr->List UInt8->Option (Tk×List UInt8)
 | 0,_,_,_=>none
 | k+1,n,l,s=>match j7 (aW s) with
  | some p=>some (⟨p.1,n,l,[]⟩,p.2)
  | none=>if (aW s).length<s.length then (match IA (aW s) with
   | none=>none
   | some p=>if (l.any fun b=>p.1.name==b.name)=true then none else Br k n (l++[p.1]) p.2) else none
def OC:∀(k:Nat) (n:List UInt8) (l:List Pr) (s:List UInt8),s.length<=k->jt n l s=Br (k+1) n l s:=by
 intro k
 induction k with
 | zero =>
  intro n l s h
  obtain rfl:=List.length_eq_zero_iff.1 (Nat.le_zero.1 h)
  rw[lV (by rfl) (by simp[aW])]
  rfl
 | succ k ih =>
  intro n l s h
  have hs:=dD s
  cases he:j7 (aW s) with
  | some p =>
   obtain⟨m,t⟩:=p
   rw[kE he]
   conv=>rhs;unfold Br
   simp only[he]
  | none =>
   by_cases hg:(aW s).length<s.length
   ·cases ha:gy (aW s) with
    | none =>
     rw[sR he ha]
     conv=>rhs;unfold Br
     rw[zm]at ha
     simp only[he,if_pos hg,ha]
    | some p =>
     obtain⟨a,r⟩:=p
     have hl:=lp ha
     have ha':=ha
     rw[zm]at ha'
     cases hd:l.any fun b=>a.name==b.name with
     | true =>
      rw[nQ he ha hd]
      conv=>rhs;unfold Br
      simp only[he,if_pos hg,ha',hd,if_true]
     | false =>
      rw[lj he hg ha hd,ih _ _ r (by omega)]
      conv=>rhs;unfold Br
      simp only[he,if_pos hg,ha',hd,Bool.false_eq_true,if_false]
   ·rw[lV he hg]
    conv=>rhs;unfold Br
    simp only[he,if_neg hg]
def QE (s:List UInt8):Option (Tk×List UInt8) :=
 match bO 47 s with
 | some t=>(e9 t).bind fun p=>(bO 62 (aW p.2)).map fun r=>(⟨2,p.1,[],[]⟩,r)
 | none=>(e9 s).bind fun p=>Br (p.2.length+1) p.1 [] p.2
def OE (s:List UInt8):rG s=QE s:=by
 unfold rG QE
 cases bO 47 s with
 | some t=>rfl
 | none =>
  simp only
  congr 1
  funext p
  rw[OC p.2.length _ _ _ (Nat.le_refl _)]
def Qv (s:List UInt8):Option (Tk×List UInt8) :=
 match bO 60 s with
 | some t=>QE t
 | none=>(qg (cK s).length (cK s)).map fun x=>(⟨4,[],[],x⟩,fR s)
def E3 (s:List UInt8):gS s=Qv s:=by
 unfold gS Qv
 cases bO 60 s with
 | some t=>exact OE t
 | none =>
  simp only
  rw[qh _ _ (Nat.le_refl _)]
def C6:Nat->Nat->List Tk->List UInt8->List Tk×Nat×Int
 | 0,_,l,_=>(l,0,0)
 | k+1,n,l,s=>if s=[] then (l,0,0) else if 512<=l.length then ([],n-s.length,4) else match Qv s with
  | none=>([],n-s.length,80)
  | some p=>if 16<p.1.attrs.length then ([],n-s.length,4) else C6 k n (l++[p.1]) p.2
def NV:∀(k n:Nat) (l:List Tk) (s:List UInt8),s.length<=k->gQ n l s=C6 (k+1) n l s:=by
 intro k
 induction k with
 | zero =>
  intro n l s h
  obtain rfl:=List.length_eq_zero_iff.1 (Nat.le_zero.1 h)
  rw[kX];rfl
 | succ k ih =>
  intro n l s h
  by_cases hs:s=[]
  ·subst hs;rw[kX];rfl
  ·by_cases hm:512<=l.length
   ·rw[ri hs hm]
    conv=>rhs;unfold C6
    rw[if_neg hs,if_pos hm]
   ·cases ho:gS s with
    | none =>
     rw[uu hs (by omega) ho]
     rw[E3]at ho
     conv=>rhs;unfold C6
     simp only[if_neg hs,if_neg hm,ho]
    | some p =>
     obtain⟨t,r⟩:=p
     have hl:=yx hs ho
     have ho':=ho
     rw[E3]at ho'
     by_cases ha:16<t.attrs.length
     ·rw[oT hs (by omega) ho ha]
      conv=>rhs;unfold C6
      simp only[if_neg hs,if_neg hm,ho',if_pos ha]
     ·rw[pX hs (by omega) ho (by omega),ih _ _ r (by omega)]
      conv=>rhs;unfold C6
      simp only[if_neg hs,if_neg hm,ho',if_neg ha]
def Qi (s:List UInt8):List Tk×Nat×Int:=if aN s≠0 then ([],0,aN s) else C6 (s.length+1) s.length [] s
def NX (s:List UInt8):dJ s=Qi s:=by
 unfold dJ Qi
 rw[NV s.length _ _ _ (Nat.le_refl _)]
end Go.Proofs.YtlnlopnpcmahgaaGreatDoor
namespace Go.Proofs.YtlnlopnpcmahgaaGreatDoor
set_option maxRecDepth 100000
set_option maxHeartbeats 32000000
open Go Go.RowKit Vm Go.Lib Tryz
open Vm renaming ba->Ca,bh->Cb
open And renaming intro->Ai
open List renaming length_map->Lm,not_mem_nil->Ln,map_nil->Lo,map_cons->Lc,mem_cons->Lk
open Bool renaming not_false->Bf,not_true->Bt
def uP {α:Type}(a b:List α)(k:Nat):Prop:=∀ i,i<k->a[i]? = b[i]?
def Bg {α:Type}{a b:List α}(hl:a.length=b.length)(h:uP a b a.length):a=b:=by
 refine List.ext_getElem? fun i=>?_
 by_cases hi:i<a.length
 ·exact h i hi
 ·rw[List.getElem?_eq_none (by omega),List.getElem?_eq_none (by omega)]
def sa {α:Type}{a b:List α}{k:Nat}{x:α}(h:uP a b k)(ha:a[k]? = some x)(hb:b[k]? = some x):uP a b (k+1):=by
 intro i hi
 by_cases e:i=k
 ·subst e;rw[ha,hb]
 ·exact h i (by omega)
def E9 {α:Type}{a b:List α}{k:Nat}{x y:α}(ha:a[k]? = some x)(hb:b[k]? = some y)(h:x≠y):a≠b:=by
 rintro rfl
 rw[ha]at hb;cases hb;exact h rfl
def ur {n m:Nat}(h:n=m):((n:Int) !=(m:Int))=false:=by subst h;simp
def ut {n m:Nat}(h:n≠m):((n:Int) !=(m:Int))=true:=by rw[bne_iff_ne];omega
def B4 {l:List Pr}{a:Pr}(h:a∈l):(jd a).length<=(bD l).length:=by
 unfold bD
 rw[List.length_flatMap]
 exact uX (f:=fun x=>(jd x).length) h
def H3 {l:List Tk}{t:Tk}(h:t∈l):(dV t).length<=(bu l).length:=by
 unfold bu
 rw[List.length_flatMap]
 exact uX (f:=fun x=>(dV x).length) h
def LW {t:Tk}(ht:cR t=true){n:Nat}(hn:(dV t).length<=n):t.okTo (n+16):=by
 obtain⟨k,m,l,x⟩:=t
 unfold cR at ht
 dsimp only at ht
 unfold dV at hn
 dsimp only at hn
 have hx:=(cj false x).1
 split at ht
 ·rename_i hk
  rw[if_neg (show ¬ k=4 by omega),if_neg (show ¬ k=2 by omega)]at hn
  simp only[Bool.and_eq_true,List.isEmpty_iff]at ht
  obtain⟨⟨_,h2⟩,rfl⟩:=ht
  have h16:=(eD.1 h2).1
  simp only[List.length_append,List.length_cons,List.length_nil]at hn
  refine⟨by show l.length<=n+16;omega,by show m.length<=n+16;omega,by simp,fun a ha=>?_⟩
  have h3:=B4 ha
  have h4:=(cj true a.value).1
  simp only[jd,List.length_append,List.length_cons,List.length_nil]at h3
  omega
 ·split at ht
  ·rename_i hk
   subst hk
   rw[if_neg (by decide),if_pos rfl]at hn
   simp only[Bool.and_eq_true,List.isEmpty_iff]at ht
   obtain⟨⟨_,rfl⟩,rfl⟩:=ht
   simp only[List.length_append,List.length_cons,List.length_nil]at hn
   exact⟨by simp,by show m.length<=n+16;omega,by simp,fun a ha=>by simp at ha⟩
  ·split at ht
   ·rename_i hk
    subst hk
    rw[if_pos rfl]at hn
    simp only[Bool.and_eq_true,List.isEmpty_iff]at ht
    obtain⟨⟨⟨rfl,rfl⟩,_⟩,_⟩:=ht
    exact⟨by simp,by simp,by show x.length<=n+16;omega,fun a ha=>by simp at ha⟩
   ·cases ht
def E2 {t:Tk}{a b:Nat}(h:t.okTo a)(hab:a<=b):t.okTo b:=by
 obtain⟨h1,h2,h3,h4⟩:=h
 exact⟨by omega,by omega,by omega,fun x hx=>by have:=h4 x hx;omega⟩
def AP {s:List UInt8}(h:(dJ s).2.2=0):∀ t∈(dJ s).1,t.okTo (6*s.length+16):=by
 obtain⟨h1,_,_,_,_,h6⟩:=(ER s).1 h
 intro t ht
 exact LW (h1 t ht) (Nat.le_trans (H3 ht) h6)
def Bv {t:Tk}(ht:cR t=true):t.attrs.length<=16:=by
 unfold cR at ht
 split at ht
 ·simp only[Bool.and_eq_true]at ht
  exact(eD.1 ht.1.2).1
 ·split at ht
  ·simp only[Bool.and_eq_true,List.isEmpty_iff]at ht
   rw[ht.1.2];simp
  ·split at ht
   ·simp only[Bool.and_eq_true,List.isEmpty_iff]at ht
    rw[ht.1.1.2];simp
   ·cases ht
end Go.Proofs.YtlnlopnpcmahgaaGreatDoor
