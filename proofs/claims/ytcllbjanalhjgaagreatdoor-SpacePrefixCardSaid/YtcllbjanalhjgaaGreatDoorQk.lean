/-
 Texts joined: XEl,XEm,XLt,XNc,XNd,XNe,XNf.
-/
import Derived.Test.YtcllbjanalhjgaaGreatDoorQj
import Derived.Test.YtcllbjanalhjgaaGreatDoorQi
import Derived.Test.YtcllbjanalhjgaaGreatDoorQf
import Derived.Test.YtcllbjanalhjgaaGreatDoorQe
import Derived.Test.YtcllbjanalhjgaaGreatDoorQh
namespace Go.Proofs.YtcllbjanalhjgaaGreatDoor
set_option maxRecDepth 100000
set_option maxHeartbeats 32000000
set_option linter.unusedSimpArgs false
set_option linter.unusedVariables false
open Go Go.RowKit Vm Go.Lib Tryz
open Vm renaming be→Ca,bo→Cb
open And renaming intro→Ai
open List renaming length_map→Lm,not_mem_nil→Ln,map_nil→Lo,map_cons→Lc,mem_cons→Lk
open Bool renaming not_false→Bf,not_true→Bt
theorem vY {s:List UInt8}{k:Nat}{c:UInt8}(h:qB s k)(hc:s[k]? = some c)(hp:iM (k==0) c=true):qB s (k+1):=by
 intro i x hi hx
 by_cases e:i=k
 ·subst e;rw[hc]at hx;cases hx;exact hp
 ·exact h i x (by omega) hx
theorem HA (k:Nat):((k:Int)==0)=(k==0):=by
 rw[Bool.eq_iff_iff,beq_iff_eq,beq_iff_eq];omega
theorem Bo {s:List UInt8}(h:s≠[]):s.isEmpty=false:=by cases s with|nil=>exact absurd rfl h|cons=>rfl
theorem ig (s:List UInt8)(hs:s.length≤bk)(nm:Nat):Ev cx 16 nm [.str s] ao.nil (.bool (cU s)) []:=by
 unfold bk at hs
 have hb:(s==[])=s.isEmpty:=by cases s<;>rfl
 refine ay rfl (fun cargs w=>call16 cargs w) func16 rfl mixed (by kernel_rfl) rfl ?_;intro b0 hb0
 repeat' first|simp only[am,ah,results16,ntmps16,ap,hb,ag,seval,ae]|exact rfl|refine aa (v:=.any) ?_|((first|apply Ca|apply Cb)<;>intro hb)|refine Ai (by omega) ?_|(apply Ai<;>intro hb)
 (refine aV cm (fun x:Nat=>s.length-x) (fun x=>x≤s.length∧qB s x) (b0+16) (fun x=>[(0,.str s),(3,.bool (!s.isEmpty)),(8,.int .i64 s.length),(9,.int .i64 x)]) (fun x=>[]) (0) [] ?_ ?_ ?_ ?_;rotate_left 1;(focus (show b0≤_;omega));(focus (refine⟨?_,?_⟩<;>(try simp only[bj,ag,seval,ae,au])<;>(try omega)));rotate_left 1)
 ·exact⟨Nat.zero_le _,fun i c hi=>by omega⟩
 ·rintro k ⟨hk,hn⟩
  by_cases hlt:k<s.length
  ·obtain⟨c,hc⟩:∃ c,s[k]? = some c:=⟨_,List.getElem?_eq_getElem hlt⟩
   have hne:s≠[]:=by rintro rfl;simp at hlt
   have hie:=Bo hne
   have hd:decide (k<s.length)=true:=decide_eq_true hlt
   have hwk:IntKind.i64.wrap ((k:Int)+1)=((k+1:Nat):Int):=aR (by omega) (by omega)
   have hle:=wa c (k==0)
   have qz:=HA k
   cases hp:iM (k==0) c with
   | false =>
    have hnf:=yh hc hp
    rw[hp]at hle
    (repeat' first|simp only[am,ah,results16,ntmps16,ap,hc,hd,hlt,hie,hnf,qz,ag,seval,ae]|exact rfl|refine aa (v:=.any) ?_|(first|(refine ac ?_ (hle _) ?_)|(refine ab ?_ (fun _=>hle _) ?_))|((first|apply Ca|apply Cb)<;>intro hb)|refine Ai (by omega) ?_|(apply Ai<;>intro hb)|refine Fin.pure ?_ ?_ ?_|simp only[au])
   | true =>
    have hn':=vY hn hc hp
    rw[hp]at hle
    repeat' first|simp only[am,ah,results16,ntmps16,ap,hc,hd,hlt,hwk,hie,qz,ag,seval,ae]|exact rfl|refine aa (v:=.any) ?_|(first|(refine ac ?_ (hle _) ?_)|(refine ab ?_ (fun _=>hle _) ?_))|((first|apply Ca|apply Cb)<;>intro hb)|refine Ai (by omega) ?_|(apply Ai<;>intro hb)
    all_goals ((refine aJ cm (k+1) [] ?_ ?_ ?_ ?_;rotate_left 2;(focus (show b0≤_;omega));(focus (refine⟨?_,?_⟩<;>(try simp only[bj,hwk,hie,ag,seval,ae,au])<;>(try omega)))))
    all_goals (first|(show s.length-(k+1)<s.length-k;omega)|exact⟨hlt,hn'⟩|skip)
  ·have hke:k=s.length:=by omega
   subst hke
   have hd:decide (s.length<s.length)=false:=decide_eq_false (by omega)
   by_cases hne:s=[]
   ·subst hne
    have e:cU []=false:=rfl
    (repeat' first|simp only[am,ah,results16,ntmps16,ap,hd,List.isEmpty_nil,e,ag,seval,ae]|exact rfl|refine aa (v:=.any) ?_|((first|apply Ca|apply Cb)<;>intro hb)|refine Ai (by omega) ?_|(apply Ai<;>intro hb)|refine Fin.pure ?_ ?_ ?_|simp only[au])
   ·have hie:=Bo hne
    have e:=Ap hne hn
    (repeat' first|simp only[am,ah,results16,ntmps16,ap,hd,hie,e,ag,seval,ae]|exact rfl|refine aa (v:=.any) ?_|((first|apply Ca|apply Cb)<;>intro hb)|refine Ai (by omega) ?_|(apply Ai<;>intro hb)|refine Fin.pure ?_ ?_ ?_|simp only[au])
theorem ia (s:List UInt8)(hs:s.length≤bk)(nm:Nat):Ev cx 88 nm [.str s] ao.nil (.bool (b8 s)) []:=by
 have hev:=mN s 58 hs
 cases hc:dH 58 s with
 | none =>
  have ev:fY 58 s = .tup [.str s,.str [],.bool false]:=by unfold fY;rw[hc]
  have hf:b8 s=cU s:=by unfold b8;rw[hc]
  have hn:=ig s hs
  rw[ev]at hev
  rw[hf]
  cases h:cU s<;>rw[h]at hn<;>(
   refine ay rfl (fun cargs w=>call88 cargs w) func88 rfl mixed (by kernel_rfl) rfl ?_;intro b0 hb0
   (repeat' first|simp only[am,ah,results88,ntmps88,ap,ag,seval,ae]|exact rfl|refine aa (v:=.any) ?_|(first|(refine ac ?_ (hev _) ?_)|(refine ab ?_ (fun _=>hev _) ?_)|(refine ac ?_ (hn _) ?_)|(refine ab ?_ (fun _=>hn _) ?_))|(refine aa (v:=.any) ?_)|((first|apply Ca|apply Cb)<;>intro hb)|refine Ai (by omega) ?_|(apply Ai<;>intro hb)|refine Fin.pure ?_ ?_ ?_|simp only[au]))
 | some p =>
  obtain⟨a,b⟩:=p
  obtain⟨_,_,_,e3⟩:=jg hc
  have ev:fY 58 s = .tup [.str a,.str b,.bool true]:=by unfold fY;rw[hc]
  have hf:b8 s=(cU a&&cU b):=by unfold b8;rw[hc]
  have hn1:=ig a (by omega)
  have hn2:=ig b (by omega)
  rw[ev]at hev
  rw[hf]
  cases h1:cU a<;>rw[h1]at hn1<;>(
   refine ay rfl (fun cargs w=>call88 cargs w) func88 rfl mixed (by kernel_rfl) rfl ?_;intro b0 hb0
   (repeat' first|simp only[am,ah,results88,ntmps88,ap,ag,seval,ae]|exact rfl|refine aa (v:=.any) ?_|((first|(refine ac ?_ (hn1 _) ?_)|(refine ab ?_ (fun _=>hn1 _) ?_));(focus (simp only[results88,ntmps88,ap,ag,seval,ae]<;>exact rfl)))|((first|(refine ac ?_ (hn2 _) ?_)|(refine ab ?_ (fun _=>hn2 _) ?_));(focus (simp only[results88,ntmps88,ap,ag,seval,ae]<;>exact rfl)))|(first|(refine ac ?_ (hev _) ?_)|(refine ab ?_ (fun _=>hev _) ?_))|(refine aa (v:=.any) ?_)|((first|apply Ca|apply Cb)<;>intro hb)|refine Ai (by omega) ?_|(apply Ai<;>intro hb)|refine Fin.pure ?_ ?_ ?_|simp only[au]))
def gi (d:UInt8)(s:List UInt8):V:=match dH d s with
 | none=>.tup [.str [],.str s,.bool false]
 | some (a,b)=>.tup [.str a,.str b,.bool true]
def da (a:Pr):List V:=[.str a.name,.str a.value]
def cZ (t:Tk):List V:=[.int .u8 t.kind,.str t.name,.sl false 2 (t.attrs.map da),.str t.text]
theorem J3 {l:List Pr}{k:Nat}{a:Pr}(h:l[k]? = some a):(l.map da)[k]? = some (da a):=by rw[List.getElem?_map,h];rfl
theorem MW {l:List Tk}{k:Nat}{a:Tk}(h:l[k]? = some a):(l.map cZ)[k]? = some (cZ a):=by rw[List.getElem?_map,h];rfl
theorem aK (l:List Pr):plainLL (l.map da)=true:=cn _ (fun _=>rfl) l
theorem bf (l:List Tk):plainLL (l.map cZ)=true:=cn _ (fun t=>by simp[cZ,plainL,V.plain,aK]) l
theorem fF {α:Type}{p:α→Bool}{l:List α}{k:Nat}{x:α}(h:(l.take k).any p=false)(hc:l[k]? = some x)(hx:p x=false):(l.take (k+1)).any p=false:=by
 obtain⟨hk,rfl⟩:=List.getElem?_eq_some_iff.1 hc
 rw[List.take_succ_eq_append_getElem hk,List.any_append,h]
 simp[hx]
theorem vb {l:List Pr}{k:Nat}{a:Pr}(h:hO l k)(ha:l[k]? = some a)(ho:LI (l.take k) a=true):hO l (k+1):=by
 intro i b hi hb
 by_cases e:i=k
 ·subst e;rw[ha]at hb;cases hb;exact ho
 ·exact h i b (by omega) hb
theorem wP {l:List Pr}{k:Nat}{a:Pr}(ha:l[k]? = some a)(ho:LI (l.take k) a=false):iw l=false:=by
 cases h:iw l with
 | false=>rfl
 | true =>
  have:=(ik.1 h).2 k a (List.getElem?_eq_some_iff.1 ha).1 ha
  rw[ho]at this;cases this
theorem LC (n:Nat)(hn:n≤281474976710656)(M:ao)(nm:Nat)(hM:M nm=none):Ev cx 185 nm [.int .i64 n] M (.own nm 0 n) [(nm,some (rK []))] :=
 Ev.makeNoZero (ps:=Tryz.f185.params) (t:=140) func185 (by kernel_rfl) (by kernel_rfl) (by kernel_rfl) (by kernel_rfl) B7 n hn M nm hM
theorem yx (z:Int)(h0:0≤z)(h1:z≤127)(nm:Nat):Ev cx 165 nm [.int .i32 z] ao.nil (.int .i64 1) []:=by
 have d0:decide (z<0)=false:=decide_eq_false (by omega)
 have d1:decide (z≤127)=true:=decide_eq_true h1
 refine ay rfl (fun cargs w=>call165 cargs w) func165 rfl mixed (by kernel_rfl) rfl ?_;intro b0 hb0
 (repeat' first|simp only[am,ah,results165,ntmps165,ap,d0,d1,ag,seval,ae]|exact rfl|refine aa (v:=.any) ?_|((first|apply Ca|apply Cb)<;>intro hb)|refine Ai (by omega) ?_|(apply Ai<;>intro hb)|refine Fin.pure ?_ ?_ ?_|simp only[au])
theorem JZ (s:Nat)(r:List (List V))(o:Ob):(@Blk.mk s r o).ob=o:=rfl
theorem yr (σ:List (Nat×Nat))(t:TypeId):Blk.ren σ (@Blk.mk 1 [] (.typed t)) = @Blk.mk 1 [] (.typed t):=bi σ [] t
theorem sy (σ:List (Nat×Nat))(t:TypeId):Blk.renOk σ (@Blk.mk 1 [] (.typed t))=true:=aX σ [] t
theorem FO (q n:Nat)(hn:n≤1000000)(M:ao)(nm:Nat)(hq:M q=some (bK true q .nils))(ho:∀ z,(M z).isSome=true→z∈[q])(hqn:q<nm) :
  Ev cx 180 nm [.ptr q 0 0,.int .i64 n] M (.tup []) [(q,some (bK true q (.own nm 0 0))),(nm,some (rK []))]:=by
 have hw:IntKind.i64.wrap 0=0:=by decide
 have hw2:IntKind.i64.wrap (0+(n:Int))=(n:Int):=by rw[aR (by omega) (by omega)];omega
 have hw3:IntKind.i64.wrap (n:Int)=(n:Int):=aR (by omega) (by omega)
 have nq:=eq_false (show ¬ nm=q by omega)
 refine ay rfl (fun cargs w=>call180 cargs w) func180 rfl mixed (by kernel_rfl) rfl ?_;intro b0 hb0
 have lq:q<b0:=av hb0 (by rw[hq];rfl)
 have z0:=aS lq;have z1:=aq lq;have z2:=aI lq;have z3:=aj lq
 repeat' first|simp only[am,ah,results180,ntmps180,ap,dW,hq,z0,z1,z2,z3,hw,hw2,hw3,aQ,Lo,aP,c8,Nat.min_self,List.take_zero,List.all_nil,bu,ag,seval,ae]|exact rfl|refine aa (v:=.any) ?_|(refine jb ?_ (LC n (by omega) ao.nil _ rfl) ?_ ?_)|omega|refine bg (ps:=[(8,12)]) (by decide +kernel) (by simp only[List.forall_mem_cons,List.getD_cons_zero,List.getD_cons_succ,results180,ntmps180,ap,dW,hq,z0,z1,z2,z3,hw,hw2,hw3,aQ,Lo,aP,c8,Nat.min_self,List.take_zero,List.all_nil,bu,ag,seval,ae]<;>(try simp)<;>(try omega)) ?_|refine aG (by decide +kernel) ?_|((first|apply Ca|apply Cb)<;>intro hb)|refine Ai (by omega) ?_|(apply Ai<;>intro hb)
 all_goals ((refine Fin.give [(q,none),(b0+128,some 0)] [] ?_ ?_ ?_ ?_ ?_ (fun q hq=>by have hqq:=ho q hq;first|(simp only[aD,tgt,Lc,Lo,Lk,Ln,or_false]at hqq ⊢;omega)|(simp only[aD,tgt,Lc,Lo,Lk,Ln,or_false]at hqq))<;>(try simp only[results180,ntmps180,ap,JZ,yr,sy,nq,dW,aQ,hq,z0,z1,z2,z3,Lo,ec,ag,seval,ae])<;>(try simp only[au])<;>(try omega)))
theorem E0 (u:Bool)(q n:Nat)(h0:0<n)(hn:n≤1000000)(M:ao)(nm:Nat)(hq:M q=some (bK u q .nils))(ho:∀ z,(M z).isSome=true→z∈[q])(hqn:q<nm) :
  Ev cx 166 nm [.ptr q 0 0,.int .i64 n] M (.tup []) [(q,some (bK true q (.own nm 0 0))),(nm,some (rK []))]:=by
 have d0:decide ((n:Int)<0)=false:=decide_eq_false (by omega)
 have hw:IntKind.i64.wrap 0=0:=by decide
 have hw1:IntKind.i64.wrap (0-0)=0:=by decide
 have d1:decide ((0:Int)<(n:Int))=true:=decide_eq_true (by omega)
 have nq:=eq_false (show ¬ nm=q by omega)
 refine ay rfl (fun cargs w=>call166 cargs w) func166 rfl mixed (by kernel_rfl) rfl ?_;intro b0 hb0
 have lq:q<b0:=av hb0 (by rw[hq];rfl)
 have z0:=aS lq;have z1:=aq lq;have z2:=aI lq;have z3:=aj lq
 repeat' first|simp only[am,ah,results166,ntmps166,ap,dW,hq,z0,z1,z2,z3,d0,d1,hw,hw1,aP,ag,seval,ae]|exact rfl|refine aa (v:=.any) ?_|(refine ad ?_ [q] (E8 u q _ _ ?_ ak (by omega)) ?_ ?_)|(refine ad ?_ [q] (FO q n hn _ _ ?_ ak (by omega)) ?_ ?_)|refine aG (by decide +kernel) ?_|((first|apply Ca|apply Cb)<;>intro hb)|refine Ai (by omega) ?_|(apply Ai<;>intro hb)
 all_goals ((refine Fin.give [(q,none),(b0+304,some 0)] [] ?_ ?_ ?_ ?_ ?_ (fun q hq=>by have hqq:=ho q hq;first|(simp only[aD,tgt,Lc,Lo,Lk,Ln,or_false]at hqq ⊢;omega)|(simp only[aD,tgt,Lc,Lo,Lk,Ln,or_false]at hqq))<;>(try simp only[results166,ntmps166,ap,JZ,yr,sy,nq,dW,aQ,eZ,dD,hq,z0,z1,z2,z3,Lo,ec,ag,seval,ae])<;>(try simp only[au])<;>(try omega)))
theorem yV (z:Int)(hm:gD z=true)(q y:Nat)(bs:List UInt8)(hbs:bs.length≤1000000)(M:ao)(nm:Nat)(hqy:q≠y)(hq:M q=some (bK true q (.own y 0 bs.length)))(hy:M y=some (rK bs))(ho:∀ z,(M z).isSome=true→z∈[q,y])(hqn:q<nm)(hyn:y<nm) :
  Ev cx 168 nm [.ptr q 0 0,.int .i32 z] M (.tup [.int .i64 (encodeRune z).length,.val .nilIface]) [(y,none),(q,some (bK true q (.own nm 0 (bs.length+(encodeRune z).length)))),(nm,some (rK (bs++encodeRune z)))]:=by
 have hel:=bt z
 have hw:IntKind.i64.wrap (((bs.length:Int)+((encodeRune z).length:Int))-(bs.length:Int))=((encodeRune z).length:Int):=by rw[aR (by omega) (by omega)];omega
 have hw':IntKind.i64.wrap (((bs.length+(encodeRune z).length:Nat):Int)-(bs.length:Int))=((encodeRune z).length:Int):=by rw[aR (by omega) (by omega)];omega
 refine ay rfl (fun cargs w=>call168 cargs w) func168 rfl mixed (by kernel_rfl) rfl ?_;intro b0 hb0
 have lq:q<b0:=av hb0 (by rw[hq];rfl)
 have ly:y<b0:=av hb0 (by rw[hy];rfl)
 have y0:=aS ly;have y1:=aq ly;have y2:=aI ly;have y3:=aj ly
 have z0:=aS lq;have z1:=aq lq;have z2:=aI lq;have z3:=aj lq
 have n1:=eq_false hqy;have n4:=eq_false (Ne.symm hqy)
 repeat' first|simp only[am,ah,results168,ntmps168,ap,dW,hq,hy,n1,n4,y0,y1,y2,y3,z0,z1,z2,z3,hw,hw',aP,ag,seval,ae]|exact rfl|refine aa (v:=.any) ?_|(refine ad ?_ [q,y] (rj true q y bs.length bs _ _ hqy ?_ ?_ ak (by omega) (by omega)) ?_ ?_)|(refine ad ?_ [y] (BV z hm y bs hbs _ _ ?_ ak (by omega)) ?_ ?_)|((first|apply Ca|apply Cb)<;>intro hb)|refine Ai (by omega) ?_|(apply Ai<;>intro hb)
 all_goals ((refine Fin.give [(q,none),(b0+256,some 0)] [y] ?_ ?_ ?_ ?_ ?_ (fun q hq=>by have hqq:=ho q hq;first|(simp only[aD,tgt,Lc,Lo,Lk,Ln,or_false]at hqq ⊢;omega)|(simp only[aD,tgt,Lc,Lo,Lk,Ln,or_false]at hqq))<;>(try simp only[results168,ntmps168,ap,dW,aQ,eZ,dD,hq,hy,n1,n4,y0,y1,y2,y3,z0,z1,z2,z3,ec,ag,seval,ae])<;>(try simp only[au])<;>(try omega)))
theorem EY (q y n c:Nat)(bs:List UInt8)(M:ao)(nm:Nat)(hqy:q≠y)(hq:M q=some ⟨2,[[.ptr q 0 0,.ownc y 0 n c]]⟩)(hy:M y=some (rK bs))(ho:∀ z,(M z).isSome=true→z∈[q,y])(hqn:q<nm)(hyn:y<nm) :
  Ev cx 169 nm [.ptr q 0 0] M (.int .i64 c) [(q,some ⟨2,[[.ptr q 0 0,.own y 0 n]]⟩),(y,some (rK bs))]:=by
 refine ay rfl (fun cargs w=>call169 cargs w) func169 rfl mixed (by kernel_rfl) rfl ?_;intro b0 hb0
 have lq:q<b0:=av hb0 (by rw[hq];rfl)
 have ly:y<b0:=av hb0 (by rw[hy];rfl)
 have y0:=aS ly;have y1:=aq ly;have y2:=aI ly;have y3:=aj ly
 have z0:=aS lq;have z1:=aq lq;have z2:=aI lq;have z3:=aj lq
 have n1:=eq_false hqy;have n4:=eq_false (Ne.symm hqy)
 repeat' first|simp only[am,ah,results169,ntmps169,ap,hq,hy,n1,n4,y0,y1,y2,y3,z0,z1,z2,z3,ag,seval,ae]|exact rfl|refine aa (v:=.any) ?_|((first|apply Ca|apply Cb)<;>intro hb)|refine Ai (by omega) ?_|(apply Ai<;>intro hb)
 all_goals ((refine Fin.give [(q,none),(y,none)] [] ?_ ?_ ?_ ?_ ?_ (fun q hq=>by have hqq:=ho q hq;first|(simp only[aD,tgt,Lc,Lo,Lk,Ln,or_false]at hqq ⊢;omega)|(simp only[aD,tgt,Lc,Lo,Lk,Ln,or_false]at hqq))<;>(try simp only[results169,ntmps169,ap,aQ,eZ,dD,hq,hy,n1,n4,y0,y1,y2,y3,z0,z1,z2,z3,ec,ag,seval,ae])<;>(try simp only[au])<;>(try omega)))
theorem Ck (q y:Nat)(bs:List UInt8)(M:ao)(nm:Nat)(hqy:q≠y)(hq:M q=some (bK true q (.own y 0 bs.length)))(hy:M y=some (rK bs))(ho:∀ z,(M z).isSome=true→z∈[q,y])(hqn:q<nm)(hyn:y<nm) :
  J7 cx 169 nm [.ptr q 0 0] M (fun u=>∃ c:Nat,bs.length≤c∧u = .int .i64 c) [(q,some (bK true q (.own y 0 bs.length))),(y,some (rK bs))]:=by
 refine J7.cell (v:=fun c=>.int .i64 c) q 1 y 0 bs.length 2 [.ptr q 0 0,.own y 0 bs.length] instCells hq rfl rfl (by simp[al]) (fun c hc=>?_)
 exact EY q y bs.length c bs _ nm hqy (ao.put_same _ _ _) (by rw[ao.put_ne _ _ (Ne.symm hqy)];exact hy) (fun z hz=>by
  by_cases e:z=q
  ·simp[e]
  ·rw[ao.put_ne _ _ e]at hz;exact ho z hz) hqn hyn
theorem EZ (u:Bool)(q:Nat)(M:ao)(nm:Nat)(hq:M q=some (bK u q .nils))(ho:∀ z,(M z).isSome=true→z∈[q])(hqn:q<nm) :
  Ev cx 169 nm [.ptr q 0 0] M (.int .i64 0) [(q,some (bK u q .nils))]:=by
 cases u
 all_goals (
  first|rw[dx]at hq ⊢ | rw[dW]at hq ⊢
  refine ay rfl (fun cargs w=>call169 cargs w) func169 rfl mixed (by kernel_rfl) rfl ?_;intro b0 hb0
  have lq:q<b0:=av hb0 (by rw[hq];rfl)
  have z0:=aS lq;have z1:=aq lq;have z2:=aI lq;have z3:=aj lq
  repeat' first|simp only[am,ah,results169,ntmps169,ap,hq,z0,z1,z2,z3,ag,seval,ae]|exact rfl|refine aa (v:=.any) ?_|((first|apply Ca|apply Cb)<;>intro hb)|refine Ai (by omega) ?_|(apply Ai<;>intro hb)
  all_goals ((refine Fin.give [(q,none)] [] ?_ ?_ ?_ ?_ ?_ (fun q hq=>by have hqq:=ho q hq;first|(simp only[aD,tgt,Lc,Lo,Lk,Ln,or_false]at hqq ⊢;omega)|(simp only[aD,tgt,Lc,Lo,Lk,Ln,or_false]at hqq))<;>(try simp only[results169,ntmps169,ap,hq,qG,md,z0,z1,z2,z3,ec,ag,seval,ae])<;>(try simp only[au])<;>(try omega))))
theorem rI {z:Int}(hm:gD z=true):(encodeRune z).map b7=encodeRune (fD z):=by
 have hr:=eX hm
 by_cases h:z<128
 ·have key:∀ n:Fin 128,(encodeRune (n.val:Int)).map b7=encodeRune (fD (n.val:Int)):=by decide +kernel
  have:=key ⟨z.toNat,by omega⟩
  have e:((z.toNat:Nat):Int)=z:=by omega
  simpa only[e] using this
 ·have hf:fD z=z:=by
   unfold fD
   rw[if_neg]
   unfold kV
   simp only[decide_eq_true_eq];omega
  rw[hf]
  have hh:=nH (z:=z) (by omega)
  rw[show(encodeRune z).map b7=(encodeRune z).map id from List.map_congr_left (fun c hc=>?_),List.map_id]
  have:=hh c hc
  have hb:gX c=false:=by
   unfold gX
   have hne:∀ d:UInt8,d.toNat<128→(c==d)=false:=fun d hd=>beq_false_of_ne (fun e=>by subst e;omega)
   rw[hne 32 (by decide),hne 9 (by decide),hne 10 (by decide),hne 13 (by decide)];rfl
  unfold b7
  rw[hb];rfl
theorem xp {z:Int}(hm:gD z=true):gD (fD z)=true:=by
 unfold fD
 split
 ·decide
 ·exact hm
theorem Ft (zs:List Int)(h:zs.all gD=true):(enc zs).map b7=enc (zs.map fD):=by
 induction zs with
 | nil=>rfl
 | cons z zs ih =>
  simp only[List.all_cons,Bool.and_eq_true]at h
  have e:enc (z::zs)=encodeRune z++enc zs:=by simp[enc]
  have e2:enc ((z::zs).map fD)=encodeRune (fD z)++enc (zs.map fD):=by simp[enc]
  rw[e,e2,List.map_append,rI h.1,ih h.2]
theorem wV {s:List UInt8}(h:(dN s).isSome=true):(dN (s.map b7)).isSome=true:=by
 obtain⟨zs,hz⟩:=Option.isSome_iff_exists.1 h
 obtain⟨hm,rfl⟩:=(nE s zs).1 hz
 rw[Ft zs hm,gw]
 ·rfl
 ·rw[List.all_map,List.all_eq_true]
  intro z hz
  exact xp (List.all_eq_true.1 hm z hz)
theorem uQ {s:List UInt8}{p:Nat}(hp:p<s.length)(h:(dN (s.drop p)).isSome=true):∃ z:Int,((bp s p).1:Int)=z∧gD z=true∧encodeRune z=(s.drop p).take (bp s p).2∧1≤(bp s p).2∧p+(bp s p).2≤s.length∧(dN (s.drop (p+(bp s p).2))).isSome=true∧(bp s p).2=(encodeRune z).length:=by
 have ho:=GA hp
 have hne:s.drop p≠[]:=by
  intro h
  have:=congrArg List.length h
  simp at this;omega
 split at ho
 ·rw[vj hne ho]at h;cases h
 ·obtain⟨_,hm,he,h1,h2⟩:=lD ho
  have hd:=k9 ho
  rw[hd,List.drop_drop]at h
  simp only[List.length_drop]at h2
  refine⟨_,rfl,hm,he,h1,by omega,by simpa using h,?_⟩
  rw[he,List.length_take,List.length_drop];omega
theorem uW {s:List UInt8}{p k:Nat}{z:Int}(hm:gD z=true)(he:encodeRune z=(s.drop p).take k):(s.take (p+k)).map b7=(s.take p).map b7++encodeRune (fD z):=by
 rw[List.take_add,List.map_append,← he,rI hm]
def rG:List V:=Lib.firstTab.map fun z=>.int .u8 z
def J9:List V:=(List.range 16).flatMap fun i=>[V.int .u8 (Lib.accLo i),.int .u8 (Lib.accHi i)]
theorem Iu:cx.G 4 = .rp rG:=by show ow 4=_;unfold ow;rw[if_pos rfl];rfl
theorem MC:cx.G 5 = .rp J9:=by show ow 5=_;unfold ow;rw[if_neg (by decide),if_pos rfl];rfl
theorem yC (t:List UInt8)(ht:t.length≤1000000)(nm:Nat):Ev cx 177 nm [.str (239::191::189::t)] ao.nil (.tup [.int .i32 65533,.int .i64 3]) []:=by
 have hf:(rG.drop 239)[0]? = some (.int .u8 3):=by kernel_rfl
 have hf':239<rG.length:=by decide +kernel
 have hf2:rG.length=256:=by decide +kernel
 have hl:(239::191::189::t).length=t.length+3:=rfl
 have d1:decide (((t.length+3:Nat):Int)<1)=false:=decide_eq_false (by omega)
 have d2:decide ((t.length:Int)+3<1)=false:=decide_eq_false (by omega)
 have g0:(239::191::189::t)[0]? = some (239:UInt8):=rfl
 have g1:(239::191::189::t)[1]? = some (191:UInt8):=rfl
 have g2:(239::191::189::t)[2]? = some (189:UInt8):=rfl
 have l0:0<t.length+3:=by omega
 have l1:1<t.length+3:=by omega
 have l2:2<t.length+3:=by omega
 have t1:(239:UInt8).toNat=239:=rfl
 have t2:(191:UInt8).toNat=191:=rfl
 have t3:(189:UInt8).toNat=189:=rfl
 have p1:0<(rG.drop 239).length:=by decide +kernel
 have s1:Int.fdiv 3 (2 ^ min 4 IntKind.u8.bits)=0:=by decide +kernel
 have a1:List.take 2 J9=[V.int .u8 128,V.int .u8 191]:=by kernel_rfl
 have p2:2≤J9.length:=by decide +kernel
 have w1:IntKind.u8.wrap ((BitVec.ofInt IntKind.u8.bits 3 &&& BitVec.ofInt IntKind.u8.bits 7).toNat:Int)=3:=by decide +kernel
 have w2:IntKind.i64.wrap 3=3:=by decide
 have d3:decide (((t.length+3:Nat):Int)<3)=false:=decide_eq_false (by omega)
 have d4:decide ((t.length:Int)+3<3)=false:=decide_eq_false (by omega)
 have x1:IntKind.u8.wrap ((BitVec.ofInt IntKind.u8.bits 239 &&& BitVec.ofInt IntKind.u8.bits 15).toNat:Int)=15:=by decide +kernel
 have x2:IntKind.u8.wrap ((BitVec.ofInt IntKind.u8.bits 191 &&& BitVec.ofInt IntKind.u8.bits 63).toNat:Int)=63:=by decide +kernel
 have x3:IntKind.u8.wrap ((BitVec.ofInt IntKind.u8.bits 189 &&& BitVec.ofInt IntKind.u8.bits 63).toNat:Int)=61:=by decide +kernel
 have w3:IntKind.i32.wrap 15=15:=by decide
 have w4:IntKind.i32.wrap 63=63:=by decide
 have w5:IntKind.i32.wrap 61=61:=by decide
 have y1:IntKind.i32.wrap (15*2 ^ min 12 IntKind.i32.bits)=61440:=by decide +kernel
 have y2:IntKind.i32.wrap (63*2 ^ min 6 IntKind.i32.bits)=4032:=by decide +kernel
 have v1:IntKind.i32.wrap ((BitVec.ofInt IntKind.i32.bits 61440 ||| BitVec.ofInt IntKind.i32.bits 4032).toNat:Int)=65472:=by decide +kernel
 have v2:IntKind.i32.wrap ((BitVec.ofInt IntKind.i32.bits 65472 ||| BitVec.ofInt IntKind.i32.bits 61).toNat:Int)=65533:=by decide +kernel
 refine ay rfl (fun cargs w=>call177 cargs w) func177 rfl mixed (by kernel_rfl) rfl ?_;intro b0 hb0
 (repeat' first|simp only[am,ah,results177,ntmps177,ap,Iu,MC,hf,hf',hf2,hl,d1,d2,g0,g1,g2,l0,l1,l2,t1,t2,t3,p1,p2,s1,a1,w1,w2,w3,w4,w5,d3,d4,x1,x2,x3,y1,y2,v1,v2,Int.toNat_zero,Nat.zero_mul,List.drop_zero,ag,seval,ae]|exact rfl|refine aa (v:=.any) ?_|((first|apply Ca|apply Cb)<;>intro hb)|refine Ai (by omega) ?_|(apply Ai<;>intro hb)|refine Fin.pure ?_ ?_ ?_|simp only[au])
theorem Ja (t:List UInt8)(ht:t.length≤1000000)(nm:Nat):Ev cx 163 nm [.str (239::191::189::t)] ao.nil (.tup [.int .i32 65533,.int .i64 3]) []:=by
 have e0:(!((239::191::189::t)==([]:List UInt8)))=true:=rfl
 have e0':((239::191::189::t) !=([]:List UInt8))=true:=rfl
 have hl:(239::191::189::t).length=t.length+3:=rfl
 have g0:(239::191::189::t)[0]? = some (239:UInt8):=rfl
 have l0:0<t.length+3:=by omega
 have t1:(239:UInt8).toNat=239:=rfl
 refine ay rfl (fun cargs w=>call163 cargs w) func163 rfl mixed (by kernel_rfl) rfl ?_;intro b0 hb0
 (repeat' first|simp only[am,ah,results163,ntmps163,ap,e0,e0',hl,g0,l0,t1,ag,seval,ae]|exact rfl|refine aa (v:=.any) ?_|(first|(refine ac ?_ (yC t ht _) ?_)|(refine ab ?_ (fun _=>yC t ht _) ?_))|((first|apply Ca|apply Cb)<;>intro hb)|refine Ai (by omega) ?_|(apply Ai<;>intro hb)|refine Fin.pure ?_ ?_ ?_|simp only[au])
def Bs:V:=.fn 156 []
theorem tQ {s:List UInt8}{p:Nat}(h:(s.take p).map b7=s.take p)(hp:p=s.length):s.map b7=s:=by
 subst hp;rwa[List.take_length]at h
theorem Gw {z:Int}(h:z=9∨z=10∨z=13∨z=32):encodeRune z=[z.toNat.toUInt8]∧0≤z∧z≤127:=by
 refine⟨?_,by omega,by omega⟩
 rcases h with rfl|rfl|rfl|rfl<;>decide +kernel
theorem BI {z:Int}(h0:0≤z)(h:z<128):encodeRune z=[z.toNat.toUInt8]:=by
 have key:∀ n:Fin 128,encodeRune (n.val:Int)=[(n.val:Int).toNat.toUInt8]:=by decide +kernel
 have:=key ⟨z.toNat,by omega⟩
 have e:((z.toNat:Nat):Int)=z:=by omega
 simpa only[e] using this
theorem F8 {z:Int}(h0:0≤z)(h:z<128):IntKind.u8.wrap z=((z.toNat.toUInt8).toNat:Int):=by
 have key:∀ n:Fin 128,IntKind.u8.wrap (n.val:Int)=(((n.val:Int).toNat.toUInt8).toNat:Int):=by decide +kernel
 have:=key ⟨z.toNat,by omega⟩
 have e:((z.toNat:Nat):Int)=z:=by omega
 simpa only[e] using this
theorem AL (σ:List (Nat×Nat))(q y a b:Nat):Blk.ren σ (bK true q (.own y a b))=bK true ((aW σ q).getD q) (.own ((aW σ y).getD y) a b):=by
 simp[bK,Blk.ren,hH,renL,V.ren,plainLL,plainL,V.plain,Ob.ren,instCells]
theorem sx (σ:List (Nat×Nat))(q y a b:Nat)(h1:(aW σ q).isSome=true)(h2:(aW σ y).isSome=true):Blk.renOk σ (bK true q (.own y a b))=true:=by
 simp[bK,Blk.renOk,fR,renOkL,V.renOk,h1,h2,Ob.renOk,instCells]
theorem Ga (s:List UInt8)(hs:s.length≤20000)(hdec:(dN s).isSome=true)(nm:Nat):Ev cx 155 nm [Bs,.str s] ao.nil (.str (s.map b7)) []:=by
  unfold Bs
  refine ay rfl (fun cargs w=>call155 cargs w) func155 rfl mixed (by kernel_rfl) rfl ?_;intro b0 hb0
  repeat' first|simp only[am,ah,results155,ntmps155,ap,ag,seval,ae]|exact rfl|refine aa (v:=.any) ?_|(refine lW (s:=?_) ?_ ?_ ?_;rotate_left 1;(iterate 2 (focus (simp only[results155,ntmps155,ap,ag,seval,ae]<;>exact rfl))))|(refine bh ?_)|(refine ba ?_)|((first|(refine aL (g:=?_) ?_ ?_)|(refine aH (g:=?_) ?_ ?_));rotate_left 1;(focus (simp only[results155,ntmps155,ap,ag,seval,ae]<;>exact rfl)))|((first|apply Ca|apply Cb)<;>intro hb)|refine Ai (by omega) ?_|(apply Ai<;>intro hb)
  (refine aV cm (fun x:Nat=>s.length-x) (fun x=>x≤s.length∧(dN (s.drop x)).isSome=true∧(s.take x).map b7=s.take x) (b0+16) (fun x=>[(0,.fn 156 []),(1,.str s),(5,.ptr (b0+1) 0 0),(14,.ptr b0 0 0)]) (fun x=>[(b0,jH s x),(b0+1,bK false (b0+1) .nils)]) (0) [some (b0+48),some (b0+16)] ?_ ?_ ?_ ?_;rotate_left 1;(focus (show b0≤_;omega));(focus (refine⟨?_,?_⟩<;>(try simp only[bj,fk,dF,dx,qG,md,aU,ag,seval,ae,au])<;>(try omega)));rotate_left 1)
  · exact⟨Nat.zero_le _,by rw[List.drop_zero];exact hdec,rfl⟩
  · rintro p ⟨h1,h2,h3⟩
    by_cases hp:p<s.length
    · obtain ⟨z,hz,hm,he,hk1,hk2,hd2,hk3⟩:=uQ hp h2
      have hmz:=(fP z).1 hm
      have hfe:=Bu z hm
      have htf:=uW hm he
      by_cases hfz:fD z=z
      · have q1:(fD z==z)=true:=by rw[hfz];simp
        have hnx:(s.take (p+(bp s p).2)).map b7=s.take (p+(bp s p).2):=by
          rw[htf,h3,hfz,List.take_add,← he]
        by_cases h65:z=65533
        · subst h65
          have hk3':(bp s p).2=3:=by rw[hk3];decide +kernel
          have hdr:s.drop p=239::191::189::s.drop (p+3):=by
            rw[hk3']at he
            have h4:=List.take_append_drop 3 (s.drop p)
            rw[← he,show encodeRune 65533=[239,191,189] by decide +kernel,List.drop_drop]at h4
            exact h4.symm
          have hodd:=Ja (s.drop (p+3)) (by simp;omega)
          have q3:(fD 65533==65533)=true:=q1
          have hpi:(p:Int)≤(s.length:Int):=by omega
          rw[hfz]at hfe
          repeat' first|simp only[am,ah,results155,ntmps155,ap,hp,h1,hpi,hz,hdr,dx,ag,seval,ae]|exact rfl|refine aa (v:=.any) ?_|(first|(refine ac ?_ (hfe _) ?_)|(refine ab ?_ (fun _=>hfe _) ?_)|(refine ac ?_ (hodd _) ?_)|(refine ab ?_ (fun _=>hodd _) ?_))|(refine gJ (s:=?_) (y:=?_) (p:=?_) ?_ ?_ ?_ ?_;rotate_left 3;(iterate 2 (focus (simp only[results155,ntmps155,ap,hp,h1,hpi,hz,hdr,dx,ag,seval,ae]<;>exact rfl)));(focus (simp only[results155,ntmps155,ap,hp,h1,hpi,hz,hdr,dx,ag,seval,ae]<;>omega)))|(refine bh ?_)|(refine ba ?_)|((first|(refine aL (g:=?_) ?_ ?_)|(refine aH (g:=?_) ?_ ?_));rotate_left 1;(focus (simp only[results155,ntmps155,ap,hp,h1,hpi,hz,hdr,dx,ag,seval,ae]<;>exact rfl)))|refine Ai (by omega) ?_
          all_goals ((refine aJ cm (p+(bp s p).2) [some b0,some (b0+1)] ?_ ?_ ?_ ?_;rotate_left 2;(focus (show b0≤_;omega));(focus (refine⟨?_,?_⟩<;>(try simp only[bj,fk,dF,dx,qG,md,aU,ag,seval,ae,au])<;>(try omega)))))
          all_goals (first|(show s.length-(p+(bp s p).2)<s.length-p;omega)|exact⟨hk2,hd2,hnx⟩|skip)
        · have q2:(!(z==65533))=true:=by rw[beq_false_of_ne h65];rfl
          have q2':(z != 65533)=true:=q2
          repeat' first|simp only[am,ah,results155,ntmps155,ap,hp,hz,q1,q2,q2',dx,ag,seval,ae]|exact rfl|refine aa (v:=.any) ?_|(first|(refine ac ?_ (hfe _) ?_)|(refine ab ?_ (fun _=>hfe _) ?_))|(refine gJ (s:=?_) (y:=?_) (p:=?_) ?_ ?_ ?_ ?_;rotate_left 3;(iterate 2 (focus (simp only[results155,ntmps155,ap,hp,hz,q1,q2,q2',dx,ag,seval,ae]<;>exact rfl)));(focus (simp only[results155,ntmps155,ap,hp,hz,q1,q2,q2',dx,ag,seval,ae]<;>omega)))|(refine bh ?_)|(refine ba ?_)|((first|(refine aL (g:=?_) ?_ ?_)|(refine aH (g:=?_) ?_ ?_));rotate_left 1;(focus (simp only[results155,ntmps155,ap,hp,hz,q1,q2,q2',dx,ag,seval,ae]<;>exact rfl)))|refine Ai (by omega) ?_
          all_goals ((refine aJ cm (p+(bp s p).2) [some b0,some (b0+1)] ?_ ?_ ?_ ?_;rotate_left 2;(focus (show b0≤_;omega));(focus (refine⟨?_,?_⟩<;>(try simp only[bj,fk,dF,dx,qG,md,aU,ag,seval,ae,au])<;>(try omega)))))
          all_goals (first|(show s.length-(p+(bp s p).2)<s.length-p;omega)|exact⟨hk2,hd2,hnx⟩|skip)
      · have hz4:z=9∨z=10∨z=13:=by
          unfold fD kV at hfz
          split at hfz
          · rename_i h;simp only[decide_eq_true_eq]at h;omega
          · exact absurd rfl hfz
        have hf32:fD z=32:=by
          unfold fD kV
          rw[if_pos (by simp only[decide_eq_true_eq];omega)]
        have hen:=Gw (z:=z) (by omega)
        have hk1':(bp s p).2=1:=by rw[hk3,hen.1];rfl
        have q1:((32:Int)==z)=false:=beq_false_of_ne (by omega)
        have q65:(z==65533)=false:=beq_false_of_ne (by omega)
        have hrl:=yx z hen.2.1 hen.2.2
        have hpi:(p:Int)≤(s.length:Int):=by omega
        have hw1:IntKind.i64.wrap ((s.length:Int)+4)=((s.length+4:Nat):Int):=aR (by omega) (by omega)
        have hw2:IntKind.i64.wrap ((p:Int)+1)=((p+1:Nat):Int):=aR (by omega) (by omega)
        have hpi2:((p+1:Nat):Int)≤(s.length:Int):=by omega
        have hp1:p+1≤s.length:=by omega
        have htl:(s.take p).length=p:=by rw[List.length_take];omega
        rw[hf32]at hfe
        have hm32:gD 32=true:=by decide
        have hws:=fun (M':ao) (n':Nat) (a:M' (b0+1)=some (bK true (b0+1) (.own (b0+432) 0 0))) (b:M' (b0+432)=some (rK [])) (d:∀ z,(M' z).isSome=true→z∈[b0+1,b0+432]) (hn1:b0+1<n') (hn2:b0+432<n')=>Hn true (b0+1) (b0+432) [] (s.take p) (by unfold bk;simp;omega) M' n' (by omega) a b d hn1 hn2
        simp only[List.nil_append,List.length_nil,Nat.zero_add,htl]at hws
        have hwr:=fun (M':ao) (n':Nat) (a:M' (b0+1)=some (bK true (b0+1) (.own (b0+496) 0 (s.take p).length))) (b:M' (b0+496)=some (rK (s.take p))) (d:∀ z,(M' z).isSome=true→z∈[b0+1,b0+496]) (hn1:b0+1<n') (hn2:b0+496<n')=>yV 32 hm32 (b0+1) (b0+496) (s.take p) (by omega) M' n' (by omega) a b d hn1 hn2
        have he32:encodeRune 32=[32]:=by decide +kernel
        simp only[htl,he32,List.length_cons,List.length_nil,Nat.zero_add]at hwr
        have hlo:(s.take p++[32]).length=p+1:=by simp;omega
        repeat' first|simp only[am,ah,results155,ntmps155,ap,hp,h1,hp1,hpi,hpi2,hz,q1,q65,hw1,hw2,dx,aP,ag,seval,ae]|exact rfl|refine aa (v:=.any) ?_|(first|(refine ac ?_ (hfe _) ?_)|(refine ab ?_ (fun _=>hfe _) ?_)|(refine ac ?_ (hrl _) ?_)|(refine ab ?_ (fun _=>hrl _) ?_))|(refine ad ?_ [b0+1] (E0 false (b0+1) (s.length+4) (by omega) (by omega) _ _ ?_ ak (by omega)) ?_ ?_)|(refine ad ?_ [b0+1,b0+432] (hws _ _ ?_ ?_ ak (by omega) (by omega)) ?_ ?_)|(refine ad ?_ [b0+1,b0+496] (hwr _ _ ?_ ?_ ak (by omega) (by omega)) ?_ ?_)|(refine gJ (s:=?_) (y:=?_) (p:=?_) ?_ ?_ ?_ ?_;rotate_left 3;(iterate 2 (focus (simp only[results155,ntmps155,ap,hp,h1,hp1,hpi,hpi2,hz,q1,q65,hw1,hw2,dx,aP,ag,seval,ae]<;>exact rfl)));(focus (simp only[results155,ntmps155,ap,hp,h1,hp1,hpi,hpi2,hz,q1,q65,hw1,hw2,dx,aP,ag,seval,ae]<;>omega)))|(refine bh ?_)|(refine ba ?_)|((first|(refine aL (g:=?_) ?_ ?_)|(refine aH (g:=?_) ?_ ?_));rotate_left 1;(focus (simp only[results155,ntmps155,ap,hp,h1,hp1,hpi,hpi2,hz,q1,q65,hw1,hw2,dx,aP,ag,seval,ae]<;>exact rfl)))|refine Ai (by omega) ?_
        have hcap:=fun (M':ao) (n':Nat) (a:M' (b0+1)=some (bK true (b0+1) (.own (b0+560) 0 (s.take p++[32]).length))) (b:M' (b0+560)=some (rK (s.take p++[32]))) (d:∀ z,(M' z).isSome=true→z∈[b0+1,b0+560]) (hn1:b0+1<n') (hn2:b0+560<n')=>Ck (b0+1) (b0+560) (s.take p++[32]) M' n' (by omega) a b d hn1 hn2
        simp only[hlo]at hcap
        refine Cy ?_ [b0+1,b0+560] (hcap _ _ ?_ ?_ ak (by omega) (by omega)) ?_ ?_
        iterate 4 (focus (simp only[ah,ap,ag,seval,ae]<;>exact rfl))
        rintro v ⟨c,hc,rfl⟩
        have hc0:((c:Int)==0)=false:=beq_false_of_ne (by omega)
        repeat' first|simp only[am,ah,results155,ntmps155,ap,hc0,ag,seval,ae]|exact rfl|refine aa (v:=.any) ?_|(refine lW (s:=?_) ?_ ?_ ?_;rotate_left 1;(iterate 2 (focus (simp only[results155,ntmps155,ap,hc0,ag,seval,ae]<;>exact rfl))))|(refine bh ?_)|(refine ba ?_)|((first|(refine aL (g:=?_) ?_ ?_)|(refine aH (g:=?_) ?_ ?_));rotate_left 1;(focus (simp only[results155,ntmps155,ap,hc0,ag,seval,ae]<;>exact rfl)))|refine Ai (by omega) ?_
        obtain⟨r,hr⟩:∃ r,r=s.drop (p+1):=⟨_,rfl⟩
        obtain⟨pre,hpre⟩:∃ u,u=s.take p++[32]:=⟨_,rfl⟩
        rw[h3,hf32,he32,hk1']at htf
        have hfl:s.map b7=pre++r.map b7:=by rw[hpre,hr,← htf,← List.map_append,List.take_append_drop]
        rw[hk1',← hr]at hd2
        rw[← hpre]at hlo
        have hrn:p+1+r.length=s.length:=by rw[hr,List.length_drop];omega
        rw[← hr,← hpre,hfl]
        clear hcap hwr hws hfl hfe htf
        obtain⟨P,hP⟩:∃ P,P=p+1:=⟨_,rfl⟩
        rw[← hP]at hlo hrn
        rw[← hP]
        (refine aV cm (fun x:Nat=>r.length-x) (fun x=>x≤r.length∧(dN (r.drop x)).isSome=true) (b0+16) (fun x=>[(0,.fn 156 []),(5,.ptr (b0+1) 0 0),(68,.ptr b0 0 0)]) (fun x=>[(b0,jH r x),(b0+1,bK true (b0+1) (.own (b0+2) 0 (P+x))),(b0+2,rK (pre++(r.take x).map b7))]) (0) [some (b0+720),some (b0+1),some (b0+560)] ?_ ?_ ?_ ?_;rotate_left 1;(focus (show b0≤_;omega));(focus (refine⟨?_,?_⟩<;>(try simp only[bj,fk,dF,AL,sx,AM,sA,List.take_zero,Lo,List.append_nil,Nat.add_zero,ag,seval,ae,au])<;>(try omega)));rotate_left 1)
        · exact⟨Nat.zero_le _,by rw[List.drop_zero];exact hd2⟩
        · rintro x ⟨g1,g2⟩
          by_cases gx:x<r.length
          · obtain⟨z',gz,gm,ge,gk1,gk2,gd2,gk3⟩:=uQ gx g2
            have gfe:=Bu z' gm
            have gtf:=uW gm ge
            have gfm:=xp gm
            obtain⟨w,hw⟩:∃ w,w=fD z':=⟨_,rfl⟩
            rw[← hw]at gfe gtf gfm
            have gwr:=eX gfm
            have gw0:decide (0≤w)=true:=decide_eq_true (by omega)
            have glo:(pre++(r.take x).map b7).length=P+x:=by rw[List.length_append,Lm,List.length_take,hlo];omega
            have gnx:pre++(r.take x).map b7++encodeRune w=pre++(r.take (x+(bp r x).2)).map b7:=by rw[gtf,List.append_assoc]
            have gkk:(bp r x).2=(encodeRune w).length:=by rw[gk3,hw,← rI gm,Lm]
            rw[gkk]at gnx gd2 gk2 gk1
            by_cases g128:w<128
            · have gd:decide (w<128)=true:=decide_eq_true g128
              have gen:=BI (z:=w) (by omega) g128
              have gu:IntKind.u8.wrap w=((w.toNat.toUInt8).toNat:Int):=F8 (by omega) g128
              have gl1:(encodeRune w).length=1:=by rw[gen];rfl
              rw[gl1]at gnx gd2 gk2 gkk
              rw[gen]at gnx
              have hwb:=fun (M':ao) (n':Nat) (a:M' (b0+1)=some (bK true (b0+1) (.own (b0+2) 0 (pre++(r.take x).map b7).length))) (b:M' (b0+2)=some (rK (pre++(r.take x).map b7))) (d:∀ z,(M' z).isSome=true→z∈[b0+1,b0+2]) (hn1:b0+1<n') (hn2:b0+2<n')=>EH true (b0+1) (b0+2) (pre++(r.take x).map b7) w.toNat.toUInt8 (by unfold bk;omega) M' n' (by omega) a b d hn1 hn2
              simp only[glo,gnx,← gu]at hwb
              repeat' first|simp only[am,ah,results155,ntmps155,ap,gx,g1,gz,gw0,gd,gkk,ag,seval,ae]|exact rfl|refine aa (v:=.any) ?_|(first|(refine ac ?_ (gfe _) ?_)|(refine ab ?_ (fun _=>gfe _) ?_))|(refine ad ?_ [b0+1,b0+2] (hwb _ _ ?_ ?_ ak (by omega) (by omega)) ?_ ?_)|(refine gJ (s:=?_) (y:=?_) (p:=?_) ?_ ?_ ?_ ?_;rotate_left 3;(iterate 2 (focus (simp only[results155,ntmps155,ap,gx,g1,gz,gw0,gd,gkk,ag,seval,ae]<;>exact rfl)));(focus (simp only[results155,ntmps155,ap,gx,g1,gz,gw0,gd,gkk,ag,seval,ae]<;>omega)))|(refine bh ?_)|(refine ba ?_)|((first|(refine aL (g:=?_) ?_ ?_)|(refine aH (g:=?_) ?_ ?_));rotate_left 1;(focus (simp only[results155,ntmps155,ap,gx,g1,gz,gw0,gd,gkk,ag,seval,ae]<;>exact rfl)))|refine Ai (by omega) ?_
              all_goals (first|omega|skip)
              all_goals ((refine aJ cm (x+1) [some b0,some (b0+1),some (b0+240)] ?_ ?_ ?_ ?_;rotate_left 2;(focus (show b0≤_;omega));(focus (refine⟨?_,?_⟩<;>(try simp only[bj,fk,dF,AL,sx,AM,sA,gkk,Nat.add_assoc,ag,seval,ae,au])<;>(try omega)))))
              all_goals (first|(show r.length-(x+1)<r.length-x;omega)|exact⟨gk2,gd2⟩|skip)
            · have gd:decide (w<128)=false:=decide_eq_false g128
              have hwb:=fun (M':ao) (n':Nat) (a:M' (b0+1)=some (bK true (b0+1) (.own (b0+2) 0 (pre++(r.take x).map b7).length))) (b:M' (b0+2)=some (rK (pre++(r.take x).map b7))) (d:∀ z,(M' z).isSome=true→z∈[b0+1,b0+2]) (hn1:b0+1<n') (hn2:b0+2<n')=>yV w gfm (b0+1) (b0+2) (pre++(r.take x).map b7) (by omega) M' n' (by omega) a b d hn1 hn2
              simp only[glo,gnx]at hwb
              repeat' first|simp only[am,ah,results155,ntmps155,ap,gx,g1,gz,gw0,gd,gkk,ag,seval,ae]|exact rfl|refine aa (v:=.any) ?_|(first|(refine ac ?_ (gfe _) ?_)|(refine ab ?_ (fun _=>gfe _) ?_))|(refine ad ?_ [b0+1,b0+2] (hwb _ _ ?_ ?_ ak (by omega) (by omega)) ?_ ?_)|(refine gJ (s:=?_) (y:=?_) (p:=?_) ?_ ?_ ?_ ?_;rotate_left 3;(iterate 2 (focus (simp only[results155,ntmps155,ap,gx,g1,gz,gw0,gd,gkk,ag,seval,ae]<;>exact rfl)));(focus (simp only[results155,ntmps155,ap,gx,g1,gz,gw0,gd,gkk,ag,seval,ae]<;>omega)))|(refine bh ?_)|(refine ba ?_)|((first|(refine aL (g:=?_) ?_ ?_)|(refine aH (g:=?_) ?_ ?_));rotate_left 1;(focus (simp only[results155,ntmps155,ap,gx,g1,gz,gw0,gd,gkk,ag,seval,ae]<;>exact rfl)))|refine Ai (by omega) ?_
              all_goals (first|omega|skip)
              all_goals ((refine aJ cm (x+(encodeRune w).length) [some b0,some (b0+1),some (b0+224)] ?_ ?_ ?_ ?_;rotate_left 2;(focus (show b0≤_;omega));(focus (refine⟨?_,?_⟩<;>(try simp only[bj,fk,dF,AL,sx,AM,sA,gkk,Nat.add_assoc,ag,seval,ae,au])<;>(try omega)))))
              all_goals (first|(show r.length-(x+(encodeRune w).length)<r.length-x;omega)|exact⟨gk2,gd2⟩|skip)
          · have gxe:x=r.length:=by omega
            have gtk:(r.take x)=r:=by rw[gxe,List.take_length]
            have glo:(pre++r.map b7).length=P+x:=by rw[List.length_append,Lm,hlo,gxe]
            rw[gtk]
            have hbs:=fun (M':ao) (n':Nat) (a:M' (b0+1)=some (bK true (b0+1) (.own (b0+2) 0 (pre++r.map b7).length))) (b:M' (b0+2)=some (rK (pre++r.map b7))) (d:∀ z,(M' z).isSome=true→z∈[b0+1,b0+2]) (hn1:b0+1<n') (hn2:b0+2<n')=>E1 true (b0+1) (b0+2) (pre++r.map b7) (by intro h;rw[h]at glo;simp at glo;omega) (by unfold bk;omega) M' n' (by omega) a b d hn1 hn2
            simp only[glo]at hbs
            (repeat' first|simp only[am,ah,results155,ntmps155,ap,gx,ag,seval,ae]|exact rfl|refine aa (v:=.any) ?_|(refine ad ?_ [b0+1,b0+2] (hbs _ _ ?_ ?_ ak (by omega) (by omega)) ?_ ?_)|(refine nK (s:=?_) (y:=?_) (p:=?_) ?_ ?_ ?_ ?_;rotate_left 3;(iterate 2 (focus (simp only[results155,ntmps155,ap,gx,ag,seval,ae]<;>exact rfl)));(focus (simp only[results155,ntmps155,ap,gx,ag,seval,ae]<;>omega)))|(refine bh ?_)|(refine ba ?_)|((first|(refine aL (g:=?_) ?_ ?_)|(refine aH (g:=?_) ?_ ?_));rotate_left 1;(focus (simp only[results155,ntmps155,ap,gx,ag,seval,ae]<;>exact rfl)))|((first|apply Ca|apply Cb)<;>intro hb)|refine Ai (by omega) ?_|(apply Ai<;>intro hb)|refine Fin.pure ?_ ?_ ?_|simp only[au])
    · have hpe:p=s.length:=by omega
      have hr:=tQ h3 hpe
      have hd0:decide ((0:Int)=0)=true:=rfl
      rw[hr]
      (repeat' first|simp only[am,ah,results155,ntmps155,ap,hp,dx,ag,seval,ae]|exact rfl|refine aa (v:=.any) ?_|(refine ad ?_ [b0+1] (EZ false (b0+1) _ _ ?_ ak (by omega)) ?_ ?_)|(refine nK (s:=?_) (y:=?_) (p:=?_) ?_ ?_ ?_ ?_;rotate_left 3;(iterate 2 (focus (simp only[results155,ntmps155,ap,hp,dx,ag,seval,ae]<;>exact rfl)));(focus (simp only[results155,ntmps155,ap,hp,dx,ag,seval,ae]<;>omega)))|(refine bh ?_)|(refine ba ?_)|((first|(refine aL (g:=?_) ?_ ?_)|(refine aH (g:=?_) ?_ ?_));rotate_left 1;(focus (simp only[results155,ntmps155,ap,hp,dx,ag,seval,ae]<;>exact rfl)))|((first|apply Ca|apply Cb)<;>intro hb)|refine Ai (by omega) ?_|(apply Ai<;>intro hb)|refine Fin.pure ?_ ?_ ?_|simp only[au])
end Go.Proofs.YtcllbjanalhjgaaGreatDoor
