/-
 Texts joined: XEl,XEm,XLt,XNc,XNd,XNe,XNf.
-/
import Derived.Test.YtidmkaalhmeflaaGreatDoorQj
import Derived.Test.YtidmkaalhmeflaaGreatDoorQi
import Derived.Test.YtidmkaalhmeflaaGreatDoorQf
import Derived.Test.YtidmkaalhmeflaaGreatDoorQe
import Derived.Test.YtidmkaalhmeflaaGreatDoorQh
namespace Go.Proofs.YtidmkaalhmeflaaGreatDoor
set_option maxRecDepth 100000
set_option maxHeartbeats 32000000
set_option linter.unusedSimpArgs false
set_option linter.unusedVariables false
open Go Go.RowKit Vm Go.Lib Tryz
open Vm renaming aZ→Ca,bj→Cb
open And renaming intro→Ai
open List renaming length_map→Lm,not_mem_nil→Ln,map_nil→Lo,map_cons→Lc,mem_cons→Lk
open Bool renaming not_false→Bf,not_true→Bt
theorem wC {s:List UInt8}{k:Nat}{c:UInt8}(h:ro s k)(hc:s[k]? = some c)(hp:jb (k==0) c=true):ro s (k+1):=by
 intro i x hi hx
 by_cases e:i=k
 ·subst e;rw[hc]at hx;cases hx;exact hp
 ·exact h i x (by omega) hx
theorem Iw (k:Nat):((k:Int)==0)=(k==0):=by
 rw[Bool.eq_iff_iff,beq_iff_eq,beq_iff_eq];omega
theorem Ce {s:List UInt8}(h:s≠[]):s.isEmpty=false:=by cases s with|nil=>exact absurd rfl h|cons=>rfl
theorem og (s:List UInt8)(hs:s.length≤bh)(nm:Nat):Ev cx 32 nm [.str s] aq.nil (.bool (dc s)) []:=by
 unfold bh at hs
 have hb:(s==[])=s.isEmpty:=by cases s<;>rfl
 refine ay rfl (fun cargs w=>call32 cargs w) func32 rfl mixed (by kernel_rfl) rfl ?_;intro b0 hb0
 repeat' first|simp only[al,aj,results32,ntmps32,am,hb,ai,seval,ah]|exact rfl|refine aa (v:=.any) ?_|((first|apply Ca|apply Cb)<;>intro hb)|refine Ai (by omega) ?_|(apply Ai<;>intro hb)
 (refine aU co (fun x:Nat=>s.length-x) (fun x=>x≤s.length∧ro s x) (b0+16) (fun x=>[(0,.str s),(3,.bool (!s.isEmpty)),(8,.int .i64 s.length),(9,.int .i64 x)]) (fun x=>[]) (0) [] ?_ ?_ ?_ ?_;rotate_left 1;(focus (show b0≤_;omega));(focus (refine⟨?_,?_⟩<;>(try simp only[bk,ai,seval,ah,au])<;>(try omega)));rotate_left 1)
 ·exact⟨Nat.zero_le _,fun i c hi=>by omega⟩
 ·rintro k ⟨hk,hn⟩
  by_cases hlt:k<s.length
  ·obtain⟨c,hc⟩:∃ c,s[k]? = some c:=⟨_,List.getElem?_eq_getElem hlt⟩
   have hne:s≠[]:=by rintro rfl;simp at hlt
   have hie:=Ce hne
   have hd:decide (k<s.length)=true:=decide_eq_true hlt
   have hwk:IntKind.i64.wrap ((k:Int)+1)=((k+1:Nat):Int):=aN (by omega) (by omega)
   have hle:=ww c (k==0)
   have qz:=Iw k
   cases hp:jb (k==0) c with
   | false =>
    have hnf:=yW hc hp
    rw[hp]at hle
    (repeat' first|simp only[al,aj,results32,ntmps32,am,hc,hd,hlt,hie,hnf,qz,ai,seval,ah]|exact rfl|refine aa (v:=.any) ?_|(first|(refine ac ?_ (hle _) ?_)|(refine ab ?_ (fun _=>hle _) ?_))|((first|apply Ca|apply Cb)<;>intro hb)|refine Ai (by omega) ?_|(apply Ai<;>intro hb)|refine Fin.pure ?_ ?_ ?_|simp only[au])
   | true =>
    have hn':=wC hn hc hp
    rw[hp]at hle
    repeat' first|simp only[al,aj,results32,ntmps32,am,hc,hd,hlt,hwk,hie,qz,ai,seval,ah]|exact rfl|refine aa (v:=.any) ?_|(first|(refine ac ?_ (hle _) ?_)|(refine ab ?_ (fun _=>hle _) ?_))|((first|apply Ca|apply Cb)<;>intro hb)|refine Ai (by omega) ?_|(apply Ai<;>intro hb)
    all_goals ((refine aJ co (k+1) [] ?_ ?_ ?_ ?_;rotate_left 2;(focus (show b0≤_;omega));(focus (refine⟨?_,?_⟩<;>(try simp only[bk,hwk,hie,ai,seval,ah,au])<;>(try omega)))))
    all_goals (first|(show s.length-(k+1)<s.length-k;omega)|exact⟨hlt,hn'⟩|skip)
  ·have hke:k=s.length:=by omega
   subst hke
   have hd:decide (s.length<s.length)=false:=decide_eq_false (by omega)
   by_cases hne:s=[]
   ·subst hne
    have e:dc []=false:=rfl
    (repeat' first|simp only[al,aj,results32,ntmps32,am,hd,List.isEmpty_nil,e,ai,seval,ah]|exact rfl|refine aa (v:=.any) ?_|((first|apply Ca|apply Cb)<;>intro hb)|refine Ai (by omega) ?_|(apply Ai<;>intro hb)|refine Fin.pure ?_ ?_ ?_|simp only[au])
   ·have hie:=Ce hne
    have e:=Ap hne hn
    (repeat' first|simp only[al,aj,results32,ntmps32,am,hd,hie,e,ai,seval,ah]|exact rfl|refine aa (v:=.any) ?_|((first|apply Ca|apply Cb)<;>intro hb)|refine Ai (by omega) ?_|(apply Ai<;>intro hb)|refine Fin.pure ?_ ?_ ?_|simp only[au])
theorem iG (s:List UInt8)(hs:s.length≤bh)(nm:Nat):Ev cx 162 nm [.str s] aq.nil (.bool (b8 s)) []:=by
 have hev:=nP s 58 hs
 cases hc:dP 58 s with
 | none =>
  have ev:gO 58 s = .tup [.str s,.str [],.bool false]:=by unfold gO;rw[hc]
  have hf:b8 s=dc s:=by unfold b8;rw[hc]
  have hn:=og s hs
  rw[ev]at hev
  rw[hf]
  cases h:dc s<;>rw[h]at hn<;>(
   refine ay rfl (fun cargs w=>call162 cargs w) func162 rfl mixed (by kernel_rfl) rfl ?_;intro b0 hb0
   (repeat' first|simp only[al,aj,results162,ntmps162,am,ai,seval,ah]|exact rfl|refine aa (v:=.any) ?_|(first|(refine ac ?_ (hev _) ?_)|(refine ab ?_ (fun _=>hev _) ?_)|(refine ac ?_ (hn _) ?_)|(refine ab ?_ (fun _=>hn _) ?_))|(refine aa (v:=.any) ?_)|((first|apply Ca|apply Cb)<;>intro hb)|refine Ai (by omega) ?_|(apply Ai<;>intro hb)|refine Fin.pure ?_ ?_ ?_|simp only[au]))
 | some p =>
  obtain⟨a,b⟩:=p
  obtain⟨_,_,_,e3⟩:=jw hc
  have ev:gO 58 s = .tup [.str a,.str b,.bool true]:=by unfold gO;rw[hc]
  have hf:b8 s=(dc a&&dc b):=by unfold b8;rw[hc]
  have hn1:=og a (by omega)
  have hn2:=og b (by omega)
  rw[ev]at hev
  rw[hf]
  cases h1:dc a<;>rw[h1]at hn1<;>(
   refine ay rfl (fun cargs w=>call162 cargs w) func162 rfl mixed (by kernel_rfl) rfl ?_;intro b0 hb0
   (repeat' first|simp only[al,aj,results162,ntmps162,am,ai,seval,ah]|exact rfl|refine aa (v:=.any) ?_|((first|(refine ac ?_ (hn1 _) ?_)|(refine ab ?_ (fun _=>hn1 _) ?_));(focus (simp only[results162,ntmps162,am,ai,seval,ah]<;>exact rfl)))|((first|(refine ac ?_ (hn2 _) ?_)|(refine ab ?_ (fun _=>hn2 _) ?_));(focus (simp only[results162,ntmps162,am,ai,seval,ah]<;>exact rfl)))|(first|(refine ac ?_ (hev _) ?_)|(refine ab ?_ (fun _=>hev _) ?_))|(refine aa (v:=.any) ?_)|((first|apply Ca|apply Cb)<;>intro hb)|refine Ai (by omega) ?_|(apply Ai<;>intro hb)|refine Fin.pure ?_ ?_ ?_|simp only[au]))
def gN (d:UInt8)(s:List UInt8):V:=match dP d s with
 | none=>.tup [.str [],.str s,.bool false]
 | some (a,b)=>.tup [.str a,.str b,.bool true]
def dj (a:Pr):List V:=[.str a.name,.str a.value]
def c9 (t:Tk):List V:=[.int .u8 t.kind,.str t.name,.sl false 2 (t.attrs.map dj),.str t.text]
theorem LM {l:List Pr}{k:Nat}{a:Pr}(h:l[k]? = some a):(l.map dj)[k]? = some (dj a):=by rw[List.getElem?_map,h];rfl
theorem OY {l:List Tk}{k:Nat}{a:Tk}(h:l[k]? = some a):(l.map c9)[k]? = some (c9 a):=by rw[List.getElem?_map,h];rfl
theorem aL (l:List Pr):plainLL (l.map dj)=true:=cB _ (fun _=>rfl) l
theorem bi (l:List Tk):plainLL (l.map c9)=true:=cB _ (fun t=>by simp[c9,plainL,V.plain,aL]) l
theorem fR {α:Type}{p:α→Bool}{l:List α}{k:Nat}{x:α}(h:(l.take k).any p=false)(hc:l[k]? = some x)(hx:p x=false):(l.take (k+1)).any p=false:=by
 obtain⟨hk,rfl⟩:=List.getElem?_eq_some_iff.1 hc
 rw[List.take_succ_eq_append_getElem hk,List.any_append,h]
 simp[hx]
theorem xg {l:List Pr}{k:Nat}{a:Pr}(h:iH l k)(ha:l[k]? = some a)(ho:Nn (l.take k) a=true):iH l (k+1):=by
 intro i b hi hb
 by_cases e:i=k
 ·subst e;rw[ha]at hb;cases hb;exact ho
 ·exact h i b (by omega) hb
theorem zK {l:List Pr}{k:Nat}{a:Pr}(ha:l[k]? = some a)(ho:Nn (l.take k) a=false):i0 l=false:=by
 cases h:i0 l with
 | false=>rfl
 | true =>
  have:=(iM.1 h).2 k a (List.getElem?_eq_some_iff.1 ha).1 ha
  rw[ho]at this;cases this
theorem Md (n:Nat)(hn:n≤281474976710656)(M:aq)(nm:Nat)(hM:M nm=none):Ev cx 268 nm [.int .i64 n] M (.own nm 0 n) [(nm,some (rK []))] :=
 Ev.makeNoZero (ps:=Tryz.f268.params) (t:=174) func268 (by kernel_rfl) (by kernel_rfl) (by kernel_rfl) (by kernel_rfl) CC n hn M nm hM
theorem zA (z:Int)(h0:0≤z)(h1:z≤127)(nm:Nat):Ev cx 252 nm [.int .i32 z] aq.nil (.int .i64 1) []:=by
 have d0:decide (z<0)=false:=decide_eq_false (by omega)
 have d1:decide (z≤127)=true:=decide_eq_true h1
 refine ay rfl (fun cargs w=>call252 cargs w) func252 rfl mixed (by kernel_rfl) rfl ?_;intro b0 hb0
 (repeat' first|simp only[al,aj,results252,ntmps252,am,d0,d1,ai,seval,ah]|exact rfl|refine aa (v:=.any) ?_|((first|apply Ca|apply Cb)<;>intro hb)|refine Ai (by omega) ?_|(apply Ai<;>intro hb)|refine Fin.pure ?_ ?_ ?_|simp only[au])
theorem LK (s:Nat)(r:List (List V))(o:Ob):(@Blk.mk s r o).ob=o:=rfl
theorem zn (σ:List (Nat×Nat))(t:TypeId):Blk.ren σ (@Blk.mk 1 [] (.typed t)) = @Blk.mk 1 [] (.typed t):=bo σ [] t
theorem sR (σ:List (Nat×Nat))(t:TypeId):Blk.renOk σ (@Blk.mk 1 [] (.typed t))=true:=aY σ [] t
theorem FM (q n:Nat)(hn:n≤1000000)(M:aq)(nm:Nat)(hq:M q=some (bK true q .nils))(ho:∀ z,(M z).isSome=true→z∈[q])(hqn:q<nm) :
  Ev cx 264 nm [.ptr q 0 0,.int .i64 n] M (.tup []) [(q,some (bK true q (.own nm 0 0))),(nm,some (rK []))]:=by
 have hw:IntKind.i64.wrap 0=0:=by decide
 have hw2:IntKind.i64.wrap (0+(n:Int))=(n:Int):=by rw[aN (by omega) (by omega)];omega
 have hw3:IntKind.i64.wrap (n:Int)=(n:Int):=aN (by omega) (by omega)
 have nq:=eq_false (show ¬ nm=q by omega)
 refine ay rfl (fun cargs w=>call264 cargs w) func264 rfl mixed (by kernel_rfl) rfl ?_;intro b0 hb0
 have lq:q<b0:=ax hb0 (by rw[hq];rfl)
 have z0:=aT lq;have z1:=aw lq;have z2:=aK lq;have z3:=ao lq
 repeat' first|simp only[al,aj,results264,ntmps264,am,eo,hq,z0,z1,z2,z3,hw,hw2,hw3,aS,Lo,aR,da,Nat.min_self,List.take_zero,List.all_nil,bw,ai,seval,ah]|exact rfl|refine aa (v:=.any) ?_|(refine jv ?_ (Md n (by omega) aq.nil _ rfl) ?_ ?_)|omega|refine bn (ps:=[(8,12)]) (by decide +kernel) (by simp only[List.forall_mem_cons,List.getD_cons_zero,List.getD_cons_succ,results264,ntmps264,am,eo,hq,z0,z1,z2,z3,hw,hw2,hw3,aS,Lo,aR,da,Nat.min_self,List.take_zero,List.all_nil,bw,ai,seval,ah]<;>(try simp)<;>(try omega)) ?_|refine aC (by decide +kernel) ?_|((first|apply Ca|apply Cb)<;>intro hb)|refine Ai (by omega) ?_|(apply Ai<;>intro hb)
 all_goals ((refine Fin.give [(q,none),(b0+128,some 0)] [] ?_ ?_ ?_ ?_ ?_ (fun q hq=>by have hqq:=ho q hq;first|(simp only[aF,tgt,Lc,Lo,Lk,Ln,or_false]at hqq ⊢;omega)|(simp only[aF,tgt,Lc,Lo,Lk,Ln,or_false]at hqq))<;>(try simp only[results264,ntmps264,am,LK,zn,sR,nq,eo,aS,hq,z0,z1,z2,z3,Lo,eH,ai,seval,ah])<;>(try simp only[au])<;>(try omega)))
theorem Io (u:Bool)(q n:Nat)(h0:0<n)(hn:n≤1000000)(M:aq)(nm:Nat)(hq:M q=some (bK u q .nils))(ho:∀ z,(M z).isSome=true→z∈[q])(hqn:q<nm) :
  Ev cx 253 nm [.ptr q 0 0,.int .i64 n] M (.tup []) [(q,some (bK true q (.own nm 0 0))),(nm,some (rK []))]:=by
 have d0:decide ((n:Int)<0)=false:=decide_eq_false (by omega)
 have hw:IntKind.i64.wrap 0=0:=by decide
 have hw1:IntKind.i64.wrap (0-0)=0:=by decide
 have d1:decide ((0:Int)<(n:Int))=true:=decide_eq_true (by omega)
 have nq:=eq_false (show ¬ nm=q by omega)
 refine ay rfl (fun cargs w=>call253 cargs w) func253 rfl mixed (by kernel_rfl) rfl ?_;intro b0 hb0
 have lq:q<b0:=ax hb0 (by rw[hq];rfl)
 have z0:=aT lq;have z1:=aw lq;have z2:=aK lq;have z3:=ao lq
 repeat' first|simp only[al,aj,results253,ntmps253,am,eo,hq,z0,z1,z2,z3,d0,d1,hw,hw1,aR,ai,seval,ah]|exact rfl|refine aa (v:=.any) ?_|(refine ag ?_ [q] (Gv u q _ _ ?_ ap (by omega)) ?_ ?_)|(refine ag ?_ [q] (FM q n hn _ _ ?_ ap (by omega)) ?_ ?_)|refine aC (by decide +kernel) ?_|((first|apply Ca|apply Cb)<;>intro hb)|refine Ai (by omega) ?_|(apply Ai<;>intro hb)
 all_goals ((refine Fin.give [(q,none),(b0+304,some 0)] [] ?_ ?_ ?_ ?_ ?_ (fun q hq=>by have hqq:=ho q hq;first|(simp only[aF,tgt,Lc,Lo,Lk,Ln,or_false]at hqq ⊢;omega)|(simp only[aF,tgt,Lc,Lo,Lk,Ln,or_false]at hqq))<;>(try simp only[results253,ntmps253,am,LK,zn,sR,nq,eo,aS,fp,dM,hq,z0,z1,z2,z3,Lo,eH,ai,seval,ah])<;>(try simp only[au])<;>(try omega)))
theorem zp (z:Int)(hm:gR z=true)(q y:Nat)(bs:List UInt8)(hbs:bs.length≤1000000)(M:aq)(nm:Nat)(hqy:q≠y)(hq:M q=some (bK true q (.own y 0 bs.length)))(hy:M y=some (rK bs))(ho:∀ z,(M z).isSome=true→z∈[q,y])(hqn:q<nm)(hyn:y<nm) :
  Ev cx 254 nm [.ptr q 0 0,.int .i32 z] M (.tup [.int .i64 (encodeRune z).length,.val .nilIface]) [(y,none),(q,some (bK true q (.own nm 0 (bs.length+(encodeRune z).length)))),(nm,some (rK (bs++encodeRune z)))]:=by
 have hel:=bv z
 have hw:IntKind.i64.wrap (((bs.length:Int)+((encodeRune z).length:Int))-(bs.length:Int))=((encodeRune z).length:Int):=by rw[aN (by omega) (by omega)];omega
 have hw':IntKind.i64.wrap (((bs.length+(encodeRune z).length:Nat):Int)-(bs.length:Int))=((encodeRune z).length:Int):=by rw[aN (by omega) (by omega)];omega
 refine ay rfl (fun cargs w=>call254 cargs w) func254 rfl mixed (by kernel_rfl) rfl ?_;intro b0 hb0
 have lq:q<b0:=ax hb0 (by rw[hq];rfl)
 have ly:y<b0:=ax hb0 (by rw[hy];rfl)
 have y0:=aT ly;have y1:=aw ly;have y2:=aK ly;have y3:=ao ly
 have z0:=aT lq;have z1:=aw lq;have z2:=aK lq;have z3:=ao lq
 have n1:=eq_false hqy;have n4:=eq_false (Ne.symm hqy)
 repeat' first|simp only[al,aj,results254,ntmps254,am,eo,hq,hy,n1,n4,y0,y1,y2,y3,z0,z1,z2,z3,hw,hw',aR,ai,seval,ah]|exact rfl|refine aa (v:=.any) ?_|(refine ag ?_ [q,y] (sV true q y bs.length bs _ _ hqy ?_ ?_ ap (by omega) (by omega)) ?_ ?_)|(refine ag ?_ [y] (CM z hm y bs hbs _ _ ?_ ap (by omega)) ?_ ?_)|((first|apply Ca|apply Cb)<;>intro hb)|refine Ai (by omega) ?_|(apply Ai<;>intro hb)
 all_goals ((refine Fin.give [(q,none),(b0+256,some 0)] [y] ?_ ?_ ?_ ?_ ?_ (fun q hq=>by have hqq:=ho q hq;first|(simp only[aF,tgt,Lc,Lo,Lk,Ln,or_false]at hqq ⊢;omega)|(simp only[aF,tgt,Lc,Lo,Lk,Ln,or_false]at hqq))<;>(try simp only[results254,ntmps254,am,eo,aS,fp,dM,hq,hy,n1,n4,y0,y1,y2,y3,z0,z1,z2,z3,eH,ai,seval,ah])<;>(try simp only[au])<;>(try omega)))
theorem H8 (q y n c:Nat)(bs:List UInt8)(M:aq)(nm:Nat)(hqy:q≠y)(hq:M q=some ⟨2,[[.ptr q 0 0,.ownc y 0 n c]]⟩)(hy:M y=some (rK bs))(ho:∀ z,(M z).isSome=true→z∈[q,y])(hqn:q<nm)(hyn:y<nm) :
  Ev cx 255 nm [.ptr q 0 0] M (.int .i64 c) [(q,some ⟨2,[[.ptr q 0 0,.own y 0 n]]⟩),(y,some (rK bs))]:=by
 refine ay rfl (fun cargs w=>call255 cargs w) func255 rfl mixed (by kernel_rfl) rfl ?_;intro b0 hb0
 have lq:q<b0:=ax hb0 (by rw[hq];rfl)
 have ly:y<b0:=ax hb0 (by rw[hy];rfl)
 have y0:=aT ly;have y1:=aw ly;have y2:=aK ly;have y3:=ao ly
 have z0:=aT lq;have z1:=aw lq;have z2:=aK lq;have z3:=ao lq
 have n1:=eq_false hqy;have n4:=eq_false (Ne.symm hqy)
 repeat' first|simp only[al,aj,results255,ntmps255,am,hq,hy,n1,n4,y0,y1,y2,y3,z0,z1,z2,z3,ai,seval,ah]|exact rfl|refine aa (v:=.any) ?_|((first|apply Ca|apply Cb)<;>intro hb)|refine Ai (by omega) ?_|(apply Ai<;>intro hb)
 all_goals ((refine Fin.give [(q,none),(y,none)] [] ?_ ?_ ?_ ?_ ?_ (fun q hq=>by have hqq:=ho q hq;first|(simp only[aF,tgt,Lc,Lo,Lk,Ln,or_false]at hqq ⊢;omega)|(simp only[aF,tgt,Lc,Lo,Lk,Ln,or_false]at hqq))<;>(try simp only[results255,ntmps255,am,aS,fp,dM,hq,hy,n1,n4,y0,y1,y2,y3,z0,z1,z2,z3,eH,ai,seval,ah])<;>(try simp only[au])<;>(try omega)))
theorem Ey (q y:Nat)(bs:List UInt8)(M:aq)(nm:Nat)(hqy:q≠y)(hq:M q=some (bK true q (.own y 0 bs.length)))(hy:M y=some (rK bs))(ho:∀ z,(M z).isSome=true→z∈[q,y])(hqn:q<nm)(hyn:y<nm) :
  MD cx 255 nm [.ptr q 0 0] M (fun u=>∃ c:Nat,bs.length≤c∧u = .int .i64 c) [(q,some (bK true q (.own y 0 bs.length))),(y,some (rK bs))]:=by
 refine MD.cell (v:=fun c=>.int .i64 c) q 1 y 0 bs.length 2 [.ptr q 0 0,.own y 0 bs.length] instCells hq rfl rfl (by simp[ak]) (fun c hc=>?_)
 exact H8 q y bs.length c bs _ nm hqy (aq.put_same _ _ _) (by rw[aq.put_ne _ _ (Ne.symm hqy)];exact hy) (fun z hz=>by
  by_cases e:z=q
  ·simp[e]
  ·rw[aq.put_ne _ _ e]at hz;exact ho z hz) hqn hyn
theorem Hd (u:Bool)(q:Nat)(M:aq)(nm:Nat)(hq:M q=some (bK u q .nils))(ho:∀ z,(M z).isSome=true→z∈[q])(hqn:q<nm) :
  Ev cx 255 nm [.ptr q 0 0] M (.int .i64 0) [(q,some (bK u q .nils))]:=by
 cases u
 all_goals (
  first|rw[dI]at hq ⊢ | rw[eo]at hq ⊢
  refine ay rfl (fun cargs w=>call255 cargs w) func255 rfl mixed (by kernel_rfl) rfl ?_;intro b0 hb0
  have lq:q<b0:=ax hb0 (by rw[hq];rfl)
  have z0:=aT lq;have z1:=aw lq;have z2:=aK lq;have z3:=ao lq
  repeat' first|simp only[al,aj,results255,ntmps255,am,hq,z0,z1,z2,z3,ai,seval,ah]|exact rfl|refine aa (v:=.any) ?_|((first|apply Ca|apply Cb)<;>intro hb)|refine Ai (by omega) ?_|(apply Ai<;>intro hb)
  all_goals ((refine Fin.give [(q,none)] [] ?_ ?_ ?_ ?_ ?_ (fun q hq=>by have hqq:=ho q hq;first|(simp only[aF,tgt,Lc,Lo,Lk,Ln,or_false]at hqq ⊢;omega)|(simp only[aF,tgt,Lc,Lo,Lk,Ln,or_false]at hqq))<;>(try simp only[results255,ntmps255,am,hq,rh,mK,z0,z1,z2,z3,eH,ai,seval,ah])<;>(try simp only[au])<;>(try omega))))
theorem sZ {z:Int}(hm:gR z=true):(encodeRune z).map ct=encodeRune (fW z):=by
 have hr:=fq hm
 by_cases h:z<128
 ·have key:∀ n:Fin 128,(encodeRune (n.val:Int)).map ct=encodeRune (fW (n.val:Int)):=by decide +kernel
  have:=key ⟨z.toNat,by omega⟩
  have e:((z.toNat:Nat):Int)=z:=by omega
  simpa only[e] using this
 ·have hf:fW z=z:=by
   unfold fW
   rw[if_neg]
   unfold lC
   simp only[decide_eq_true_eq];omega
  rw[hf]
  have hh:=oo (z:=z) (by omega)
  rw[show(encodeRune z).map ct=(encodeRune z).map id from List.map_congr_left (fun c hc=>?_),List.map_id]
  have:=hh c hc
  have hb:iw c=false:=by
   unfold iw
   have hne:∀ d:UInt8,d.toNat<128→(c==d)=false:=fun d hd=>beq_false_of_ne (fun e=>by subst e;omega)
   rw[hne 32 (by decide),hne 9 (by decide),hne 10 (by decide),hne 13 (by decide)];rfl
  unfold ct
  rw[hb];rfl
theorem zM {z:Int}(hm:gR z=true):gR (fW z)=true:=by
 unfold fW
 split
 ·decide
 ·exact hm
theorem HP (zs:List Int)(h:zs.all gR=true):(enc zs).map ct=enc (zs.map fW):=by
 induction zs with
 | nil=>rfl
 | cons z zs ih =>
  simp only[List.all_cons,Bool.and_eq_true]at h
  have e:enc (z::zs)=encodeRune z++enc zs:=by simp[enc]
  have e2:enc ((z::zs).map fW)=encodeRune (fW z)++enc (zs.map fW):=by simp[enc]
  rw[e,e2,List.map_append,sZ h.1,ih h.2]
theorem xZ {s:List UInt8}(h:(dZ s).isSome=true):(dZ (s.map ct)).isSome=true:=by
 obtain⟨zs,hz⟩:=Option.isSome_iff_exists.1 h
 obtain⟨hm,rfl⟩:=(oG s zs).1 hz
 rw[HP zs hm,gX]
 ·rfl
 ·rw[List.all_map,List.all_eq_true]
  intro z hz
  exact zM (List.all_eq_true.1 hm z hz)
theorem vP {s:List UInt8}{p:Nat}(hp:p<s.length)(h:(dZ (s.drop p)).isSome=true):∃ z:Int,((br s p).1:Int)=z∧gR z=true∧encodeRune z=(s.drop p).take (br s p).2∧1≤(br s p).2∧p+(br s p).2≤s.length∧(dZ (s.drop (p+(br s p).2))).isSome=true∧(br s p).2=(encodeRune z).length:=by
 have ho:=Iu hp
 have hne:s.drop p≠[]:=by
  intro h
  have:=congrArg List.length h
  simp at this;omega
 split at ho
 ·rw[xa hne ho]at h;cases h
 ·obtain⟨_,hm,he,h1,h2⟩:=l6 ho
  have hd:=lI ho
  rw[hd,List.drop_drop]at h
  simp only[List.length_drop]at h2
  refine⟨_,rfl,hm,he,h1,by omega,by simpa using h,?_⟩
  rw[he,List.length_take,List.length_drop];omega
theorem vo {s:List UInt8}{p k:Nat}{z:Int}(hm:gR z=true)(he:encodeRune z=(s.drop p).take k):(s.take (p+k)).map ct=(s.take p).map ct++encodeRune (fW z):=by
 rw[List.take_add,List.map_append,← he,sZ hm]
def sF:List V:=Lib.firstTab.map fun z=>.int .u8 z
def MQ:List V:=(List.range 16).flatMap fun i=>[V.int .u8 (Lib.accLo i),.int .u8 (Lib.accHi i)]
theorem Jd:cx.G 5 = .rp sF:=by show pc 5=_;unfold pc;rw[if_pos rfl];rfl
theorem OL:cx.G 6 = .rp MQ:=by show pc 6=_;unfold pc;rw[if_neg (by decide),if_pos rfl];rfl
theorem zq (t:List UInt8)(ht:t.length≤1000000)(nm:Nat):Ev cx 261 nm [.str (239::191::189::t)] aq.nil (.tup [.int .i32 65533,.int .i64 3]) []:=by
 have hf:(sF.drop 239)[0]? = some (.int .u8 3):=by kernel_rfl
 have hf':239<sF.length:=by decide +kernel
 have hf2:sF.length=256:=by decide +kernel
 have hl:(239::191::189::t).length=t.length+3:=rfl
 have d1:decide (((t.length+3:Nat):Int)<1)=false:=decide_eq_false (by omega)
 have d2:decide ((t.length:Int)+3<1)=false:=decide_eq_false (by omega)
 have g0:(239::191::189::t)[0]? = some (239:UInt8):=rfl
 have g1:(239::191::189::t)[1]? = some (191:UInt8):=rfl
 have g2:(239::191::189::t)[2]? = some (189:UInt8):=rfl
 have l0:0<t.length+3:=by omega
 have l1:1<t.length+3:=by omega
 have l2:2<t.length+3:=by omega
 have t1:(239:UInt8).toNat=239:=rfl
 have t2:(191:UInt8).toNat=191:=rfl
 have t3:(189:UInt8).toNat=189:=rfl
 have p1:0<(sF.drop 239).length:=by decide +kernel
 have s1:Int.fdiv 3 (2 ^ min 4 IntKind.u8.bits)=0:=by decide +kernel
 have a1:List.take 2 MQ=[V.int .u8 128,V.int .u8 191]:=by kernel_rfl
 have p2:2≤MQ.length:=by decide +kernel
 have w1:IntKind.u8.wrap ((BitVec.ofInt IntKind.u8.bits 3 &&& BitVec.ofInt IntKind.u8.bits 7).toNat:Int)=3:=by decide +kernel
 have w2:IntKind.i64.wrap 3=3:=by decide
 have d3:decide (((t.length+3:Nat):Int)<3)=false:=decide_eq_false (by omega)
 have d4:decide ((t.length:Int)+3<3)=false:=decide_eq_false (by omega)
 have x1:IntKind.u8.wrap ((BitVec.ofInt IntKind.u8.bits 239 &&& BitVec.ofInt IntKind.u8.bits 15).toNat:Int)=15:=by decide +kernel
 have x2:IntKind.u8.wrap ((BitVec.ofInt IntKind.u8.bits 191 &&& BitVec.ofInt IntKind.u8.bits 63).toNat:Int)=63:=by decide +kernel
 have x3:IntKind.u8.wrap ((BitVec.ofInt IntKind.u8.bits 189 &&& BitVec.ofInt IntKind.u8.bits 63).toNat:Int)=61:=by decide +kernel
 have w3:IntKind.i32.wrap 15=15:=by decide
 have w4:IntKind.i32.wrap 63=63:=by decide
 have w5:IntKind.i32.wrap 61=61:=by decide
 have y1:IntKind.i32.wrap (15*2 ^ min 12 IntKind.i32.bits)=61440:=by decide +kernel
 have y2:IntKind.i32.wrap (63*2 ^ min 6 IntKind.i32.bits)=4032:=by decide +kernel
 have v1:IntKind.i32.wrap ((BitVec.ofInt IntKind.i32.bits 61440 ||| BitVec.ofInt IntKind.i32.bits 4032).toNat:Int)=65472:=by decide +kernel
 have v2:IntKind.i32.wrap ((BitVec.ofInt IntKind.i32.bits 65472 ||| BitVec.ofInt IntKind.i32.bits 61).toNat:Int)=65533:=by decide +kernel
 refine ay rfl (fun cargs w=>call261 cargs w) func261 rfl mixed (by kernel_rfl) rfl ?_;intro b0 hb0
 (repeat' first|simp only[al,aj,results261,ntmps261,am,Jd,OL,hf,hf',hf2,hl,d1,d2,g0,g1,g2,l0,l1,l2,t1,t2,t3,p1,p2,s1,a1,w1,w2,w3,w4,w5,d3,d4,x1,x2,x3,y1,y2,v1,v2,Int.toNat_zero,Nat.zero_mul,List.drop_zero,ai,seval,ah]|exact rfl|refine aa (v:=.any) ?_|((first|apply Ca|apply Cb)<;>intro hb)|refine Ai (by omega) ?_|(apply Ai<;>intro hb)|refine Fin.pure ?_ ?_ ?_|simp only[au])
theorem KN (t:List UInt8)(ht:t.length≤1000000)(nm:Nat):Ev cx 246 nm [.str (239::191::189::t)] aq.nil (.tup [.int .i32 65533,.int .i64 3]) []:=by
 have e0:(!((239::191::189::t)==([]:List UInt8)))=true:=rfl
 have e0':((239::191::189::t) !=([]:List UInt8))=true:=rfl
 have hl:(239::191::189::t).length=t.length+3:=rfl
 have g0:(239::191::189::t)[0]? = some (239:UInt8):=rfl
 have l0:0<t.length+3:=by omega
 have t1:(239:UInt8).toNat=239:=rfl
 refine ay rfl (fun cargs w=>call246 cargs w) func246 rfl mixed (by kernel_rfl) rfl ?_;intro b0 hb0
 (repeat' first|simp only[al,aj,results246,ntmps246,am,e0,e0',hl,g0,l0,t1,ai,seval,ah]|exact rfl|refine aa (v:=.any) ?_|(first|(refine ac ?_ (zq t ht _) ?_)|(refine ab ?_ (fun _=>zq t ht _) ?_))|((first|apply Ca|apply Cb)<;>intro hb)|refine Ai (by omega) ?_|(apply Ai<;>intro hb)|refine Fin.pure ?_ ?_ ?_|simp only[au])
def B6:V:=.fn 239 []
theorem ux {s:List UInt8}{p:Nat}(h:(s.take p).map ct=s.take p)(hp:p=s.length):s.map ct=s:=by
 subst hp;rwa[List.take_length]at h
theorem GW {z:Int}(h:z=9∨z=10∨z=13∨z=32):encodeRune z=[z.toNat.toUInt8]∧0≤z∧z≤127:=by
 refine⟨?_,by omega,by omega⟩
 rcases h with rfl|rfl|rfl|rfl<;>decide +kernel
theorem CX {z:Int}(h0:0≤z)(h:z<128):encodeRune z=[z.toNat.toUInt8]:=by
 have key:∀ n:Fin 128,encodeRune (n.val:Int)=[(n.val:Int).toNat.toUInt8]:=by decide +kernel
 have:=key ⟨z.toNat,by omega⟩
 have e:((z.toNat:Nat):Int)=z:=by omega
 simpa only[e] using this
theorem It {z:Int}(h0:0≤z)(h:z<128):IntKind.u8.wrap z=((z.toNat.toUInt8).toNat:Int):=by
 have key:∀ n:Fin 128,IntKind.u8.wrap (n.val:Int)=(((n.val:Int).toNat.toUInt8).toNat:Int):=by decide +kernel
 have:=key ⟨z.toNat,by omega⟩
 have e:((z.toNat:Nat):Int)=z:=by omega
 simpa only[e] using this
theorem BP (σ:List (Nat×Nat))(q y a b:Nat):Blk.ren σ (bK true q (.own y a b))=bK true ((aX σ q).getD q) (.own ((aX σ y).getD y) a b):=by
 simp[bK,Blk.ren,iz,renL,V.ren,plainLL,plainL,V.plain,Ob.ren,instCells]
theorem th (σ:List (Nat×Nat))(q y a b:Nat)(h1:(aX σ q).isSome=true)(h2:(aX σ y).isSome=true):Blk.renOk σ (bK true q (.own y a b))=true:=by
 simp[bK,Blk.renOk,gf,renOkL,V.renOk,h1,h2,Ob.renOk,instCells]
theorem F8 (s:List UInt8)(hs:s.length≤20000)(hdec:(dZ s).isSome=true)(nm:Nat):Ev cx 238 nm [B6,.str s] aq.nil (.str (s.map ct)) []:=by
  unfold B6
  refine ay rfl (fun cargs w=>call238 cargs w) func238 rfl mixed (by kernel_rfl) rfl ?_;intro b0 hb0
  repeat' first|simp only[al,aj,results238,ntmps238,am,ai,seval,ah]|exact rfl|refine aa (v:=.any) ?_|(refine mJ (s:=?_) ?_ ?_ ?_;rotate_left 1;(iterate 2 (focus (simp only[results238,ntmps238,am,ai,seval,ah]<;>exact rfl))))|(refine bm ?_)|(refine be ?_)|((first|(refine aM (g:=?_) ?_ ?_)|(refine aI (g:=?_) ?_ ?_));rotate_left 1;(focus (simp only[results238,ntmps238,am,ai,seval,ah]<;>exact rfl)))|((first|apply Ca|apply Cb)<;>intro hb)|refine Ai (by omega) ?_|(apply Ai<;>intro hb)
  (refine aU co (fun x:Nat=>s.length-x) (fun x=>x≤s.length∧(dZ (s.drop x)).isSome=true∧(s.take x).map ct=s.take x) (b0+16) (fun x=>[(0,.fn 239 []),(1,.str s),(5,.ptr (b0+1) 0 0),(14,.ptr b0 0 0)]) (fun x=>[(b0,ke s x),(b0+1,bK false (b0+1) .nils)]) (0) [some (b0+48),some (b0+16)] ?_ ?_ ?_ ?_;rotate_left 1;(focus (show b0≤_;omega));(focus (refine⟨?_,?_⟩<;>(try simp only[bk,fD,dO,dI,rh,mK,aV,ai,seval,ah,au])<;>(try omega)));rotate_left 1)
  · exact⟨Nat.zero_le _,by rw[List.drop_zero];exact hdec,rfl⟩
  · rintro p ⟨h1,h2,h3⟩
    by_cases hp:p<s.length
    · obtain ⟨z,hz,hm,he,hk1,hk2,hd2,hk3⟩:=vP hp h2
      have hmz:=(gj z).1 hm
      have hfe:=CR z hm
      have htf:=vo hm he
      by_cases hfz:fW z=z
      · have q1:(fW z==z)=true:=by rw[hfz];simp
        have hnx:(s.take (p+(br s p).2)).map ct=s.take (p+(br s p).2):=by
          rw[htf,h3,hfz,List.take_add,← he]
        by_cases h65:z=65533
        · subst h65
          have hk3':(br s p).2=3:=by rw[hk3];decide +kernel
          have hdr:s.drop p=239::191::189::s.drop (p+3):=by
            rw[hk3']at he
            have h4:=List.take_append_drop 3 (s.drop p)
            rw[← he,show encodeRune 65533=[239,191,189] by decide +kernel,List.drop_drop]at h4
            exact h4.symm
          have hodd:=KN (s.drop (p+3)) (by simp;omega)
          have q3:(fW 65533==65533)=true:=q1
          have hpi:(p:Int)≤(s.length:Int):=by omega
          rw[hfz]at hfe
          repeat' first|simp only[al,aj,results238,ntmps238,am,hp,h1,hpi,hz,hdr,dI,ai,seval,ah]|exact rfl|refine aa (v:=.any) ?_|(first|(refine ac ?_ (hfe _) ?_)|(refine ab ?_ (fun _=>hfe _) ?_)|(refine ac ?_ (hodd _) ?_)|(refine ab ?_ (fun _=>hodd _) ?_))|(refine hH (s:=?_) (y:=?_) (p:=?_) ?_ ?_ ?_ ?_;rotate_left 3;(iterate 2 (focus (simp only[results238,ntmps238,am,hp,h1,hpi,hz,hdr,dI,ai,seval,ah]<;>exact rfl)));(focus (simp only[results238,ntmps238,am,hp,h1,hpi,hz,hdr,dI,ai,seval,ah]<;>omega)))|(refine bm ?_)|(refine be ?_)|((first|(refine aM (g:=?_) ?_ ?_)|(refine aI (g:=?_) ?_ ?_));rotate_left 1;(focus (simp only[results238,ntmps238,am,hp,h1,hpi,hz,hdr,dI,ai,seval,ah]<;>exact rfl)))|refine Ai (by omega) ?_
          all_goals ((refine aJ co (p+(br s p).2) [some b0,some (b0+1)] ?_ ?_ ?_ ?_;rotate_left 2;(focus (show b0≤_;omega));(focus (refine⟨?_,?_⟩<;>(try simp only[bk,fD,dO,dI,rh,mK,aV,ai,seval,ah,au])<;>(try omega)))))
          all_goals (first|(show s.length-(p+(br s p).2)<s.length-p;omega)|exact⟨hk2,hd2,hnx⟩|skip)
        · have q2:(!(z==65533))=true:=by rw[beq_false_of_ne h65];rfl
          have q2':(z != 65533)=true:=q2
          repeat' first|simp only[al,aj,results238,ntmps238,am,hp,hz,q1,q2,q2',dI,ai,seval,ah]|exact rfl|refine aa (v:=.any) ?_|(first|(refine ac ?_ (hfe _) ?_)|(refine ab ?_ (fun _=>hfe _) ?_))|(refine hH (s:=?_) (y:=?_) (p:=?_) ?_ ?_ ?_ ?_;rotate_left 3;(iterate 2 (focus (simp only[results238,ntmps238,am,hp,hz,q1,q2,q2',dI,ai,seval,ah]<;>exact rfl)));(focus (simp only[results238,ntmps238,am,hp,hz,q1,q2,q2',dI,ai,seval,ah]<;>omega)))|(refine bm ?_)|(refine be ?_)|((first|(refine aM (g:=?_) ?_ ?_)|(refine aI (g:=?_) ?_ ?_));rotate_left 1;(focus (simp only[results238,ntmps238,am,hp,hz,q1,q2,q2',dI,ai,seval,ah]<;>exact rfl)))|refine Ai (by omega) ?_
          all_goals ((refine aJ co (p+(br s p).2) [some b0,some (b0+1)] ?_ ?_ ?_ ?_;rotate_left 2;(focus (show b0≤_;omega));(focus (refine⟨?_,?_⟩<;>(try simp only[bk,fD,dO,dI,rh,mK,aV,ai,seval,ah,au])<;>(try omega)))))
          all_goals (first|(show s.length-(p+(br s p).2)<s.length-p;omega)|exact⟨hk2,hd2,hnx⟩|skip)
      · have hz4:z=9∨z=10∨z=13:=by
          unfold fW lC at hfz
          split at hfz
          · rename_i h;simp only[decide_eq_true_eq]at h;omega
          · exact absurd rfl hfz
        have hf32:fW z=32:=by
          unfold fW lC
          rw[if_pos (by simp only[decide_eq_true_eq];omega)]
        have hen:=GW (z:=z) (by omega)
        have hk1':(br s p).2=1:=by rw[hk3,hen.1];rfl
        have q1:((32:Int)==z)=false:=beq_false_of_ne (by omega)
        have q65:(z==65533)=false:=beq_false_of_ne (by omega)
        have hrl:=zA z hen.2.1 hen.2.2
        have hpi:(p:Int)≤(s.length:Int):=by omega
        have hw1:IntKind.i64.wrap ((s.length:Int)+4)=((s.length+4:Nat):Int):=aN (by omega) (by omega)
        have hw2:IntKind.i64.wrap ((p:Int)+1)=((p+1:Nat):Int):=aN (by omega) (by omega)
        have hpi2:((p+1:Nat):Int)≤(s.length:Int):=by omega
        have hp1:p+1≤s.length:=by omega
        have htl:(s.take p).length=p:=by rw[List.length_take];omega
        rw[hf32]at hfe
        have hm32:gR 32=true:=by decide
        have hws:=fun (M':aq) (n':Nat) (a:M' (b0+1)=some (bK true (b0+1) (.own (b0+432) 0 0))) (b:M' (b0+432)=some (rK [])) (d:∀ z,(M' z).isSome=true→z∈[b0+1,b0+432]) (hn1:b0+1<n') (hn2:b0+432<n')=>Gj true (b0+1) (b0+432) [] (s.take p) (by unfold bh;simp;omega) M' n' (by omega) a b d hn1 hn2
        simp only[List.nil_append,List.length_nil,Nat.zero_add,htl]at hws
        have hwr:=fun (M':aq) (n':Nat) (a:M' (b0+1)=some (bK true (b0+1) (.own (b0+496) 0 (s.take p).length))) (b:M' (b0+496)=some (rK (s.take p))) (d:∀ z,(M' z).isSome=true→z∈[b0+1,b0+496]) (hn1:b0+1<n') (hn2:b0+496<n')=>zp 32 hm32 (b0+1) (b0+496) (s.take p) (by omega) M' n' (by omega) a b d hn1 hn2
        have he32:encodeRune 32=[32]:=by decide +kernel
        simp only[htl,he32,List.length_cons,List.length_nil,Nat.zero_add]at hwr
        have hlo:(s.take p++[32]).length=p+1:=by simp;omega
        repeat' first|simp only[al,aj,results238,ntmps238,am,hp,h1,hp1,hpi,hpi2,hz,q1,q65,hw1,hw2,dI,aR,ai,seval,ah]|exact rfl|refine aa (v:=.any) ?_|(first|(refine ac ?_ (hfe _) ?_)|(refine ab ?_ (fun _=>hfe _) ?_)|(refine ac ?_ (hrl _) ?_)|(refine ab ?_ (fun _=>hrl _) ?_))|(refine ag ?_ [b0+1] (Io false (b0+1) (s.length+4) (by omega) (by omega) _ _ ?_ ap (by omega)) ?_ ?_)|(refine ag ?_ [b0+1,b0+432] (hws _ _ ?_ ?_ ap (by omega) (by omega)) ?_ ?_)|(refine ag ?_ [b0+1,b0+496] (hwr _ _ ?_ ?_ ap (by omega) (by omega)) ?_ ?_)|(refine hH (s:=?_) (y:=?_) (p:=?_) ?_ ?_ ?_ ?_;rotate_left 3;(iterate 2 (focus (simp only[results238,ntmps238,am,hp,h1,hp1,hpi,hpi2,hz,q1,q65,hw1,hw2,dI,aR,ai,seval,ah]<;>exact rfl)));(focus (simp only[results238,ntmps238,am,hp,h1,hp1,hpi,hpi2,hz,q1,q65,hw1,hw2,dI,aR,ai,seval,ah]<;>omega)))|(refine bm ?_)|(refine be ?_)|((first|(refine aM (g:=?_) ?_ ?_)|(refine aI (g:=?_) ?_ ?_));rotate_left 1;(focus (simp only[results238,ntmps238,am,hp,h1,hp1,hpi,hpi2,hz,q1,q65,hw1,hw2,dI,aR,ai,seval,ah]<;>exact rfl)))|refine Ai (by omega) ?_
        have hcap:=fun (M':aq) (n':Nat) (a:M' (b0+1)=some (bK true (b0+1) (.own (b0+560) 0 (s.take p++[32]).length))) (b:M' (b0+560)=some (rK (s.take p++[32]))) (d:∀ z,(M' z).isSome=true→z∈[b0+1,b0+560]) (hn1:b0+1<n') (hn2:b0+560<n')=>Ey (b0+1) (b0+560) (s.take p++[32]) M' n' (by omega) a b d hn1 hn2
        simp only[hlo]at hcap
        refine D6 ?_ [b0+1,b0+560] (hcap _ _ ?_ ?_ ap (by omega) (by omega)) ?_ ?_
        iterate 4 (focus (simp only[aj,am,ai,seval,ah]<;>exact rfl))
        rintro v ⟨c,hc,rfl⟩
        have hc0:((c:Int)==0)=false:=beq_false_of_ne (by omega)
        repeat' first|simp only[al,aj,results238,ntmps238,am,hc0,ai,seval,ah]|exact rfl|refine aa (v:=.any) ?_|(refine mJ (s:=?_) ?_ ?_ ?_;rotate_left 1;(iterate 2 (focus (simp only[results238,ntmps238,am,hc0,ai,seval,ah]<;>exact rfl))))|(refine bm ?_)|(refine be ?_)|((first|(refine aM (g:=?_) ?_ ?_)|(refine aI (g:=?_) ?_ ?_));rotate_left 1;(focus (simp only[results238,ntmps238,am,hc0,ai,seval,ah]<;>exact rfl)))|refine Ai (by omega) ?_
        obtain⟨r,hr⟩:∃ r,r=s.drop (p+1):=⟨_,rfl⟩
        obtain⟨pre,hpre⟩:∃ u,u=s.take p++[32]:=⟨_,rfl⟩
        rw[h3,hf32,he32,hk1']at htf
        have hfl:s.map ct=pre++r.map ct:=by rw[hpre,hr,← htf,← List.map_append,List.take_append_drop]
        rw[hk1',← hr]at hd2
        rw[← hpre]at hlo
        have hrn:p+1+r.length=s.length:=by rw[hr,List.length_drop];omega
        rw[← hr,← hpre,hfl]
        clear hcap hwr hws hfl hfe htf
        obtain⟨P,hP⟩:∃ P,P=p+1:=⟨_,rfl⟩
        rw[← hP]at hlo hrn
        rw[← hP]
        (refine aU co (fun x:Nat=>r.length-x) (fun x=>x≤r.length∧(dZ (r.drop x)).isSome=true) (b0+16) (fun x=>[(0,.fn 239 []),(5,.ptr (b0+1) 0 0),(68,.ptr b0 0 0)]) (fun x=>[(b0,ke r x),(b0+1,bK true (b0+1) (.own (b0+2) 0 (P+x))),(b0+2,rK (pre++(r.take x).map ct))]) (0) [some (b0+720),some (b0+1),some (b0+560)] ?_ ?_ ?_ ?_;rotate_left 1;(focus (show b0≤_;omega));(focus (refine⟨?_,?_⟩<;>(try simp only[bk,fD,dO,BP,th,Bj,sX,List.take_zero,Lo,List.append_nil,Nat.add_zero,ai,seval,ah,au])<;>(try omega)));rotate_left 1)
        · exact⟨Nat.zero_le _,by rw[List.drop_zero];exact hd2⟩
        · rintro x ⟨g1,g2⟩
          by_cases gx:x<r.length
          · obtain⟨z',gz,gm,ge,gk1,gk2,gd2,gk3⟩:=vP gx g2
            have gfe:=CR z' gm
            have gtf:=vo gm ge
            have gfm:=zM gm
            obtain⟨w,hw⟩:∃ w,w=fW z':=⟨_,rfl⟩
            rw[← hw]at gfe gtf gfm
            have gwr:=fq gfm
            have gw0:decide (0≤w)=true:=decide_eq_true (by omega)
            have glo:(pre++(r.take x).map ct).length=P+x:=by rw[List.length_append,Lm,List.length_take,hlo];omega
            have gnx:pre++(r.take x).map ct++encodeRune w=pre++(r.take (x+(br r x).2)).map ct:=by rw[gtf,List.append_assoc]
            have gkk:(br r x).2=(encodeRune w).length:=by rw[gk3,hw,← sZ gm,Lm]
            rw[gkk]at gnx gd2 gk2 gk1
            by_cases g128:w<128
            · have gd:decide (w<128)=true:=decide_eq_true g128
              have gen:=CX (z:=w) (by omega) g128
              have gu:IntKind.u8.wrap w=((w.toNat.toUInt8).toNat:Int):=It (by omega) g128
              have gl1:(encodeRune w).length=1:=by rw[gen];rfl
              rw[gl1]at gnx gd2 gk2 gkk
              rw[gen]at gnx
              have hwb:=fun (M':aq) (n':Nat) (a:M' (b0+1)=some (bK true (b0+1) (.own (b0+2) 0 (pre++(r.take x).map ct).length))) (b:M' (b0+2)=some (rK (pre++(r.take x).map ct))) (d:∀ z,(M' z).isSome=true→z∈[b0+1,b0+2]) (hn1:b0+1<n') (hn2:b0+2<n')=>DJ true (b0+1) (b0+2) (pre++(r.take x).map ct) w.toNat.toUInt8 (by unfold bh;omega) M' n' (by omega) a b d hn1 hn2
              simp only[glo,gnx,← gu]at hwb
              repeat' first|simp only[al,aj,results238,ntmps238,am,gx,g1,gz,gw0,gd,gkk,ai,seval,ah]|exact rfl|refine aa (v:=.any) ?_|(first|(refine ac ?_ (gfe _) ?_)|(refine ab ?_ (fun _=>gfe _) ?_))|(refine ag ?_ [b0+1,b0+2] (hwb _ _ ?_ ?_ ap (by omega) (by omega)) ?_ ?_)|(refine hH (s:=?_) (y:=?_) (p:=?_) ?_ ?_ ?_ ?_;rotate_left 3;(iterate 2 (focus (simp only[results238,ntmps238,am,gx,g1,gz,gw0,gd,gkk,ai,seval,ah]<;>exact rfl)));(focus (simp only[results238,ntmps238,am,gx,g1,gz,gw0,gd,gkk,ai,seval,ah]<;>omega)))|(refine bm ?_)|(refine be ?_)|((first|(refine aM (g:=?_) ?_ ?_)|(refine aI (g:=?_) ?_ ?_));rotate_left 1;(focus (simp only[results238,ntmps238,am,gx,g1,gz,gw0,gd,gkk,ai,seval,ah]<;>exact rfl)))|refine Ai (by omega) ?_
              all_goals (first|omega|skip)
              all_goals ((refine aJ co (x+1) [some b0,some (b0+1),some (b0+240)] ?_ ?_ ?_ ?_;rotate_left 2;(focus (show b0≤_;omega));(focus (refine⟨?_,?_⟩<;>(try simp only[bk,fD,dO,BP,th,Bj,sX,gkk,Nat.add_assoc,ai,seval,ah,au])<;>(try omega)))))
              all_goals (first|(show r.length-(x+1)<r.length-x;omega)|exact⟨gk2,gd2⟩|skip)
            · have gd:decide (w<128)=false:=decide_eq_false g128
              have hwb:=fun (M':aq) (n':Nat) (a:M' (b0+1)=some (bK true (b0+1) (.own (b0+2) 0 (pre++(r.take x).map ct).length))) (b:M' (b0+2)=some (rK (pre++(r.take x).map ct))) (d:∀ z,(M' z).isSome=true→z∈[b0+1,b0+2]) (hn1:b0+1<n') (hn2:b0+2<n')=>zp w gfm (b0+1) (b0+2) (pre++(r.take x).map ct) (by omega) M' n' (by omega) a b d hn1 hn2
              simp only[glo,gnx]at hwb
              repeat' first|simp only[al,aj,results238,ntmps238,am,gx,g1,gz,gw0,gd,gkk,ai,seval,ah]|exact rfl|refine aa (v:=.any) ?_|(first|(refine ac ?_ (gfe _) ?_)|(refine ab ?_ (fun _=>gfe _) ?_))|(refine ag ?_ [b0+1,b0+2] (hwb _ _ ?_ ?_ ap (by omega) (by omega)) ?_ ?_)|(refine hH (s:=?_) (y:=?_) (p:=?_) ?_ ?_ ?_ ?_;rotate_left 3;(iterate 2 (focus (simp only[results238,ntmps238,am,gx,g1,gz,gw0,gd,gkk,ai,seval,ah]<;>exact rfl)));(focus (simp only[results238,ntmps238,am,gx,g1,gz,gw0,gd,gkk,ai,seval,ah]<;>omega)))|(refine bm ?_)|(refine be ?_)|((first|(refine aM (g:=?_) ?_ ?_)|(refine aI (g:=?_) ?_ ?_));rotate_left 1;(focus (simp only[results238,ntmps238,am,gx,g1,gz,gw0,gd,gkk,ai,seval,ah]<;>exact rfl)))|refine Ai (by omega) ?_
              all_goals (first|omega|skip)
              all_goals ((refine aJ co (x+(encodeRune w).length) [some b0,some (b0+1),some (b0+224)] ?_ ?_ ?_ ?_;rotate_left 2;(focus (show b0≤_;omega));(focus (refine⟨?_,?_⟩<;>(try simp only[bk,fD,dO,BP,th,Bj,sX,gkk,Nat.add_assoc,ai,seval,ah,au])<;>(try omega)))))
              all_goals (first|(show r.length-(x+(encodeRune w).length)<r.length-x;omega)|exact⟨gk2,gd2⟩|skip)
          · have gxe:x=r.length:=by omega
            have gtk:(r.take x)=r:=by rw[gxe,List.take_length]
            have glo:(pre++r.map ct).length=P+x:=by rw[List.length_append,Lm,hlo,gxe]
            rw[gtk]
            have hbs:=fun (M':aq) (n':Nat) (a:M' (b0+1)=some (bK true (b0+1) (.own (b0+2) 0 (pre++r.map ct).length))) (b:M' (b0+2)=some (rK (pre++r.map ct))) (d:∀ z,(M' z).isSome=true→z∈[b0+1,b0+2]) (hn1:b0+1<n') (hn2:b0+2<n')=>FZ true (b0+1) (b0+2) (pre++r.map ct) (by intro h;rw[h]at glo;simp at glo;omega) (by unfold bh;omega) M' n' (by omega) a b d hn1 hn2
            simp only[glo]at hbs
            (repeat' first|simp only[al,aj,results238,ntmps238,am,gx,ai,seval,ah]|exact rfl|refine aa (v:=.any) ?_|(refine ag ?_ [b0+1,b0+2] (hbs _ _ ?_ ?_ ap (by omega) (by omega)) ?_ ?_)|(refine oP (s:=?_) (y:=?_) (p:=?_) ?_ ?_ ?_ ?_;rotate_left 3;(iterate 2 (focus (simp only[results238,ntmps238,am,gx,ai,seval,ah]<;>exact rfl)));(focus (simp only[results238,ntmps238,am,gx,ai,seval,ah]<;>omega)))|(refine bm ?_)|(refine be ?_)|((first|(refine aM (g:=?_) ?_ ?_)|(refine aI (g:=?_) ?_ ?_));rotate_left 1;(focus (simp only[results238,ntmps238,am,gx,ai,seval,ah]<;>exact rfl)))|((first|apply Ca|apply Cb)<;>intro hb)|refine Ai (by omega) ?_|(apply Ai<;>intro hb)|refine Fin.pure ?_ ?_ ?_|simp only[au])
    · have hpe:p=s.length:=by omega
      have hr:=ux h3 hpe
      have hd0:decide ((0:Int)=0)=true:=rfl
      rw[hr]
      (repeat' first|simp only[al,aj,results238,ntmps238,am,hp,dI,ai,seval,ah]|exact rfl|refine aa (v:=.any) ?_|(refine ag ?_ [b0+1] (Hd false (b0+1) _ _ ?_ ap (by omega)) ?_ ?_)|(refine oP (s:=?_) (y:=?_) (p:=?_) ?_ ?_ ?_ ?_;rotate_left 3;(iterate 2 (focus (simp only[results238,ntmps238,am,hp,dI,ai,seval,ah]<;>exact rfl)));(focus (simp only[results238,ntmps238,am,hp,dI,ai,seval,ah]<;>omega)))|(refine bm ?_)|(refine be ?_)|((first|(refine aM (g:=?_) ?_ ?_)|(refine aI (g:=?_) ?_ ?_));rotate_left 1;(focus (simp only[results238,ntmps238,am,hp,dI,ai,seval,ah]<;>exact rfl)))|((first|apply Ca|apply Cb)<;>intro hb)|refine Ai (by omega) ?_|(apply Ai<;>intro hb)|refine Fin.pure ?_ ?_ ?_|simp only[au])
end Go.Proofs.YtidmkaalhmeflaaGreatDoor
