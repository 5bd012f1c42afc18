/-
 Texts joined: XOp,XOr.
-/
import Derived.Test.YtcllbjanalhjgaaGreatDoorR7
import Derived.Test.YtcllbjanalhjgaaGreatDoorQw
namespace Go.Proofs.YtcllbjanalhjgaaGreatDoor
set_option maxRecDepth 100000
set_option maxHeartbeats 32000000
set_option linter.unusedSimpArgs false
set_option linter.unusedVariables false
open Go Go.RowKit Vm Go.Lib Tryz
open Vm renaming be→Ca,bo→Cb
open And renaming intro→Ai
open List renaming length_map→Lm,not_mem_nil→Ln,map_nil→Lo,map_cons→Lc,mem_cons→Lk
open Bool renaming not_false→Bf,not_true→Bt
theorem MQ (p s a b:List UInt8):(df p s a b).map bc=[[.int .u8 1,.str [],.str (p++[58]++a),.sl false 3 [[.str [],.str (120::109::108::110::115::58::p),.str s]],.str [],.int .i64 1],[.int .u8 1,.str [],.str (p++[58]++b),.sl false 3 [[.str [],.str (p++[58]++a),.str [49]],[.str [],.str b,.str [50]]],.str [],.int .i64 0]]:=rfl
theorem F9 (p s a b:List UInt8)(hp:p.length≤1000)(ha:a.length≤1000)(hb:b.length≤1000)(nm:Nat) :
  Ev cx 17 nm [.str p,.str s,.str a,.str b] ao.nil (.own nm 0 2) [(nm,some ⟨6,(df p s a b).map bc⟩)]:=by
 have hC:=MQ p s a b
 generalize (df p s a b).map bc=R at hC ⊢
 refine rC rfl (fun cargs w=>call17 cargs w) func17 rfl mixed (by kernel_rfl) rfl ?_;intro b0 hb0
 repeat' first|simp only[am,ah,results17,ntmps17,ap,ag,seval,ae]|exact rfl|refine aa (v:=.any) ?_|((first|apply Ca|apply Cb)<;>intro hb)|refine Ai (by omega) ?_|(apply Ai<;>intro hb)
 refine dQ ?_
 repeat' first|simp only[am,ah,results17,ntmps17,ap,List.length_append,List.length_cons,List.length_nil,ag,seval,ae]|exact rfl|refine aa (v:=.any) ?_|((first|apply Ca|apply Cb)<;>intro hb)|refine Ai (by omega) ?_|(apply Ai<;>intro hb)
 refine dQ ?_
 repeat' first|simp only[am,ah,results17,ntmps17,ap,List.length_append,List.length_cons,List.length_nil,ag,seval,ae]|exact rfl|refine aa (v:=.any) ?_|((first|apply Ca|apply Cb)<;>intro hb)|refine Ai (by omega) ?_|(apply Ai<;>intro hb)
 (refine Gf cm (b0+16) ([(8,.own b0 0 2)]) ([(b0,⟨6,R⟩)]) [some (b0+432)] ?_ ?_ ?_;(focus (show b0≤_;omega));(focus (refine⟨?_,?_⟩<;>(try simp only[bj,k7,hC,aU,iq,plainL,V.plain,Nat.le_refl,Bool.and_self,Bool.true_and,List.length_cons,List.length_nil,ag,seval,ae,au])<;>(try omega))))
 repeat' first|simp only[am,ah,results17,ntmps17,ap,ag,seval,ae]|exact rfl|refine aa (v:=.any) ?_|((first|apply Ca|apply Cb)<;>intro hb)|refine Ai (by omega) ?_|(apply Ai<;>intro hb)
 all_goals ((refine Fin.give [(b0,some 0)] [] ?_ ?_ ?_ ?_ ?_ (fun q hq=>by have hqq:=n9 q hq;first|(simp only[aD,tgt,Lc,Lo,Lk,Ln,or_false]at hqq ⊢;omega)|(simp only[aD,tgt,Lc,Lo,Lk,Ln,or_false]at hqq))<;>(try simp only[results17,ntmps17,ap,hC,plainL,V.plain,Bool.and_self,Bool.true_and,ec,ag,seval,ae])<;>(try simp only[au])<;>(try omega)))
theorem BJ (p s a b:List UInt8)(hp:p.length≤1000)(ha:a.length≤1000)(hb:b.length≤1000)(nm:Nat) :
  Ev cx 17 nm [.str p,.str s,.str a,.str b] ao.nil (.sl false 6 ((df p s a b).map bc)) []:=by
 have hpl:=ai (df p s a b)
 have hl:(df p s a b).length=2:=rfl
 have htk:((df p s a b).map bc).take 2=(df p s a b).map bc:=List.take_of_length_le (by rw[Lm,hl];omega)
 refine Ev.freeze (F9 p s a b hp ha hb nm) ?_ ?_
 ·simp only[am,ah,ap,hpl,hl,htk,Lm,ag,seval,ae]<;>omega
 ·simp only[am,ah,ap,hpl,hl,htk,Lm,ag,seval,ae]
theorem yb (p s a b:List UInt8)(hp:p.length≤1000)(hs:s.length≤1000)(ha:a.length≤1000)(hb:b.length≤1000):∀ x∈df p s a b,x.okTo 1000000∧x.i64:=by
 intro x hx
 unfold df at hx
 simp only[Lk,Ln,or_false]at hx
 rcases hx with rfl|rfl
 ·refine⟨⟨by simp,by simp,by simp;omega,by simp,fun y hy=>?_⟩,by simp[Nd.i64]⟩
  have:=List.mem_singleton.1 hy;subst this
  exact⟨by simp,by simp;omega,by simp only;omega⟩
 ·refine⟨⟨by simp,by simp,by simp;omega,by simp,fun y hy=>?_⟩,by simp[Nd.i64]⟩
  simp only[Lk,Ln,or_false]at hy
  rcases hy with rfl|rfl
  ·exact⟨by simp,by simp;omega,by simp⟩
  ·exact⟨by simp,by simp only;omega,by simp⟩
theorem py (p q s a b:List UInt8)(h1:p.length≤bk)(h2:q.length≤bk)(h3:s.length≤bk)(h4:a.length≤bk)(h5:b.length≤bk)(nm:Nat):Ev cx 4 nm [.str p,.str q,.str s,.str a,.str b] ao.nil (.bool true) []:=by
  have hal:=y8
  by_cases hl:p.length≤100∧q.length≤100∧s.length≤100∧a.length≤100∧b.length≤100
  · obtain ⟨l1,l2,l3,l4,l5⟩:=hl
    have D:=Ai (decide_eq_false (show ¬(100:Int)<(p.length:Int) by omega)) (Ai (decide_eq_false (show ¬(100:Int)<(q.length:Int) by omega)) (Ai (decide_eq_false (show ¬(100:Int)<(s.length:Int) by omega)) (Ai (decide_eq_false (show ¬(100:Int)<(a.length:Int) by omega)) (decide_eq_false (show ¬(100:Int)<(b.length:Int) by omega)))))
    have hn1:=ig p h1
    have hn2:=ig q h2
    have hn3:=ig a h4
    have hn4:=ig b h5
    by_cases hn:cU p=true∧cU q=true∧cU a=true∧cU b=true∧b≠[120,109,108,110,115]
    · obtain⟨m1,m2,m3,m4,m5⟩:=hn
      rw[m1]at hn1;rw[m2]at hn2;rw[m3]at hn3;rw[m4]at hn4
      have m5':(b==[120,109,108,110,115])=false:=by simpa using m5
      have hm1:=BJ p s a b (by omega) (by omega) (by omega)
      have hm2:=BJ q s a b (by omega) (by omega) (by omega)
      have hr1:=lG (df p s a b) (by simp[df,bk]) (yb p s a b (by omega) (by omega) (by omega) (by omega))
      have hr2:=lG (df q s a b) (by simp[df,bk]) (yb q s a b (by omega) (by omega) (by omega) (by omega))
      have hp1:=ai (df p s a b)
      have hp2:=ai (df q s a b)
      unfold iT at hr1 hr2
      by_cases hx:p≠[120,109,108]∧q≠[120,109,108]∧p≠[120,109,108,110,115]∧q≠[120,109,108,110,115]
      · obtain⟨x1,x2,x3,x4⟩:=hx
        have X:=Ai (beq_false_of_ne x1) (Ai (beq_false_of_ne x2) (Ai (beq_false_of_ne x3) (beq_false_of_ne x4)))
        rw[yc m1 m3 m4 m5 x1 x3]at hr1
        rw[yc m2 m3 m4 m5 x2 x4]at hr2
        generalize (df p s a b).map bc=P1 at hm1 hr1 hp1
        generalize (df q s a b).map bc=P2 at hm2 hr2 hp2
        have hs0:=yy [] [] (by decide) (by decide) (by simp) (by simp)
        rw[decide_eq_true rfl]at hs0
        by_cases c1:aO s≠0
        · rw[if_pos c1]at hr1 hr2
          simp only[Lo]at hr1 hr2 hs0
          refine ay rfl (fun cargs w=>call4 cargs w) func4 rfl mixed (by kernel_rfl) rfl ?_;intro b0 hb0
          (repeat' first|simp only[am,ah,results4,ntmps4,ap,List.append_eq,List.cons_append,List.nil_append,D,X,m5',hp1,hp2,Bt,Bf,ag,seval,ae]|exact rfl|refine aa (v:=.any) ?_|((first|(refine ac ?_ (hn1 _) ?_)|(refine ab ?_ (fun _=>hn1 _) ?_)|(refine ac ?_ (hm1 _) ?_)|(refine ab ?_ (fun _=>hm1 _) ?_)|(refine ac ?_ (hr1 _) ?_)|(refine ab ?_ (fun _=>hr1 _) ?_));(focus (simp only[results4,ntmps4,ap,List.append_eq,List.cons_append,List.nil_append,D,X,m5',hp1,hp2,Bt,Bf,ag,seval,ae]<;>exact rfl)))|((first|(refine ac ?_ (hn2 _) ?_)|(refine ab ?_ (fun _=>hn2 _) ?_)|(refine ac ?_ (hm2 _) ?_)|(refine ab ?_ (fun _=>hm2 _) ?_)|(refine ac ?_ (hr2 _) ?_)|(refine ab ?_ (fun _=>hr2 _) ?_));(focus (simp only[results4,ntmps4,ap,List.append_eq,List.cons_append,List.nil_append,D,X,m5',hp1,hp2,Bt,Bf,ag,seval,ae]<;>exact rfl)))|((first|(refine ac ?_ (hn3 _) ?_)|(refine ab ?_ (fun _=>hn3 _) ?_));(focus (simp only[results4,ntmps4,ap,List.append_eq,List.cons_append,List.nil_append,D,X,m5',hp1,hp2,Bt,Bf,ag,seval,ae]<;>exact rfl)))|((first|(refine ac ?_ (hn4 _) ?_)|(refine ab ?_ (fun _=>hn4 _) ?_));(focus (simp only[results4,ntmps4,ap,List.append_eq,List.cons_append,List.nil_append,D,X,m5',hp1,hp2,Bt,Bf,ag,seval,ae]<;>exact rfl)))|(first|(refine ac ?_ (hal _) ?_)|(refine ab ?_ (fun _=>hal _) ?_)|(refine ac ?_ (hs0 _) ?_)|(refine ab ?_ (fun _=>hs0 _) ?_))|((first|apply Ca|apply Cb)<;>intro hb)|refine Ai (by omega) ?_|(apply Ai<;>intro hb)|refine Fin.pure ?_ ?_ ?_|simp only[au])
        · rw[if_neg c1]at hr1 hr2
          by_cases c2:dO s=true∨s=[]
          · rw[if_pos c2]at hr1 hr2
            simp only[Lo]at hr1 hr2 hs0
            refine ay rfl (fun cargs w=>call4 cargs w) func4 rfl mixed (by kernel_rfl) rfl ?_;intro b0 hb0
            (repeat' first|simp only[am,ah,results4,ntmps4,ap,List.append_eq,List.cons_append,List.nil_append,D,X,m5',hp1,hp2,Bt,Bf,ag,seval,ae]|exact rfl|refine aa (v:=.any) ?_|((first|(refine ac ?_ (hn1 _) ?_)|(refine ab ?_ (fun _=>hn1 _) ?_)|(refine ac ?_ (hm1 _) ?_)|(refine ab ?_ (fun _=>hm1 _) ?_)|(refine ac ?_ (hr1 _) ?_)|(refine ab ?_ (fun _=>hr1 _) ?_));(focus (simp only[results4,ntmps4,ap,List.append_eq,List.cons_append,List.nil_append,D,X,m5',hp1,hp2,Bt,Bf,ag,seval,ae]<;>exact rfl)))|((first|(refine ac ?_ (hn2 _) ?_)|(refine ab ?_ (fun _=>hn2 _) ?_)|(refine ac ?_ (hm2 _) ?_)|(refine ab ?_ (fun _=>hm2 _) ?_)|(refine ac ?_ (hr2 _) ?_)|(refine ab ?_ (fun _=>hr2 _) ?_));(focus (simp only[results4,ntmps4,ap,List.append_eq,List.cons_append,List.nil_append,D,X,m5',hp1,hp2,Bt,Bf,ag,seval,ae]<;>exact rfl)))|((first|(refine ac ?_ (hn3 _) ?_)|(refine ab ?_ (fun _=>hn3 _) ?_));(focus (simp only[results4,ntmps4,ap,List.append_eq,List.cons_append,List.nil_append,D,X,m5',hp1,hp2,Bt,Bf,ag,seval,ae]<;>exact rfl)))|((first|(refine ac ?_ (hn4 _) ?_)|(refine ab ?_ (fun _=>hn4 _) ?_));(focus (simp only[results4,ntmps4,ap,List.append_eq,List.cons_append,List.nil_append,D,X,m5',hp1,hp2,Bt,Bf,ag,seval,ae]<;>exact rfl)))|(first|(refine ac ?_ (hal _) ?_)|(refine ab ?_ (fun _=>hal _) ?_)|(refine ac ?_ (hs0 _) ?_)|(refine ab ?_ (fun _=>hs0 _) ?_))|((first|apply Ca|apply Cb)<;>intro hb)|refine Ai (by omega) ?_|(apply Ai<;>intro hb)|refine Fin.pure ?_ ?_ ?_|simp only[au])
          · rw[if_neg c2]at hr1 hr2
            have hs1:=yy (mA s a b) (mA s a b) (by simp[mA,bk]) (by simp[mA,bk]) (by simp[mA,bk]) (by simp[mA,bk])
            rw[decide_eq_true rfl]at hs1
            have hC:(mA s a b).map bc=[[.int .u8 1,.str s,.str a,.sl false 3 [],.str [],.int .i64 1],[.int .u8 1,.str s,.str b,.sl false 3 [[.str s,.str a,.str [49]],[.str [],.str b,.str [50]]],.str [],.int .i64 0]]:=rfl
            rw[hC]at hr1 hr2 hs1
            refine ay rfl (fun cargs w=>call4 cargs w) func4 rfl mixed (by kernel_rfl) rfl ?_;intro b0 hb0
            (repeat' first|simp only[am,ah,results4,ntmps4,ap,List.append_eq,List.cons_append,List.nil_append,D,X,m5',hp1,hp2,plainL,V.plain,List.length_cons,List.length_nil,beq_self_eq_true,Bool.and_self,Bt,Bf,ag,seval,ae]|exact rfl|refine aa (v:=.any) ?_|((first|(refine ac ?_ (hn1 _) ?_)|(refine ab ?_ (fun _=>hn1 _) ?_)|(refine ac ?_ (hm1 _) ?_)|(refine ab ?_ (fun _=>hm1 _) ?_)|(refine ac ?_ (hr1 _) ?_)|(refine ab ?_ (fun _=>hr1 _) ?_));(focus (simp only[results4,ntmps4,ap,List.append_eq,List.cons_append,List.nil_append,D,X,m5',hp1,hp2,plainL,V.plain,List.length_cons,List.length_nil,beq_self_eq_true,Bool.and_self,Bt,Bf,ag,seval,ae]<;>exact rfl)))|((first|(refine ac ?_ (hn2 _) ?_)|(refine ab ?_ (fun _=>hn2 _) ?_)|(refine ac ?_ (hm2 _) ?_)|(refine ab ?_ (fun _=>hm2 _) ?_)|(refine ac ?_ (hr2 _) ?_)|(refine ab ?_ (fun _=>hr2 _) ?_));(focus (simp only[results4,ntmps4,ap,List.append_eq,List.cons_append,List.nil_append,D,X,m5',hp1,hp2,plainL,V.plain,List.length_cons,List.length_nil,beq_self_eq_true,Bool.and_self,Bt,Bf,ag,seval,ae]<;>exact rfl)))|((first|(refine ac ?_ (hn3 _) ?_)|(refine ab ?_ (fun _=>hn3 _) ?_));(focus (simp only[results4,ntmps4,ap,List.append_eq,List.cons_append,List.nil_append,D,X,m5',hp1,hp2,plainL,V.plain,List.length_cons,List.length_nil,beq_self_eq_true,Bool.and_self,Bt,Bf,ag,seval,ae]<;>exact rfl)))|((first|(refine ac ?_ (hn4 _) ?_)|(refine ab ?_ (fun _=>hn4 _) ?_));(focus (simp only[results4,ntmps4,ap,List.append_eq,List.cons_append,List.nil_append,D,X,m5',hp1,hp2,plainL,V.plain,List.length_cons,List.length_nil,beq_self_eq_true,Bool.and_self,Bt,Bf,ag,seval,ae]<;>exact rfl)))|(first|(refine ac ?_ (hal _) ?_)|(refine ab ?_ (fun _=>hal _) ?_)|(refine ac ?_ (hs1 _) ?_)|(refine ab ?_ (fun _=>hs1 _) ?_))|((first|apply Ca|apply Cb)<;>intro hb)|refine Ai (by omega) ?_|(apply Ai<;>intro hb)|refine Fin.pure ?_ ?_ ?_|simp only[au])
      · generalize (df p s a b).map bc=P1 at hm1 hr1 hp1
        generalize (df q s a b).map bc=P2 at hm2 hr2 hp2
        have hp3:=ai (bq (df p s a b)).1
        have hp4:=ai (bq (df q s a b)).1
        generalize (bq (df p s a b)).1=R1 at hr1 hp3
        generalize (bq (df q s a b)).1=R2 at hr2 hp4
        refine ay rfl (fun cargs w=>call4 cargs w) func4 rfl mixed (by kernel_rfl) rfl ?_;intro b0 hb0
        (repeat' first|simp only[am,ah,results4,ntmps4,ap,D,m5',hp1,hp2,hp3,hp4,Bt,Bf,ag,seval,ae]|exact rfl|refine aa (v:=.any) ?_|((first|(refine ac ?_ (hn1 _) ?_)|(refine ab ?_ (fun _=>hn1 _) ?_)|(refine ac ?_ (hm1 _) ?_)|(refine ab ?_ (fun _=>hm1 _) ?_)|(refine ac ?_ (hr1 _) ?_)|(refine ab ?_ (fun _=>hr1 _) ?_));(focus (simp only[results4,ntmps4,ap,D,m5',hp1,hp2,hp3,hp4,Bt,Bf,ag,seval,ae]<;>exact rfl)))|((first|(refine ac ?_ (hn2 _) ?_)|(refine ab ?_ (fun _=>hn2 _) ?_)|(refine ac ?_ (hm2 _) ?_)|(refine ab ?_ (fun _=>hm2 _) ?_)|(refine ac ?_ (hr2 _) ?_)|(refine ab ?_ (fun _=>hr2 _) ?_));(focus (simp only[results4,ntmps4,ap,D,m5',hp1,hp2,hp3,hp4,Bt,Bf,ag,seval,ae]<;>exact rfl)))|((first|(refine ac ?_ (hn3 _) ?_)|(refine ab ?_ (fun _=>hn3 _) ?_));(focus (simp only[results4,ntmps4,ap,D,m5',hp1,hp2,hp3,hp4,Bt,Bf,ag,seval,ae]<;>exact rfl)))|((first|(refine ac ?_ (hn4 _) ?_)|(refine ab ?_ (fun _=>hn4 _) ?_));(focus (simp only[results4,ntmps4,ap,D,m5',hp1,hp2,hp3,hp4,Bt,Bf,ag,seval,ae]<;>exact rfl)))|(first|(refine ac ?_ (hal _) ?_)|(refine ab ?_ (fun _=>hal _) ?_))|((first|apply Ca|apply Cb)<;>intro hb)|refine Ai (by omega) ?_|(apply Ai<;>intro hb)|refine Fin.pure ?_ ?_ ?_|simp only[au])
        all_goals (exfalso;simp only[Bool.or_eq_false_iff,beq_eq_false_iff_ne]at hb;exact hx ⟨hb.1.1.1,hb.1.1.2,hb.1.2,hb.2⟩)
    · refine ay rfl (fun cargs w=>call4 cargs w) func4 rfl mixed (by kernel_rfl) rfl ?_;intro b0 hb0
      (repeat' first|simp only[am,ah,results4,ntmps4,ap,D,Bt,Bf,ag,seval,ae]|exact rfl|refine aa (v:=.any) ?_|((first|(refine ac ?_ (hn1 _) ?_)|(refine ab ?_ (fun _=>hn1 _) ?_));(focus (simp only[results4,ntmps4,ap,D,Bt,Bf,ag,seval,ae]<;>exact rfl)))|((first|(refine ac ?_ (hn2 _) ?_)|(refine ab ?_ (fun _=>hn2 _) ?_));(focus (simp only[results4,ntmps4,ap,D,Bt,Bf,ag,seval,ae]<;>exact rfl)))|((first|(refine ac ?_ (hn3 _) ?_)|(refine ab ?_ (fun _=>hn3 _) ?_));(focus (simp only[results4,ntmps4,ap,D,Bt,Bf,ag,seval,ae]<;>exact rfl)))|((first|(refine ac ?_ (hn4 _) ?_)|(refine ab ?_ (fun _=>hn4 _) ?_));(focus (simp only[results4,ntmps4,ap,D,Bt,Bf,ag,seval,ae]<;>exact rfl)))|(first|(refine ac ?_ (hal _) ?_)|(refine ab ?_ (fun _=>hal _) ?_))|((first|apply Ca|apply Cb)<;>intro hb)|refine Ai (by omega) ?_|(apply Ai<;>intro hb)|refine Fin.pure ?_ ?_ ?_|simp only[au])
      all_goals (exfalso;simp only[Bool.or_eq_false_iff,Bool.not_eq_false',beq_eq_false_iff_ne]at hb;exact hn ⟨hb.1.1.1.1,hb.1.1.1.2,hb.1.1.2,hb.1.2,hb.2⟩)
  · refine ay rfl (fun cargs w=>call4 cargs w) func4 rfl mixed (by kernel_rfl) rfl ?_;intro b0 hb0
    (repeat' first|simp only[am,ah,results4,ntmps4,ap,Bt,ag,seval,ae]|exact rfl|refine aa (v:=.any) ?_|(first|(refine ac ?_ (hal _) ?_)|(refine ab ?_ (fun _=>hal _) ?_))|((first|apply Ca|apply Cb)<;>intro hb)|refine Ai (by omega) ?_|(apply Ai<;>intro hb)|refine Fin.pure ?_ ?_ ?_|simp only[au])
    all_goals (exfalso;simp only[Bool.or_eq_false_iff,decide_eq_false_iff_not]at hb;exact hl ⟨by omega,by omega,by omega,by omega,by omega⟩)
theorem px (xs:List V)(h:jz cx.P Tryz.f4.params.toList xs):Ev cx 4 0 xs ao.nil (.bool true) []:=by
 rw[Tryz.params4]at h
 obtain⟨_,v1,_,rfl,h1,_,v2,_,rfl,h2,_,v3,_,rfl,h3,_,v4,_,rfl,h4,_,v5,_,rfl,h5,h6⟩:=h
 obtain rfl:=ER h6
 obtain⟨p,rfl,hp⟩:=jS jt h1
 obtain⟨q,rfl,hq⟩:=jS jt h2
 obtain⟨s,rfl,hs⟩:=jS jt h3
 obtain⟨a,rfl,ha⟩:=jS jt h4
 obtain⟨b,rfl,hb⟩:=jS jt h5
 rw[kU jt (by simp),kU jt (by simp),kU jt (by simp),kU jt (by simp),kU jt (by simp)]
 exact py p q s a b (by unfold bk;omega) (by unfold bk;omega) (by unfold bk;omega) (by unfold bk;omega) (by unfold bk;omega) 0
end Go.Proofs.YtcllbjanalhjgaaGreatDoor
