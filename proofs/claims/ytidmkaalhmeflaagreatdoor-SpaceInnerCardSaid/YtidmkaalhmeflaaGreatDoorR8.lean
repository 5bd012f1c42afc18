/-
 Texts joined: XOn.
-/
import Derived.Test.YtidmkaalhmeflaaGreatDoorR7
import Derived.Test.YtidmkaalhmeflaaGreatDoorQw
import Derived.Test.YtidmkaalhmeflaaGreatDoorQv
namespace Go.Proofs.YtidmkaalhmeflaaGreatDoor
set_option maxRecDepth 100000
set_option maxHeartbeats 32000000
set_option linter.unusedSimpArgs false
set_option linter.unusedVariables false
open Go Go.RowKit Vm Go.Lib Tryz
open Vm renaming aZ→Ca,bj→Cb
open And renaming intro→Ai
open List renaming length_map→Lm,not_mem_nil→Ln,map_nil→Lo,map_cons→Lc,mem_cons→Lk
open Bool renaming not_false→Bf,not_true→Bt
theorem Sg (v:List Nd)(s u:List UInt8)(hv:v.length≤bh)(hok:∀ x∈v,x.okTo bh∧x.i64)(hs:s.length≤bh)(hu:u.length≤bh)(nm:Nat):Ev cx 6 nm [.sl false 6 (v.map ba),.str s,.str u] aq.nil (.bool true) []:=by
 have hgr:=nV v 100 5000 (by omega) (by omega) hv (fun x hx=>(hok x hx).1)
 have hal:=RU
 have hpv:=ad v
 cases hg:jO v 100 5000 with
 | true =>
  rw[hg]at hgr
  refine ay rfl (fun cargs w=>call6 cargs w) func6 rfl mixed (by kernel_rfl) rfl ?_;intro b0 hb0
  (repeat' first|simp only[al,aj,results6,ntmps6,am,hpv,Bt,ai,seval,ah]|exact rfl|refine aa (v:=.any) ?_|(first|(refine ac ?_ (hal _) ?_)|(refine ab ?_ (fun _=>hal _) ?_)|(refine ac ?_ (hgr _) ?_)|(refine ab ?_ (fun _=>hgr _) ?_))|refine aC (by decide +kernel) ?_|((first|apply Ca|apply Cb)<;>intro hb)|refine Ai (by omega) ?_|(apply Ai<;>intro hb)|refine Fin.pure ?_ ?_ ?_|simp only[au])
 | false =>
  rw[hg]at hgr
  obtain⟨hv1,hv2⟩:=jF (by omega) (by omega) hg
  by_cases h1:1000<s.length
  ·have d1:decide ((1000:Int)<(s.length:Int))=true:=decide_eq_true (by omega)
   have d1':decide (1000<s.length)=true:=decide_eq_true h1
   refine ay rfl (fun cargs w=>call6 cargs w) func6 rfl mixed (by kernel_rfl) rfl ?_;intro b0 hb0
   (repeat' first|simp only[al,aj,results6,ntmps6,am,hpv,d1,d1',Bt,ai,seval,ah]|exact rfl|refine aa (v:=.any) ?_|(first|(refine ac ?_ (hal _) ?_)|(refine ab ?_ (fun _=>hal _) ?_)|(refine ac ?_ (hgr _) ?_)|(refine ab ?_ (fun _=>hgr _) ?_))|refine aC (by decide +kernel) ?_|((first|apply Ca|apply Cb)<;>intro hb)|refine Ai (by omega) ?_|(apply Ai<;>intro hb)|refine Fin.pure ?_ ?_ ?_|simp only[au])
  have d1:decide ((1000:Int)<(s.length:Int))=false:=decide_eq_false (by omega)
  have d1':decide (1000<s.length)=false:=decide_eq_false h1
  by_cases h2:1000<u.length
  ·have d2:decide ((1000:Int)<(u.length:Int))=true:=decide_eq_true (by omega)
   have d2':decide (1000<u.length)=true:=decide_eq_true h2
   refine ay rfl (fun cargs w=>call6 cargs w) func6 rfl mixed (by kernel_rfl) rfl ?_;intro b0 hb0
   (repeat' first|simp only[al,aj,results6,ntmps6,am,hpv,d1,d1',d2,d2',Bt,ai,seval,ah]|exact rfl|refine aa (v:=.any) ?_|(first|(refine ac ?_ (hal _) ?_)|(refine ab ?_ (fun _=>hal _) ?_)|(refine ac ?_ (hgr _) ?_)|(refine ab ?_ (fun _=>hgr _) ?_))|refine aC (by decide +kernel) ?_|((first|apply Ca|apply Cb)<;>intro hb)|refine Ai (by omega) ?_|(apply Ai<;>intro hb)|refine Fin.pure ?_ ?_ ?_|simp only[au])
  have d2:decide ((1000:Int)<(u.length:Int))=false:=decide_eq_false (by omega)
  have d2':decide (1000<u.length)=false:=decide_eq_false h2
  have hokM:∀ x∈v,x.okTo 1000000∧x.i64:=fun x hx=>⟨kG (hv2 x hx).2.1 (by omega),(hok x hx).2⟩
  have hb1:=RI v s hv hokM hs
  have hb2:=RI v u hv hokM hu
  unfold gw at hb1 hb2
  by_cases e1:(Rp v s).2=0
  ·by_cases e2:(Rp v u).2=0
   ·obtain⟨n,w,T,hv0,hk,ha16,q⟩:=Ql e1
    have q1:=q s e1;have q2:=q u e2
    have hl1:=RL v s
    have hT:=bare_fit (sp:=s) (fun x hx=>hokM x hx)
    rw[q1]at hl1 hT
    have hTl:T.length≤600:=by simp only[List.length_cons]at hl1;omega
    have hTa:∀ x∈T,x.attrs.length≤bh:=fun x hx=>by have:=(hT x (List.mem_cons_of_mem _ hx)).1.1;unfold bh;omega
    rw[q1,e1]at hb1
    rw[q2,e2]at hb2
    have hsT:=p0 T T (by unfold bh;omega) (by unfold bh;omega) hTa hTa
    rw[decide_eq_true rfl]at hsT
    have hpT:=ad T
    subst hv0
    -- the attributes: that of the namespace,if there is one,and the others
    have hat:∀ sp,(bE n sp).attrs=SI n sp++(Rx (Rr n.attrs)++n.attrs.map (RC (Rr n.attrs))):=fun sp=>by unfold bE;rw[List.append_assoc]
    have hal2:(Rx (Rr n.attrs)++n.attrs.map (RC (Rr n.attrs))).length≤40:=by
     rw[List.length_append,SR,Lm];have:=mF n.attrs;omega
    have hrow:∀ sp,ba (bE n sp)=[.int .u8 n.kind,.str [],.str n.name,.sl false 3 ((bE n sp).attrs.map bG),.str [],.int .i64 n.many]:=fun _=>rfl
    simp only[Lc,hrow,hat]at hb1 hb2
    generalize Rx (Rr n.attrs)++n.attrs.map (RC (Rr n.attrs))=A at hb1 hb2 hal2
    have hsA:=vy A A (by unfold bh;omega) (by unfold bh;omega)
    rw[decide_eq_true rfl]at hsA
    have hpA:=av A
    clear hT q q1 q2 hl1 hat hrow hv2 hokM
    unfold SI at hb1 hb2
    have t1:decide (((T.length+1:Nat):Int)<1)=false:=decide_eq_false (by omega)
    have t2:decide ((0:Int)<((A.length+1:Nat):Int))=true:=decide_eq_true (by omega)
    have t3:decide (0<A.length+1)=true:=decide_eq_true (by omega)
    have t4:decide (T.length+1<1)=false:=decide_eq_false (by omega)
    cases c1:(n.space==s)<;>cases c2:(n.space==u)
    all_goals (rw[c1]at hb1;rw[c2]at hb2;simp only[if_true,Bool.false_eq_true,if_false,List.nil_append,List.cons_append,Lc]at hb1 hb2)
    all_goals
     refine ay rfl (fun cargs w=>call6 cargs w) func6 rfl mixed (by kernel_rfl) rfl ?_;intro b0 hb0
     (repeat' first|simp only[al,aj,results6,ntmps6,am,hpv,hpT,hpA,ba,bG,c1,c2,d1,d1',d2,d2',t1,t2,t3,t4,ad,av,Lc,List.length_cons,Lm,List.drop_succ_cons,List.drop_zero,beq_self_eq_true,Bt,Bf,ai,seval,ah]|exact rfl|refine aa (v:=.any) ?_|((first|(refine ac ?_ (hb1 _) ?_)|(refine ab ?_ (fun _=>hb1 _) ?_));(focus (simp only[results6,ntmps6,am,hpv,hpT,hpA,ba,bG,c1,c2,d1,d1',d2,d2',t1,t2,t3,t4,ad,av,Lc,List.length_cons,Lm,List.drop_succ_cons,List.drop_zero,beq_self_eq_true,Bt,Bf,ai,seval,ah]<;>exact rfl)))|((first|(refine ac ?_ (hb2 _) ?_)|(refine ab ?_ (fun _=>hb2 _) ?_));(focus (simp only[results6,ntmps6,am,hpv,hpT,hpA,ba,bG,c1,c2,d1,d1',d2,d2',t1,t2,t3,t4,ad,av,Lc,List.length_cons,Lm,List.drop_succ_cons,List.drop_zero,beq_self_eq_true,Bt,Bf,ai,seval,ah]<;>exact rfl)))|(first|(refine ac ?_ (hal _) ?_)|(refine ab ?_ (fun _=>hal _) ?_)|(refine ac ?_ (hgr _) ?_)|(refine ab ?_ (fun _=>hgr _) ?_)|(refine ac ?_ (hsA _) ?_)|(refine ab ?_ (fun _=>hsA _) ?_)|(refine ac ?_ (hsT _) ?_)|(refine ab ?_ (fun _=>hsT _) ?_))|refine aC (by decide +kernel) ?_|((first|apply Ca|apply Cb)<;>intro hb)|refine Ai (by omega) ?_|(apply Ai<;>intro hb)|refine Fin.pure ?_ ?_ ?_|simp only[au])
   ·have q2:=Qa e2
    rw[q2]at hb2
    have f1:((Rp v u).2 != 0)=true:=by simpa using e2
    generalize (Rp v u).2=f at hb2 f1
    rw[e1]at hb1
    have hp1:=ad (Rp v s).1
    refine ay rfl (fun cargs w=>call6 cargs w) func6 rfl mixed (by kernel_rfl) rfl ?_;intro b0 hb0
    (repeat' first|simp only[al,aj,results6,ntmps6,am,hpv,hp1,d1,d1',d2,d2',f1,ad,Lo,Bt,Bf,ai,seval,ah]|exact rfl|refine aa (v:=.any) ?_|((first|(refine ac ?_ (hb1 _) ?_)|(refine ab ?_ (fun _=>hb1 _) ?_));(focus (simp only[results6,ntmps6,am,hpv,hp1,d1,d1',d2,d2',f1,ad,Lo,Bt,Bf,ai,seval,ah]<;>exact rfl)))|((first|(refine ac ?_ (hb2 _) ?_)|(refine ab ?_ (fun _=>hb2 _) ?_));(focus (simp only[results6,ntmps6,am,hpv,hp1,d1,d1',d2,d2',f1,ad,Lo,Bt,Bf,ai,seval,ah]<;>exact rfl)))|(first|(refine ac ?_ (hal _) ?_)|(refine ab ?_ (fun _=>hal _) ?_)|(refine ac ?_ (hgr _) ?_)|(refine ab ?_ (fun _=>hgr _) ?_))|refine aC (by decide +kernel) ?_|((first|apply Ca|apply Cb)<;>intro hb)|refine Ai (by omega) ?_|(apply Ai<;>intro hb)|refine Fin.pure ?_ ?_ ?_|simp only[au])
  ·have q1:=Qa e1
   rw[q1]at hb1
   have f1:((Rp v s).2 != 0)=true:=by simpa using e1
   generalize (Rp v s).2=e at hb1 f1
   have hp2:=ad (Rp v u).1
   refine ay rfl (fun cargs w=>call6 cargs w) func6 rfl mixed (by kernel_rfl) rfl ?_;intro b0 hb0
   (repeat' first|simp only[al,aj,results6,ntmps6,am,hpv,hp2,d1,d1',d2,d2',f1,ad,Lo,Bt,Bf,ai,seval,ah]|exact rfl|refine aa (v:=.any) ?_|((first|(refine ac ?_ (hb1 _) ?_)|(refine ab ?_ (fun _=>hb1 _) ?_));(focus (simp only[results6,ntmps6,am,hpv,hp2,d1,d1',d2,d2',f1,ad,Lo,Bt,Bf,ai,seval,ah]<;>exact rfl)))|((first|(refine ac ?_ (hb2 _) ?_)|(refine ab ?_ (fun _=>hb2 _) ?_));(focus (simp only[results6,ntmps6,am,hpv,hp2,d1,d1',d2,d2',f1,ad,Lo,Bt,Bf,ai,seval,ah]<;>exact rfl)))|(first|(refine ac ?_ (hal _) ?_)|(refine ab ?_ (fun _=>hal _) ?_)|(refine ac ?_ (hgr _) ?_)|(refine ab ?_ (fun _=>hgr _) ?_))|refine aC (by decide +kernel) ?_|((first|apply Ca|apply Cb)<;>intro hb)|refine Ai (by omega) ?_|(apply Ai<;>intro hb)|refine Fin.pure ?_ ?_ ?_|simp only[au])
theorem Sc (xs:List V)(h:gF cx.P Tryz.f6.params.toList xs):Ev cx 6 0 xs aq.nil (.bool true) []:=by
 rw[Tryz.params6]at h
 obtain⟨_,v1,_,rfl,h1,_,v2,_,rfl,h2,_,v3,_,rfl,h3,h4⟩:=h
 obtain rfl:=tL h4
 obtain⟨l,rfl,hl,hs⟩:=pn h1
 obtain⟨s,rfl,hs2⟩:=fV jJ h2
 obtain⟨u,rfl,hs3⟩:=fV jJ h3
 rw[lS rl (by simp),lS jJ (by simp),lS jJ (by simp)]
 exact Sg l s u hl hs (by unfold bh;omega) (by unfold bh;omega) 0
end Go.Proofs.YtidmkaalhmeflaaGreatDoor
