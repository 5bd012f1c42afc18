/-
 Texts joined: XUi,XUt,XNb,XGa,XGb,XGc,XGd,XEt,XEb.
-/
import Derived.Test.YtfcfldmioonipaaQh
import Derived.Test.YtfcfldmioonipaaQg
import Derived.Test.YtfcfldmioonipaaQf
import Derived.Test.YtfcfldmioonipaaQe
namespace Go.Proofs.Ytfcfldmioonipaa
set_option maxRecDepth 100000
set_option maxHeartbeats 32000000
set_option linter.unusedSimpArgs false
set_option linter.unusedVariables false
open Nat renaming reduceAdd→Ka,reduceMul→Kb,reduceEqDiff→Kc,reduceLeDiff→Kd,reduceSub→Ke,reduceLT→Kf,reduceBEq→Kr,reduceBNe→Ks,reducePow→Kt
open Int renaming reduceToNat→Kg,reduceLE→Kh,reduceLT→Ki,reduceAdd→Kj,reduceSub→Kk,reduceMul→Kl,reduceNeg→Km,reduceBEq→Kn,reduceBNe→Ko,reduceEq→Kp,reduceNe→Kq
open Go Go.RowKit Vm Go.Lib Try
open Vm renaming cond_bool→Ca,cond_bit→Cb
open And renaming intro→Ai
open List renaming length_map→Lm,not_mem_nil→Ln,map_nil→Lo,map_cons→Lc,mem_cons→Lk
open Bool renaming not_false→Bf,not_true→Bt
theorem nd_eq {x y:Nd} : x=y↔x.kind=y.kind∧x.space=y.space∧x.name=y.name∧x.text=y.text∧x.many=y.many∧x.attrs=y.attrs:=by
 cases x;cases y;simp only[Nd.mk.injEq];constructor
 ·rintro ⟨h1,h2,h3,h4,h5,h6⟩;exact⟨h1,h2,h3,h5,h6,h4⟩
 ·rintro ⟨h1,h2,h3,h4,h5,h6⟩;exact⟨h1,h2,h3,h6,h4,h5⟩
theorem sameAt_ev (a b:List At)(ha:a.length≤lim)(hb:b.length≤lim)(nm:Nat):Ev cx 32 nm [.sl false 3 (a.map atC),.sl false 3 (b.map atC)] Mem.nil (.bool (decide (a=b))) []:=by
  unfold lim at ha hb
  by_cases hl:a.length=b.length
  · have e1 : (((a.length:Nat):Int) !=((b.length:Nat):Int))=false:=len_bne_eq hl
    refine ev_go rfl (fun cargs w=>call32 cargs w) func32 rfl mixed (by kernel_rfl) rfl ?_;intro b0 hb0
    repeat' first|simp only[fins,mems,results32,ntmps32,Kt,wks,e1,Bt,Lm,vcs,Ka,Kb,Kc,Kd,Ke,Kf,Kg,Kh,Ki,Kj,Kk,Kl,Km,reduceCtorEq,reduceIte,Kn,Ko,Kp,Kq,Kr,Ks,tys]|exact rfl|refine call_off (v:=.any) ?_|refine draw_end (by decide +kernel) ?_|((first|apply Ca|apply Cb)<;>intro hb)|refine Ai (by omega) ?_|(apply Ai<;>intro hb)
    (refine loop_can2 cxG (fun x:Nat=>a.length-x) (fun x=>x≤a.length∧sameTo a b x) (b0+16) (fun x=>[(0,.sl false 3 (a.map atC)),(1,.sl false 3 (b.map atC)),(5,.int .i64 x)]) (fun x=>[]) (0) [] ?_ ?_ ?_ ?_;rotate_left 1;(focus (show b0≤_;omega));(focus (refine⟨?_,?_⟩<;>(try simp only[cans,plain_at,Lm,vcs,Ka,Kb,Kc,Kd,Ke,Kf,Kg,Kh,Ki,Kj,Kk,Kl,Km,reduceCtorEq,reduceIte,Kn,Ko,Kp,Kq,Kr,Ks,tys,injs])<;>(try omega)));rotate_left 1)
    · exact⟨Nat.zero_le _,fun i hi=>by omega⟩
    · rintro k ⟨hk,hsm⟩
      by_cases hlt:k<a.length
      · obtain ⟨x,hx⟩:∃ x,a[k]? = some x:=⟨_,List.getElem?_eq_getElem hlt⟩
        obtain⟨y,hy⟩:∃ y,b[k]? = some y:=⟨_,List.getElem?_eq_getElem (hl ▸ hlt)⟩
        have hax:=at_at hx
        have hby:=at_at hy
        have hd:decide (k<a.length)=true:=decide_eq_true hlt
        have hlt2:k<b.length:=hl ▸ hlt
        have hwk:IntKind.i64.wrap ((k:Int)+1)=((k+1:Nat):Int):=wrap_in (by omega) (by omega)
        by_cases hxy:x=y
        · subst hxy
          have hsm':=sameTo_succ hsm hx hy
          repeat' first|simp only[fins,mems,results32,ntmps32,Kt,wks,plain_at,hax,hby,atC,hd,hlt,hlt2,beq_self_eq_true,Bool.and_self,Bt,Lm,vcs,Ka,Kb,Kc,Kd,Ke,Kf,Kg,Kh,Ki,Kj,Kk,Kl,Km,reduceCtorEq,reduceIte,Kn,Ko,Kp,Kq,Kr,Ks,tys]|exact rfl|refine call_off (v:=.any) ?_|refine draw_end (by decide +kernel) ?_|((first|apply Ca|apply Cb)<;>intro hb)|refine Ai (by omega) ?_|(apply Ai<;>intro hb)
          all_goals ((refine again_can2 cxG (k+1) [] ?_ ?_ ?_ ?_;rotate_left 2;(focus (show b0≤_;omega));(focus (refine⟨?_,?_⟩<;>(try simp only[cans,plain_at,hwk,Lm,vcs,Ka,Kb,Kc,Kd,Ke,Kf,Kg,Kh,Ki,Kj,Kk,Kl,Km,reduceCtorEq,reduceIte,Kn,Ko,Kp,Kq,Kr,Ks,tys,injs])<;>(try omega)))))
          all_goals (first|(show a.length-(k+1)<a.length-k;omega)|exact⟨hlt,hsm'⟩|skip)
        · have hr:decide (a=b)=false:=decide_eq_false (same_no hx hy hxy)
          have e2:((x.space==y.space)&&((x.name==y.name)&&(x.value==y.value)))=false:=by
            cases x with|mk xs xn xv=>cases y with|mk ys yn yv =>
            simp only[At.mk.injEq,not_and]at hxy
            by_cases h0:xs=ys
            · by_cases h1:xn=yn
              · have:=hxy h0 h1
                simp[this]
              · simp[h1]
            · simp[h0]
          (repeat' first|simp only[fins,mems,results32,ntmps32,Kt,wks,plain_at,hax,hby,atC,hd,hlt,hlt2,hr,e2,Bool.and_true,Bf,Lm,vcs,Ka,Kb,Kc,Kd,Ke,Kf,Kg,Kh,Ki,Kj,Kk,Kl,Km,reduceCtorEq,reduceIte,Kn,Ko,Kp,Kq,Kr,Ks,tys]|exact rfl|refine call_off (v:=.any) ?_|refine draw_end (by decide +kernel) ?_|((first|apply Ca|apply Cb)<;>intro hb)|refine Ai (by omega) ?_|(apply Ai<;>intro hb)|refine Fin.pure ?_ ?_ ?_|simp only[injs])
      · have hke:k=a.length:=by omega
        subst hke
        have hr:decide (a=b)=true:=decide_eq_true (same_all hl hsm)
        have hd:decide (a.length<a.length)=false:=decide_eq_false (by omega)
        (repeat' first|simp only[fins,mems,results32,ntmps32,Kt,wks,hd,hr,Lm,vcs,Ka,Kb,Kc,Kd,Ke,Kf,Kg,Kh,Ki,Kj,Kk,Kl,Km,reduceCtorEq,reduceIte,Kn,Ko,Kp,Kq,Kr,Ks,tys]|exact rfl|refine call_off (v:=.any) ?_|refine draw_end (by decide +kernel) ?_|((first|apply Ca|apply Cb)<;>intro hb)|refine Ai (by omega) ?_|(apply Ai<;>intro hb)|refine Fin.pure ?_ ?_ ?_|simp only[injs])
  · have e1:(((a.length:Nat):Int) !=((b.length:Nat):Int))=true:=len_bne_ne hl
    have hr:decide (a=b)=false:=decide_eq_false (fun e=>hl (congrArg List.length e))
    refine ev_go rfl (fun cargs w=>call32 cargs w) func32 rfl mixed (by kernel_rfl) rfl ?_;intro b0 hb0
    (repeat' first|simp only[fins,mems,results32,ntmps32,Kt,wks,e1,hr,Bf,Lm,vcs,Ka,Kb,Kc,Kd,Ke,Kf,Kg,Kh,Ki,Kj,Kk,Kl,Km,reduceCtorEq,reduceIte,Kn,Ko,Kp,Kq,Kr,Ks,tys]|exact rfl|refine call_off (v:=.any) ?_|refine draw_end (by decide +kernel) ?_|((first|apply Ca|apply Cb)<;>intro hb)|refine Ai (by omega) ?_|(apply Ai<;>intro hb)|refine Fin.pure ?_ ?_ ?_|simp only[injs])
theorem sameNd_ev (a b:List Nd)(ha:a.length≤lim)(hb:b.length≤lim)(ha2:∀ t∈a,t.attrs.length≤lim)(hb2:∀ t∈b,t.attrs.length≤lim)(nm:Nat):Ev cx 9 nm [.sl false 6 (a.map ndC),.sl false 6 (b.map ndC)] Mem.nil (.bool (decide (a=b))) []:=by
  unfold lim at ha hb
  by_cases hl:a.length=b.length
  · have e1:(((a.length:Nat):Int) !=((b.length:Nat):Int))=false:=len_bne_eq hl
    refine ev_go rfl (fun cargs w=>call9 cargs w) func9 rfl mixed (by kernel_rfl) rfl ?_;intro b0 hb0
    repeat' first|simp only[fins,mems,results9,ntmps9,Kt,wks,e1,Lm,vcs,Ka,Kb,Kc,Kd,Ke,Kf,Kg,Kh,Ki,Kj,Kk,Kl,Km,reduceCtorEq,reduceIte,Kn,Ko,Kp,Kq,Kr,Ks,tys]|exact rfl|refine call_off (v:=.any) ?_|refine draw_end (by decide +kernel) ?_|((first|apply Ca|apply Cb)<;>intro hb)|refine Ai (by omega) ?_|(apply Ai<;>intro hb)
    (refine loop_can2 cxG (fun x:Nat=>a.length-x) (fun x=>x≤a.length∧sameTo a b x) (b0+16) (fun x=>[(0,.sl false 6 (a.map ndC)),(1,.sl false 6 (b.map ndC)),(5,.int .i64 x)]) (fun x=>[]) (0) [] ?_ ?_ ?_ ?_;rotate_left 1;(focus (show b0≤_;omega));(focus (refine⟨?_,?_⟩<;>(try simp only[cans,plain_nd,Lm,vcs,Ka,Kb,Kc,Kd,Ke,Kf,Kg,Kh,Ki,Kj,Kk,Kl,Km,reduceCtorEq,reduceIte,Kn,Ko,Kp,Kq,Kr,Ks,tys,injs])<;>(try omega)));rotate_left 1)
    · exact⟨Nat.zero_le _,fun i hi=>by omega⟩
    · rintro k ⟨hk,hsm⟩
      by_cases hlt:k<a.length
      · obtain⟨x,hx⟩:∃ x,a[k]? = some x:=⟨_,List.getElem?_eq_getElem hlt⟩
        obtain⟨y,hy⟩:∃ y,b[k]? = some y:=⟨_,List.getElem?_eq_getElem (hl ▸ hlt)⟩
        have hax:=nd_at hx
        have hby:=nd_at hy
        have hd:decide (k<a.length)=true:=decide_eq_true hlt
        have hlt2:k<b.length:=hl ▸ hlt
        have hwk:IntKind.i64.wrap ((k:Int)+1)=((k+1:Nat):Int):=wrap_in (by omega) (by omega)
        have hsp:=sameAt_ev x.attrs y.attrs (ha2 x (List.mem_of_getElem? hx)) (hb2 y (List.mem_of_getElem? hy))
        by_cases hxy:x=y
        · subst hxy
          have hsm':=sameTo_succ hsm hx hy
          have hz:decide (x.attrs=x.attrs)=true:=decide_eq_true rfl
          rw[hz]at hsp
          repeat' first|simp (maxSteps:=4000000) only[fins,mems,results9,ntmps9,Kt,wks,List.append_eq,plain_at,hax,hby,ndC,hd,hlt,hlt2,beq_self_eq_true,bne_self_eq_false,Bool.and_self,Bt,Lm,vcs,Ka,Kb,Kc,Kd,Ke,Kf,Kg,Kh,Ki,Kj,Kk,Kl,Km,reduceCtorEq,reduceIte,Kn,Ko,Kp,Kq,Kr,Ks,tys]|exact rfl|refine call_off (v:=.any) ?_|(first|(refine call_fn ?_ (hsp _) ?_)|(refine call_fn_g ?_ (fun _=>hsp _) ?_))|refine draw_end (by decide +kernel) ?_|((first|apply Ca|apply Cb)<;>intro hb)|refine Ai (by omega) ?_|(apply Ai<;>intro hb)
          all_goals ((refine again_can2 cxG (k+1) [] ?_ ?_ ?_ ?_;rotate_left 2;(focus (show b0≤_;omega));(focus (refine⟨?_,?_⟩<;>(try simp only[cans,plain_nd,hwk,Lm,vcs,Ka,Kb,Kc,Kd,Ke,Kf,Kg,Kh,Ki,Kj,Kk,Kl,Km,reduceCtorEq,reduceIte,Kn,Ko,Kp,Kq,Kr,Ks,tys,injs])<;>(try omega)))))
          all_goals (first|(show a.length-(k+1)<a.length-k;omega)|exact⟨hlt,hsm'⟩|skip)
        · have hr:decide (a=b)=false:=decide_eq_false (same_no hx hy hxy)
          have hk1:((x.kind:Int) !=(y.kind:Int)) = !decide (x.kind=y.kind):=by rw[bne,len_beq]
          have hk2:(x.many != y.many) = !decide (x.many=y.many):=by
            rw[bne];congr 1
          have hcs:decide (x.kind=y.kind)=false∨(decide (x.kind=y.kind)=true∧(x.space==y.space)=false)∨(decide (x.kind=y.kind)=true∧(x.space==y.space)=true∧(x.name==y.name)=false)∨(decide (x.kind=y.kind)=true∧(x.space==y.space)=true∧(x.name==y.name)=true∧(x.text==y.text)=false)∨(decide (x.kind=y.kind)=true∧(x.space==y.space)=true∧(x.name==y.name)=true∧(x.text==y.text)=true∧decide (x.many=y.many)=false)∨(decide (x.kind=y.kind)=true∧(x.space==y.space)=true∧(x.name==y.name)=true∧(x.text==y.text)=true∧decide (x.many=y.many)=true∧decide (x.attrs=y.attrs)=false):=by
            have hx2:¬(decide (x.kind=y.kind)=true∧(x.space==y.space)=true∧(x.name==y.name)=true∧(x.text==y.text)=true∧decide (x.many=y.many)=true∧decide (x.attrs=y.attrs)=true):=by
              rintro ⟨h1,h2,h3,h4,h5,h6⟩
              exact hxy (nd_eq.2 ⟨of_decide_eq_true h1,eq_of_beq h2,eq_of_beq h3,eq_of_beq h4,of_decide_eq_true h5,of_decide_eq_true h6⟩)
            generalize decide (x.kind=y.kind)=p1 at hx2 ⊢
            generalize (x.space==y.space)=p2 at hx2 ⊢
            generalize (x.name==y.name)=p3 at hx2 ⊢
            generalize (x.text==y.text)=p4 at hx2 ⊢
            generalize decide (x.many=y.many)=p5 at hx2 ⊢
            generalize decide (x.attrs=y.attrs)=p6 at hx2 ⊢
            cases p1<;>cases p2<;>cases p3<;>cases p4<;>cases p5<;>cases p6<;>simp at hx2 ⊢
          generalize hg1:decide (x.kind=y.kind)=g1 at hcs hk1
          generalize hg2:(x.space==y.space)=g2 at hcs
          generalize hg3:(x.name==y.name)=g3 at hcs
          generalize hg4:(x.text==y.text)=g4 at hcs
          generalize hg5:decide (x.many=y.many)=g5 at hcs hk2
          generalize hg6:decide (x.attrs=y.attrs)=g6 at hcs hsp
          rcases hcs with rfl|⟨rfl,rfl⟩|⟨rfl,rfl,rfl⟩|⟨rfl,rfl,rfl,rfl⟩|⟨rfl,rfl,rfl,rfl,rfl⟩|⟨rfl,rfl,rfl,rfl,rfl,rfl⟩
          all_goals ((repeat' first|simp (maxSteps:=4000000) only[fins,mems,results9,ntmps9,Kt,wks,List.append_eq,plain_at,hax,hby,ndC,hd,hlt,hlt2,hr,hk1,hk2,hg2,hg3,hg4,Bt,Bf,Lm,vcs,Ka,Kb,Kc,Kd,Ke,Kf,Kg,Kh,Ki,Kj,Kk,Kl,Km,reduceCtorEq,reduceIte,Kn,Ko,Kp,Kq,Kr,Ks,tys]|exact rfl|refine call_off (v:=.any) ?_|(first|(refine call_fn ?_ (hsp _) ?_)|(refine call_fn_g ?_ (fun _=>hsp _) ?_))|(refine call_off (v:=.any) ?_)|refine draw_end (by decide +kernel) ?_|((first|apply Ca|apply Cb)<;>intro hb)|refine Ai (by omega) ?_|(apply Ai<;>intro hb)|refine Fin.pure ?_ ?_ ?_|simp only[injs]))
      · have hke:k=a.length:=by omega
        subst hke
        have hr:decide (a=b)=true:=decide_eq_true (same_all hl hsm)
        have hd:decide (a.length<a.length)=false:=decide_eq_false (by omega)
        (repeat' first|simp only[fins,mems,results9,ntmps9,Kt,wks,hd,hr,Lm,vcs,Ka,Kb,Kc,Kd,Ke,Kf,Kg,Kh,Ki,Kj,Kk,Kl,Km,reduceCtorEq,reduceIte,Kn,Ko,Kp,Kq,Kr,Ks,tys]|exact rfl|refine call_off (v:=.any) ?_|refine draw_end (by decide +kernel) ?_|((first|apply Ca|apply Cb)<;>intro hb)|refine Ai (by omega) ?_|(apply Ai<;>intro hb)|refine Fin.pure ?_ ?_ ?_|simp only[injs])
  · have e1:(((a.length:Nat):Int) !=((b.length:Nat):Int))=true:=len_bne_ne hl
    have hr:decide (a=b)=false:=decide_eq_false (fun e=>hl (congrArg List.length e))
    refine ev_go rfl (fun cargs w=>call9 cargs w) func9 rfl mixed (by kernel_rfl) rfl ?_;intro b0 hb0
    (repeat' first|simp only[fins,mems,results9,ntmps9,Kt,wks,e1,hr,Lm,vcs,Ka,Kb,Kc,Kd,Ke,Kf,Kg,Kh,Ki,Kj,Kk,Kl,Km,reduceCtorEq,reduceIte,Kn,Ko,Kp,Kq,Kr,Ks,tys]|exact rfl|refine call_off (v:=.any) ?_|refine draw_end (by decide +kernel) ?_|((first|apply Ca|apply Cb)<;>intro hb)|refine Ai (by omega) ?_|(apply Ai<;>intro hb)|refine Fin.pure ?_ ?_ ?_|simp only[injs])
end Go.Proofs.Ytfcfldmioonipaa
namespace Go.Proofs.Ytfcfldmioonipaa
set_option maxRecDepth 100000
set_option maxHeartbeats 32000000
set_option linter.unusedSimpArgs false
set_option linter.unusedVariables false
open Go Go.RowKit Vm Go.Lib Try
open Vm renaming cond_bool→Ca,cond_bit→Cb
open And renaming intro→Ai
open List renaming length_map→Lm,not_mem_nil→Ln,map_nil→Lo,map_cons→Lc,mem_cons→Lk
open Bool renaming not_false→Bf,not_true→Bt
end Go.Proofs.Ytfcfldmioonipaa
namespace Go.Proofs.Ytfcfldmioonipaa
set_option maxRecDepth 100000
set_option maxHeartbeats 32000000
set_option linter.unusedSimpArgs false
set_option linter.unusedVariables false
open Go Go.RowKit Go.Lib
end Go.Proofs.Ytfcfldmioonipaa
namespace Go.Proofs.Ytfcfldmioonipaa
set_option maxRecDepth 100000
set_option maxHeartbeats 32000000
set_option linter.unusedSimpArgs false
set_option linter.unusedVariables false
open Go Go.RowKit Vm Go.Lib Try
open Vm renaming cond_bool→Ca,cond_bit→Cb
open And renaming intro→Ai
open List renaming length_map→Lm,not_mem_nil→Ln,map_nil→Lo,map_cons→Lc,mem_cons→Lk
open Bool renaming not_false→Bf,not_true→Bt
end Go.Proofs.Ytfcfldmioonipaa
