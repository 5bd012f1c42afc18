/-
 Texts joined: XUi,XUt,XNb,XGa,XGb,XGc,XGd,XEt,XEb.
-/
import Derived.Test.YtfcfldmioonipaaQh
import Derived.Test.YtfcfldmioonipaaQg
import Derived.Test.YtfcfldmioonipaaQf
import Derived.Test.YtfcfldmioonipaaQe
namespace Go.Proofs.Ytfcfldmioonipaa
set_option maxRecDepth 100000
set_option maxHeartbeats 32000000
set_option linter.unusedSimpArgs false
set_option linter.unusedVariables false
open Nat renaming reduceAdd→Ka,reduceMul→Kb,reduceEqDiff→Kc,reduceLeDiff→Kd,reduceSub→Ke,reduceLT→Kf,reduceBEq→Kr,reduceBNe→Ks,reducePow→Kt
open Int renaming reduceToNat→Kg,reduceLE→Kh,reduceLT→Ki,reduceAdd→Kj,reduceSub→Kk,reduceMul→Kl,reduceNeg→Km,reduceBEq→Kn,reduceBNe→Ko,reduceEq→Kp,reduceNe→Kq
open Go Go.RowKit Vm Go.Lib Try
open Vm renaming cond_bool→Ca,cond_bit→Cb
open And renaming intro→Ai
open List renaming length_map→Lm,not_mem_nil→Ln,map_nil→Lo,map_cons→Lc,mem_cons→Lk
open Bool renaming not_false→Bf,not_true→Bt
theorem nd_eq {x y:Nd} : x=y↔x.kind=y.kind∧x.space=y.space∧x.name=y.name∧x.text=y.text∧x.many=y.many∧x.attrs=y.attrs:=by
 cases x;cases y;simp only[Nd.mk.injEq];constructor
 ·rintro ⟨h1,h2,h3,h4,h5,h6⟩;exact⟨h1,h2,h3,h5,h6,h4⟩
 ·rintro ⟨h1,h2,h3,h4,h5,h6⟩;exact⟨h1,h2,h3,h6,h4,h5⟩
theorem sameAt_ev (a b:List At)(ha:a.length≤lim)(hb:b.length≤lim)(nm:Nat):Ev cx 32 nm [.sl false 3 (a.map atC),.sl false 3 (b.map atC)] Mem.nil (.bool (decide (a=b))) []:=by
  unfold lim at ha hb
  by_cases hl:a.length=b.length
  · have e1 : (((a.length:Nat):Int) !=((b.length:Nat):Int))=false:=len_bne_eq hl
    refine ev_go rfl (fun cargs w=>call32 cargs w) func32 rfl mixed (by kernel_rfl) rfl ?_;intro b0 hb0
    repeat' first|simp only[fins,mems,results32,ntmps32,Kt,wks,e1,Bt,Lm,vcs,Ka,Kb,Kc,Kd,Ke,Kf,Kg,Kh,Ki,Kj,Kk,Kl,Km,reduceCtorEq,reduceIte,Kn,Ko,Kp,Kq,Kr,Ks,tys]|exact rfl|refine call_off (v:=.any) ?_|refine draw_end (by decide +kernel) ?_|((first|apply Ca|apply Cb)<;>intro hb)|refine Ai (by omega) ?_|(apply Ai<;>intro hb)
    (refine loop_can2 cxG (fun x:Nat=>a.length-x) (fun x=>x≤a.length∧sameTo a b x) (b0+16) (fun x=>[(0,.sl false 3 (a.map atC)),(1,.sl false 3 (b.map atC)),(5,.int .i64 x)]) (fun x=>[]) (0) [] ?_ ?_ ?_ ?_;rotate_left 1;(focus (show b0≤_;omega));(focus (refine⟨?_,?_⟩<;>(try simp only[cans,plain_at,Lm,vcs,Ka,Kb,Kc,Kd,Ke,Kf,Kg,Kh,Ki,Kj,Kk,Kl,Km,reduceCtorEq,reduceIte,Kn,Ko,Kp,Kq,Kr,Ks,tys,injs])<;>(try omega)));rotate_left 1)
    · exact⟨Nat.zero_le _,fun i hi=>by omega⟩
    · rintro k ⟨hk,hsm⟩
      by_cases hlt:k<a.length
      · obtain ⟨x,hx⟩:∃ x,a[k]? = some x:=⟨_,List.getElem?_eq_getElem hlt⟩
        obtain⟨y,hy⟩:∃ y,b[k]? = some y:=⟨_,List.getElem?_eq_getElem (hl ▸ hlt)⟩
        have hax:=at_at hx
        have hby:=at_at hy
        have hd:decide (k<a.length)=true:=decide_eq_true hlt
        have hlt2:k<b.length:=hl ▸ hlt
        have hwk:IntKind.i64.wrap ((k:Int)+1)=((k+1:Nat):Int):=wrap_in (by omega) (by omega)
        by_cases hxy:x=y
        · subst hxy
          have hsm':=sameTo_succ hsm hx hy
          repeat' first|simp only[fins,mems,results32,ntmps32,Kt,wks,plain_at,hax,hby,atC,hd,hlt,hlt2,beq_self_eq_true,Bool.and_self,Bt,Lm,vcs,Ka,Kb,Kc,Kd,Ke,Kf,Kg,Kh,Ki,Kj,Kk,Kl,Km,reduceCtorEq,reduceIte,Kn,Ko,Kp,Kq,Kr,Ks,tys]|exact rfl|refine call_off (v:=.any) ?_|refine draw_end (by decide +kernel) ?_|((first|apply Ca|apply Cb)<;>intro hb)|refine Ai (by omega) ?_|(apply Ai<;>intro hb)
          all_goals ((refine again_can2 cxG (k+1) [] ?_ ?_ ?_ ?_;rotate_left 2;(focus (show b0≤_;omega));(focus (refine⟨?_,?_⟩<;>(try simp only[cans,plain_at,hwk,Lm,vcs,Ka,Kb,Kc,Kd,Ke,Kf,Kg,Kh,Ki,Kj,Kk,Kl,Km,reduceCtorEq,reduceIte,Kn,Ko,Kp,Kq,Kr,Ks,tys,injs])<;>(try omega)))))
          all_goals (first|(show a.length-(k+1)<a.length-k;omega)|exact⟨hlt,hsm'⟩|skip)
        · have hr:decide (a=b)=false:=decide_eq_false (same_no hx hy hxy)
          have e2:((x.space==y.space)&&((x.name==y.name)&&(x.value==y.value)))=false:=by
            cases x with|mk xs xn xv=>cases y with|mk ys yn yv =>
            simp only[At.mk.injEq,not_and]at hxy
            by_cases h0:xs=ys
            · by_cases h1:xn=yn
              · have:=hxy h0 h1
                simp[this]
              · simp[h1]
            · simp[h0]
          (repeat' first|simp only[fins,mems,results32,ntmps32,Kt,wks,plain_at,hax,hby,atC,hd,hlt,hlt2,hr,e2,Bool.and_true,Bf,Lm,vcs,Ka,Kb,Kc,Kd,Ke,Kf,Kg,Kh,Ki,Kj,Kk,Kl,Km,reduceCtorEq,reduceIte,Kn,Ko,Kp,Kq,Kr,Ks,tys]|exact rfl|refine call_off (v:=.any) ?_|refine draw_end (by decide +kernel) ?_|((first|apply Ca|apply Cb)<;>intro hb)|refine Ai (by omega) ?_|(apply Ai<;>intro hb)|refine Fin.pure ?_ ?_ ?_|simp only[injs])
      · have hke:k=a.length:=by omega
        subst hke
        have hr:decide (a=b)=true:=decide_eq_true (same_all hl hsm)
        have hd:decide (a.length<a.length)=false:=decide_eq_false (by omega)
        (repeat' first|simp only[fins,mems,results32,ntmps32,Kt,wks,hd,hr,Lm,vcs,Ka,Kb,Kc,Kd,Ke,Kf,Kg,Kh,Ki,Kj,Kk,Kl,Km,reduceCtorEq,reduceIte,Kn,Ko,Kp,Kq,Kr,Ks,tys]|exact rfl|refine call_off (v:=.any) ?_|refine draw_end (by decide +kernel) ?_|((first|apply Ca|apply Cb)<;>intro hb)|refine Ai (by omega) ?_|(apply Ai<;>intro hb)|refine Fin.pure ?_ ?_ ?_|simp only[injs])
  · have e1:(((a.length:Nat):Int) !=((b.length:Nat):Int))=true:=len_bne_ne hl
    have hr:decide (a=b)=false:=decide_eq_false (fun e=>hl (congrArg List.length e))
    refine ev_go rfl (fun cargs w=>call32 cargs w) func32 rfl mixed (by kernel_rfl) rfl ?_;intro b0 hb0
    (repeat' first|simp only[fins,mems,results32,ntmps32,Kt,wks,e1,hr,Bf,Lm,vcs,Ka,Kb,Kc,Kd,Ke,Kf,Kg,Kh,Ki,Kj,Kk,Kl,Km,reduceCtorEq,reduceIte,Kn,Ko,Kp,Kq,Kr,Ks,tys]|exact rfl|refine call_off (v:=.any) ?_|refine draw_end (by decide +kernel) ?_|((first|apply Ca|apply Cb)<;>intro hb)|refine Ai (by omega) ?_|(apply Ai<;>intro hb)|refine Fin.pure ?_ ?_ ?_|simp only[injs])
theorem sameNd_ev (a b:List Nd)(ha:a.length≤lim)(hb:b.length≤lim)(ha2:∀ t∈a,t.attrs.length≤lim)(hb2:∀ t∈b,t.attrs.length≤lim)(nm:Nat):Ev cx 9 nm [.sl false 6 (a.map ndC),.sl false 6 (b.map ndC)] Mem.nil (.bool (decide (a=b))) []:=by
  unfold lim at ha hb
  by_cases hl:a.length=b.length
  · have e1:(((a.length:Nat):Int) !=((b.length:Nat):Int))=false:=len_bne_eq hl
    refine ev_go rfl (fun cargs w=>call9 cargs w) func9 rfl mixed (by kernel_rfl) rfl ?_;intro b0 hb0
    repeat' first|simp only[fins,mems,results9,ntmps9,Kt,wks,e1,Lm,vcs,Ka,Kb,Kc,Kd,Ke,Kf,Kg,Kh,Ki,Kj,Kk,Kl,Km,reduceCtorEq,reduceIte,Kn,Ko,Kp,Kq,Kr,Ks,tys]|exact rfl|refine call_off (v:=.any) ?_|refine draw_end (by decide +kernel) ?_|((first|apply Ca|apply Cb)<;>intro hb)|refine Ai (by omega) ?_|(apply Ai<;>intro hb)
    (refine loop_can2 cxG (fun x:Nat=>a.length-x) (fun x=>x≤a.length∧sameTo a b x) (b0+16) (fun x=>[(0,.sl false 6 (a.map ndC)),(1,.sl false 6 (b.map ndC)),(5,.int .i64 x)]) (fun x=>[]) (0) [] ?_ ?_ ?_ ?_;rotate_left 1;(focus (show b0≤_;omega));(focus (refine⟨?_,?_⟩<;>(try simp only[cans,plain_nd,Lm,vcs,Ka,Kb,Kc,Kd,Ke,Kf,Kg,Kh,Ki,Kj,Kk,Kl,Km,reduceCtorEq,reduceIte,Kn,Ko,Kp,Kq,Kr,Ks,tys,injs])<;>(try omega)));rotate_left 1)
    · exact⟨Nat.zero_le _,fun i hi=>by omega⟩
    · rintro k ⟨hk,hsm⟩
      by_cases hlt:k<a.length
      · obtain⟨x,hx⟩:∃ x,a[k]? = some x:=⟨_,List.getElem?_eq_getElem hlt⟩
        obtain⟨y,hy⟩:∃ y,b[k]? = some y:=⟨_,List.getElem?_eq_getElem (hl ▸ hlt)⟩
        have hax:=nd_at hx
        have hby:=nd_at hy
        have hd:decide (k<a.length)=true:=decide_eq_true hlt
        have hlt2:k<b.length:=hl ▸ hlt
        have hwk:IntKind.i64.wrap ((k:Int)+1)=((k+1:Nat):Int):=wrap_in (by omega) (by omega)
        have hsp:=sameAt_ev x.attrs y.attrs (ha2 x (List.mem_of_getElem? hx)) (hb2 y (List.mem_of_getElem? hy))
        by_cases hxy:x=y
        · subst hxy
          have hsm':=sameTo_succ hsm hx hy
          have hz:decide (x.attrs=x.attrs)=true:=decide_eq_true rfl
          rw[hz]at hsp
          repeat' first|simp (maxSteps:=4000000) only[fins,mems,results9,ntmps9,Kt,wks,List.append_eq,plain_at,hax,hby,ndC,hd,hlt,hlt2,beq_self_eq_true,bne_self_eq_false,Bool.and_self,Bt,Lm,vcs,Ka,Kb,Kc,Kd,Ke,Kf,Kg,Kh,Ki,Kj,Kk,Kl,Km,reduceCtorEq,reduceIte,Kn,Ko,Kp,Kq,Kr,Ks,tys]|exact rfl|refine call_off (v:=.any) ?_|(first|(refine call_fn ?_ (hsp _) ?_)|(refine call_fn_g ?_ (fun _=>hsp _) ?_))|refine draw_end (by decide +kernel) ?_|((first|apply Ca|apply Cb)<;>intro hb)|refine Ai (by omega) ?_|(apply Ai<;>intro hb)
          all_goals ((refine again_can2 cxG (k+1) [] ?_ ?_ ?_ ?_;rotate_left 2;(focus (show b0≤_;omega));(focus (refine⟨?_,?_⟩<;>(try simp only[cans,plain_nd,hwk,Lm,vcs,Ka,Kb,Kc,Kd,Ke,Kf,Kg,Kh,Ki,Kj,Kk,Kl,Km,reduceCtorEq,reduceIte,Kn,Ko,Kp,Kq,Kr,Ks,tys,injs])<;>(try omega)))))
          all_goals (first|(show a.length-(k+1)<a.length-k;omega)|exact⟨hlt,hsm'⟩|skip)
        · have hr:decide (a=b)=false:=decide_eq_false (same_no hx hy hxy)
          have hk1:((x.kind:Int) !=(y.kind:Int)) = !decide (x.kind=y.kind):=by rw[bne,len_beq]
          have hk2:(x.many != y.many) = !decide (x.many=y.many):=by
            rw[bne];congr 1
          have hcs:decide (x.kind=y.kind)=false∨(decide (x.kind=y.kind)=true∧(x.space==y.space)=false)∨(decide (x.kind=y.kind)=true∧(x.space==y.space)=true∧(x.name==y.name)=false)∨(decide (x.kind=y.kind)=true∧(x.space==y.space)=true∧(x.name==y.name)=true∧(x.text==y.text)=false)∨(decide (x.kind=y.kind)=true∧(x.space==y.space)=true∧(x.name==y.name)=true∧(x.text==y.text)=true∧decide (x.many=y.many)=false)∨(decide (x.kind=y.kind)=true∧(x.space==y.space)=true∧(x.name==y.name)=true∧(x.text==y.text)=true∧decide (x.many=y.many)=true∧decide (x.attrs=y.attrs)=false):=by
            have hx2:¬(decide (x.kind=y.kind)=true∧(x.space==y.space)=true∧(x.name==y.name)=true∧(x.text==y.text)=true∧decide (x.many=y.many)=true∧decide (x.attrs=y.attrs)=true):=by
              rintro ⟨h1,h2,h3,h4,h5,h6⟩
              exact hxy (nd_eq.2 ⟨of_decide_eq_true h1,eq_of_beq h2,eq_of_beq h3,eq_of_beq h4,of_decide_eq_true h5,of_decide_eq_true h6⟩)
            generalize decide (x.kind=y.kind)=p1 at hx2 ⊢
            generalize (x.space==y.space)=p2 at hx2 ⊢
            generalize (x.name==y.name)=p3 at hx2 ⊢
            generalize (x.text==y.text)=p4 at hx2 ⊢
            generalize decide (x.many=y.many)=p5 at hx2 ⊢
            generalize decide (x.attrs=y.attrs)=p6 at hx2 ⊢
            cases p1<;>cases p2<;>cases p3<;>cases p4<;>cases p5<;>cases p6<;>simp at hx2 ⊢
          generalize hg1:decide (x.kind=y.kind)=g1 at hcs hk1
          generalize hg2:(x.space==y.space)=g2 at hcs
          generalize hg3:(x.name==y.name)=g3 at hcs
          generalize hg4:(x.text==y.text)=g4 at hcs
          generalize hg5:decide (x.many=y.many)=g5 at hcs hk2
          generalize hg6:decide (x.attrs=y.attrs)=g6 at hcs hsp
          rcases hcs with rfl|⟨rfl,rfl⟩|⟨rfl,rfl,rfl⟩|⟨rfl,rfl,rfl,rfl⟩|⟨rfl,rfl,rfl,rfl,rfl⟩|⟨rfl,rfl,rfl,rfl,rfl,rfl⟩
          all_goals ((repeat' first|simp (maxSteps:=4000000) only[fins,mems,results9,ntmps9,Kt,wks,List.append_eq,plain_at,hax,hby,ndC,hd,hlt,hlt2,hr,hk1,hk2,hg2,hg3,hg4,Bt,Bf,Lm,vcs,Ka,Kb,Kc,Kd,Ke,Kf,Kg,Kh,Ki,Kj,Kk,Kl,Km,reduceCtorEq,reduceIte,Kn,Ko,Kp,Kq,Kr,Ks,tys]|exact rfl|refine call_off (v:=.any) ?_|(first|(refine call_fn ?_ (hsp _) ?_)|(refine call_fn_g ?_ (fun _=>hsp _) ?_))|(refine call_off (v:=.any) ?_)|refine draw_end (by decide +kernel) ?_|((first|apply Ca|apply Cb)<;>intro hb)|refine Ai (by omega) ?_|(apply Ai<;>intro hb)|refine Fin.pure ?_ ?_ ?_|simp only[injs]))
      · have hke:k=a.length:=by omega
        subst hke
        have hr:decide (a=b)=true:=decide_eq_true (same_all hl hsm)
        have hd:decide (a.length<a.length)=false:=decide_eq_false (by omega)
        (repeat' first|simp only[fins,mems,results9,ntmps9,Kt,wks,hd,hr,Lm,vcs,Ka,Kb,Kc,Kd,Ke,Kf,Kg,Kh,Ki,Kj,Kk,Kl,Km,reduceCtorEq,reduceIte,Kn,Ko,Kp,Kq,Kr,Ks,tys]|exact rfl|refine call_off (v:=.any) ?_|refine draw_end (by decide +kernel) ?_|((first|apply Ca|apply Cb)<;>intro hb)|refine Ai (by omega) ?_|(apply Ai<;>intro hb)|refine Fin.pure ?_ ?_ ?_|simp only[injs])
  · have e1:(((a.length:Nat):Int) !=((b.length:Nat):Int))=true:=len_bne_ne hl
    have hr:decide (a=b)=false:=decide_eq_false (fun e=>hl (congrArg List.length e))
    refine ev_go rfl (fun cargs w=>call9 cargs w) func9 rfl mixed (by kernel_rfl) rfl ?_;intro b0 hb0
    (repeat' first|simp only[fins,mems,results9,ntmps9,Kt,wks,e1,hr,Lm,vcs,Ka,Kb,Kc,Kd,Ke,Kf,Kg,Kh,Ki,Kj,Kk,Kl,Km,reduceCtorEq,reduceIte,Kn,Ko,Kp,Kq,Kr,Ks,tys]|exact rfl|refine call_off (v:=.any) ?_|refine draw_end (by decide +kernel) ?_|((first|apply Ca|apply Cb)<;>intro hb)|refine Ai (by omega) ?_|(apply Ai<;>intro hb)|refine Fin.pure ?_ ?_ ?_|simp only[injs])
end Go.Proofs.Ytfcfldmioonipaa
namespace Go.Proofs.Ytfcfldmioonipaa
set_option maxRecDepth 100000
set_option maxHeartbeats 32000000
set_option linter.unusedSimpArgs false
set_option linter.unusedVariables false
open Go Go.RowKit Vm Go.Lib Try
open Vm renaming cond_bool→Ca,cond_bit→Cb
open And renaming intro→Ai
open List renaming length_map→Lm,not_mem_nil→Ln,map_nil→Lo,map_cons→Lc,mem_cons→Lk
open Bool renaming not_false→Bf,not_true→Bt
end Go.Proofs.Ytfcfldmioonipaa
namespace Go.Proofs.Ytfcfldmioonipaa
set_option maxRecDepth 100000
set_option maxHeartbeats 32000000
set_option linter.unusedSimpArgs false
set_option linter.unusedVariables false
open Go Go.RowKit Go.Lib
def hexD (c:UInt8):Option Nat:=if 48≤c.toNat∧c.toNat≤57 then some (c.toNat-48) else if 97≤c.toNat∧c.toNat≤102 then some (c.toNat-87) else if 65≤c.toNat∧c.toNat≤70 then some (c.toNat-55) else none
def hexV:Nat→List UInt8→Option Nat
 | n,[]=>some n
 | n,c::r=>match hexD c with|none=>none|some d=>hexV (16*n+d) r
def hexL (s:List UInt8):Option Nat:=if s=[]∨6<s.length∨s.head? = some 48 then none else hexV 0 s
def decD (c:UInt8):Option Nat:=if 48≤c.toNat∧c.toNat≤57 then some (c.toNat-48) else none
def decV:Nat→List UInt8→Option Nat
 | n,[]=>some n
 | n,c::r=>match decD c with|none=>none|some d=>decV (10*n+d) r
def decL (s:List UInt8):Option Nat:=if s=[]∨16<s.length∨(s.head? = some 48∧s≠[48]) then none else (decV 0 s).bind fun n=>if n≤9007199254740991 then some n else none
def pointW (o:Option Nat):Option (List UInt8):=o.bind fun n=>if may (n:Int)=true then some (encodeRune n) else none
def meantL (s:List UInt8):Option (List UInt8) :=
 if s=[97,109,112] then some [38] else if s=[108,116] then some [60] else if s=[103,116] then some [62] else if s=[113,117,111,116] then some [34] else if s=[97,112,111,115] then some [39]
 else if s.head? = some 35 then (if s.tail.head? = some 120 then pointW (hexL s.tail.tail) else pointW (decL s.tail)) else none
theorem cut1_len {d:UInt8}{s a b:List UInt8}(h:cut1 d s=some (a,b)):b.length<s.length:=by
 have:=(cut1_some h).1
 rw[this];simp;omega
def readL:List UInt8→Option (List UInt8)
 | []=>some []
 | c::r=>if c=60 then none else if c=38 then (match h:cut1 59 r with|none=>none|some (a,b)=>match meantL a with|none=>none|some x=>(readL b).map (x ++ ·)) else (readL r).map (c :: ·)
termination_by s=>s.length
decreasing_by
 ·have:=cut1_len h;simp;omega
 ·simp
theorem readL_nil:readL []=some []:=by rw[readL]
theorem readL_lt (r:List UInt8):readL (60::r)=none:=by rw[readL];rfl
theorem readL_other {c:UInt8}(h1:c≠60)(h2:c≠38)(r:List UInt8):readL (c::r)=(readL r).map (c :: ·):=by rw[readL,if_neg h1,if_neg h2]
theorem readL_none {r:List UInt8}(h:cut1 59 r=none):readL (38::r)=none:=by
 rw[readL,if_neg (by decide),if_pos rfl]
 split
 ·rfl
 ·rename_i e;rw[h]at e;cases e
theorem readL_bad {r a b:List UInt8}(h:cut1 59 r=some (a,b))(hm:meantL a=none):readL (38::r)=none:=by
 rw[readL,if_neg (by decide),if_pos rfl]
 split
 ·rfl
 ·rename_i e;rw[h]at e;cases e;rw[hm]
theorem readL_ref {r a b x:List UInt8}(h:cut1 59 r=some (a,b))(hm:meantL a=some x):readL (38::r)=(readL b).map (x ++ ·):=by
 rw[readL,if_neg (by decide),if_pos rfl]
 split
 ·rename_i e;rw[h]at e;cases e
 ·rename_i e;rw[h]at e;cases e;rw[hm]
theorem enc_low {z:Int}(h0:0≤z)(h:z<128):encodeRune z=[z.toNat.toUInt8]:=by
 unfold encodeRune encodeRuneZ
 rw[if_pos (by omega)]
 rfl
theorem enc_high {z:Int}(h:128≤z):∀ c∈encodeRune z,128≤c.toNat:=by
 intro c hc
 unfold encodeRune encodeRuneZ at hc
 rw[if_neg (by omega)]at hc
 repeat' split at hc
 all_goals (
  simp only[List.map_cons,List.map_nil,List.mem_cons,List.not_mem_nil,or_false]at hc
  rcases hc with rfl|rfl|rfl|rfl<;>(rw[mod64 (by omega) (by omega)];omega))
end Go.Proofs.Ytfcfldmioonipaa
namespace Go.Proofs.Ytfcfldmioonipaa
set_option maxRecDepth 100000
set_option maxHeartbeats 32000000
set_option linter.unusedSimpArgs false
set_option linter.unusedVariables false
open Go Go.RowKit Vm Go.Lib Try
open Vm renaming cond_bool→Ca,cond_bit→Cb
open And renaming intro→Ai
open List renaming length_map→Lm,not_mem_nil→Ln,map_nil→Lo,map_cons→Lc,mem_cons→Lk
open Bool renaming not_false→Bf,not_true→Bt
theorem noEsc_ev (v:V)(M:Mem)(nm:Nat):Ev cx 74 nm [v] M v [] :=
 Ev.noEscape func74 (by kernel_rfl) (by kernel_rfl) (by kernel_rfl) (by kernel_rfl) v M nm
theorem fresh_self (n:Nat):Fresh n n=True:=eq_true ⟨Nat.le_refl _,by omega⟩
def bK (used:Bool)(q:Nat)(c:V):Blk:=if used then ⟨2,[[.ptr q 0 0,c]]⟩ else @Blk.mk 2 [[.nilp,c]] (.typed 80)
theorem bK_t (q:Nat)(c:V):bK true q c=⟨2,[[.ptr q 0 0,c]]⟩:=rfl
theorem bK_f (q:Nat)(c:V):bK false q c = @Blk.mk 2 [[.nilp,c]] (.typed 80):=rfl
theorem inf_b:(cx.P.info? 80).isSome=true:=by kernel_rfl
theorem copyN_ev (used:Bool)(q:Nat)(M:Mem)(nm:Nat)(hq:M q=some (bK used q .nils))(ho:∀ z,(M z).isSome=true→z∈[q])(hn:q<nm) :
  Ev cx 64 nm [.ptr q 0 0] M (.tup []) [(q,some (bK true q .nils))]:=by
 cases used with
 | false =>
  refine ev_go rfl (fun cargs w=>call64 cargs w) func64 rfl mixed (by kernel_rfl) rfl ?_;intro b0 hb0
  have lq:q<b0:=below_of hb0 (by rw[hq];rfl)
  have z0:=lt_ne lq;have z1:=lt_ne_add lq;have z2:=lt_ne' lq;have z3:=lt_ne_add' lq
  repeat' first|simp only[fins,mems,results64,ntmps64,wks,inf_b,bK_t,bK_f,hq,z0,z1,z2,z3,vcs,seval,tys,TypeDesc.pointer.injEq,exists_eq_left']|exact rfl|refine call_off (v:=.any) ?_|(first|(refine call_fn ?_ (noEsc_ev (.ptr q 0 0) Mem.nil _) ?_)|(refine call_fn_g ?_ (fun _=>noEsc_ev (.ptr q 0 0) Mem.nil _) ?_))|(refine ext_toUnsafe (y:=?_) (sz:=?_) (row:=?_) (rows:=?_) (o:=?_) (te:=?_) ?_ ?_ ?_ ?_ ?_ ?_ ?_ ?_;rotate_left 6;(iterate 2 (focus (simp only[results64,ntmps64,wks,inf_b,bK_t,bK_f,hq,z0,z1,z2,z3,vcs,seval,tys,TypeDesc.pointer.injEq,exists_eq_left']<;>exact rfl)));(focus (exact rfl));(focus (omega));(iterate 2 (focus (simp only[results64,ntmps64,wks,inf_b,bK_t,bK_f,hq,z0,z1,z2,z3,vcs,seval,tys,TypeDesc.pointer.injEq,exists_eq_left']<;>exact rfl)));(focus (kernel_rfl)))|(refine extG_true ?_)|(refine extG_false ?_)|(refine ext_fromUnsafe (y:=?_) (sz:=?_) (row:=?_) (rows:=?_) (u:=?_) ?_ ?_ ?_ ?_ ?_ ?_ ?_ ?_;rotate_left 5;(iterate 2 (focus (simp only[results64,ntmps64,wks,inf_b,bK_t,bK_f,hq,z0,z1,z2,z3,vcs,seval,tys,TypeDesc.pointer.injEq,exists_eq_left']<;>exact rfl)));(focus (omega));(iterate 2 (focus (simp only[results64,ntmps64,wks,inf_b,bK_t,bK_f,hq,z0,z1,z2,z3,vcs,seval,tys,TypeDesc.pointer.injEq,exists_eq_left']<;>exact rfl)));(iterate 2 (focus (kernel_rfl))))|((first|apply Ca|apply Cb)<;>intro hb)|refine Ai (by omega) ?_|(apply Ai<;>intro hb)
  all_goals ((refine Fin.give [(q,none)] [] ?_ ?_ ?_ ?_ ?_ (fun q hq=>by have hqq:=ho q hq;first|(simp only[gives,tgt,Lc,Lo,Lk,Ln,or_false]at hqq ⊢;omega)|(simp only[gives,tgt,Lc,Lo,Lk,Ln,or_false]at hqq))<;>(try simp only[results64,ntmps64,wks,inf_b,bK_t,bK_f,hq,z0,z1,z2,z3,giv,vcs,seval,tys,TypeDesc.pointer.injEq,exists_eq_left'])<;>(try simp only[injs])<;>(try omega)))
 | true =>
  refine ev_go rfl (fun cargs w=>call64 cargs w) func64 rfl mixed (by kernel_rfl) rfl ?_;intro b0 hb0
  have lq:q<b0:=below_of hb0 (by rw[hq];rfl)
  have z0:=lt_ne lq;have z1:=lt_ne_add lq;have z2:=lt_ne' lq;have z3:=lt_ne_add' lq
  repeat' first|simp only[fins,mems,results64,ntmps64,wks,inf_b,bK_t,bK_f,hq,z0,z1,z2,z3,vcs,seval,tys,TypeDesc.pointer.injEq,exists_eq_left']|exact rfl|refine call_off (v:=.any) ?_|((first|apply Ca|apply Cb)<;>intro hb)|refine Ai (by omega) ?_|(apply Ai<;>intro hb)
  all_goals ((refine Fin.give [(q,none)] [] ?_ ?_ ?_ ?_ ?_ (fun q hq=>by have hqq:=ho q hq;first|(simp only[gives,tgt,Lc,Lo,Lk,Ln,or_false]at hqq ⊢;omega)|(simp only[gives,tgt,Lc,Lo,Lk,Ln,or_false]at hqq))<;>(try simp only[results64,ntmps64,wks,inf_b,bK_t,bK_f,hq,z0,z1,z2,z3,giv,vcs,seval,tys,TypeDesc.pointer.injEq,exists_eq_left'])<;>(try simp only[injs])<;>(try omega)))
theorem ren_bytes (σ:List (Nat×Nat))(bs:List UInt8)(t:TypeId):Blk.ren σ (@Blk.mk 1 (bs.map byteRow) (.typed t)) = @Blk.mk 1 (bs.map byteRow) (.typed t):=by
 have h:plainLL (bs.map byteRow)=true:=plainLL_map _ (fun _=>rfl) bs
 simp only[Blk.ren,renLL,h,if_true]
theorem renOk_bytes (σ:List (Nat×Nat))(bs:List UInt8)(t:TypeId):Blk.renOk σ (@Blk.mk 1 (bs.map byteRow) (.typed t))=true:=by
 have h:plainLL (bs.map byteRow)=true:=plainLL_map _ (fun _=>rfl) bs
 simp only[Blk.renOk,renOkLL,h,Bool.true_or,Bool.true_and]
 rfl
theorem ren_cons (σ:List (Nat×Nat))(c:UInt8)(bs:List UInt8)(t:TypeId):Blk.ren σ (@Blk.mk 1 (byteRow c::bs.map byteRow) (.typed t)) = @Blk.mk 1 (byteRow c::bs.map byteRow) (.typed t):=ren_bytes σ (c::bs) t
theorem renOk_cons (σ:List (Nat×Nat))(c:UInt8)(bs:List UInt8)(t:TypeId):Blk.renOk σ (@Blk.mk 1 (byteRow c::bs.map byteRow) (.typed t))=true:=renOk_bytes σ (c::bs) t
theorem one_b (c:UInt8):(byteRow c).all V.one=true:=rfl
theorem one_bs (bs:List UInt8):((bs.map byteRow).all fun r=>r.all V.one)=true:=by
 rw[List.all_eq_true]
 intro r hr
 obtain⟨c,_,rfl⟩:=List.mem_map.1 hr
 rfl
def rK (bs:List UInt8):Blk:=@Blk.mk 1 (bs.map byteRow) (.typed 5)
theorem copyO_ev (used:Bool)(q y n:Nat)(bs:List UInt8)(M:Mem)(nm:Nat)(hqy:q≠y)(hq:M q=some (bK used q (.own y 0 n)))(hy:M y=some (rK bs))(ho:∀ z,(M z).isSome=true→z∈[q,y])(hn:q<nm)(hny:y<nm) :
  Ev cx 64 nm [.ptr q 0 0] M (.tup []) [(q,some (bK true q (.own y 0 n))),(y,some (rK bs))]:=by
 have yz:(y=q)=False:=eq_false (fun h=>hqy h.symm)
 have zy:(q=y)=False:=eq_false hqy
 cases used with
 | false =>
  refine ev_go rfl (fun cargs w=>call64 cargs w) func64 rfl mixed (by kernel_rfl) rfl ?_;intro b0 hb0
  have lq:q<b0:=below_of hb0 (by rw[hq];rfl)
  have ly:y<b0:=below_of hb0 (by rw[hy];rfl)
  have y0:=lt_ne ly;have y1:=lt_ne_add ly;have y2:=lt_ne' ly;have y3:=lt_ne_add' ly
  have z0:=lt_ne lq;have z1:=lt_ne_add lq;have z2:=lt_ne' lq;have z3:=lt_ne_add' lq
  repeat' first|simp only[fins,mems,results64,ntmps64,wks,inf_b,bK_t,bK_f,hq,hy,y0,y1,y2,y3,yz,zy,z0,z1,z2,z3,vcs,seval,tys,TypeDesc.pointer.injEq,exists_eq_left']|exact rfl|refine call_off (v:=.any) ?_|(first|(refine call_fn ?_ (noEsc_ev (.ptr q 0 0) Mem.nil _) ?_)|(refine call_fn_g ?_ (fun _=>noEsc_ev (.ptr q 0 0) Mem.nil _) ?_))|(refine ext_toUnsafe (y:=?_) (sz:=?_) (row:=?_) (rows:=?_) (o:=?_) (te:=?_) ?_ ?_ ?_ ?_ ?_ ?_ ?_ ?_;rotate_left 6;(iterate 2 (focus (simp only[results64,ntmps64,wks,inf_b,bK_t,bK_f,hq,hy,y0,y1,y2,y3,yz,zy,z0,z1,z2,z3,vcs,seval,tys,TypeDesc.pointer.injEq,exists_eq_left']<;>exact rfl)));(focus (exact rfl));(focus (omega));(iterate 2 (focus (simp only[results64,ntmps64,wks,inf_b,bK_t,bK_f,hq,hy,y0,y1,y2,y3,yz,zy,z0,z1,z2,z3,vcs,seval,tys,TypeDesc.pointer.injEq,exists_eq_left']<;>exact rfl)));(focus (kernel_rfl)))|(refine extG_true ?_)|(refine extG_false ?_)|(refine ext_fromUnsafe (y:=?_) (sz:=?_) (row:=?_) (rows:=?_) (u:=?_) ?_ ?_ ?_ ?_ ?_ ?_ ?_ ?_;rotate_left 5;(iterate 2 (focus (simp only[results64,ntmps64,wks,inf_b,bK_t,bK_f,hq,hy,y0,y1,y2,y3,yz,zy,z0,z1,z2,z3,vcs,seval,tys,TypeDesc.pointer.injEq,exists_eq_left']<;>exact rfl)));(focus (omega));(iterate 2 (focus (simp only[results64,ntmps64,wks,inf_b,bK_t,bK_f,hq,hy,y0,y1,y2,y3,yz,zy,z0,z1,z2,z3,vcs,seval,tys,TypeDesc.pointer.injEq,exists_eq_left']<;>exact rfl)));(iterate 2 (focus (kernel_rfl))))|((first|apply Ca|apply Cb)<;>intro hb)|refine Ai (by omega) ?_|(apply Ai<;>intro hb)
  all_goals ((refine Fin.give [(q,none),(y,none)] [] ?_ ?_ ?_ ?_ ?_ (fun q hq=>by have hqq:=ho q hq;first|(simp only[gives,tgt,Lc,Lo,Lk,Ln,or_false]at hqq ⊢;omega)|(simp only[gives,tgt,Lc,Lo,Lk,Ln,or_false]at hqq))<;>(try simp only[results64,ntmps64,wks,rK,ren_bytes,renOk_bytes,ite_self,Bool.false_and,Bool.false_eq_true,if_false,bK_t,bK_f,hq,hy,y0,y1,y2,y3,yz,zy,z0,z1,z2,z3,giv,vcs,seval,tys,TypeDesc.pointer.injEq,exists_eq_left'])<;>(try simp only[injs])<;>(try omega)))
 | true =>
  refine ev_go rfl (fun cargs w=>call64 cargs w) func64 rfl mixed (by kernel_rfl) rfl ?_;intro b0 hb0
  have lq:q<b0:=below_of hb0 (by rw[hq];rfl)
  have ly:y<b0:=below_of hb0 (by rw[hy];rfl)
  have y0:=lt_ne ly;have y1:=lt_ne_add ly;have y2:=lt_ne' ly;have y3:=lt_ne_add' ly
  have z0:=lt_ne lq;have z1:=lt_ne_add lq;have z2:=lt_ne' lq;have z3:=lt_ne_add' lq
  repeat' first|simp only[fins,mems,results64,ntmps64,wks,inf_b,bK_t,bK_f,hq,hy,y0,y1,y2,y3,yz,zy,z0,z1,z2,z3,vcs,seval,tys,TypeDesc.pointer.injEq,exists_eq_left']|exact rfl|refine call_off (v:=.any) ?_|((first|apply Ca|apply Cb)<;>intro hb)|refine Ai (by omega) ?_|(apply Ai<;>intro hb)
  all_goals ((refine Fin.give [(q,none),(y,none)] [] ?_ ?_ ?_ ?_ ?_ (fun q hq=>by have hqq:=ho q hq;first|(simp only[gives,tgt,Lc,Lo,Lk,Ln,or_false]at hqq ⊢;omega)|(simp only[gives,tgt,Lc,Lo,Lk,Ln,or_false]at hqq))<;>(try simp only[results64,ntmps64,wks,rK,ren_bytes,renOk_bytes,ite_self,Bool.false_and,Bool.false_eq_true,if_false,bK_t,bK_f,hq,hy,y0,y1,y2,y3,yz,zy,z0,z1,z2,z3,giv,vcs,seval,tys,TypeDesc.pointer.injEq,exists_eq_left'])<;>(try simp only[injs])<;>(try omega)))
theorem wStrN_ev (used:Bool)(q:Nat)(s:List UInt8)(hs:s≠[])(hl:s.length≤lim)(M:Mem)(nm:Nat)(hq:M q=some (bK used q .nils))(ho:∀ z,(M z).isSome=true→z∈[q])(hn:q<nm) :
  Ev cx 42 nm [.ptr q 0 0,.str s] M (.tup [.int .i64 s.length,.val .nilIface]) [(q,some (bK true q (.own nm 0 s.length))),(nm,some (rK s))]:=by
 unfold lim at hl
 refine ev_go rfl (fun cargs w=>call42 cargs w) func42 rfl mixed (by kernel_rfl) rfl ?_;intro b0 hb0
 have lq:q<b0:=below_of hb0 (by rw[hq];rfl)
 have z0:=lt_ne lq;have z1:=lt_ne_add lq;have z2:=lt_ne' lq;have z3:=lt_ne_add' lq
 obtain⟨c,s,rfl⟩:=List.exists_cons_of_ne_nil hs
 repeat' first|simp only[fins,mems,results42,ntmps42,wks,bK_t,hq,z0,z1,z2,z3,vcs,seval,tys,TypeDesc.pointer.injEq,exists_eq_left']|exact rfl|refine call_off (v:=.any) ?_|(refine call_fn_full ?_ [[q]] (copyN_ev used q _ _ ?_ only_mem (by omega)) ?_ ?_)|((first|apply Ca|apply Cb)<;>intro hb)|refine Ai (by omega) ?_|(apply Ai<;>intro hb)
 refine call_fn_full ?_ [q] (copyN_ev used q _ _ ?_ only_mem (by omega)) ?_ ?_
 ·simp only[vcs,seval,tys,TypeDesc.pointer.injEq,exists_eq_left']
 ·simp only[only_at,Lk,Ln,hq,vcs,seval,tys,TypeDesc.pointer.injEq,exists_eq_left']
 ·simp only[Lk,Ln,forall_eq,forall_eq_or_imp,hq,vcs,seval,tys,TypeDesc.pointer.injEq,exists_eq_left']
 simp only[List.length_cons]at hl
 repeat' first|simp only[fins,mems,results42,ntmps42,wks,bK_t,hq,z0,z1,z2,z3,one_b,one_bs,Lm,vcs,seval,tys,TypeDesc.pointer.injEq,exists_eq_left']|exact rfl|refine call_off (v:=.any) ?_|((first|apply Ca|apply Cb)<;>intro hb)|refine Ai (by omega) ?_|(apply Ai<;>intro hb)
 all_goals ((refine Fin.give [(q,none),(b0+160,some 0)] [] ?_ ?_ ?_ ?_ ?_ (fun q hq=>by have hqq:=ho q hq;first|(simp only[gives,tgt,Lc,Lo,Lk,Ln,or_false]at hqq ⊢;omega)|(simp only[gives,tgt,Lc,Lo,Lk,Ln,or_false]at hqq))<;>(try simp only[results42,ntmps42,wks,rK,ren_cons,renOk_cons,ren_bytes,renOk_bytes,ite_self,Bool.false_and,Bool.false_eq_true,if_false,bK_t,hq,z0,z1,z2,z3,fresh_self,giv,vcs,seval,tys,TypeDesc.pointer.injEq,exists_eq_left'])<;>(try simp only[injs])<;>(try omega)))
theorem wStrO_ev (used:Bool)(q y:Nat)(bs s:List UInt8)(hl:bs.length+s.length≤lim)(M:Mem)(nm:Nat)(hqy:q≠y)(hq:M q=some (bK used q (.own y 0 bs.length)))(hy:M y=some (rK bs))(ho:∀ z,(M z).isSome=true→z∈[q,y])(hn:q<nm)(hny:y<nm) :
  Ev cx 42 nm [.ptr q 0 0,.str s] M (.tup [.int .i64 s.length,.val .nilIface]) [(y,none),(q,some (bK true q (.own nm 0 (bs.length+s.length)))),(nm,some (rK (bs++s)))]:=by
 unfold lim at hl
 have yz:(y=q)=False:=eq_false (fun h=>hqy h.symm)
 have zy:(q=y)=False:=eq_false hqy
 refine ev_go rfl (fun cargs w=>call42 cargs w) func42 rfl mixed (by kernel_rfl) rfl ?_;intro b0 hb0
 have lq:q<b0:=below_of hb0 (by rw[hq];rfl)
 have ly:y<b0:=below_of hb0 (by rw[hy];rfl)
 have y0:=lt_ne ly;have y1:=lt_ne_add ly;have y2:=lt_ne' ly;have y3:=lt_ne_add' ly
 have z0:=lt_ne lq;have z1:=lt_ne_add lq;have z2:=lt_ne' lq;have z3:=lt_ne_add' lq
 repeat' first|simp only[fins,mems,results42,ntmps42,wks,bK_t,hq,z0,z1,z2,z3,vcs,seval,tys,TypeDesc.pointer.injEq,exists_eq_left']|exact rfl|refine call_off (v:=.any) ?_|((first|apply Ca|apply Cb)<;>intro hb)|refine Ai (by omega) ?_|(apply Ai<;>intro hb)
 refine call_fn_full ?_ [q,y] (copyO_ev used q y bs.length bs _ _ hqy ?_ ?_ only_mem (by omega) (by omega)) ?_ ?_
 ·simp only[vcs,seval,tys,TypeDesc.pointer.injEq,exists_eq_left']
 ·simp only[only_at,Lk,Ln,true_or,or_true,hq,hy,yz,zy,vcs,seval,tys,TypeDesc.pointer.injEq,exists_eq_left']
 ·simp only[only_at,Lk,Ln,true_or,or_true,hq,hy,yz,zy,vcs,seval,tys,TypeDesc.pointer.injEq,exists_eq_left']
 ·simp only[Lk,Ln,forall_eq,forall_eq_or_imp,true_or,or_true,hq,hy,yz,zy,vcs,seval,tys,TypeDesc.pointer.injEq,exists_eq_left']
 repeat' first|simp only[fins,mems,results42,ntmps42,wks,rK,bK_t,hq,hy,yz,zy,y0,y1,y2,y3,z0,z1,z2,z3,one_b,one_bs,Lm,List.take_of_length_le,Nat.le_refl,List.map_append.symm,vcs,seval,tys,TypeDesc.pointer.injEq,exists_eq_left']|exact rfl|refine call_off (v:=.any) ?_|((first|apply Ca|apply Cb)<;>intro hb)|refine Ai (by omega) ?_|(apply Ai<;>intro hb)
 all_goals ((refine Fin.give [(q,none),(b0+160,some 0)] [y] ?_ ?_ ?_ ?_ ?_ (fun q hq=>by have hqq:=ho q hq;first|(simp only[gives,tgt,Lc,Lo,Lk,Ln,or_false]at hqq ⊢;omega)|(simp only[gives,tgt,Lc,Lo,Lk,Ln,or_false]at hqq))<;>(try simp only[results42,ntmps42,wks,rK,Option.bind_some,ren_bytes,renOk_bytes,ite_self,Bool.false_and,Bool.false_eq_true,if_false,bK_t,hq,hy,yz,zy,y0,y1,y2,y3,z0,z1,z2,z3,fresh_self,giv,vcs,seval,tys,TypeDesc.pointer.injEq,exists_eq_left'])<;>(try simp only[injs])<;>(try omega)))
theorem bStrO_ev (used:Bool)(q y:Nat)(bs:List UInt8)(hb:bs≠[])(hl:bs.length≤lim)(M:Mem)(nm:Nat)(hqy:q≠y)(hq:M q=some (bK used q (.own y 0 bs.length)))(hy:M y=some (rK bs))(ho:∀ z,(M z).isSome=true→z∈[q,y])(hn:q<nm)(hny:y<nm) :
  Ev cx 43 nm [.ptr q 0 0] M (.str bs) [(q,none),(y,none)]:=by
 unfold lim at hl
 have hp:0<bs.length:=List.length_pos_iff.2 hb
 have yz:(y=q)=False:=eq_false (fun h=>hqy h.symm)
 have zy:(q=y)=False:=eq_false hqy
 refine ev_go rfl (fun cargs w=>call43 cargs w) func43 rfl mixed (by kernel_rfl) rfl ?_;intro b0 hb0
 have lq:q<b0:=below_of hb0 (by rw[hq];rfl)
 have ly:y<b0:=below_of hb0 (by rw[hy];rfl)
 have y0:=lt_ne ly;have y1:=lt_ne_add ly;have y2:=lt_ne' ly;have y3:=lt_ne_add' ly
 have z0:=lt_ne lq;have z1:=lt_ne_add lq;have z2:=lt_ne' lq;have z3:=lt_ne_add' lq
 cases used<;>(repeat' first|simp only[fins,mems,results43,ntmps43,wks,rK,bK_t,bK_f,hq,hy,yz,zy,y0,y1,y2,y3,z0,z1,z2,z3,hb,ne_eq,not_false_eq_true,vcs,seval,tys,TypeDesc.pointer.injEq,exists_eq_left']|exact rfl|refine call_off (v:=.any) ?_|(refine ext_sliceData (y:=?_) (n:=?_) rfl ?_ ?_ ?_;rotate_left 2;(focus (simp only[results43,ntmps43,wks,rK,bK_t,bK_f,hq,hy,yz,zy,y0,y1,y2,y3,z0,z1,z2,z3,hb,ne_eq,not_false_eq_true,vcs,seval,tys,TypeDesc.pointer.injEq,exists_eq_left']<;>exact rfl));(focus (first|omega|(simp only[results43,ntmps43,wks,rK,bK_t,bK_f,hq,hy,yz,zy,y0,y1,y2,y3,z0,z1,z2,z3,hb,ne_eq,not_false_eq_true,vcs,seval,tys,TypeDesc.pointer.injEq,exists_eq_left']<;>omega))))|(refine extG_true ?_)|(refine extG_false ?_)|(refine ext_unsafeString (y:=?_) (bs:=?_) (u:=?_) rfl ?_ ?_ ?_ ?_ ?_ ?_ ?_ ?_;rotate_left 3;(iterate 3 (focus (simp only[results43,ntmps43,wks,rK,bK_t,bK_f,hq,hy,yz,zy,y0,y1,y2,y3,z0,z1,z2,z3,hb,ne_eq,not_false_eq_true,vcs,seval,tys,TypeDesc.pointer.injEq,exists_eq_left']<;>exact rfl)));(focus (first|assumption|(simp only[results43,ntmps43,wks,rK,bK_t,bK_f,hq,hy,yz,zy,y0,y1,y2,y3,z0,z1,z2,z3,hb,ne_eq,not_false_eq_true,vcs,seval,tys,TypeDesc.pointer.injEq,exists_eq_left'];done)));(focus (first|omega|(simp only[results43,ntmps43,wks,rK,bK_t,bK_f,hq,hy,yz,zy,y0,y1,y2,y3,z0,z1,z2,z3,hb,ne_eq,not_false_eq_true,vcs,seval,tys,TypeDesc.pointer.injEq,exists_eq_left']<;>omega)));(focus (simp only[results43,ntmps43,wks,rK,bK_t,bK_f,hq,hy,yz,zy,y0,y1,y2,y3,z0,z1,z2,z3,hb,ne_eq,not_false_eq_true,vcs,seval,tys,TypeDesc.pointer.injEq,exists_eq_left']<;>exact rfl));(focus (kernel_rfl)))|refine draw_end' (ps:=[(4,8)]) (by decide +kernel) (by simp only[List.forall_mem_cons,List.getD_cons_zero,List.getD_cons_succ,results43,ntmps43,wks,rK,bK_t,bK_f,hq,hy,yz,zy,y0,y1,y2,y3,z0,z1,z2,z3,hb,ne_eq,not_false_eq_true,vcs,seval,tys,TypeDesc.pointer.injEq,exists_eq_left']<;>(try simp)<;>(try omega)) ?_|refine draw_end (by decide +kernel) ?_|((first|apply Ca|apply Cb)<;>intro hb)|refine Ai (by omega) ?_|(apply Ai<;>intro hb))
 all_goals ((refine Fin.give [] [q,y] ?_ ?_ ?_ ?_ ?_ (fun q hq=>by have hqq:=ho q hq;first|(simp only[gives,tgt,Lc,Lo,Lk,Ln,or_false]at hqq ⊢;omega)|(simp only[gives,tgt,Lc,Lo,Lk,Ln,or_false]at hqq))<;>(try simp only[results43,ntmps43,wks,rK,ite_self,Bool.false_and,Bool.false_eq_true,if_false,bK_t,bK_f,hq,hy,yz,zy,y0,y1,y2,y3,z0,z1,z2,z3,fresh_self,giv,vcs,seval,tys,TypeDesc.pointer.injEq,exists_eq_left'])<;>(try simp only[injs])<;>(try omega)))
theorem bStrN_ev (used:Bool)(q:Nat)(M:Mem)(nm:Nat)(hq:M q=some (bK used q .nils))(ho:∀ z,(M z).isSome=true→z∈[q])(hn:q<nm) :
  Ev cx 43 nm [.ptr q 0 0] M (.str []) [(q,none)]:=by
 refine ev_go rfl (fun cargs w=>call43 cargs w) func43 rfl mixed (by kernel_rfl) rfl ?_;intro b0 hb0
 have lq:q<b0:=below_of hb0 (by rw[hq];rfl)
 have z0:=lt_ne lq;have z1:=lt_ne_add lq;have z2:=lt_ne' lq;have z3:=lt_ne_add' lq
 cases used<;>(repeat' first|simp only[fins,mems,results43,ntmps43,wks,bK_t,bK_f,hq,z0,z1,z2,z3,vcs,seval,tys,TypeDesc.pointer.injEq,exists_eq_left']|exact rfl|refine call_off (v:=.any) ?_|(refine ext_sliceData_nil rfl ?_ ?_;(focus (simp only[results43,ntmps43,wks,bK_t,bK_f,hq,z0,z1,z2,z3,vcs,seval,tys,TypeDesc.pointer.injEq,exists_eq_left']<;>exact rfl)))|(refine extG_true ?_)|(refine extG_false ?_)|(refine ext_unsafeString_nil rfl ?_ ?_ ?_;(iterate 2 (focus (simp only[results43,ntmps43,wks,bK_t,bK_f,hq,z0,z1,z2,z3,vcs,seval,tys,TypeDesc.pointer.injEq,exists_eq_left']<;>exact rfl))))|refine draw_end' (ps:=[(4,8)]) (by decide +kernel) (by simp only[List.forall_mem_cons,List.getD_cons_zero,List.getD_cons_succ,results43,ntmps43,wks,bK_t,bK_f,hq,z0,z1,z2,z3,vcs,seval,tys,TypeDesc.pointer.injEq,exists_eq_left']<;>(try simp)<;>(try omega)) ?_|refine draw_end (by decide +kernel) ?_|((first|apply Ca|apply Cb)<;>intro hb)|refine Ai (by omega) ?_|(apply Ai<;>intro hb))
 all_goals ((refine Fin.give [] [q] ?_ ?_ ?_ ?_ ?_ (fun q hq=>by have hqq:=ho q hq;first|(simp only[gives,tgt,Lc,Lo,Lk,Ln,or_false]at hqq ⊢;omega)|(simp only[gives,tgt,Lc,Lo,Lk,Ln,or_false]at hqq))<;>(try simp only[results43,ntmps43,wks,ite_self,Bool.false_and,Bool.false_eq_true,if_false,bK_t,bK_f,hq,z0,z1,z2,z3,fresh_self,giv,vcs,seval,tys,TypeDesc.pointer.injEq,exists_eq_left'])<;>(try simp only[injs])<;>(try omega)))
end Go.Proofs.Ytfcfldmioonipaa
