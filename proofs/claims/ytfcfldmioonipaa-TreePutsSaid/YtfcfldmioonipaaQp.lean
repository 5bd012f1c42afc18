/-
 Texts joined: XPd,XPf,XSr,XSs,XSt,XSv,XJc,XJd,XJe.
-/
import Derived.Test.YtfcfldmioonipaaQo
import Derived.Test.YtfcfldmioonipaaQe
import Derived.Test.YtfcfldmioonipaaQh
import Derived.Test.YtfcfldmioonipaaQn
import Derived.Test.YtfcfldmioonipaaQl
import Derived.Test.YtfcfldmioonipaaQm
namespace Go.Proofs.Ytfcfldmioonipaa
set_option maxRecDepth 100000
set_option maxHeartbeats 32000000
set_option linter.unusedSimpArgs false
set_option linter.unusedVariables false
open Go Go.RowKit Vm Go.Lib Try
open Vm renaming cond_bool→Ca,cond_bit→Cb
open And renaming intro→Ai
open List renaming length_map→Lm,not_mem_nil→Ln,map_nil→Lo,map_cons→Lc,mem_cons→Lk
open Bool renaming not_false→Bf,not_true→Bt
theorem okTo_nd {n:Nd}{a b:Nat}(h:n.okTo a)(hab:a≤b):n.okTo b:=by
 obtain⟨h1,h2,h3,h4,h5⟩:=h
 exact⟨by omega,by omega,by omega,by omega,fun x hx=>by obtain⟨a1,a2,a3⟩:=h5 x hx;exact⟨by omega,by omega,by omega⟩⟩
def At.fits (a:At):Prop:=a.space.length≤lim∧a.name.length≤lim∧a.value.length≤lim
theorem at_shape {n:Nat}{vs:List V}(h:Shape cx.P n 59 vs):∃ x:At,vs=atC x∧x.fits:=by
 obtain⟨n',h⟩:=shape_struct kind_59 h
 obtain⟨_,_,rfl,h1,_,_,rfl,h2,_,_,rfl,h3,h7⟩:=h
 obtain⟨a1,rfl,r1⟩:=shape_str kind_9 h1
 obtain⟨a2,rfl,r2⟩:=shape_str kind_9 h2
 obtain⟨a3,rfl,r3⟩:=shape_str kind_9 h3
 obtain rfl:=shapeT_nil h7
 exact⟨⟨a1,a2,a3⟩,rfl,Nat.le_trans r1 (by decide),Nat.le_trans r2 (by decide),Nat.le_trans r3 (by decide)⟩
theorem nd_shape {n:Nat}{vs:List V}(h:Shape cx.P n 24 vs):∃ x:Nd,vs=ndC x∧(x.okTo lim∧x.i64):=by
 obtain⟨n',h⟩:=shape_struct kind_24 h
 obtain⟨_,_,rfl,h1,_,_,rfl,h2,_,_,rfl,h3,_,_,rfl,h4,_,_,rfl,h5,_,_,rfl,h6,h7⟩:=h
 obtain⟨a1,rfl,r1,_⟩:=shape_int kind_5 h1
 obtain⟨a2,rfl,r2⟩:=shape_str kind_9 h2
 obtain⟨a3,rfl,r3⟩:=shape_str kind_9 h3
 obtain⟨_,rs,rfl,l1,m1,g1⟩:=shape_slice kind_22 h4
 obtain⟨a5,rfl,r5⟩:=shape_str kind_9 h5
 obtain⟨a6,rfl,r6,r6'⟩:=shape_int kind_3 h6
 obtain rfl:=shapeT_nil h7
 obtain⟨x1,rfl,f1⟩:=rows_map atC At.fits (fun r hr=>at_shape (g1 r hr))
 rw[Lm]at m1
 have r1':(0:Int)≤a1:=r1
 obtain⟨b1,rfl⟩:∃ b:Nat,a1=b:=⟨a1.toNat,by omega⟩
 exact⟨⟨b1,a2,a3,x1,a5,a6⟩,rfl,⟨by show x1.length≤lim;unfold lim;omega,Nat.le_trans r2 (by decide),Nat.le_trans r3 (by decide),Nat.le_trans r5 (by decide),f1⟩,r6,r6'⟩
theorem nds_shape {n:Nat}{vs:List V}(h:Shape cx.P n 27 vs):∃ l:List Nd,vs=[.sl false 6 (l.map ndC)]∧l.length≤lim ∧ ∀ x∈l,x.okTo lim∧x.i64:=by
 obtain⟨_,rs,rfl,l1,m1,g1⟩:=shape_slice kind_27 h
 obtain⟨x1,rfl,f1⟩:=rows_map ndC (fun x=>x.okTo lim∧x.i64) (fun r hr=>nd_shape (g1 r hr))
 rw[Lm]at m1
 exact⟨x1,rfl,by unfold lim;omega,f1⟩
theorem strip_gdf (v:V):(V.gd false v).strip true = .gd false v:=rfl
def behI:Option Nat→Int
 | none=>-1
 | some e=>(e:Int)
structure BhSt where
 i:Nat
 next:Nat
 text:Bool
theorem rNode_ev (v:List Nd)(hv:v.length≤100000)(hok:∀ n∈v,n.okTo lim)(rec:Nat→Option Nat)(L:Nat)(hL:L≤13)(hrec:L≤12 → ∀ q:Nat,q≤100000 → ∀ nm,Ev cx 58 nm [.sl false 6 (v.map ndC),.int .i64 q,.int .i64 (L+1:Nat)] Mem.nil (.int .i64 (behI (rec q))) [])
    (hle:∀ q e,rec q=some e→q<e∧e≤v.length) (p:Nat) (hp:p≤100000) (nm:Nat) :
    Ev cx 58 nm [.sl false 6 (v.map ndC),.int .i64 p,.int .i64 L] Mem.nil (.int .i64 (behI (nodeB rec v (decide (12<L)) p))) []:=by
  unfold nodeB
  cases hx:v[p]? with
  | none =>
    have hge:v.length≤p:=List.getElem?_eq_none_iff.1 hx
    have c1:decide ((v.length:Int)≤(p:Int))=true:=decide_eq_true (by omega)
    have c2:decide (v.length≤p)=true:=decide_eq_true hge
    have hat0:(v.map ndC)[p]? = none:=by rw[List.getElem?_map,hx];rfl
    simp only[behI]
    refine ev_go rfl (fun cargs w=>call58 cargs w) func58 rfl mixed (by kernel_rfl) rfl ?_;intro b0 hb0
    (repeat' first|simp only[fins,mems,results58,ntmps58,wks,c1,c2,hat0,strip_gdf,Option.getD_none,List.drop_nil,List.take_nil,List.getElem?_nil,Lm,vcs,seval,tys]|exact rfl|refine call_off (v:=.any) ?_|(refine call_off (v:=.any) ?_)|((first|apply Ca|apply Cb)<;>intro hb)|refine Ai (by omega) ?_|(apply Ai<;>intro hb)|refine Fin.pure ?_ ?_ ?_|simp only[injs])
  | some x =>
    have hat:=nd_at hx
    have hpl:=(List.getElem?_eq_some_iff.1 hx).1
    have hpi:(p:Int)<(v.length:Int):=by omega
    have c1:decide ((v.length:Int)≤(p:Int))=false:=decide_eq_false (by omega)
    have c2:decide (v.length≤p)=false:=decide_eq_false (by omega)
    have hmay:=rMayN_ev x (hok x (List.mem_of_getElem? hx))
    simp only
    cases hb:okB v (decide (12<L)) x with
    | false =>
      rw[if_neg (by simp)]
      simp only[behI]
      unfold okB at hb
      cases hm:mayN x with
      | false =>
        rw[hm]at hmay
        refine ev_go rfl (fun cargs w=>call58 cargs w) func58 rfl mixed (by kernel_rfl) rfl ?_;intro b0 hb0
        (repeat' first|simp only[fins,mems,results58,ntmps58,wks,c1,c2,strip_gdf,hat,ndC,hpl,hpi,Bf,Lm,vcs,seval,tys]|exact rfl|refine call_off (v:=.any) ?_|(first|(refine call_fn ?_ (hmay _) ?_)|(refine call_fn_g ?_ (fun _=>hmay _) ?_))|(refine call_off (v:=.any) ?_)|((first|apply Ca|apply Cb)<;>intro hb)|refine Ai (by omega) ?_|(apply Ai<;>intro hb)|refine Fin.pure ?_ ?_ ?_|simp only[injs])
      | true =>
        rw[hm]at hmay hb
        by_cases h0:x.many<0
        · have e1:decide (x.many<0)=true:=decide_eq_true h0
          refine ev_go rfl (fun cargs w=>call58 cargs w) func58 rfl mixed (by kernel_rfl) rfl ?_;intro b0 hb0
          (repeat' first|simp only[fins,mems,results58,ntmps58,wks,c1,c2,e1,strip_gdf,hat,ndC,hpl,hpi,Bt,Lm,vcs,seval,tys]|exact rfl|refine call_off (v:=.any) ?_|(first|(refine call_fn ?_ (hmay _) ?_)|(refine call_fn_g ?_ (fun _=>hmay _) ?_))|(refine call_off (v:=.any) ?_)|((first|apply Ca|apply Cb)<;>intro hb)|refine Ai (by omega) ?_|(apply Ai<;>intro hb)|refine Fin.pure ?_ ?_ ?_|simp only[injs])
        · have e1:decide (x.many<0)=false:=decide_eq_false h0
          by_cases h1:(v.length:Int)<x.many
          · have e2:decide ((v.length:Int)<x.many)=true:=decide_eq_true h1
            refine ev_go rfl (fun cargs w=>call58 cargs w) func58 rfl mixed (by kernel_rfl) rfl ?_;intro b0 hb0
            (repeat' first|simp only[fins,mems,results58,ntmps58,wks,c1,c2,e1,e2,strip_gdf,hat,ndC,hpl,hpi,Bt,Lm,vcs,seval,tys]|exact rfl|refine call_off (v:=.any) ?_|(first|(refine call_fn ?_ (hmay _) ?_)|(refine call_fn_g ?_ (fun _=>hmay _) ?_))|(refine call_off (v:=.any) ?_)|((first|apply Ca|apply Cb)<;>intro hb)|refine Ai (by omega) ?_|(apply Ai<;>intro hb)|refine Fin.pure ?_ ?_ ?_|simp only[injs])
          · have e2:decide ((v.length:Int)<x.many)=false:=decide_eq_false h1
            rw[decide_eq_true (show 0≤x.many by omega),decide_eq_true (show x.many≤(v.length:Int) by omega)]at hb
            simp only[Bool.and_self,Bool.true_and,Bool.not_eq_false',Bool.and_eq_true,beq_iff_eq,decide_eq_true_eq]at hb
            have e3:((x.kind:Int)==1)=true:=by rw[hb.1];rfl
            have e4:decide ((12:Int)<(L:Int))=true:=decide_eq_true (by omega)
            have e5:decide (12<L)=true:=decide_eq_true (by omega)
            refine ev_go rfl (fun cargs w=>call58 cargs w) func58 rfl mixed (by kernel_rfl) rfl ?_;intro b0 hb0
            (repeat' first|simp only[fins,mems,results58,ntmps58,wks,c1,c2,e1,e2,e3,e4,e5,hat,ndC,hpl,hpi,Bt,Lm,vcs,seval,tys]|exact rfl|refine call_off (v:=.any) ?_|(first|(refine call_fn ?_ (hmay _) ?_)|(refine call_fn_g ?_ (fun _=>hmay _) ?_))|(refine call_off (v:=.any) ?_)|((first|apply Ca|apply Cb)<;>intro hb)|refine Ai (by omega) ?_|(apply Ai<;>intro hb)|refine Fin.pure ?_ ?_ ?_|simp only[injs])
    | true =>
      rw[if_pos rfl]
      unfold okB at hb
      simp only[Bool.and_eq_true,decide_eq_true_eq,Bool.not_eq_true',Bool.and_eq_false_iff,beq_eq_false_iff_ne,decide_eq_false_iff_not]at hb
      obtain⟨⟨⟨hm,h0⟩,h1⟩,h2⟩:=hb
      rw[hm]at hmay
      have e1:decide (x.many<0)=false:=decide_eq_false (by omega)
      have e2:decide ((v.length:Int)<x.many)=false:=decide_eq_false (by omega)
      obtain⟨c,hc⟩:∃ c:Nat,x.many=(c:Int):=⟨x.many.toNat,by omega⟩
      have hct:x.many.toNat=c:=by omega
      rw[hct]
      have hcL:12<L→c=0:=fun h=>by
        have hk:x.kind≠1:=h2.resolve_right (by omega)
        have hk2:x.kind=2:=by
          rcases mayN_kind hm with e|e
          · exact absurd e hk
          · exact e
        have:=(mayN_text hm hk2).2.2.2.1
        omega
      have e3:(((x.kind:Int)==1)&&decide ((12:Int)<(L:Int)))=false:=by
        rw[Bool.and_eq_false_iff]
        rcases h2 with h|h
        · left;exact beq_false_of_ne (by omega)
        · right;exact decide_eq_false (by omega)
      have w1:IntKind.i64.wrap ((p:Int)+1)=((p+1:Nat):Int):=wrap_in (by omega) (by omega)
      have w2:IntKind.i64.wrap ((L:Int)+1)=((L+1:Nat):Int):=wrap_in (by omega) (by omega)
      have hcase:((x.kind:Int)==1)=false∨(((x.kind:Int)==1)=true∧decide ((12:Int)<(L:Int))=false∧decide (12<L)=false):=by
        cases hkb:((x.kind:Int)==1) with
        | false=>exact .inl rfl
        | true =>
          rw[hkb,Bool.true_and]at e3
          have:¬ 12<L:=by have:=of_decide_eq_false e3;omega
          exact .inr ⟨rfl,e3,decide_eq_false this⟩
      have hS:=e3
      clear e3
      have hloop : ∀ (hk1:((x.kind:Int)==1)=false∨(((x.kind:Int)==1)=true∧decide ((12:Int)<(L:Int))=false∧decide (12<L)=false)),Ev cx 58 nm [.sl false 6 (v.map ndC),.int .i64 p,.int .i64 L] Mem.nil (.int .i64 (behI (loopB rec v c (p+1) false))) []:=by
        rintro (k1|⟨k1,k2,k3⟩)
        all_goals
          refine ev_go rfl (fun cargs w=>call58 cargs w) func58 rfl mixed (by kernel_rfl) rfl ?_;intro b0 hb0
          first
          | (repeat' first|simp only[fins,mems,results58,ntmps58,wks,c1,c2,e1,e2,k1,k2,k3,w1,hat,ndC,hpl,hpi,Bt,Lm,vcs,seval,tys]|exact rfl|refine call_off (v:=.any) ?_|(first|(refine call_fn ?_ (hmay _) ?_)|(refine call_fn_g ?_ (fun _=>hmay _) ?_))|refine Ai (by omega) ?_
             (refine loop_can2 cxG (fun s:BhSt=>c-s.i) (fun s=>s.i≤c∧s.next≤v.length∧loopB rec v c (p+1) false=loopB rec v (c-s.i) s.next s.text) (b0+16) (fun s=>[(0,.sl false 6 (v.map ndC)),(1,.int .i64 p),(2,.int .i64 L),(7,.int .i64 s.next),(8,.bool s.text),(9,.int .i64 s.i)]) (fun s=>[]) ((BhSt.mk 0 (p+1) false)) [] ?_ ?_ ?_ ?_;rotate_left 1;(focus (show b0≤_;omega));(focus (refine⟨?_,?_⟩<;>(try simp only[cans,plain_nd,Lm,vcs,seval,tys,injs])<;>(try omega)));rotate_left 1))
          | (repeat' first|simp only[fins,mems,results58,ntmps58,wks,c1,c2,e1,e2,k1,w1,hat,ndC,hpl,hpi,Bt,Lm,vcs,seval,tys]|exact rfl|refine call_off (v:=.any) ?_|(first|(refine call_fn ?_ (hmay _) ?_)|(refine call_fn_g ?_ (fun _=>hmay _) ?_))|refine Ai (by omega) ?_
             (refine loop_can2 cxG (fun s:BhSt=>c-s.i) (fun s=>s.i≤c∧s.next≤v.length∧loopB rec v c (p+1) false=loopB rec v (c-s.i) s.next s.text) (b0+16) (fun s=>[(0,.sl false 6 (v.map ndC)),(1,.int .i64 p),(2,.int .i64 L),(7,.int .i64 s.next),(8,.bool s.text),(9,.int .i64 s.i)]) (fun s=>[]) ((BhSt.mk 0 (p+1) false)) [] ?_ ?_ ?_ ?_;rotate_left 1;(focus (show b0≤_;omega));(focus (refine⟨?_,?_⟩<;>(try simp only[cans,plain_nd,Lm,vcs,seval,tys,injs])<;>(try omega)));rotate_left 1))
        all_goals first
          | exact⟨Nat.zero_le _,hpl,rfl⟩
          | (rintro ⟨i,next,text⟩ ⟨hi,hn,hinv⟩
             simp only at hi hn hinv ⊢
             rw[hinv]
             by_cases hlt:i<c
             · have hrc:=hrec (by have:=hcL;omega)
               have d1:decide ((i:Int)<x.many)=true:=decide_eq_true (by omega)
               have wi:IntKind.i64.wrap ((i:Int)+1)=((i+1:Nat):Int):=wrap_in (by omega) (by omega)
               have hsub:c-i=(c-(i+1))+1:=by omega
               have hu:loopB rec v (c-i) next text=(match rec next with|none=>none|some e=>match v[next]? with|none=>none|some y=>if (text&&y.kind==2)=true then none else loopB rec v (c-(i+1)) e (y.kind==2)):=by rw[hsub];rfl
               rw[hu]
               clear hu hsub
               have hcall:=hrc next (by omega)
               cases hr:rec next with
               | none =>
                 rw[hr]at hcall
                 simp only[behI]at hcall ⊢
                 (repeat' first|simp only[fins,mems,results58,ntmps58,wks,d1,w2,hat,ndC,hpl,hpi,Bt,Lm,vcs,seval,tys]|exact rfl|refine call_off (v:=.any) ?_|(first|(refine call_fn ?_ (hcall _) ?_)|(refine call_fn_g ?_ (fun _=>hcall _) ?_))|(refine call_off (v:=.any) ?_)|((first|apply Ca|apply Cb)<;>intro hb)|refine Ai (by omega) ?_|(apply Ai<;>intro hb)|refine Fin.pure ?_ ?_ ?_|simp only[injs])
               | some e =>
                 rw[hr]at hcall
                 obtain⟨he1,he2⟩:=hle next e hr
                 obtain⟨y,hy⟩:∃ y,v[next]? = some y:=⟨_,List.getElem?_eq_getElem (by omega)⟩
                 have haty:=nd_at hy
                 have hnl:next<v.length:=by omega
                 have hni:(next:Int)<(v.length:Int):=by omega
                 have d2:decide ((e:Int)<0)=false:=decide_eq_false (by omega)
                 rw[hy]
                 simp only[behI]at hcall ⊢
                 have hk2:(y.kind==2)=((y.kind:Int)==2):=by rw[Bool.eq_iff_iff];simp;omega
                 rw[hk2]
                 cases hkk:((y.kind:Int)==2)<;>cases text
                 all_goals (try simp only[Bool.and_self,Bool.and_false,Bool.false_and,Bool.false_eq_true,if_false,if_true])
                 all_goals first
                   | (repeat' first|simp only[fins,mems,results58,ntmps58,wks,d1,d2,w2,wi,hkk,hat,haty,ndC,hpl,hpi,hnl,hni,Bt,Lm,vcs,seval,tys]|exact rfl|refine call_off (v:=.any) ?_|(first|(refine call_fn ?_ (hcall _) ?_)|(refine call_fn_g ?_ (fun _=>hcall _) ?_))|refine Ai (by omega) ?_
                      (refine again_can2 cxG (BhSt.mk (i+1) e ((y.kind:Int)==2)) [] ?_ ?_ ?_ ?_;rotate_left 2;(focus (show b0≤_;omega));(focus (refine⟨?_,?_⟩<;>(try simp only[cans,plain_nd,wi,hkk,Lm,vcs,seval,tys,injs])<;>(try omega)))))
                   |((repeat' first|simp only[fins,mems,results58,ntmps58,wks,d1,d2,w2,wi,hkk,hat,haty,ndC,hpl,hpi,hnl,hni,Bt,Lm,vcs,seval,tys]|exact rfl|refine call_off (v:=.any) ?_|(first|(refine call_fn ?_ (hcall _) ?_)|(refine call_fn_g ?_ (fun _=>hcall _) ?_))|((first|apply Ca|apply Cb)<;>intro hb)|refine Ai (by omega) ?_|(apply Ai<;>intro hb)|refine Fin.pure ?_ ?_ ?_|simp only[injs]))
                 all_goals first|(show c-(i+1)<c-i;omega)|(exact⟨hlt,he2,by simp only[hkk,hk2]⟩)|skip
             · have hie:i=c:=by omega
               subst hie
               have d1:decide ((i:Int)<x.many)=false:=decide_eq_false (by omega)
               have hu:loopB rec v (i-i) next text=some next:=by rw[Nat.sub_self];rfl
               rw[hu]
               simp only[behI]
               (repeat' first|simp only[fins,mems,results58,ntmps58,wks,d1,hat,ndC,hpl,hpi,Lm,vcs,seval,tys]|exact rfl|refine call_off (v:=.any) ?_|((first|apply Ca|apply Cb)<;>intro hb)|refine Ai (by omega) ?_|(apply Ai<;>intro hb)|refine Fin.pure ?_ ?_ ?_|simp only[injs]))
      exact hloop hcase
end Go.Proofs.Ytfcfldmioonipaa
namespace Go.Proofs.Ytfcfldmioonipaa
set_option maxRecDepth 100000
set_option maxHeartbeats 32000000
set_option linter.unusedSimpArgs false
set_option linter.unusedVariables false
open Nat renaming reduceAdd→Ka,reduceMul→Kb,reduceEqDiff→Kc,reduceLeDiff→Kd,reduceSub→Ke,reduceLT→Kf,reduceBEq→Kr,reduceBNe→Ks,reducePow→Kt
open Int renaming reduceToNat→Kg,reduceLE→Kh,reduceLT→Ki,reduceAdd→Kj,reduceSub→Kk,reduceMul→Kl,reduceNeg→Km,reduceBEq→Kn,reduceBNe→Ko,reduceEq→Kp,reduceNe→Kq
open Go Go.RowKit Vm Go.Lib Try
open Vm renaming cond_bool→Ca,cond_bit→Cb
open And renaming intro→Ai
open List renaming length_map→Lm,not_mem_nil→Ln,map_nil→Lo,map_cons→Lc,mem_cons→Lk
open Bool renaming not_false→Bf,not_true→Bt
theorem rBehind_ev (v:List Nd)(hv:v.length≤100000)(hok:∀ n∈v,n.okTo lim):∀(d:Nat),d≤12 → ∀(p:Nat),p≤100000 → ∀(nm:Nat),
  Ev cx 58 nm [.sl false 6 (v.map ndC),.int .i64 p,.int .i64 ((13-d:Nat):Int)] Mem.nil (.int .i64 (behI (behB v d p))) []
 | 0,_,p,hp,nm=>rNode_ev v hv hok (fun _=>none) 13 (by omega) (fun h=>absurd h (by omega)) (fun q e h=>by cases h) p hp nm
 | d+1,hd,p,hp,nm=>by
  have h:=rNode_ev v hv hok (behB v d) (13-(d+1)) (by omega) (fun _ q hq nm=>by
   have:=rBehind_ev v hv hok d (by omega) q hq nm
   rwa[show 13-d=13-(d+1)+1 by omega]at this) (fun q e he=>behB_le he) p hp nm
  rw[decide_eq_false (show ¬ 12<13-(d+1) by omega)]at h
  exact h
theorem rMayV_ev (v:List Nd)(hv:v.length≤100000)(hok:∀ n∈v,n.okTo lim)(nm:Nat):Ev cx 30 nm [.sl false 6 (v.map ndC)] Mem.nil (.bool (mayT v)) []:=by
 rw[mayT_eq]
 have hb:=rBehind_ev v hv hok 12 (Nat.le_refl _) 0 (by omega)
 simp only[Int.ofNat_zero,Ke,Int.ofNat_one]at hb
 cases hx:v[0]? with
 | none =>
  have h0:v.length=0:=by have:=List.getElem?_eq_none_iff.1 hx;omega
  have h1:v=[]:=List.eq_nil_of_length_eq_zero h0
  subst h1
  refine ev_go rfl (fun cargs w=>call30 cargs w) func30 rfl mixed (by kernel_rfl) rfl ?_;intro b0 hb0
  (repeat' first|simp only[fins,mems,results30,ntmps30,wks,strip_gdf,Lo,List.length_nil,List.getElem?_nil,Option.getD_none,List.drop_nil,Bool.false_and,vcs,seval,tys]|exact rfl|refine call_off (v:=.any) ?_|(refine call_off (v:=.any) ?_)|((first|apply Ca|apply Cb)<;>intro hb)|refine Ai (by omega) ?_|(apply Ai<;>intro hb)|refine Fin.pure ?_ ?_ ?_|simp only[injs])
 | some x =>
  have hat:=nd_at hx
  have h0:=(List.getElem?_eq_some_iff.1 hx).1
  have h0i:(0:Int)<(v.length:Int):=by omega
  have c1:decide ((0:Int)<(v.length:Int))=true:=decide_eq_true h0i
  have c2:decide (0<v.length)=true:=decide_eq_true h0
  have c3:decide ((v.length:Int)≤512)=decide (v.length≤512):=by rw[Bool.eq_iff_iff,decide_eq_true_eq,decide_eq_true_eq];omega
  have c4:((some x).map Nd.kind==some 1)=((x.kind:Int)==1):=by
   rw[Bool.eq_iff_iff];simp;omega
  have c5:(behI (behB v 12 0)==(v.length:Int))=(behB v 12 0==some v.length):=by
   cases behB v 12 0 with
   | none =>
    have:((-1:Int)==(v.length:Int))=false:=beq_false_of_ne (by omega)
    simp only[behI,this];rfl
   | some e=>rw[Bool.eq_iff_iff];simp only[behI,beq_iff_eq,Option.some.injEq];omega
  rw[c2,Bool.true_and,c4,← c5]
  generalize behI (behB v 12 0)=B at hb ⊢
  clear c2 c4 c5
  by_cases hl:v.length≤512
  ·have c6:decide (v.length≤512)=true:=decide_eq_true hl
   rw[c6]at c3 ⊢
   cases hk:((x.kind:Int)==1)
   all_goals (
    refine ev_go rfl (fun cargs w=>call30 cargs w) func30 rfl mixed (by kernel_rfl) rfl ?_;intro b0 hb0
    (repeat' first|simp only[fins,mems,results30,ntmps30,wks,strip_gdf,c1,c3,hat,h0,h0i,hk,ndC,Lm,Bool.true_and,Bool.false_and,vcs,seval,tys]|exact rfl|refine call_off (v:=.any) ?_|(first|(refine call_fn ?_ (hb _) ?_)|(refine call_fn_g ?_ (fun _=>hb _) ?_))|(refine call_off (v:=.any) ?_)|((first|apply Ca|apply Cb)<;>intro hb)|refine Ai (by omega) ?_|(apply Ai<;>intro hb)|refine Fin.pure ?_ ?_ ?_|simp only[injs]))
  ·have c6:decide (v.length≤512)=false:=decide_eq_false hl
   rw[c6]at c3 ⊢
   refine ev_go rfl (fun cargs w=>call30 cargs w) func30 rfl mixed (by kernel_rfl) rfl ?_;intro b0 hb0
   (repeat' first|simp only[fins,mems,results30,ntmps30,wks,strip_gdf,c1,c3,hat,h0,h0i,ndC,Lm,Bool.true_and,Bool.false_and,vcs,seval,tys]|exact rfl|refine call_off (v:=.any) ?_|(refine call_off (v:=.any) ?_)|((first|apply Ca|apply Cb)<;>intro hb)|refine Ai (by omega) ?_|(apply Ai<;>intro hb)|refine Fin.pure ?_ ?_ ?_|simp only[injs])
end Go.Proofs.Ytfcfldmioonipaa
namespace Go.Proofs.Ytfcfldmioonipaa
set_option maxRecDepth 100000
set_option maxHeartbeats 32000000
set_option linter.unusedSimpArgs false
set_option linter.unusedVariables false
open Go Go.RowKit Vm Go.Lib Try
open Vm renaming cond_bool→Ca,cond_bit→Cb
open And renaming intro→Ai
open List renaming length_map→Lm,not_mem_nil→Ln,map_nil→Lo,map_cons→Lc,mem_cons→Lk
open Bool renaming not_false→Bf,not_true→Bt
end Go.Proofs.Ytfcfldmioonipaa
