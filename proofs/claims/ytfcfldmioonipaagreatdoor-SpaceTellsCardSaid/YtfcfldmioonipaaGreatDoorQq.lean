/-
 Texts joined: XIb,XJf,XJg,XJh,XJi,XJj,XJk,XJl,XJm,XJn.
-/
import Derived.Test.YtfcfldmioonipaaGreatDoorQo
import Derived.Test.YtfcfldmioonipaaGreatDoorQp
import Derived.Test.YtfcfldmioonipaaGreatDoorQn
namespace Go.Proofs.YtfcfldmioonipaaGreatDoor
set_option linter.unusedSimpArgs false
set_option linter.unusedVariables false
open Go Go.RowKit Vm Go.Lib Tryz
open Vm renaming cond_bool→Ca,cond_bit→Cb
open And renaming intro→Ai
open List renaming length_map→Lm,not_mem_nil→Ln,map_nil→Lo,map_cons→Lc,mem_cons→Lk
open Bool renaming not_false→Bf,not_true→Bt
theorem allF_app {P:Nd→Fo→Prop} : ∀ {D:Fo} {m:Nd} {c r:Fo},AllF P (D.app (.cons m c r))→P m c
 | .nil,_,_,_,h=>h.1
 | .cons _ _ D,_,_,_,h=>allF_app (D:=D) h.2
theorem part_drop {v:List Nd}{p:Nat}{D k:Fo}{m:Nd}{c r:Fo}{rest:List Nd}(hd1:v.drop (p+1)=k.flat++rest)(h:D.app (.cons m c r)=k):v.drop (p+1+D.size)=m::(c.flat++(r.flat++rest)):=by
 have:(v.drop (p+1)).drop D.size=m::(c.flat++(r.flat++rest)):=by
  rw[hd1,← h,Fo.app_flat,List.append_assoc,← Fo.flat_length,List.drop_left]
  simp[Fo.flat]
 rwa[List.drop_drop]at this
theorem part_top {D k:Fo}{m:Nd}{c r:Fo}(h:D.app (.cons m c r)=k)(p:Nat):(k.tops (p+1))[D.count]? = some (p+1+D.size):=by
 rw[← h,Fo.tops_app]
 simp only[Fo.tops]
 exact at_app (by rw[Fo.tops_length])
theorem Ev.rows_fz {f:FuncId}{nm:Nat}{args:List V}{z:Nat}{R T:List (List V)}(h:Ev cx f nm args Mem.nil (.own nm 0 T.length) [(nm,some ⟨z,R⟩)])(hle:leLL R T)(hpl:plainLL T=true):Ev cx f nm args Mem.nil (.sl false z T) []:=by
 have h2:=Ev.last_le (eff:=[]) (k':=⟨z,T⟩) h ⟨rfl,.inl rfl,hle⟩
 have htk:T.take T.length=T:=List.take_length
 refine Ev.freeze h2 ?_ ?_
 ·simp only[fins,mems,wks,hpl,htk,List.nil_append,vcs,seval,tys]<;>omega
 ·simp only[fins,mems,wks,hpl,htk,List.nil_append,vcs,seval,tys]
def refD (s:List UInt8):List UInt8×Bool:=match cut1 58 s with
 | none=>([],s==[120,109,108,110,115])
 | some (a,b)=>(b,a==[120,109,108,110,115])
theorem refD_decl (s:List UInt8):(refD s).2=(declO s).isSome∧((refD s).2=true→declO s=some (refD s).1):=by
 unfold refD
 cases hc:cut1 58 s with
 | none =>
  have hn:=cut1_none.1 hc
  simp only
  by_cases h:s=[120,109,108,110,115]
  ·subst h;exact⟨rfl,fun _=>rfl⟩
  ·have h1:(s==[120,109,108,110,115])=false:=by simpa using h
   rw[h1,decl_plain hn h]
   exact⟨rfl,fun h=>by cases h⟩
 | some p =>
  obtain⟨a,b⟩:=p
  obtain⟨e,hn⟩:=cut1_some hc
  simp only
  by_cases h:a=[120,109,108,110,115]
  ·subst h
   have:declO s=some b:=by rw[e];exact decl_pre b
   rw[this]
   exact⟨rfl,fun _=>rfl⟩
  ·have h1:(a==[120,109,108,110,115])=false:=by simpa using h
   have hd:declO s=none:=by
    refine decl_none (fun h2=>?_) (fun h2=>?_)
    ·rw[h2]at e
     have:(58:UInt8)∈([120,109,108,110,115]:List UInt8):=by rw[e];simp
     simp at this
    ·-- the first colon stands behind xmlns
     apply h
     have h3:s=[120,109,108,110,115,58]++s.drop 6:=by rw[← h2,List.take_append_drop]
     have h4:=cut1_of (d:=58) (a:=[120,109,108,110,115]) (b:=s.drop 6) (by decide)
     have h5:s=[120,109,108,110,115]++58::s.drop 6:=by rw[h3];simp
     rw[← h5,hc]at h4
     cases h4;rfl
   rw[h1,hd]
   exact⟨rfl,fun h=>by cases h⟩
set_option maxRecDepth 100000 in
theorem rDecl_ev (s:List UInt8)(hs:s.length≤lim)(nm:Nat):Ev cx 65 nm [.str s] Mem.nil (.tup [.str (refD s).1,.bool (refD s).2]) []:=by
 have hp:=rParts_ev s hs
 unfold partsV at hp
 unfold refD
 cases hc:cut1 58 s with
 | none =>
  rw[hc]at hp
  refine ev_go rfl (fun cargs w=>call65 cargs w) func65 rfl mixed (by kernel_rfl) rfl ?_;intro b0 hb0
  (repeat' first|simp only[fins,mems,results65,ntmps65,wks,Bt,Bf,vcs,seval,tys]|exact rfl|refine call_off (v:=.any) ?_|(first|(refine call_fn ?_ (hp _) ?_)|(refine call_fn_g ?_ (fun _=>hp _) ?_))|((first|apply Ca|apply Cb)<;>intro hb)|refine Ai (by omega) ?_|(apply Ai<;>intro hb)|refine Fin.pure ?_ ?_ ?_|simp only[injs])
 | some p =>
  obtain⟨a,b⟩:=p
  rw[hc]at hp
  refine ev_go rfl (fun cargs w=>call65 cargs w) func65 rfl mixed (by kernel_rfl) rfl ?_;intro b0 hb0
  (repeat' first|simp only[fins,mems,results65,ntmps65,wks,Bt,Bf,vcs,seval,tys]|exact rfl|refine call_off (v:=.any) ?_|(first|(refine call_fn ?_ (hp _) ?_)|(refine call_fn_g ?_ (fun _=>hp _) ?_))|((first|apply Ca|apply Cb)<;>intro hb)|refine Ai (by omega) ?_|(apply Ai<;>intro hb)|refine Fin.pure ?_ ?_ ?_|simp only[injs])
theorem right_eq (p v:List UInt8):mayU p v=if (p==[120,109,108])=true then v==xmlU else (((p != [120,109,108,110,115])&&(v != xmlU))&&(v != xmlnsU))&&((p==[])||(v != [])):=by
 unfold mayU givenU
 by_cases h1:p=[120,109,108,110,115]
 ·subst h1;rfl
 ·have c1:(p==[120,109,108,110,115])=false:=by simpa using h1
  have c2:(p != [120,109,108,110,115])=true:=by simpa using h1
  rw[c1,c2]
  simp only[Bool.false_eq_true,if_false,Bool.true_and]
  split
  ·rfl
  ·cases h2:(v==xmlU)<;>cases h3:(v==xmlnsU)<;>simp[h2,h3,bne]
set_option maxRecDepth 100000 in
set_option maxHeartbeats 8000000 in
theorem rRight_ev (p v:List UInt8)(nm:Nat):Ev cx 66 nm [.str p,.str v] Mem.nil (.bool (mayU p v)) []:=by
 rw[right_eq]
 unfold xmlU xmlnsU
 cases h1:(p==[120,109,108]) with
 | true =>
  simp only[if_true]
  refine ev_go rfl (fun cargs w=>call66 cargs w) func66 rfl mixed (by kernel_rfl) rfl ?_;intro b0 hb0
  (repeat' first|simp only[fins,mems,results66,ntmps66,wks,h1,vcs,seval,tys]|exact rfl|refine call_off (v:=.any) ?_|((first|apply Ca|apply Cb)<;>intro hb)|refine Ai (by omega) ?_|(apply Ai<;>intro hb)|refine Fin.pure ?_ ?_ ?_|simp only[injs])
 | false =>
  simp only[Bool.false_eq_true,if_false]
  cases h2:(p==[120,109,108,110,115])<;>cases h3:(v==[104,116,116,112,58,47,47,119,119,119,46,119,51,46,111,114,103,47,88,77,76,47,49,57,57,56,47,110,97,109,101,115,112,97,99,101])<;>cases h4:(v==[104,116,116,112,58,47,47,119,119,119,46,119,51,46,111,114,103,47,50,48,48,48,47,120,109,108,110,115,47])<;>cases h5:(p==[])<;>cases h6:(v==[])
  all_goals (
   refine ev_go rfl (fun cargs w=>call66 cargs w) func66 rfl mixed (by kernel_rfl) rfl ?_;intro b0 hb0
   (repeat' first|simp only[fins,mems,results66,ntmps66,wks,h1,h2,h3,h4,h5,h6,strip_gdf,bne,Bt,Bf,Bool.and_self,Bool.and_false,Bool.false_and,Bool.or_self,Bool.or_true,Bool.true_or,vcs,seval,tys]|exact rfl|refine call_off (v:=.any) ?_|((first|apply Ca|apply Cb)<;>intro hb)|refine Ai (by omega) ?_|(apply Ai<;>intro hb)|refine Fin.pure ?_ ?_ ?_|simp only[injs]))
def decAt (l:List At)(p:List UInt8):Option (List UInt8):=(l.find? fun a=>declO a.name==some p).map At.value
def declR:List Nd→List UInt8→List UInt8×Bool
 | [],p=>if (p==[120,109,108])=true then (xmlU,true) else ([],p==[])
 | n::r,p=>match decAt n.attrs p with
  | some v=>(v,true)
  | none=>declR r p
theorem decAt_here {l:List At}{k:Nat}{a:At}{p:List UInt8}(ha:l[k]? = some a)(hno:(l.take k).any (fun a=>declO a.name==some p)=false)(h:declO a.name=some p):decAt l p=some a.value:=by
 have hs:l=l.take k++a::l.drop (k+1):=by
  obtain⟨hk,he⟩:=List.getElem?_eq_some_iff.1 ha
  rw[← he,← List.drop_eq_getElem_cons hk,List.take_append_drop]
 have hf:(l.take k).find? (fun a=>declO a.name==some p)=none:=by
  rw[List.find?_eq_none]
  intro x hx hc
  exact absurd (List.any_eq_true.2 ⟨x,hx,hc⟩) (by rw[hno];simp)
 unfold decAt
 have:l.find? (fun a=>declO a.name==some p)=some a:=by
  rw[hs,List.find?_append,hf,Option.none_or,List.find?_cons_of_pos (by simp[h])]
 rw[this];rfl
theorem decAt_none {l:List At}{p:List UInt8}(hno:l.any (fun a=>declO a.name==some p)=false):decAt l p=none:=by
 unfold decAt
 rw[List.find?_eq_none.2 fun x hx hc=>absurd (List.any_eq_true.2 ⟨x,hx,hc⟩) (by rw[hno];simp)]
 rfl
theorem rev_take {path:List Nd}{j:Nat}{x:Nd}(h:path[j]? = some x):(path.take (j+1)).reverse=x::(path.take j).reverse:=by
 obtain⟨hk,rfl⟩:=List.getElem?_eq_some_iff.1 h
 rw[List.take_succ_eq_append_getElem hk,List.reverse_append];rfl
set_option maxRecDepth 100000 in
set_option maxHeartbeats 8000000 in
theorem rDeclared_ev (path:List Nd)(p:List UInt8)(hp:path.length≤1000)(hok:∀ n∈path,n.okTo lim)(nm:Nat):Ev cx 64 nm [.sl false 6 (path.map ndC),.str p] Mem.nil (.tup [.str (declR path.reverse p).1,.bool (declR path.reverse p).2]) []:=by
  have w0:IntKind.i64.wrap ((path.length:Int)-1)=(path.length:Int)-1:=wrap_in (by omega) (by omega)
  refine ev_go rfl (fun cargs w=>call64 cargs w) func64 rfl mixed (by kernel_rfl) rfl ?_;intro b0 hb0
  repeat' first|simp only[fins,mems,results64,ntmps64,wks,w0,Lm,vcs,seval,tys]|exact rfl|refine call_off (v:=.any) ?_|((first|apply Ca|apply Cb)<;>intro hb)|refine Ai (by omega) ?_|(apply Ai<;>intro hb)
  (refine loop_can2 cxG (fun x:Nat=>x) (fun x=>x≤path.length∧declR path.reverse p=declR (path.take x).reverse p) (b0+16) (fun x=>[(0,.sl false 6 (path.map ndC)),(1,.str p),(6,.int .i64 ((x:Int)-1))]) (fun x=>[]) (path.length) [] ?_ ?_ ?_ ?_;rotate_left 1;(focus (show b0≤_;omega));(focus (refine⟨?_,?_⟩<;>(try simp only[cans,plain_nd,Lm,vcs,seval,tys,injs])<;>(try omega)));rotate_left 1)
  · exact⟨Nat.le_refl _,by rw[List.take_length]⟩
  · rintro x ⟨hx,hinv⟩
    rw[hinv]
    cases x with
    | zero =>
      have d1:decide ((0:Int)≤((0:Nat):Int)-1)=false:=decide_eq_false (by omega)
      have d2:decide ((0:Int)≤0-1)=false:=decide_eq_false (by omega)
      have d3:decide ((0:Int) ≤ -1)=false:=decide_eq_false (by omega)
      simp only[List.take_zero,List.reverse_nil,declR]
      unfold xmlU
      cases hxm:(p==[120,109,108]) with
      | true =>
        simp only[if_true]
        (repeat' first|simp only[fins,mems,results64,ntmps64,wks,d1,d2,d3,hxm,vcs,seval,tys]|exact rfl|refine call_off (v:=.any) ?_|((first|apply Ca|apply Cb)<;>intro hb)|refine Ai (by omega) ?_|(apply Ai<;>intro hb)|refine Fin.pure ?_ ?_ ?_|simp only[injs])
      | false =>
        simp only[Bool.false_eq_true,if_false]
        (repeat' first|simp only[fins,mems,results64,ntmps64,wks,d1,d2,d3,hxm,vcs,seval,tys]|exact rfl|refine call_off (v:=.any) ?_|((first|apply Ca|apply Cb)<;>intro hb)|refine Ai (by omega) ?_|(apply Ai<;>intro hb)|refine Fin.pure ?_ ?_ ?_|simp only[injs])
    | succ j =>
      obtain⟨n,hn⟩:∃ n,path[j]? = some n:=⟨_,List.getElem?_eq_getElem (by omega)⟩
      have hat:=nd_at hn
      have hjl:j<path.length:=by omega
      have hji:(j:Int)<(path.length:Int):=by omega
      have hnl:=hok n (List.mem_of_getElem? hn)
      have hnl0:=hnl.1
      unfold lim at hnl0
      have e0:(((j+1:Nat):Int)-1)=(j:Int):=by omega
      have d1:decide ((0:Int)≤(j:Int))=true:=decide_eq_true (by omega)
      have w1:IntKind.i64.wrap ((j:Int)-1)=(j:Int)-1:=wrap_in (by omega) (by omega)
      rw[rev_take hn]
      repeat' first|simp only[fins,mems,results64,ntmps64,wks,e0,d1,hat,hjl,hji,Lm,vcs,seval,tys]|exact rfl|refine call_off (v:=.any) ?_|((first|apply Ca|apply Cb)<;>intro hb)|refine Ai (by omega) ?_|(apply Ai<;>intro hb)
      (refine loop_can2 cxG (fun i:Nat=>n.attrs.length-i) (fun i=>i≤n.attrs.length∧(n.attrs.take i).any (fun a=>declO a.name==some p)=false) (b0+16) (fun i=>[(0,.sl false 6 (path.map ndC)),(1,.str p),(6,.int .i64 j),(7,.int .i64 i)]) (fun i=>[]) (0) [] ?_ ?_ ?_ ?_;rotate_left 1;(focus (show b0≤_;omega));(focus (refine⟨?_,?_⟩<;>(try simp only[cans,plain_nd,e0,Lm,vcs,seval,tys,injs])<;>(try omega)));rotate_left 1)
      · exact⟨Nat.zero_le _,rfl⟩
      · rintro i ⟨hi,hno⟩
        by_cases hlt:i<n.attrs.length
        · obtain⟨a,ha⟩:∃ a,n.attrs[i]? = some a:=⟨_,List.getElem?_eq_getElem hlt⟩
          have haa:=at_at ha
          have hii:(i:Int)<(n.attrs.length:Int):=by omega
          have f1:decide ((i:Int)<(n.attrs.length:Int))=true:=decide_eq_true hii
          have f2:decide (i<n.attrs.length)=true:=decide_eq_true hlt
          have wi:IntKind.i64.wrap ((i:Int)+1)=((i+1:Nat):Int):=wrap_in (by omega) (by omega)
          have hde:=rDecl_ev a.name (hnl.2.2.2.2 a (List.mem_of_getElem? ha)).2.1
          obtain⟨r1,r2⟩:=refD_decl a.name
          by_cases hyes:declO a.name=some p
          · have q1:(refD a.name).2=true:=by rw[r1,hyes];rfl
            have q2:(refD a.name).1=p:=by have:=r2 q1;rw[hyes]at this;exact(Option.some.inj this).symm
            rw[q1,q2]at hde
            have hr:=decAt_here ha hno hyes
            simp only[declR,hr]
            have qp:(p==p)=true:=by simp
            (repeat' first|simp only[fins,mems,results64,ntmps64,wks,hat,haa,ndC,atC,hjl,hji,hlt,hii,f1,f2,qp,Lm,vcs,seval,tys]|exact rfl|refine call_off (v:=.any) ?_|(first|(refine call_fn ?_ (hde _) ?_)|(refine call_fn_g ?_ (fun _=>hde _) ?_))|((first|apply Ca|apply Cb)<;>intro hb)|refine Ai (by omega) ?_|(apply Ai<;>intro hb)|refine Fin.pure ?_ ?_ ?_|simp only[injs])
          · have hno':=any_snoc12 ha hno (show(declO a.name==some p)=false by simpa using hyes)
            have q1:(refD a.name).2=false∨((refD a.name).2=true∧((refD a.name).1==p)=false):=by
              cases h:(refD a.name).2 with
              | false=>exact .inl rfl
              | true =>
                refine .inr ⟨rfl,?_⟩
                have:=r2 h
                rw[beq_eq_false_iff_ne]
                exact fun e=>hyes (by rw[this,e])
            generalize (refD a.name).1=P1 at hde q1
            generalize (refD a.name).2=P2 at hde q1
            rcases q1 with q1|⟨q1,q2⟩
            · subst q1
              repeat' first|simp only[fins,mems,results64,ntmps64,wks,hat,haa,ndC,atC,hjl,hji,hlt,hii,f1,f2,wi,strip_gdf,Lm,vcs,seval,tys]|exact rfl|refine call_off (v:=.any) ?_|(first|(refine call_fn ?_ (hde _) ?_)|(refine call_fn_g ?_ (fun _=>hde _) ?_))|((first|apply Ca|apply Cb)<;>intro hb)|refine Ai (by omega) ?_|(apply Ai<;>intro hb)
              all_goals ((refine again_can2 cxG (i+1) [] ?_ ?_ ?_ ?_;rotate_left 2;(focus (show b0≤_;omega));(focus (refine⟨?_,?_⟩<;>(try simp only[cans,plain_nd,wi,Lm,vcs,seval,tys,injs])<;>(try omega)))))
              all_goals (first|(show n.attrs.length-(i+1)<n.attrs.length-i;omega)|exact⟨hlt,hno'⟩|skip)
            · subst q1
              repeat' first|simp only[fins,mems,results64,ntmps64,wks,hat,haa,ndC,atC,hjl,hji,hlt,hii,f1,f2,wi,q2,strip_gdf,Lm,vcs,seval,tys]|exact rfl|refine call_off (v:=.any) ?_|(first|(refine call_fn ?_ (hde _) ?_)|(refine call_fn_g ?_ (fun _=>hde _) ?_))|((first|apply Ca|apply Cb)<;>intro hb)|refine Ai (by omega) ?_|(apply Ai<;>intro hb)
              all_goals ((refine again_can2 cxG (i+1) [] ?_ ?_ ?_ ?_;rotate_left 2;(focus (show b0≤_;omega));(focus (refine⟨?_,?_⟩<;>(try simp only[cans,plain_nd,wi,Lm,vcs,seval,tys,injs])<;>(try omega)))))
              all_goals (first|(show n.attrs.length-(i+1)<n.attrs.length-i;omega)|exact⟨hlt,hno'⟩|skip)
        · have hie:i=n.attrs.length:=by omega
          subst hie
          have f1:decide ((n.attrs.length:Int)<(n.attrs.length:Int))=false:=decide_eq_false (by omega)
          have f2:decide (n.attrs.length<n.attrs.length)=false:=decide_eq_false (by omega)
          rw[List.take_length]at hno
          simp only[declR,decAt_none hno]at hinv ⊢
          repeat' first|simp only[fins,mems,results64,ntmps64,wks,hat,ndC,hjl,hji,f1,f2,w1,Lm,vcs,seval,tys]|exact rfl|refine call_off (v:=.any) ?_|((first|apply Ca|apply Cb)<;>intro hb)|refine Ai (by omega) ?_|(apply Ai<;>intro hb)
          all_goals ((refine again_can2 cxG (j) [] ?_ ?_ ?_ ?_;rotate_left 2;(focus (show b0≤_;omega));(focus (refine⟨?_,?_⟩<;>(try simp only[cans,plain_nd,w1,Lm,vcs,seval,tys,injs])<;>(try omega)))))
          all_goals (first|(show j<j+1;omega)|(exact⟨by omega,rfl⟩)|skip)
def KPath (path:List Nd)(K:KnT):Prop:=∀ p,declR path.reverse p=((getK p K).getD [],(getK p K).isSome)
theorem parts_split (s:List UInt8):(s.contains 58=false∧cut1 58 s=none∧splitU s=([],s)) ∨ ∃ a b,s.contains 58=true∧cut1 58 s=some (a,b)∧splitU s=(a,b):=by
 cases hc:cut1 58 s with
 | none=>exact .inl ⟨cont_colon (cut1_none.1 hc),rfl,split_none (cut1_none.1 hc)⟩
 | some p =>
  obtain⟨a,b⟩:=p
  obtain⟨e,hn⟩:=cut1_some hc
  refine .inr ⟨a,b,?_,rfl,by rw[e];exact split_of hn⟩
  rw[List.contains_iff_mem,e];simp
set_option maxRecDepth 100000 in
set_option maxHeartbeats 4000000 in
theorem rAttr_ev (path:List Nd)(K:KnT)(hK:KPath path K)(hp:path.length≤1000)(hok:∀ n∈path,n.okTo lim)(a:At)(ha:a.name.length≤lim)(nm:Nat):Ev cx 67 nm [.sl false 6 (path.map ndC),.agg (atC a)] Mem.nil (.tup [.agg (atC (resAt K a)),.bool (hasAt K a)]) []:=by
 have hpt:=rParts_ev a.name ha
 unfold partsV at hpt
 unfold resAt hasAt
 rcases parts_split a.name with ⟨h1,h2,h3⟩|⟨x,y,h1,h2,h3⟩
 ·rw[h2]at hpt
  rw[h1]
  simp only[Bool.false_eq_true,if_false,Bf,Bool.true_or]
  refine ev_go rfl (fun cargs w=>call67 cargs w) func67 rfl mixed (by kernel_rfl) rfl ?_;intro b0 hb0
  (repeat' first|simp only[fins,mems,results67,ntmps67,wks,atC,plain_nd,Bt,Bf,vcs,seval,tys]|exact rfl|refine call_off (v:=.any) ?_|(first|(refine call_fn ?_ (hpt _) ?_)|(refine call_fn_g ?_ (fun _=>hpt _) ?_))|((first|apply Ca|apply Cb)<;>intro hb)|refine Ai (by omega) ?_|(apply Ai<;>intro hb)|refine Fin.pure ?_ ?_ ?_|simp only[injs])
 ·rw[h2]at hpt
  rw[h1,h3]
  have hd:=rDeclared_ev path x hp hok
  rw[hK x]at hd
  simp only[if_true,Bt,Bool.false_or]at hd ⊢
  generalize (getK x K).getD []=S1 at hd ⊢
  generalize (getK x K).isSome=S2 at hd ⊢
  refine ev_go rfl (fun cargs w=>call67 cargs w) func67 rfl mixed (by kernel_rfl) rfl ?_;intro b0 hb0
  (repeat' first|simp only[fins,mems,results67,ntmps67,wks,atC,plain_nd,Bt,Bf,vcs,seval,tys]|exact rfl|refine call_off (v:=.any) ?_|(first|(refine call_fn ?_ (hpt _) ?_)|(refine call_fn_g ?_ (fun _=>hpt _) ?_)|(refine call_fn ?_ (hd _) ?_)|(refine call_fn_g ?_ (fun _=>hd _) ?_))|((first|apply Ca|apply Cb)<;>intro hb)|refine Ai (by omega) ?_|(apply Ai<;>intro hb)|refine Fin.pure ?_ ?_ ?_|simp only[injs])
theorem mid_bool (a b c:Bool):((a&&c)&&b)=((a&&b)&&c):=by cases a<;>cases b<;>cases c<;>rfl
set_option maxRecDepth 100000 in
set_option maxHeartbeats 32000000 in
theorem node_own (pre:List Nd)(n:Nd)(K0:KnT)(hK:KPath (pre++[n]) (knL K0 true n.attrs).1)(hp:pre.length≤900)(hok:∀ x∈pre++[n],x.okTo lim)(ha:n.attrs.length≤900)(nm:Nat) :
    Ev cx 47 nm [.sl false 6 ((pre++[n]).map ndC)] Mem.nil (.tup [.agg [.int .u8 1,.str (namU (knL K0 true n.attrs).1 n).1.space,.str (namU (knL K0 true n.attrs).1 n).1.name,.own nm 0 (namU (knL K0 true n.attrs).1 n).1.attrs.length,.str [],.int .i64 n.many],.bool ((knL K0 true n.attrs).2&&(namU (knL K0 true n.attrs).1 n).2)]) [(nm,some ⟨3,(namU (knL K0 true n.attrs).1 n).1.attrs.map atC⟩)]:=by
  have hno:=hok n (by simp)
  have hpt:=rParts_ev n.name hno.2.2.1
  unfold partsV at hpt
  have hlen:(pre++[n]).length=pre.length+1:=by simp
  have hat0:((pre++[n]).map ndC)[pre.length]? = some (ndC n):=by rw[List.getElem?_map];simp
  have w0:IntKind.i64.wrap (((pre++[n]).length:Int)-1)=(pre.length:Int):=by rw[wrap_in (by omega) (by omega)];omega
  have hpl:pre.length<(pre++[n]).length:=by omega
  have hpi:(pre.length:Int)<((pre++[n]).length:Int):=by omega
  obtain⟨K,hKe⟩:∃ K,K=(knL K0 true n.attrs).1:=⟨_,rfl⟩
  rw[← hKe]at hK ⊢
  have hde:=fun p=>rDeclared_ev (pre++[n]) p (by omega) hok
  have hat:=fun a h nm=>rAttr_ev (pre++[n]) K hK (by omega) hok a h nm
  obtain⟨P,hP⟩:∃ P,P=splitU n.name:=⟨_,rfl⟩
  have hd1:=hde P.1
  rw[hK P.1]at hd1
  unfold namU
  rw[← hP]
  simp only
  generalize hpath:pre++[n]=path at *
  have hpt2:∀ nm,∃ b,Ev cx 63 nm [.str n.name] Mem.nil (.tup [.str P.1,.str P.2,.bool b]) []:=by
    intro nm
    rcases parts_split n.name with ⟨h1,h2,h3⟩|⟨x,y,h1,h2,h3⟩
    · rw[h2]at hpt;rw[hP,h3];exact⟨false,hpt nm⟩
    · rw[h2]at hpt;rw[hP,h3];exact⟨true,hpt nm⟩
  obtain⟨pb,hpt3⟩:∃ b,∀ nm,Ev cx 63 nm [.str n.name] Mem.nil (.tup [.str P.1,.str P.2,.bool b]) []:=by
    rcases parts_split n.name with ⟨h1,h2,h3⟩|⟨x,y,h1,h2,h3⟩
    · rw[h2]at hpt;rw[hP,h3];exact⟨false,hpt⟩
    · rw[h2]at hpt;rw[hP,h3];exact⟨true,hpt⟩
  clear hpt hpt2
  generalize hS1:(getK P.1 K).getD []=S1 at hd1 ⊢
  generalize hR0:(getK P.1 K).isSome=r0 at hd1 ⊢
  have hz0:(nmL K r0 [])=([],r0):=rfl
  have hz1:(knL K0 true [])=(K0,true):=rfl
  refine ev_go rfl (fun cargs w=>call47 cargs w) func47 rfl mixed (by kernel_rfl) rfl ?_;intro b0 hb0
  repeat' first|simp only[fins,mems,results47,ntmps47,wks,w0,hat0,hpl,hpi,ndC,plain_nd,plain_at,Lm,vcs,seval,tys]|exact rfl|refine call_off (v:=.any) ?_|(first|(refine call_fn ?_ (hpt3 _) ?_)|(refine call_fn_g ?_ (fun _=>hpt3 _) ?_)|(refine call_fn ?_ (hd1 _) ?_)|(refine call_fn_g ?_ (fun _=>hd1 _) ?_))|refine draw_end (by decide +kernel) ?_|((first|apply Ca|apply Cb)<;>intro hb)|refine Ai (by omega) ?_|(apply Ai<;>intro hb)
  (refine loop_can2 cxG (fun x:Nat=>n.attrs.length-x) (fun x=>x≤n.attrs.length) (b0+16) (fun x=>[(0,.sl false 6 (path.map ndC)),(2,.ptr b0 0 0),(4,.ptr (b0+1) 0 0),(9,.bool ((knL K0 true (n.attrs.take x)).2&&(nmL K r0 (n.attrs.take x)).2)),(10,.ptr (b0+2) 0 0),(11,.int .i64 x)]) (fun x=>[(b0,⟨6,[[.int .u8 0,.str [],.str [],.nils,.str [],.int .i64 0]]⟩),(b0+1,⟨6,[ndC n]⟩),(b0+2,⟨6,[[.int .u8 1,.str S1,.str P.2,.own (b0+3) 0 (nmL K r0 (n.attrs.take x)).1.length,.str [],.int .i64 n.many]]⟩),(b0+3,⟨3,(nmL K r0 (n.attrs.take x)).1.map atC⟩)]) (0) [some b0,some (b0+128),some (b0+528),none] ?_ ?_ ?_ ?_;rotate_left 1;(focus (show b0≤_;omega));(focus (refine⟨?_,?_⟩<;>(try simp only[cans,hz0,hz1,ndC,atC,plain_nd,plain_at,ren_map,renOk_map,isRow_inst,leLL_same,leLL_cons,leL_cons,leL_nil,le_nils_sl,leLL,Bool.true_and,List.take_zero,Lo,List.length_nil,Lm,vcs,seval,tys,injs])<;>(try omega)));rotate_left 1)
  · exact Nat.zero_le _
  · intro k hk
    by_cases hlt:k<n.attrs.length
    · obtain ⟨a,haa⟩:∃ a,n.attrs[k]? = some a:=⟨_,List.getElem?_eq_getElem hlt⟩
      have hata:=at_at haa
      have hao:=hno.2.2.2.2 a (List.mem_of_getElem? haa)
      have d1:decide ((k:Int)<(n.attrs.length:Int))=true:=decide_eq_true (by omega)
      have d2:decide (k<n.attrs.length)=true:=decide_eq_true hlt
      have hki:(k:Int)<(n.attrs.length:Int):=by omega
      have hwk:IntKind.i64.wrap ((k:Int)+1)=((k+1:Nat):Int):=wrap_in (by omega) (by omega)
      have hlen2:(nmL K r0 (n.attrs.take k)).1.length≤900:=by
        have:=nmL_len K (n.attrs.take k) ([],r0)
        unfold nmL;simp only[List.length_nil,List.length_take]at this;omega
      have hst:=nmL_take (K:=K) (r:=r0) haa
      have hsk:=knL_take (K:=K0) (r:=true) haa
      have hdc:=rDecl_ev a.name hao.2.1
      obtain⟨e1,e2⟩:=refD_decl a.name
      have hra:=hat a hao.2.1
      generalize hA:nmL K r0 (n.attrs.take k)=acc at hst hlen2
      obtain⟨acc,rk⟩:=acc
      generalize hB:knL K0 true (n.attrs.take k)=kn at hsk
      obtain⟨kk,bk⟩:=kn
      dsimp only at hlen2
      have htk:(acc.map atC).take acc.length=acc.map atC:=take_map_len _ _
      unfold nmF at hst
      unfold knF at hsk
      cases hd:declO a.name with
      | some p =>
        rw[hd]at hst hsk e1
        have q2:(refD a.name).1=p:=by have:=e2 e1;rw[hd]at this;exact(Option.some.inj this).symm
        have q1:(refD a.name).2=true:=e1
        rw[q1,q2]at hdc
        simp only at hst hsk
        have hri:=rRight_ev p a.value
        generalize mayU p a.value=m at hsk hri
        have hmb:=mid_bool bk rk m
        cases hbr:(bk&&rk) with
        | false =>
          rw[hbr,Bool.false_and]at hmb
          repeat' first|simp only[fins,mems,results47,ntmps47,wks,hata,atC,ndC,hlt,hki,d1,d2,hA,hB,hbr,htk,strip_gdf,Bt,Bf,plain_nd,plain_at,Lm,vcs,seval,tys]|exact rfl|refine call_off (v:=.any) ?_|(first|(refine call_fn ?_ (hdc _) ?_)|(refine call_fn_g ?_ (fun _=>hdc _) ?_)|(refine call_fn ?_ (hri _) ?_)|(refine call_fn_g ?_ (fun _=>hri _) ?_))|(refine call_off (v:=.any) ?_)|refine draw_end (by decide +kernel) ?_|((first|apply Ca|apply Cb)<;>intro hb)|refine Ai (by omega) ?_|(apply Ai<;>intro hb)
          all_goals ((refine again_can2 cxG (k+1) [some b0,some (b0+1),some (b0+2),some (b0+3)] ?_ ?_ ?_ ?_;rotate_left 2;(focus (show b0≤_;omega));(focus (refine⟨?_,?_⟩<;>(try simp only[cans,hst,hsk,hA,hB,hmb,hwk,ndC,plain_nd,plain_at,ren_map,renOk_map,leLL_same,isRow_inst,Bool.false_and,Lm,vcs,seval,tys,injs])<;>(try omega)))))
          all_goals (first|(show n.attrs.length-(k+1)<n.attrs.length-k;omega)|exact hlt|skip)
        | true =>
          rw[hbr,Bool.true_and]at hmb
          repeat' first|simp only[fins,mems,results47,ntmps47,wks,hata,atC,ndC,hlt,hki,d1,d2,hA,hB,hbr,htk,strip_gdf,Bt,Bf,plain_nd,plain_at,Lm,vcs,seval,tys]|exact rfl|refine call_off (v:=.any) ?_|(first|(refine call_fn ?_ (hdc _) ?_)|(refine call_fn_g ?_ (fun _=>hdc _) ?_)|(refine call_fn ?_ (hri _) ?_)|(refine call_fn_g ?_ (fun _=>hri _) ?_))|refine draw_end (by decide +kernel) ?_|((first|apply Ca|apply Cb)<;>intro hb)|refine Ai (by omega) ?_|(apply Ai<;>intro hb)
          all_goals ((refine again_can2 cxG (k+1) [some b0,some (b0+1),some (b0+2),some (b0+3)] ?_ ?_ ?_ ?_;rotate_left 2;(focus (show b0≤_;omega));(focus (refine⟨?_,?_⟩<;>(try simp only[cans,hst,hsk,hA,hB,hmb,hwk,ndC,plain_nd,plain_at,ren_map,renOk_map,leLL_same,isRow_inst,Bool.true_and,Lm,vcs,seval,tys,injs])<;>(try omega)))))
          all_goals (first|(show n.attrs.length-(k+1)<n.attrs.length-k;omega)|exact hlt|skip)
      | none =>
        rw[hd]at hst hsk e1
        have q1:(refD a.name).2=false:=e1
        rw[q1]at hdc
        simp only at hst hsk
        generalize (refD a.name).1=P9 at hdc
        have hsn:=at_snoc acc (resAt K a)
        generalize hX:resAt K a=x at hst hra hsn
        generalize hasAt K a=tl at hst hra
        generalize hBT:(bk&&rk)=BT
        repeat' first|simp only[fins,mems,results47,ntmps47,wks,hata,atC,ndC,hlt,hki,d1,d2,hA,hB,hBT,htk,strip_gdf,Bt,Bf,plain_nd,plain_at,Lm,vcs,seval,tys]|exact rfl|refine call_off (v:=.any) ?_|(first|(refine call_fn ?_ (hdc _) ?_)|(refine call_fn_g ?_ (fun _=>hdc _) ?_)|(refine call_fn ?_ (hra _) ?_)|(refine call_fn_g ?_ (fun _=>hra _) ?_))|refine draw_end (by decide +kernel) ?_|((first|apply Ca|apply Cb)<;>intro hb)|refine Ai (by omega) ?_|(apply Ai<;>intro hb)
        (refine loop_can2 cxG (fun y:Nat=>acc.length-y) (fun y=>y≤acc.length) (b0+16) (fun y=>[(0,.sl false 6 (path.map ndC)),(2,.ptr b0 0 0),(4,.ptr (b0+1) 0 0),(9,.bool ((BT&&tl) && !((acc.take y).any fun b=>twinAt b x))),(10,.ptr (b0+2) 0 0),(11,.int .i64 k),(14,.ptr (b0+4) 0 0),(16,.int .i64 y)]) (fun y=>[(b0,⟨6,[[.int .u8 0,.str [],.str [],.nils,.str [],.int .i64 0]]⟩),(b0+1,⟨6,[ndC n]⟩),(b0+2,⟨6,[[.int .u8 1,.str S1,.str P.2,.own (b0+3) 0 acc.length,.str [],.int .i64 n.many]]⟩),(b0+3,⟨3,acc.map atC⟩),(b0+4,⟨3,[[.str x.space,.str x.name,.str x.value]]⟩)]) (0) [some b0,some (b0+1),some (b0+2),some (b0+3),some (b0+464)] ?_ ?_ ?_ ?_;rotate_left 1;(focus (show b0≤_;omega));(focus (refine⟨?_,?_⟩<;>(try simp only[cans,hA,hB,hBT,ndC,atC,plain_nd,plain_at,ren_map,renOk_map,isRow_inst,leLL_same,leLL_cons,leL_cons,leL_nil,leLL,Bf,Bool.and_true,List.any_nil,List.take_zero,Lo,List.length_nil,Lm,vcs,seval,tys,injs])<;>(try omega)));rotate_left 1)
        · exact Nat.zero_le _
        · intro y hy
          by_cases hyl:y<acc.length
          · obtain⟨b,hb⟩:∃ b,acc[y]? = some b:=⟨_,List.getElem?_eq_getElem hyl⟩
            have hbt:=at_at hb
            have f1:decide ((y:Int)<(acc.length:Int))=true:=decide_eq_true (by omega)
            have f2:decide (y<acc.length)=true:=decide_eq_true hyl
            have hyi:(y:Int)<(acc.length:Int):=by omega
            have wy:IntKind.i64.wrap ((y:Int)+1)=((y+1:Nat):Int):=wrap_in (by omega) (by omega)
            have hts:(acc.take (y+1)).any (fun b=>twinAt b x)=((acc.take y).any (fun b=>twinAt b x)||twinAt b x):=by
              obtain⟨hk2,he2⟩:=List.getElem?_eq_some_iff.1 hb
              rw[List.take_succ_eq_append_getElem hk2,he2,List.any_append];simp
            generalize (acc.take y).any (fun b=>twinAt b x)=A0 at hts
            have htw:twinAt b x=((b.space==x.space)&&(b.name==x.name)):=rfl
            rw[htw]at hts
            cases c1:(b.space==x.space)<;>cases c2:(b.name==x.name)<;>cases c0:((BT&&tl) && !A0)
            all_goals (rw[c1,c2]at hts;simp only[Bool.and_self,Bool.and_false,Bool.false_and,Bool.or_false,Bool.or_true]at hts)
            all_goals (repeat' first|simp only[fins,mems,results47,ntmps47,wks,hbt,atC,ndC,hyl,hyi,f1,f2,c0,c1,c2,htk,strip_gdf,Bt,Bf,Bool.and_self,Bool.and_false,Bool.false_and,plain_nd,plain_at,Lm,vcs,seval,tys]|exact rfl|refine call_off (v:=.any) ?_|refine draw_end (by decide +kernel) ?_|((first|apply Ca|apply Cb)<;>intro hb)|refine Ai (by omega) ?_|(apply Ai<;>intro hb))
            all_goals ((refine again_can2 cxG (y+1) [some b0,some (b0+1),some (b0+2),some (b0+3),some (b0+4)] ?_ ?_ ?_ ?_;rotate_left 2;(focus (show b0≤_;omega));(focus (refine⟨?_,?_⟩<;>(try simp only[cans,hts,c0,wy,ndC,plain_nd,plain_at,ren_map,renOk_map,leLL_same,isRow_inst,Bt,Bool.and_false,Lm,vcs,seval,tys,injs])<;>(try omega)))))
            all_goals (first|(show acc.length-(y+1)<acc.length-y;omega)|exact hyl|skip)
          · have hye:y=acc.length:=by omega
            subst hye
            have f1:decide ((acc.length:Int)<(acc.length:Int))=false:=decide_eq_false (by omega)
            have f2:decide (acc.length<acc.length)=false:=decide_eq_false (by omega)
            rw[List.take_length]
            have hfin:(bk&&((rk&&tl) && !(acc.any fun b=>twinAt b x)))=((BT&&tl) && !(acc.any fun b=>twinAt b x)):=by rw[← hBT];cases bk<;>cases rk<;>rfl
            generalize (acc.any fun b=>twinAt b x)=TW at hst hfin ⊢
            repeat' first|simp only[fins,mems,results47,ntmps47,wks,f1,f2,htk,hsn,atC,ndC,plain_nd,plain_at,Lm,vcs,seval,tys]|exact rfl|refine call_off (v:=.any) ?_|refine draw_end (by decide +kernel) ?_|((first|apply Ca|apply Cb)<;>intro hb)|refine Ai (by omega) ?_|(apply Ai<;>intro hb)
            all_goals ((refine again_can2 cxG (k+1) [some b0,some (b0+1),some (b0+2),some (b0+160)] ?_ ?_ ?_ ?_;rotate_left 2;(focus (show b0≤_;omega));(focus (refine⟨?_,?_⟩<;>(try simp only[cans,hst,hsk,hA,hB,hfin,hsn,hwk,ndC,plain_nd,plain_at,ren_map,renOk_map,leLL_same,isRow_inst,List.length_append,List.length_cons,List.length_nil,Lm,vcs,seval,tys,injs])<;>(try omega)))))
            all_goals (first|(show n.attrs.length-(k+1)<n.attrs.length-k;omega)|exact hlt|skip)
    · have hke:k=n.attrs.length:=by omega
      subst hke
      have d1:decide ((n.attrs.length:Int)<(n.attrs.length:Int))=false:=decide_eq_false (by omega)
      have d2:decide (n.attrs.length<n.attrs.length)=false:=decide_eq_false (by omega)
      have htk:=tak_at (nmL K r0 n.attrs).1
      repeat' first|simp only[fins,mems,results47,ntmps47,wks,d1,d2,htk,ndC,List.take_length,plain_nd,plain_at,Lm,vcs,seval,tys]|exact rfl|refine call_off (v:=.any) ?_|refine draw_end (by decide +kernel) ?_|((first|apply Ca|apply Cb)<;>intro hb)|refine Ai (by omega) ?_|(apply Ai<;>intro hb)
      all_goals ((refine Fin.give [(b0+3,some 0)] [] ?_ ?_ ?_ ?_ ?_ (fun q hq=>by have hqq:=nil_mem q hq;first|(simp only[gives,tgt,Lc,Lo,Lk,Ln,or_false]at hqq ⊢;omega)|(simp only[gives,tgt,Lc,Lo,Lk,Ln,or_false]at hqq))<;>(try simp only[results47,ntmps47,wks,ren_map,renOk_map,plain_at,plain_nd,Lm,giv,vcs,seval,tys])<;>(try simp only[injs])<;>(try omega)))
theorem decl_name {s p:List UInt8}(hf:fullL s=true)(h:declO s=some p):s=if p=[] then [120,109,108,110,115] else [120,109,108,110,115,58]++p:=by
 unfold declO at h
 split at h
 ·rename_i h1
  cases h
  rw[if_pos rfl];exact eq_of_beq h1
 ·split at h
  ·rename_i h2
   cases h
   have hs:s=[120,109,108,110,115,58]++s.drop 6:=by
    unfold preB at h2
    simp only[Bool.and_eq_true,decide_eq_true_eq,beq_iff_eq,List.length_cons,List.length_nil]at h2
    have:=List.take_append_drop 6 s
    rw[h2.2]at this
    exact this.symm
   by_cases hd:s.drop 6=[]
   ·rw[hd]at hs
    rw[hs]at hf
    exact absurd hf (by decide)
   ·rw[if_neg hd];exact hs
  ·cases h
theorem decAt_cons (a:At)(l:List At)(p:List UInt8):decAt (a::l) p=if declO a.name=some p then some a.value else decAt l p:=by
 unfold decAt
 by_cases h:declO a.name=some p
 ·rw[if_pos h,List.find?_cons_of_pos (by simp[h])];rfl
 ·rw[if_neg h,List.find?_cons_of_neg (by simpa using h)]
theorem knL_get:∀ {l:List At} {K:KnT} {r:Bool} (p:List UInt8),l.Pairwise (fun b a=>b.name≠a.name)→(∀ a∈l,fullL a.name=true)→getK p (knL K r l).1=match decAt l p with|some v=>some v|none=>getK p K
  | [],K,r,p,_,_=>rfl
  | a::l,K,r,p,hu,hf=>by
    have hc:=List.pairwise_cons.1 hu
    have ih:=knL_get (l:=l) (K:=(knF (K,r) a).1) (r:=(knF (K,r) a).2) p hc.2 (fun x hx=>hf x (List.mem_cons_of_mem _ hx))
    have hs:knL K r (a::l)=knL (knF (K,r) a).1 (knF (K,r) a).2 l:=rfl
    rw[hs,ih,decAt_cons]
    by_cases hd:declO a.name=some p
    · have hno:decAt l p=none:=by
        refine decAt_none (List.any_eq_false.2 fun x hx hxd=>?_)
        have hxd:declO x.name=some p:=by simpa using hxd
        have e1:=decl_name (hf a List.mem_cons_self) hd
        have e2:=decl_name (hf x (List.mem_cons_of_mem _ hx)) hxd
        exact hc.1 x hx (e1.trans e2.symm)
      rw[hno,if_pos hd]
      unfold knF
      rw[hd]
      simp only
      rw[get_put,if_pos rfl]
    · rw [if_neg hd]
      cases hda:decAt l p with
      | some v=>rfl
      | none =>
        unfold knF
        cases hda2:declO a.name with
        | none=>rfl
        | some q =>
          simp only
          rw[get_put,if_neg]
          intro e;subst e;exact hd hda2
theorem kpath_zero:KPath [] knZ:=by
 intro p
 show(if (p==[120,109,108])=true then (xmlU,true) else ([],p==[]))=_
 unfold knZ
 simp only[getK]
 by_cases h1:p=[]
 ·subst h1;rfl
 ·have c1:(p==[])=false:=by simpa using h1
  rw[c1]
  by_cases h2:p=[120,109,108]
  ·subst h2;rfl
  ·have c2:(p==[120,109,108])=false:=by simpa using h2
   simp only[c2,Bool.false_eq_true,if_false];rfl
theorem kpath_snoc {path:List Nd}{K:KnT}{n:Nd}(h:KPath path K)(hu:n.attrs.Pairwise (fun b a=>b.name≠a.name))(hf:∀ a∈n.attrs,fullL a.name=true):KPath (path++[n]) (knL K true n.attrs).1:=by
 intro p
 rw[List.reverse_append,List.reverse_singleton,List.singleton_append]
 simp only[declR,knL_get (K:=K) (r:=true) p hu hf]
 cases hd:decAt n.attrs p with
 | some v=>rfl
 | none=>exact h p
theorem Fo.res_app:∀(F G:Fo) (K:KnT),((F.app G).res K).1=(F.res K).1++(G.res K).1∧((F.app G).res K).2=((F.res K).2&&(G.res K).2)
 | .nil,G,K=>by simp[Fo.app,Fo.res]
 | .cons n k r,G,K=>by
  obtain⟨h1,h2⟩:=Fo.res_app r G K
  simp only[Fo.app,Fo.res]
  split
  ·simp[h1,h2]
  ·simp[h1,h2,Bool.and_assoc]
theorem attrs_uniq {n:Nd}(h:mayN n=true)(hk:n.kind=1)(hs:n.attrs.any (fun a=>!a.space.isEmpty)=false):n.attrs.Pairwise (fun b a=>b.name≠a.name) ∧ ∀ a∈n.attrs,fullL a.name=true:=by
 obtain⟨_,h2,h3⟩:=ats_pw.1 (mayN_elem h hk).2.2.2
 refine⟨?_,fun a ha=>(h3 a ha).1⟩
 have hsp:∀ a∈n.attrs,a.space=[]:=fun a ha=>by
  have:=List.any_eq_false.1 hs a ha
  simpa using this
 exact(List.Pairwise.and_mem.1 h2).imp fun ⟨m1,m2,h⟩ e=>h ⟨by rw[hsp _ m1,hsp _ m2],e.symm⟩
theorem node_fz (pre:List Nd)(n:Nd)(K0:KnT)(hK:KPath (pre++[n]) (knL K0 true n.attrs).1)(hp:pre.length≤900)(hok:∀ x∈pre++[n],x.okTo lim)(ha:n.attrs.length≤900)(hk:n.kind=1)(nm:Nat) :
  Ev cx 47 nm [.sl false 6 ((pre++[n]).map ndC)] Mem.nil (.tup [.agg (ndC (namU (knL K0 true n.attrs).1 n).1),.bool ((knL K0 true n.attrs).2&&(namU (knL K0 true n.attrs).1 n).2)]) []:=by
 have h:=node_own pre n K0 hK hp hok ha nm
 have hn:ndC (namU (knL K0 true n.attrs).1 n).1=[.int .u8 1,.str (namU (knL K0 true n.attrs).1 n).1.space,.str (namU (knL K0 true n.attrs).1 n).1.name,.sl false 3 ((namU (knL K0 true n.attrs).1 n).1.attrs.map atC),.str [],.int .i64 n.many]:=by
  have:(namU (knL K0 true n.attrs).1 n).1.kind=1:=hk
  unfold ndC;rw[this];rfl
 rw[hn]
 generalize (namU (knL K0 true n.attrs).1 n).1=X at h ⊢
 have hpl:=plain_at X.attrs
 have htk:=tak_at X.attrs
 refine Ev.freeze h ?_ ?_
 ·simp only[fins,mems,wks,hpl,htk,Lm,vcs,seval,tys]<;>omega
 ·simp only[fins,mems,wks,hpl,htk,Lm,vcs,seval,tys]
def WkOk (v:List Nd)(n:Nd)(k:Fo):Prop:=∀(p:Nat) (rest path:List Nd) (K0:KnT),v.drop p=n::(k.flat++rest)→KPath path K0→path.length+k.size≤800→(∀ x∈path,x.okTo lim) →
 ∀ nm,Ev cx 24 nm [.sl false 6 (v.map ndC),.int .i64 p,.sl false 6 (path.map ndC)] Mem.nil (.tup [.sl false 6 (((Fo.cons n k .nil).res K0).1.map ndC),.bool ((Fo.cons n k .nil).res K0).2]) []
theorem Ev.rowsB_fz {f:FuncId}{nm:Nat}{args:List V}{z:Nat}{T:List (List V)}{b:Bool}(h:Ev cx f nm args Mem.nil (.tup [.own nm 0 T.length,.bool b]) [(nm,some ⟨z,T⟩)])(hpl:plainLL T=true):Ev cx f nm args Mem.nil (.tup [.sl false z T,.bool b]) []:=by
 have htk:T.take T.length=T:=List.take_length
 refine Ev.freeze h ?_ ?_
 ·simp only[fins,mems,wks,hpl,htk,vcs,seval,tys]<;>omega
 ·simp only[fins,mems,wks,hpl,htk,vcs,seval,tys]
set_option maxRecDepth 100000 in
set_option maxHeartbeats 8000000 in
theorem walk_text (v:List Nd)(n:Nd)(hk:n.kind=2):WkOk v n .nil:=by
 intro p rest path K0 hd hK hl hok nm
 obtain⟨hx,hpl,hd1⟩:=at_drop hd
 have hat:=nd_at hx
 have hpi:(p:Int)<(v.length:Int):=by omega
 have k1:((n.kind:Int)==2)=true:=by rw[hk];rfl
 have hr:(Fo.cons n .nil .nil).res K0=([n],true):=by simp[Fo.res,hk]
 rw[hr]
 refine Ev.rowsB_fz ?_ (plain_nd _)
 show Ev cx _ nm _ Mem.nil (.tup [.own nm 0 1,.bool true]) [(nm,some ⟨6,[ndC n]⟩)]
 simp only[ndC]
 refine ev_go rfl (fun cargs w=>call24 cargs w) func24 rfl mixed (by kernel_rfl) rfl ?_;intro b0 hb0
 ((repeat' first|simp only[fins,mems,results24,ntmps24,wks,hat,ndC,hpl,hpi,k1,plain_nd,plain_at,plainL,V.plain,Bool.and_self,Lm,vcs,seval,tys]|exact rfl|refine call_off (v:=.any) ?_|refine draw_end' (ps:=[(0,5),(2,5),(0,6),(2,6),(0,7),(2,7)]) (by decide +kernel) (by simp only[List.forall_mem_cons,List.getD_cons_zero,List.getD_cons_succ,results24,ntmps24,wks,hat,ndC,hpl,hpi,k1,plain_nd,plain_at,plainL,V.plain,Bool.and_self,Lm,vcs,seval,tys]<;>(try simp)<;>(try omega)) ?_|refine draw_end (by decide +kernel) ?_|((first|apply Ca|apply Cb)<;>intro hb)|refine Ai (by omega) ?_|(apply Ai<;>intro hb));(all_goals (first|(refine Fin.auto (r:=?_) (l:=?_) ?_ ?_ ?_ ?_ ?_ ?_ ?_;rotate_left 1;(simp only[results24,ntmps24,envL_cons,envL_nil,memL_cons,memL_nil,hat,ndC,hpl,hpi,k1,plain_nd,plain_at,plainL,V.plain,Bool.and_self,Lm,vcs,seval,tys]);(exact rfl);rotate_left 1;(simp only[V.owns,ownsL,List.cons_append,List.nil_append]);(exact rfl);all_goals (try simp only[results24,ntmps24,envL_cons,envL_nil,memL_cons,memL_nil,hat,ndC,hpl,hpi,k1,plain_nd,plain_at,plainL,V.plain,Bool.and_self,Lm,ownx,vcs,seval,tys]);all_goals (try simp only[injs]))|skip)))
set_option maxRecDepth 100000 in
set_option maxHeartbeats 16000000 in
theorem walk_elem (v:List Nd)(hv:v.length≤1000)(hokv:∀ n∈v,n.okTo lim)(hsv:spacedL v=false)(n:Nd)(k:Fo)(hk:n.kind=1)(d:Nat)(hd12:d≤12)(hg:(Fo.cons n k .nil).good d 0=true)(ih:AllF (WkOk v) k):WkOk v n k:=by
 intro p rest path K0 hd hK hl hok nm
 obtain⟨hx,hpl,hd1⟩:=at_drop hd
 have hat:=nd_at hx
 have hpi:(p:Int)<(v.length:Int):=by omega
 obtain⟨g1,g2,g3,g4,g5,g6⟩:=Fo.good_cons.1 hg
 have hkl:=flat_len hd1
 have hkc:=count_le_size k
 have k1:((n.kind:Int)==2)=false:=by rw[hk];rfl
 have k2:¬ n.kind=2:=by omega
 have hnv:=List.mem_of_getElem? hx
 have ha16:=(mayN_attrs g1).1
 have hsn:n.attrs.any (fun a=>!a.space.isEmpty)=false:=by
  unfold spacedL at hsv
  have:=List.any_eq_false.1 hsv n hnv
  unfold spacedN at this
  simp only[Bool.not_eq_true,Bool.or_eq_false_iff]at this
  exact this.2
 obtain⟨u1,u2⟩:=attrs_uniq g1 hk hsn
 have hK2:=kpath_snoc hK u1 u2
 have hok2:∀ x∈path++[n],x.okTo lim:=fun x hx2=>by
  rcases List.mem_append.1 hx2 with h|h
  ·exact hok x h
  ·rw[List.mem_singleton.1 h];exact hokv n hnv
 have hno:=node_fz path n K0 hK2 (by omega) hok2 (by omega) hk
 have hun:=rUnder_fz v hv hokv hd hg hd12
 have hTl:=Fo.tops_length k (p+1)
 generalize hTd:k.tops (p+1)=T at hun hTl
 have hres:(Fo.cons n k .nil).res K0=((namU (knL K0 true n.attrs).1 n).1::(k.res (knL K0 true n.attrs).1).1,((knL K0 true n.attrs).2&&(namU (knL K0 true n.attrs).1 n).2)&&(k.res (knL K0 true n.attrs).1).2):=by
  simp[Fo.res,k2]
 rw[hres]
 clear hres
 generalize (knL K0 true n.attrs).1=K at hK2 hno ⊢
 generalize (namU K n).1=X at hno ⊢
 generalize ((knL K0 true n.attrs).2&&(namU K n).2)=B at hno ⊢
 have hdn:path.map ndC++[ndC n]=(path++[n]).map ndC:=by simp
 have hlen:(path++[n]).length=path.length+1:=by simp
 simp only[ndC]at hdn
 have hr1:(k.res K).1.length≤1000:=by
  have:=Fo.rsv_flat k K
  rw[← this,Fo.flat_length]
  have:=Fo.rsv_size k K
  omega
 refine Ev.rowsB_fz ?_ (plain_nd _)
 rw[Lm]
 obtain⟨Z,hZ⟩:∃ Z,Z=(X::(k.res K).1).map ndC:=⟨_,rfl⟩
 obtain⟨N,hN⟩:∃ N,N=(X::(k.res K).1).length:=⟨_,rfl⟩
 obtain⟨RB,hRB⟩:∃ RB,RB=(B&&(k.res K).2):=⟨_,rfl⟩
 rw[← hZ,← hN,← hRB]
 have htk0:((path++[n]).map ndC).take (path.length+1)=(path++[n]).map ndC:=List.take_of_length_le (by rw[Lm];omega)
 have hX1:[(.int .u8 X.kind),(.str X.space),(.str X.name),(.sl false 3 (X.attrs.map atC)),(.str X.text),(.int .i64 X.many)]=ndC X:=rfl
 have hpX:plainL (ndC X)=true:=by simp[ndC,plainL,V.plain,plain_at]
 refine ev_goW rfl (fun cargs w=>call24 cargs w) func24 rfl mixed (by kernel_rfl) rfl ?_;intro b0 hb0
 repeat' first|simp only[fins,mems,results24,ntmps24,wks,vcs,seval,tys]|exact rfl|refine call_off (v:=.any) ?_|refine draw_end' (ps:=[(0,5),(2,5),(0,6),(2,6),(0,7),(2,7)]) (by decide +kernel) (by simp only[List.forall_mem_cons,List.getD_cons_zero,List.getD_cons_succ,results24,ntmps24,wks,vcs,seval,tys]<;>(try simp)<;>(try omega)) ?_|refine draw_end (by decide +kernel) ?_|((first|apply Ca|apply Cb)<;>intro hb)|refine Ai (by omega) ?_|(apply Ai<;>intro hb)
 refine mid_skip ?_
 repeat' first|simp only[fins,mems,results24,ntmps24,wks,hat,ndC,hpl,hpi,k1,plain_nd,plain_at,Lm,vcs,seval,tys]|exact rfl|refine call_off (v:=.any) ?_|refine draw_end' (ps:=[(0,5),(2,5),(0,6),(2,6),(0,7),(2,7)]) (by decide +kernel) (by simp only[List.forall_mem_cons,List.getD_cons_zero,List.getD_cons_succ,results24,ntmps24,wks,hat,ndC,hpl,hpi,k1,plain_nd,plain_at,Lm,vcs,seval,tys]<;>(try simp)<;>(try omega)) ?_|refine draw_end (by decide +kernel) ?_|((first|apply Ca|apply Cb)<;>intro hb)|refine Ai (by omega) ?_|(apply Ai<;>intro hb)
 refine mid_skip ?_
 repeat' first|simp only[fins,mems,results24,ntmps24,wks,hat,ndC,hpl,hpi,k1,hdn,hlen,one_ndL,plain_nd,plain_at,List.nil_append,List.length_nil,Nat.zero_add,Lm,vcs,seval,tys]|exact rfl|refine call_off (v:=.any) ?_|refine draw_end' (ps:=[(0,5),(2,5),(0,6),(2,6),(0,7),(2,7)]) (by decide +kernel) (by simp only[List.forall_mem_cons,List.getD_cons_zero,List.getD_cons_succ,results24,ntmps24,wks,hat,ndC,hpl,hpi,k1,hdn,hlen,one_ndL,plain_nd,plain_at,List.nil_append,List.length_nil,Nat.zero_add,Lm,vcs,seval,tys]<;>(try simp)<;>(try omega)) ?_|refine draw_end (by decide +kernel) ?_|((first|apply Ca|apply Cb)<;>intro hb)|refine Ai (by omega) ?_|(apply Ai<;>intro hb)
 (refine mid_canF cxG (b0+16) ([(0,.sl false 6 (v.map ndC)),(1,.int .i64 p),(8,.sl false 6 ((path++[n]).map ndC))]) ([]) [] ?_ ?_ ?_;(focus (show b0≤_;omega));(focus (refine⟨?_,?_⟩<;>(try simp only[cans,canfs,htk0,hlen,plain_nd,plain_at,isRow_inst,leLL_same,Nat.le_refl,or_true,Lm,vcs,seval,tys,injs])<;>(try omega))))
 repeat' first|simp only[fins,mems,results24,ntmps24,wks,ndC,plain_nd,plain_at,plainL,V.plain,Bool.and_self,Lm,vcs,seval,tys]|exact rfl|refine call_off (v:=.any) ?_|(first|(refine call_fn ?_ (hno _) ?_)|(refine call_fn_g ?_ (fun _=>hno _) ?_)|(refine call_fn ?_ (hun _) ?_)|(refine call_fn_g ?_ (fun _=>hun _) ?_))|refine draw_end' (ps:=[(0,5),(2,5),(0,6),(2,6),(0,7),(2,7)]) (by decide +kernel) (by simp only[List.forall_mem_cons,List.getD_cons_zero,List.getD_cons_succ,results24,ntmps24,wks,ndC,plain_nd,plain_at,plainL,V.plain,Bool.and_self,Lm,vcs,seval,tys]<;>(try simp)<;>(try omega)) ?_|refine draw_end (by decide +kernel) ?_|((first|apply Ca|apply Cb)<;>intro hb)|refine Ai (by omega) ?_|(apply Ai<;>intro hb)
 (refine loop_can2 cxG (fun x:UnSt=>k.count-x.D.count) (fun x=>x.inv k p) (b0+16) (fun x=>[(0,.sl false 6 (v.map ndC)),(8,.sl false 6 ((path++[n]).map ndC)),(10,.bool (B&&(x.D.res K).2)),(11,.own b0 0 (X::(x.D.res K).1).length),(12,.sl false 1 (T.map noC)),(13,.int .i64 x.D.count)]) (fun x=>[(b0,⟨6,(X::(x.D.res K).1).map ndC⟩)]) ((UnSt.mk .nil k (p+1))) [some (b0+160)] ?_ ?_ ?_ ?_;rotate_left 1;(focus (show b0≤_;omega));(focus (refine⟨?_,?_⟩<;>(try simp only[cans,hX1,hpX,Bool.true_or,if_true,plain_nd,plain_no,plain_at,isRow_inst,leLL_same,Fo.res,Fo.count,Bool.and_true,Lc,Lo,List.length_cons,List.length_nil,Lm,vcs,seval,tys,injs])<;>(try omega)));rotate_left 1)
 ·exact⟨rfl,rfl⟩
 ·rintro ⟨D,R,q⟩ ⟨hi1,hi2⟩
  simp only at hi1 hi2 ⊢
  obtain⟨L,hL⟩:∃ L,L=X::(D.res K).1:=⟨_,rfl⟩
  rw[← hL]
  have htk:(L.map ndC).take L.length=L.map ndC:=take_map_len _ _
  cases R with
  | nil =>
   rw[Fo.app_nil]at hi1
   subst hi1
   rw[← hL]at hZ hN
   have hLl:L.length≤1001:=by rw[hL];simp;omega
   have d1:decide ((D.count:Int)<(T.length:Int))=false:=decide_eq_false (by omega)
   have d2:decide (D.count<T.length)=false:=decide_eq_false (by omega)
   subst hZ;subst hN;subst hRB
   ((repeat' first|simp only[fins,mems,results24,ntmps24,wks,d1,d2,htk,plain_no,plain_nd,plainL,V.plain,Bool.and_self,Lm,vcs,seval,tys]|exact rfl|refine call_off (v:=.any) ?_|refine draw_end' (ps:=[(0,5),(2,5),(0,6),(2,6),(0,7),(2,7)]) (by decide +kernel) (by simp only[List.forall_mem_cons,List.getD_cons_zero,List.getD_cons_succ,results24,ntmps24,wks,d1,d2,htk,plain_no,plain_nd,plainL,V.plain,Bool.and_self,Lm,vcs,seval,tys]<;>(try simp)<;>(try omega)) ?_|refine draw_end (by decide +kernel) ?_|((first|apply Ca|apply Cb)<;>intro hb)|refine Ai (by omega) ?_|(apply Ai<;>intro hb));(all_goals (first|(refine Fin.auto (r:=?_) (l:=?_) ?_ ?_ ?_ ?_ ?_ ?_ ?_;rotate_left 1;(simp only[results24,ntmps24,envL_cons,envL_nil,memL_cons,memL_nil,d1,d2,htk,plain_no,plain_nd,plainL,V.plain,Bool.and_self,Lm,vcs,seval,tys]);(exact rfl);rotate_left 1;(simp only[V.owns,ownsL,List.cons_append,List.nil_append]);(exact rfl);all_goals (try simp only[results24,ntmps24,envL_cons,envL_nil,memL_cons,memL_nil,d1,d2,htk,plain_no,plain_nd,plainL,V.plain,Bool.and_self,Lm,ownx,vcs,seval,tys]);all_goals (try simp only[injs]))|skip)))
  | cons m c r =>
   have hi1':(D.app (.cons m c .nil)).app r=k:=by rw[Fo.app_assoc];exact hi1
   have hkc2:k.count=D.count+(r.count+1):=by rw[← hi1,Fo.app_count];rfl
   have hks2:k.size=D.size+(c.size+r.size+1):=by rw[← hi1,Fo.app_size];rfl
   have hdq:=part_drop hd1 hi1
   rw[← hi2]at hdq
   have hTq:=part_top hi1 p
   rw[hTd,← hi2]at hTq
   obtain⟨hat1,hil⟩:=noC_at hTq
   have hili:(D.count:Int)<(T.length:Int):=by omega
   have d1:decide ((D.count:Int)<(T.length:Int))=true:=decide_eq_true hili
   have d2:decide (D.count<T.length)=true:=decide_eq_true hil
   have w2:IntKind.i64.wrap ((D.count:Int)+1)=((D.count+1:Nat):Int):=wrap_in (by omega) (by omega)
   rw[← hi1]at ih
   have hrc:=(allF_app ih) q _ (path++[n]) K hdq hK2 (by rw[hlen];omega) hok2
   have hct:=Fo.app_count D (.cons m c .nil)
   simp only[Fo.count,Nat.zero_add]at hct
   obtain⟨ra1,ra2⟩:=Fo.res_app D (.cons m c .nil) K
   have hra:=(Fo.res_app (D.app (.cons m c .nil)) r K).1
   rw[hi1',ra1]at hra
   have hkl2:=congrArg List.length hra
   simp only[List.length_append]at hkl2
   have hL2:X::((D.app (.cons m c .nil)).res K).1=L++((Fo.cons m c .nil).res K).1:=by rw[ra1,hL];rfl
   have hLl:L.length≤1001:=by rw[hL];simp;omega
   generalize ((Fo.cons m c .nil).res K).1=Y at hrc hkl2 hL2
   generalize ((Fo.cons m c .nil).res K).2=YB at hrc ra2
   have hLX:L.map ndC++Y.map ndC=(L++Y).map ndC:=List.map_append.symm
   have hL2m:ndC X::(((D.app (.cons m c .nil)).res K).1).map ndC=(L++Y).map ndC:=by rw[← hL2];rfl
   have hL2l:(((D.app (.cons m c .nil)).res K).1).length+1=L.length+Y.length:=by have:=congrArg List.length hL2;simpa using this
   have hbb:(B&&((D.res K).2&&YB))=((B&&(D.res K).2)&&YB):=(Bool.and_assoc _ _ _).symm
   generalize (B&&(D.res K).2)=BB at hbb ⊢
   repeat' first|simp only[fins,mems,results24,ntmps24,wks,d1,d2,htk,hat1,hil,hili,one_ndL,noC,plain_nd,plain_no,Lm,vcs,seval,tys]|exact rfl|refine call_off (v:=.any) ?_|(first|(refine call_fn ?_ (hrc _) ?_)|(refine call_fn_g ?_ (fun _=>hrc _) ?_))|refine draw_end' (ps:=[(0,5),(2,5),(0,6),(2,6),(0,7),(2,7)]) (by decide +kernel) (by simp only[List.forall_mem_cons,List.getD_cons_zero,List.getD_cons_succ,results24,ntmps24,wks,d1,d2,htk,hat1,hil,hili,one_ndL,noC,plain_nd,plain_no,Lm,vcs,seval,tys]<;>(try simp)<;>(try omega)) ?_|refine draw_end (by decide +kernel) ?_|((first|apply Ca|apply Cb)<;>intro hb)|refine Ai (by omega) ?_|(apply Ai<;>intro hb)
   all_goals ((refine again_can2 cxG (UnSt.mk (D.app (.cons m c .nil)) r (q+1+c.size)) [some (b0+384)] ?_ ?_ ?_ ?_;rotate_left 2;(focus (show b0≤_;omega));(focus (refine⟨?_,?_⟩<;>(try simp only[cans,w2,hct,hLX,hL2m,hL2l,ra2,hbb,plain_nd,plain_no,isRow_inst,leLL_same,Lm,vcs,seval,tys,injs])<;>(try omega)))))
   all_goals (first|(show k.count-(D.app (.cons m c .nil)).count<k.count-D.count;omega)|(refine⟨hi1',?_⟩;simp only[Fo.app_size,Fo.size];omega)|skip)
theorem walk_all (v:List Nd)(hv:v.length≤1000)(hok:∀ n∈v,n.okTo lim)(hsv:spacedL v=false):∀(F:Fo) (d last:Nat),d≤12→F.good d last=true→AllF (WkOk v) F
 | .nil,_,_,_,_=>trivial
 | .cons n k r,d,last,hd,hg=>by
  obtain⟨h1,h2,h3,h4,h5,h6⟩:=Fo.good_cons.1 hg
  refine⟨?_,walk_all v hv hok hsv r d n.kind hd h6⟩
  by_cases hk:n.kind=2
  ·have:=Fo.text_leaf hg hk
   subst this
   exact walk_text v n hk
  ·have hk1:n.kind=1:=by rcases mayN_kind h1 with e|e;exact e;exact absurd e hk
   exact walk_elem v hv hok hsv n k hk1 d hd (Fo.good_cons.2 ⟨h1,h2,by omega,h4,h5,rfl⟩) (walk_all v hv hok hsv k (d-1) 1 (by omega) h5)
theorem spaced_spc (v:List Nd):v.any spcNd=spacedL v:=by
 unfold spacedL
 congr 1
 funext n
 unfold spcNd spacedN
 have e:∀ s:List UInt8,(!(s==[])) = !s.isEmpty:=fun s=>by cases s<;>rfl
 have e2:(spcAt:At→Bool)=fun a=>!a.space.isEmpty:=by funext a;unfold spcAt;exact e _
 rw[e2]
 simp only[bne,e]
set_option maxRecDepth 100000 in
set_option maxHeartbeats 8000000 in
theorem rResolve_ev (v:List Nd)(hv:v.length≤1000)(hok:∀ n∈v,n.okTo lim)(nm:Nat):Ev cx 7 nm [.sl false 6 (v.map ndC)] Mem.nil (treeV (resolveU v).1 (resolveU v).2) []:=by
 have hm:=rMayV_ev v (by omega) hok
 have hs:=rSpc11_ev v (by omega) hok
 unfold treeV resolveU
 rw[spaced_spc]
 by_cases hc:checkB v=0
 ·obtain⟨n,k,hk,hvv,hg,hl⟩:=tree_ofB hc
  have hmt:mayT v=true:=decide_eq_true hc
  rw[hmt]at hm
  rw[if_neg (by simp[hc])]
  cases hsp:spacedL v with
  | true =>
   rw[hsp]at hs
   simp only[if_true,Lo]
   refine ev_go rfl (fun cargs w=>call7 cargs w) func7 rfl mixed (by kernel_rfl) rfl ?_;intro b0 hb0
   (repeat' first|simp only[fins,mems,results7,ntmps7,wks,plain_nd,Bt,Bf,vcs,seval,tys]|exact rfl|refine call_off (v:=.any) ?_|(first|(refine call_fn ?_ (hm _) ?_)|(refine call_fn_g ?_ (fun _=>hm _) ?_)|(refine call_fn ?_ (hs _) ?_)|(refine call_fn_g ?_ (fun _=>hs _) ?_))|((first|apply Ca|apply Cb)<;>intro hb)|refine Ai (by omega) ?_|(apply Ai<;>intro hb)|refine Fin.pure ?_ ?_ ?_|simp only[injs])
  | false =>
   rw[hsp]at hs
   have hf:foOf v = .cons n k .nil:=by rw[hvv];exact foOf_of hg
   have hw:=(walk_all v hv hok hsp (.cons n k .nil) 12 0 (Nat.le_refl _) hg).1 0 [] [] knZ (by rw[List.drop_zero,List.append_nil];exact hvv) kpath_zero (by simp only[List.length_nil];omega) (fun x hx=>by cases hx)
   simp only[Int.ofNat_zero,Lo]at hw
   rw[hf]
   simp only[Bool.false_eq_true,if_false]
   have hpl:=plain_nd ((Fo.cons n k .nil).res knZ).1
   generalize ((Fo.cons n k .nil).res knZ).1=X at hw hpl ⊢
   generalize ((Fo.cons n k .nil).res knZ).2=B at hw ⊢
   cases B with
   | true =>
    simp only[if_true]
    refine ev_go rfl (fun cargs w=>call7 cargs w) func7 rfl mixed (by kernel_rfl) rfl ?_;intro b0 hb0
    (repeat' first|simp only[fins,mems,results7,ntmps7,wks,hpl,plain_nd,Bt,Bf,Lm,vcs,seval,tys]|exact rfl|refine call_off (v:=.any) ?_|(first|(refine call_fn ?_ (hm _) ?_)|(refine call_fn_g ?_ (fun _=>hm _) ?_)|(refine call_fn ?_ (hs _) ?_)|(refine call_fn_g ?_ (fun _=>hs _) ?_))|((refine call_fn_x (xs:=?_) ?_ (Ev.args_le (hw _) ?_) ?_);rotate_left 1)|omega|((first|apply Ca|apply Cb)<;>intro hb)|refine Ai (by omega) ?_|(apply Ai<;>intro hb)|refine Fin.pure ?_ ?_ ?_|simp only[injs])
   | false =>
    simp only[Bool.false_eq_true,if_false,Lo]
    refine ev_go rfl (fun cargs w=>call7 cargs w) func7 rfl mixed (by kernel_rfl) rfl ?_;intro b0 hb0
    (repeat' first|simp only[fins,mems,results7,ntmps7,wks,hpl,plain_nd,Bt,Bf,Lm,vcs,seval,tys]|exact rfl|refine call_off (v:=.any) ?_|(first|(refine call_fn ?_ (hm _) ?_)|(refine call_fn_g ?_ (fun _=>hm _) ?_)|(refine call_fn ?_ (hs _) ?_)|(refine call_fn_g ?_ (fun _=>hs _) ?_))|((refine call_fn_x (xs:=?_) ?_ (Ev.args_le (hw _) ?_) ?_);rotate_left 1)|omega|((first|apply Ca|apply Cb)<;>intro hb)|refine Ai (by omega) ?_|(apply Ai<;>intro hb)|refine Fin.pure ?_ ?_ ?_|simp only[injs])
 ·have hmt:mayT v=false:=decide_eq_false hc
  rw[hmt]at hm
  rw[if_pos hc]
  simp only[Lo]
  refine ev_go rfl (fun cargs w=>call7 cargs w) func7 rfl mixed (by kernel_rfl) rfl ?_;intro b0 hb0
  (repeat' first|simp only[fins,mems,results7,ntmps7,wks,plain_nd,Bt,Bf,vcs,seval,tys]|exact rfl|refine call_off (v:=.any) ?_|(first|(refine call_fn ?_ (hm _) ?_)|(refine call_fn_g ?_ (fun _=>hm _) ?_))|(refine call_off (v:=.any) ?_)|((first|apply Ca|apply Cb)<;>intro hb)|refine Ai (by omega) ?_|(apply Ai<;>intro hb)|refine Fin.pure ?_ ?_ ?_|simp only[injs])
def whichN (S:List (List UInt8))(s:List UInt8):Nat:=match S.findIdx? (· == s) with
 | some i=>i+1
 | none=>0
theorem ts_at {S:List (List UInt8)}{i:Nat}{x:List UInt8}(h:S[i]? = some x):(S.map tsC)[i]? = some [.str x]:=by rw[List.getElem?_map,h];rfl
theorem which_here {S:List (List UInt8)}{i:Nat}{x s:List UInt8}(h:S[i]? = some x)(hno:(S.take i).any (· == s)=false)(hx:(x==s)=true):whichN S s=i+1:=by
 unfold whichN
 have:S.findIdx? (· == s)=some i:=by
  rw[List.findIdx?_eq_some_iff_getElem]
  obtain⟨hi,rfl⟩:=List.getElem?_eq_some_iff.1 h
  refine⟨hi,hx,fun j hj=>?_⟩
  have hm:=List.any_eq_false.1 hno S[j] (List.mem_of_getElem? (by rw[List.getElem?_take,if_pos hj];exact List.getElem?_eq_getElem (by omega)))
  simpa using hm
 rw[this]
theorem which_none {S:List (List UInt8)}{s:List UInt8}(hno:S.any (· == s)=false):whichN S s=0:=by
 unfold whichN
 rw[List.findIdx?_eq_none_iff.2 fun x hx=>by simpa using List.any_eq_false.1 hno x hx]
theorem which_zero (S:List (List UInt8))(s:List UInt8):((whichN S s:Int)==0) = !S.contains s:=by
 unfold whichN
 cases h:S.findIdx? (· == s) with
 | none=>rw[cont_none h];rfl
 | some i=>rw[cont_some h];simp;omega
set_option maxRecDepth 100000 in
set_option maxHeartbeats 4000000 in
theorem rWhich_ev (S:List (List UInt8))(s:List UInt8)(hS:S.length≤1000)(nm:Nat):Ev cx 86 nm [.sl false 1 (S.map tsC),.str s] Mem.nil (.int .i64 (whichN S s)) []:=by
 refine ev_go rfl (fun cargs w=>call86 cargs w) func86 rfl mixed (by kernel_rfl) rfl ?_;intro b0 hb0
 repeat' first|simp only[fins,mems,results86,ntmps86,wks,vcs,seval,tys]|exact rfl|refine call_off (v:=.any) ?_|((first|apply Ca|apply Cb)<;>intro hb)|refine Ai (by omega) ?_|(apply Ai<;>intro hb)
 (refine loop_can2 cxG (fun x:Nat=>S.length-x) (fun x=>x≤S.length∧(S.take x).any (· == s)=false) (b0+16) (fun x=>[(0,.sl false 1 (S.map tsC)),(1,.str s),(5,.int .i64 x)]) (fun x=>[]) (0) [] ?_ ?_ ?_ ?_;rotate_left 1;(focus (show b0≤_;omega));(focus (refine⟨?_,?_⟩<;>(try simp only[cans,plain_ts,Lm,vcs,seval,tys,injs])<;>(try omega)));rotate_left 1)
 ·exact⟨Nat.zero_le _,rfl⟩
 ·rintro i ⟨hi,hno⟩
  by_cases hlt:i<S.length
  ·obtain⟨x,hx⟩:∃ x,S[i]? = some x:=⟨_,List.getElem?_eq_getElem hlt⟩
   have hat:=ts_at hx
   have hii:(i:Int)<(S.length:Int):=by omega
   have d1:decide ((i:Int)<(S.length:Int))=true:=decide_eq_true hii
   have d2:decide (i<S.length)=true:=decide_eq_true hlt
   have wi:IntKind.i64.wrap ((i:Int)+1)=((i+1:Nat):Int):=wrap_in (by omega) (by omega)
   cases hb:(x==s) with
   | true =>
    rw[which_here hx hno hb]
    (repeat' first|simp only[fins,mems,results86,ntmps86,wks,d1,d2,hat,hlt,hii,hb,wi,Lm,vcs,seval,tys]|exact rfl|refine call_off (v:=.any) ?_|((first|apply Ca|apply Cb)<;>intro hb)|refine Ai (by omega) ?_|(apply Ai<;>intro hb)|refine Fin.pure ?_ ?_ ?_|simp only[injs])
   | false =>
    have hno':=any_snoc12 hx hno hb
    repeat' first|simp only[fins,mems,results86,ntmps86,wks,d1,d2,hat,hlt,hii,hb,wi,Lm,vcs,seval,tys]|exact rfl|refine call_off (v:=.any) ?_|((first|apply Ca|apply Cb)<;>intro hb)|refine Ai (by omega) ?_|(apply Ai<;>intro hb)
    all_goals ((refine again_can2 cxG (i+1) [] ?_ ?_ ?_ ?_;rotate_left 2;(focus (show b0≤_;omega));(focus (refine⟨?_,?_⟩<;>(try simp only[cans,plain_ts,wi,Lm,vcs,seval,tys,injs])<;>(try omega)))))
    all_goals (first|(show S.length-(i+1)<S.length-i;omega)|exact⟨hlt,hno'⟩|skip)
  ·have hie:i=S.length:=by omega
   subst hie
   have d1:decide ((S.length:Int)<(S.length:Int))=false:=decide_eq_false (by omega)
   have d2:decide (S.length<S.length)=false:=decide_eq_false (by omega)
   rw[List.take_length]at hno
   rw[which_none hno]
   (repeat' first|simp only[fins,mems,results86,ntmps86,wks,d1,d2,Lm,vcs,seval,tys]|exact rfl|refine call_off (v:=.any) ?_|((first|apply Ca|apply Cb)<;>intro hb)|refine Ai (by omega) ?_|(apply Ai<;>intro hb)|refine Fin.pure ?_ ?_ ?_|simp only[injs])
set_option maxRecDepth 100000 in
set_option maxHeartbeats 8000000 in
theorem rSpaces_own (l:List At)(hl:l.length≤900)(nm:Nat):Ev cx 84 nm [.sl false 3 (l.map atC)] Mem.nil (.own nm 0 (seenL l).length) [(nm,some ⟨1,(seenL l).map tsC⟩)]:=by
 have hz:seenL []=[]:=rfl
 refine ev_go rfl (fun cargs w=>call84 cargs w) func84 rfl mixed (by kernel_rfl) rfl ?_;intro b0 hb0
 repeat' first|simp only[fins,mems,results84,ntmps84,wks,vcs,seval,tys]|exact rfl|refine call_off (v:=.any) ?_|((first|apply Ca|apply Cb)<;>intro hb)|refine Ai (by omega) ?_|(apply Ai<;>intro hb)
 (refine loop_can2 cxG (fun x:Nat=>l.length-x) (fun x=>x≤l.length) (b0+16) (fun x=>[(0,.sl false 3 (l.map atC)),(3,.own b0 0 (seenL (l.take x)).length),(4,.int .i64 x)]) (fun x=>[(b0,⟨1,(seenL (l.take x)).map tsC⟩)]) (0) [none] ?_ ?_ ?_ ?_;rotate_left 1;(focus (show b0≤_;omega));(focus (refine⟨?_,?_⟩<;>(try simp only[cans,hz,plain_at,isRow_inst,List.take_zero,Lo,List.length_nil,Lm,vcs,seval,tys,injs])<;>(try omega)));rotate_left 1)
 ·exact Nat.zero_le _
 ·intro k hk
  by_cases hlt:k<l.length
  ·obtain⟨a,ha⟩:∃ a,l[k]? = some a:=⟨_,List.getElem?_eq_getElem hlt⟩
   have hat:=at_at ha
   have hki:(k:Int)<(l.length:Int):=by omega
   have d1:decide ((k:Int)<(l.length:Int))=true:=decide_eq_true hki
   have d2:decide (k<l.length)=true:=decide_eq_true hlt
   have wk:IntKind.i64.wrap ((k:Int)+1)=((k+1:Nat):Int):=wrap_in (by omega) (by omega)
   have hst:=seenL_take ha
   have hsl:=seenL_len (l.take k)
   rw[List.length_take]at hsl
   generalize seenL (l.take k)=S at hst hsl
   have htk:=tak_ts S
   have hw:=rWhich_ev S a.space (by omega)
   have hwz:=which_zero S a.space
   generalize (whichN S a.space:Int)=W at hw hwz
   have hsn:=ts_snoc S a.space
   unfold seenF at hst
   unfold xmlU at hst
   cases c1:(a.space==[]) with
   | true =>
    rw[c1,if_pos rfl]at hst
    repeat' first|simp only[fins,mems,results84,ntmps84,wks,d1,d2,hat,atC,hlt,hki,c1,htk,strip_gdf,Bt,Bf,plain_ts,Lm,vcs,seval,tys]|exact rfl|refine call_off (v:=.any) ?_|(refine call_off (v:=.any) ?_)|((first|apply Ca|apply Cb)<;>intro hb)|refine Ai (by omega) ?_|(apply Ai<;>intro hb)
    all_goals ((refine again_can2 cxG (k+1) [some b0] ?_ ?_ ?_ ?_;rotate_left 2;(focus (show b0≤_;omega));(focus (refine⟨?_,?_⟩<;>(try simp only[cans,hst,wk,plain_at,plain_ts,leLL_same,isRow_inst,Lm,vcs,seval,tys,injs])<;>(try omega)))))
    all_goals (first|(show l.length-(k+1)<l.length-k;omega)|exact hlt|skip)
   | false =>
    rw[c1,if_neg (by simp)]at hst
    cases c2:(a.space==[104,116,116,112,58,47,47,119,119,119,46,119,51,46,111,114,103,47,88,77,76,47,49,57,57,56,47,110,97,109,101,115,112,97,99,101]) with
    | true =>
     rw[c2,if_pos rfl]at hst
     repeat' first|simp only[fins,mems,results84,ntmps84,wks,d1,d2,hat,atC,hlt,hki,c1,c2,htk,strip_gdf,Bt,Bf,plain_ts,Lm,vcs,seval,tys]|exact rfl|refine call_off (v:=.any) ?_|(refine call_off (v:=.any) ?_)|((first|apply Ca|apply Cb)<;>intro hb)|refine Ai (by omega) ?_|(apply Ai<;>intro hb)
     all_goals ((refine again_can2 cxG (k+1) [some b0] ?_ ?_ ?_ ?_;rotate_left 2;(focus (show b0≤_;omega));(focus (refine⟨?_,?_⟩<;>(try simp only[cans,hst,wk,plain_at,plain_ts,leLL_same,isRow_inst,Lm,vcs,seval,tys,injs])<;>(try omega)))))
     all_goals (first|(show l.length-(k+1)<l.length-k;omega)|exact hlt|skip)
    | false =>
     rw[c2,if_neg (by simp)]at hst
     cases c3:S.contains a.space with
     | true =>
      rw[c3,Bt]at hwz
      rw[c3,if_pos rfl]at hst
      repeat' first|simp only[fins,mems,results84,ntmps84,wks,d1,d2,hat,atC,hlt,hki,c1,c2,hwz,htk,Bt,Bf,plain_ts,Lm,vcs,seval,tys]|exact rfl|refine call_off (v:=.any) ?_|((refine call_fn_gvx (xs:=?_) [b0] ?_ (fun _=>?_) (fun _=>?_) rfl ((fun _=>hw _)) ?_);rotate_left 1)|omega|((first|apply Ca|apply Cb)<;>intro hb)|refine Ai (by omega) ?_|(apply Ai<;>intro hb)
      all_goals ((refine again_can2 cxG (k+1) [some b0] ?_ ?_ ?_ ?_;rotate_left 2;(focus (show b0≤_;omega));(focus (refine⟨?_,?_⟩<;>(try simp only[cans,hst,wk,plain_at,plain_ts,leLL_same,isRow_inst,Lm,vcs,seval,tys,injs])<;>(try omega)))))
      all_goals (first|(show l.length-(k+1)<l.length-k;omega)|exact hlt|skip)
     | false =>
      rw[c3,Bf]at hwz
      rw[c3,if_neg (by simp)]at hst
      have hstl:(S++[a.space]).length=S.length+1:=by simp
      repeat' first|simp only[fins,mems,results84,ntmps84,wks,d1,d2,hat,atC,hlt,hki,c1,c2,hwz,htk,hsn,Bt,Bf,plain_ts,Lm,vcs,seval,tys]|exact rfl|refine call_off (v:=.any) ?_|((refine call_fn_gvx (xs:=?_) [b0] ?_ (fun _=>?_) (fun _=>?_) rfl ((fun _=>hw _)) ?_);rotate_left 1)|omega|((first|apply Ca|apply Cb)<;>intro hb)|refine Ai (by omega) ?_|(apply Ai<;>intro hb)
      all_goals ((refine again_can2 cxG (k+1) [some (b0+576)] ?_ ?_ ?_ ?_;rotate_left 2;(focus (show b0≤_;omega));(focus (refine⟨?_,?_⟩<;>(try simp only[cans,hst,hstl,wk,plain_at,plain_ts,leLL_same,isRow_inst,Lm,vcs,seval,tys,injs])<;>(try omega)))))
      all_goals (first|(show l.length-(k+1)<l.length-k;omega)|exact hlt|skip)
  ·have hke:k=l.length:=by omega
   subst hke
   have d1:decide ((l.length:Int)<(l.length:Int))=false:=decide_eq_false (by omega)
   have d2:decide (l.length<l.length)=false:=decide_eq_false (by omega)
   have htk:=tak_ts (seenL l)
   ((repeat' first|simp only[fins,mems,results84,ntmps84,wks,d1,d2,htk,plain_ts,List.take_length,Lm,vcs,seval,tys]|exact rfl|refine call_off (v:=.any) ?_|((first|apply Ca|apply Cb)<;>intro hb)|refine Ai (by omega) ?_|(apply Ai<;>intro hb));(all_goals (first|(refine Fin.auto (r:=?_) (l:=?_) ?_ ?_ ?_ ?_ ?_ ?_ ?_;rotate_left 1;(simp only[results84,ntmps84,envL_cons,envL_nil,memL_cons,memL_nil,d1,d2,htk,plain_ts,List.take_length,Lm,vcs,seval,tys]);(exact rfl);rotate_left 1;(simp only[V.owns,ownsL,List.cons_append,List.nil_append]);(exact rfl);all_goals (try simp only[results84,ntmps84,envL_cons,envL_nil,memL_cons,memL_nil,d1,d2,htk,plain_ts,List.take_length,Lm,ownx,vcs,seval,tys]);all_goals (try simp only[injs]))|skip)))
theorem rSpaces_fz (l:List At)(hl:l.length≤900)(nm:Nat):Ev cx 84 nm [.sl false 3 (l.map atC)] Mem.nil (.sl false 1 ((seenL l).map tsC)) []:=by
 have hpl:=plain_ts (seenL l)
 have htk:=tak_ts (seenL l)
 refine Ev.freeze (rSpaces_own l hl nm) ?_ ?_
 ·simp only[fins,mems,wks,hpl,htk,Lm,vcs,seval,tys]<;>omega
 ·simp only[fins,mems,wks,hpl,htk,Lm,vcs,seval,tys]
end Go.Proofs.YtfcfldmioonipaaGreatDoor
