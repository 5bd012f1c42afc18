/-
 Texts joined: XKq,XKr.
-/
import Derived.Test.YtfcfldmioonipaaQe
import Derived.Test.YtfcfldmioonipaaQr
import Derived.Test.YtfcfldmioonipaaQu
import Derived.Test.YtfcfldmioonipaaQs
import Derived.Test.YtfcfldmioonipaaQi
import Derived.Test.YtfcfldmioonipaaQp
namespace Go.Proofs.Ytfcfldmioonipaa
set_option linter.unusedSimpArgs false
set_option linter.unusedVariables false
open Go Go.RowKit Vm Go.Lib Try
open Vm renaming cond_bool→Ca,cond_bit→Cb
open And renaming intro→Ai
open List renaming length_map→Lm,not_mem_nil→Ln,map_nil→Lo,map_cons→Lc,mem_cons→Lk
open Bool renaming not_false→Bf,not_true→Bt
def midT (cx:Cx)(fn:Func)(nm:Nat)(M:Mem)(v:V)(eff:List (Nat×Option Blk))(b0:Nat)(tail:Code)(K:Nat→Env→Mem→Prop):Code→Ex→Nat→Env→Mem→Prop
 | .seq c1 r1,.normal,n,e,M1=>(Code.seq c1 r1=tail∧K n e M1)∨go cx ⟨b0,midT cx fn nm M v eff b0 tail K r1⟩ [] n e M1 c1
 | _,.ret,n,e,M1=>atEnd cx fn nm M v eff b0 .ret n e M1
 | _,_,_,_,_=>False
section
variable {cx:Cx} {fn:Func} {nm:Nat} {M:Mem} {v:V} {eff:List (Nat×Option Blk)} {b0:Nat} {tail:Code} {K:Nat→Env→Mem→Prop}
theorem midT_ret (c:Code)(n:Nat)(e:Env)(M1:Mem):midT cx fn nm M v eff b0 tail K c .ret n e M1=atEnd cx fn nm M v eff b0 .ret n e M1:=by
 cases c<;>rfl
theorem midT_exit {c:Code}{n:Nat}{e:Env}{M1:Mem}{id:Nat} : ¬ midT cx fn nm M v eff b0 tail K c (.exit id) n e M1:=by
 cases c<;>exact fun h=>h
theorem midT_pan {c:Code}{n:Nat}{e:Env}{M1:Mem}{u:V} : ¬ midT cx fn nm M v eff b0 tail K c (.panic u) n e M1:=by
 cases c<;>exact fun h=>h
theorem midT_next {c1 r1:Code}{n:Nat}{e:Env}{M1:Mem}(h:go cx ⟨b0,midT cx fn nm M v eff b0 tail K r1⟩ [] n e M1 c1):midT cx fn nm M v eff b0 tail K (.seq c1 r1) .normal n e M1:=.inr h
theorem midT_tail {c1 r1:Code}{n:Nat}{e:Env}{M1:Mem}(ht:Code.seq c1 r1=tail)(h:K n e M1):midT cx fn nm M v eff b0 tail K (.seq c1 r1) .normal n e M1:=.inl ⟨ht,h⟩
theorem midT_sound (hm:cx.P.follows .mixedOrders=true){X:Nat→Prop}{w0:World}{I:Nat→Prop}{ρ0:Names}{R:Exit→Act→World→Prop}
  (hret:∀ a w,LiftQ cx fn.ntmps X w0 I ρ0 b0 (atEnd cx fn nm M v eff b0) .ret a w→R .ret a w)
  (htail:∀ n e M1 ρ a w,Lies cx fn.ntmps X w0 I ρ0 b0 n e M1 ρ a w→K n e M1→WpN cx.P tail R a w) :
  ∀(rest:Code) {n:Nat} {e:Env} {M1:Mem} {ρ:Names} {a:Act} {w:World},codeIn fn.ntmps rest=true→Lies cx fn.ntmps X w0 I ρ0 b0 n e M1 ρ a w→midT cx fn nm M v eff b0 tail K rest .normal n e M1→WpN cx.P rest R a w:=by
 intro rest
 induction rest with
 | seq c1 r1 _ ih =>
  intro n e M1 ρ a w hin hl hq
  rcases hq with ⟨he,hK⟩|hgo
  ·rw[he];exact htail _ _ _ _ _ _ hl hK
  ·simp only[codeIn,Bool.and_eq_true]at hin
   refine WpN.seq (WpN.mono (vc_sound hm c1 _ n e M1 ρ _ w hin.1 hl hgo) ?_)
   rintro x a w1 ⟨n,e,M1,ρ1,h1,hq⟩
   cases x with
   | exit id=>exact(midT_exit hq).elim
   | ret=>exact hret _ _ ⟨n,e,M1,ρ1,h1,by simp only[unst]at hq;rw[midT_ret]at hq;exact hq⟩
   | goto l=>exact hq.elim
   | panic ch=>obtain⟨_,_,_,_,h⟩:=hq;exact(midT_pan h).elim
   | outgrown=>exact hq.elim
   | normal=>exact ih hin.2 h1 hq
 | _=>intro n e M1 ρ a w hin hl hq;exact hq.elim
end
theorem bodyPost_mono {P:Program}{fn:Func}{R R':Ending→World→Prop}(h:∀ e w,R e w→R' e w):∀(x:Exit) (a:Act) (w:World),bodyPost P fn R x a w→bodyPost P fn R' x a w:=by
 intro x a w hb
 cases x<;>simp only[bodyPost]at hb ⊢<;>first|exact hb.elim|(obtain⟨h1,v,h2,h3⟩:=hb;exact⟨h1,v,h2,h _ _ h3⟩)|exact⟨hb.1,h _ _ hb.2⟩|exact h _ _ hb
theorem Rel.grows {G:Nat→V}{X:Nat→Prop}{w0 w:World}{ρ0 ρ:Names}{M:Mem}(h:Rel G X w0 (Blocks ρ0 Mem.nil) ρ M w):Grows w0 w :=
 ⟨h.size,h.os,h.tape,h.output,fun b hb=>h.old b hb (by rintro ⟨_,_,h,_⟩;cases h)⟩
theorem ev_goT {cx:Cx}(hD:cx.D=[]){f:FuncId}{nm:Nat}{args:List V}{b:Bool}{fn:Func}{c0 rest tail:Code}{K:Nat→Nat→Env→Mem→Prop}
  (hcall:∀ cargs w,(callFunc f cargs).run cx.P w = .ok (.enter f cargs) w) (hf:cx.P.funcs[f]? = some fn) (hb:fn.body=some (.seq c0 rest)) (hm:cx.P.follows .mixedOrders=true) (hin:codeIn fn.ntmps (.seq c0 rest)=true) (hargs:decide (args.length≤fn.ntmps)=true)
  (hvc:∀ b0,go cx ⟨b0,midT cx fn nm Mem.nil (.bool b) [] b0 tail (K b0) rest⟩ [] b0 (argsE args) Mem.nil c0)
  (htail:∀ X w0 ρ0 b0 n e M ρ a w,Lies cx fn.ntmps X w0 (Blocks ρ0 Mem.nil) ρ0 b0 n e M ρ a w→K b0 n e M→tail.wp cx.P (bodyPost cx.P fn (fun e w'=>e = .returned (.bool b)∧Grows w w')) a w):Ev cx f nm args Mem.nil (.bool b) []:=by
 have hargs:=of_decide_eq_true hargs
 refine⟨trivial,fun X w ρ cargs B hrel hfr hB hlen his=>?_⟩
 have hstart:Lies cx fn.ntmps X w (Blocks ρ Mem.nil) ρ B B (argsE args) Mem.nil ρ { tmps:=cargs++Array.replicate (fn.ntmps-cargs.size) undef,defers:=[] } w :=
  ⟨hrel,by rw[hD];exact env_args hlen hargs his,hB,fun _ _ h=>h,Nat.le_refl _,fun _ _=>rfl,fun x hx=>(hB x hx).2⟩
 refine .inl ⟨hcall _ _,?_⟩
 refine calls_of_wpN hf hb (midT_sound hm ?_ ?_ _ hin hstart (.inr (hvc B)))
 ·rintro a w' ⟨n,e,M',ρ',h',hq⟩
  simp only[atEnd]at hq
  obtain⟨gs,hfin⟩:=hq
  have h':=h'.ghosts gs
  obtain⟨cv,h1,h2⟩:=res_sound h'.rel h'.env fn hfin.1
  exact⟨h'.env.defers.trans hD,cv,h1,cv,rfl,fin_sound hrel hfr hB h' hfin h2⟩
 ·intro n e M1 ρ1 a w1 hl hK
  refine WpN.of (Code.wp_mono (bodyPost_mono ?_) (htail _ _ _ _ _ _ _ _ _ _ hl hK))
  rintro e w' ⟨rfl,g⟩
  have g2:=(Rel.grows hl.rel).trans g
  obtain⟨r1,m1⟩:=hrel.grow (w':=w') g2.size g2.os g2.tape g2.output g2.keep
  exact⟨_,rfl,ρ,r1,m1,.bool _,fun _ _=>rfl⟩
def dropS:Nat→Code→Code
 | 0,c=>c
 | n+1,.seq _ r=>dropS n r
 | _+1,c=>c
theorem list_lit:∀(l:List Value),l=(List.range l.length).map fun i=>l.getD i undef
 | []=>rfl
 | x::l=>by
  rw[List.length_cons,List.range_succ_eq_map,Lc,List.map_map]
  conv=>lhs;rw[list_lit l]
  rfl
theorem tmps_lit {tm:Array Value}{n:Nat}(h:tm.size=n):∃ f:Nat→Value,tm=((List.range n).map f).toArray ∧ ∀ i,tm.getD i undef=f i:=by
 refine⟨fun i=>tm.getD i undef,?_,fun _=>rfl⟩
 obtain⟨l⟩:=tm
 subst h
 have:=list_lit l
 simpa using congrArg List.toArray this
theorem pt_snoc (l:List (List Nd))(v:List Nd):l.map partC++[[.sl false 6 (v.map ndC)]]=(l++[v]).map partC:=by simp[partC]
def PutsK (n:Nd)(l:List (List Nd))(b0:Nat)(_:Nat)(e:Env)(M:Mem):Prop :=
 e 1 = .sl false 1 (l.map partC)∧e 2 = .ptr b0 0 0∧e 5 = .own (b0+1) 0 l.length∧M b0=some ⟨6,[ndC n]⟩∧M (b0+1)=some ⟨1,l.map partC⟩ ∧ ∀ v∈l,greatV v 520 2000=false
noncomputable def putsTail:Code:=dropS 4 (Try.f3.body.getD .skip)
set_option maxRecDepth 100000 in
set_option maxHeartbeats 16000000 in
theorem treePuts_main (n:Nd)(l:List (List Nd))(hn:n.okTo lim∧n.i64)(hl:l.length≤lim)(hok:∀ v∈l,v.length≤lim ∧ ∀ x∈v,x.okTo lim∧x.i64)
  (htail:greatV [n] 1 2000=false→l.length≤8 → ∀(X:Nat→Prop) (w0:World) (ρ0:Names) (b0 m:Nat) (e:Env) (M:Mem) (ρ:Names) (a:Act) (w:World),Lies cx Try.f3.ntmps X w0 (Blocks ρ0 Mem.nil) ρ0 b0 m e M ρ a w→PutsK n l b0 m e M→putsTail.wp cx.P (bodyPost cx.P Try.f3 (fun e w'=>e = .returned (.bool true)∧Grows w w')) a w) (nm:Nat) :
  Ev cx 3 nm [.agg (ndC n),.sl false 1 (l.map partC)] Mem.nil (.bool true) []:=by
 have hg1:=great10_ev [n] 1 2000 (by omega) (by omega) (by simp[lim]) (fun x hx=>by simp at hx;subst hx;exact hn.1)
 have hrow:[n].map ndC=[ndC n]:=rfl
 have hpl:=plain_nd [n]
 rw[hrow]at hg1 hpl
 by_cases h8:8<l.length
 ·have d1:decide ((8:Int)<(l.length:Int))=true:=decide_eq_true (by omega)
  refine ev_go rfl (fun cargs w=>call3 cargs w) func3 rfl mixed (by kernel_rfl) rfl ?_;intro b0 hb0
  (repeat' first|simp only[fins,mems,results3,ntmps3,wks,d1,ndC,plain_at,plain_pt,Lm,vcs,seval,tys]|exact rfl|refine call_off (v:=.any) ?_|(refine call_off (v:=.any) ?_)|refine draw_end (by decide +kernel) ?_|((first|apply Ca|apply Cb)<;>intro hb)|refine Ai (by omega) ?_|(apply Ai<;>intro hb)|refine Fin.pure ?_ ?_ ?_|simp only[injs])
 have d1:decide ((8:Int)<(l.length:Int))=false:=decide_eq_false (by omega)
 unfold ndC at hg1 hpl
 cases hg:greatV [n] 1 2000 with
 | true =>
  rw[hg]at hg1
  refine ev_go rfl (fun cargs w=>call3 cargs w) func3 rfl mixed (by kernel_rfl) rfl ?_;intro b0 hb0
  (repeat' first|simp only[fins,mems,results3,ntmps3,wks,d1,ndC,hpl,plain_at,plain_pt,Lm,vcs,seval,tys]|exact rfl|refine call_off (v:=.any) ?_|((refine call_fn_gvx (xs:=?_) [b0+112] ?_ (fun _=>?_) (fun _=>?_) rfl ((fun _=>hg1 _)) ?_);rotate_left 1)|omega|refine draw_end (by decide +kernel) ?_|((first|apply Ca|apply Cb)<;>intro hb)|refine Ai (by omega) ?_|(apply Ai<;>intro hb)|refine Fin.pure ?_ ?_ ?_|simp only[injs])
 | false =>
  rw[hg]at hg1
  refine ev_goT (tail:=putsTail) (K:=PutsK n l) rfl (fun cargs w=>call3 cargs w) func3 rfl mixed (by kernel_rfl) rfl ?_ (htail hg (by omega))
  intro b0
  repeat' first|simp only[fins,mems,results3,ntmps3,wks,d1,ndC,hpl,plain_at,plain_pt,Lm,vcs,seval,tys]|exact rfl|refine call_off (v:=.any) ?_|((refine call_fn_gvx (xs:=?_) [b0+112] ?_ (fun _=>?_) (fun _=>?_) rfl ((fun _=>hg1 _)) ?_);rotate_left 1)|refine midT_next ?_|omega|refine draw_end (by decide +kernel) ?_|((first|apply Ca|apply Cb)<;>intro hb)|refine Ai (by omega) ?_|(apply Ai<;>intro hb)
  (refine loop_can2 cxG (fun x:Nat=>l.length-x) (fun x=>x≤l.length ∧ ∀ v∈l.take x,greatV v 520 2000=false) (b0+16) (fun x=>[(1,.sl false 1 (l.map partC)),(2,.ptr b0 0 0),(5,.own (b0+1) 0 x),(6,.int .i64 x)]) (fun x=>[(b0,⟨6,[ndC n]⟩),(b0+1,⟨1,(l.take x).map partC⟩)]) (0) [some b0,none] ?_ ?_ ?_ ?_;rotate_left 1;(focus (show b0≤_;omega));(focus (refine⟨?_,?_⟩<;>(try simp only[cans,ndC,plain_at,plain_pt,plain_nd,isRow_inst,List.take_zero,Lo,List.length_nil,Lm,vcs,seval,tys,injs])<;>(try omega)));rotate_left 1)
  ·exact⟨Nat.zero_le _,fun v hv=>by simp at hv⟩
  ·rintro k ⟨hk,hgr⟩
   by_cases hlt:k<l.length
   ·obtain⟨v,hv⟩:∃ v,l[k]? = some v:=⟨_,List.getElem?_eq_getElem hlt⟩
    obtain⟨hvl,hvo⟩:=hok v (List.mem_of_getElem? hv)
    have hat:=pt_at hv
    have q1:decide ((k:Int)<(l.length:Int))=true:=decide_eq_true (by omega)
    have q2:decide (k<l.length)=true:=decide_eq_true hlt
    have hki:(k:Int)<(l.length:Int):=by omega
    have hwk:IntKind.i64.wrap ((k:Int)+1)=((k+1:Nat):Int):=wrap_in (by omega) (by omega)
    have hgv:=great10_ev v 520 2000 (by omega) (by omega) hvl (fun x hx=>(hvo x hx).1)
    cases hgg:greatV v 520 2000 with
    | true =>
     rw[hgg]at hgv
     repeat' first|simp only[fins,mems,results3,ntmps3,wks,hat,partC,hlt,hki,q1,q2,hwk,plain_nd,plain_pt,plain_at,midT_ret,Lm,vcs,seval,tys]|exact rfl|refine call_off (v:=.any) ?_|(first|(refine call_fn ?_ (hgv _) ?_)|(refine call_fn_g ?_ (fun _=>hgv _) ?_))|refine draw_end (by decide +kernel) ?_|((first|apply Ca|apply Cb)<;>intro hb)|refine Ai (by omega) ?_|(apply Ai<;>intro hb)
     all_goals ((refine Fin.pure ?_ ?_ ?_<;>simp only[wks,plain_nd,results3,ntmps3,vcs,seval,tys]))
    | false =>
     rw[hgg]at hgv
     obtain⟨hv1,hv2⟩:=great_small10 (by omega) (by omega) hgg
     have htw:=rTwin_fz v (by omega) (fun x hx=>by have:=(hv2 x hx).1;omega)
     have hsn:(l.take (k+1)).map partC=(l.take k).map partC++[[.sl false 6 (v.map ndC)]]:=by
      rw[pt_snoc]
      congr 1
      rw[List.take_succ_eq_append_getElem hlt]
      congr 2
      rw[List.getElem?_eq_getElem hlt]at hv;exact Option.some.inj hv
     have hkl:(l.take k).length=k:=by rw[List.length_take];omega
     have htk:((l.take k).map partC).take k=(l.take k).map partC:=List.take_of_length_le (by simp;omega)
     repeat' first|simp only[fins,mems,results3,ntmps3,wks,hat,partC,hlt,hki,q1,q2,hwk,htk,hkl,hsn.symm,plain_nd,plain_pt,plain_at,Lm,vcs,seval,tys]|exact rfl|refine call_off (v:=.any) ?_|(first|(refine call_fn ?_ (hgv _) ?_)|(refine call_fn_g ?_ (fun _=>hgv _) ?_)|(refine call_fn ?_ (htw _) ?_)|(refine call_fn_g ?_ (fun _=>htw _) ?_))|refine draw_end (by decide +kernel) ?_|((first|apply Ca|apply Cb)<;>intro hb)|refine Ai (by omega) ?_|(apply Ai<;>intro hb)
     all_goals ((refine again_can2 cxG (k+1) [some b0,some (b0+272)] ?_ ?_ ?_ ?_;rotate_left 2;(focus (show b0≤_;omega));(focus (refine⟨?_,?_⟩<;>(try simp only[cans,hwk,ndC,plain_at,plain_pt,plain_nd,isRow_inst,leLL_same,Lm,vcs,seval,tys,injs])<;>(try omega)))))
     all_goals (first|(show l.length-(k+1)<l.length-k;omega)|(refine⟨hlt,fun u hu=>?_⟩;rw[List.take_succ_eq_append_getElem hlt]at hu;rcases List.mem_append.1 hu with hu|hu;exact hgr u hu;rw[List.mem_singleton]at hu;have e1:l[k]=v:=(by rw[List.getElem?_eq_getElem hlt]at hv;exact Option.some.inj hv);rw[hu,e1];exact hgg)|skip)
   ·have hkl:k=l.length:=by omega
    subst hkl
    rw[List.take_length]at hgr
    have q1:decide ((l.length:Int)<(l.length:Int))=false:=decide_eq_false (by omega)
    have q2:decide (l.length<l.length)=false:=decide_eq_false (by omega)
    repeat' first|simp only[fins,mems,results3,ntmps3,wks,q1,q2,List.take_length,plain_nd,plain_pt,plain_at,Lm,vcs,seval,tys]|exact rfl|refine call_off (v:=.any) ?_|refine draw_end (by decide +kernel) ?_|((first|apply Ca|apply Cb)<;>intro hb)|refine Ai (by omega) ?_|(apply Ai<;>intro hb)
    refine midT_tail rfl ⟨?_,?_,?_,?_,?_,hgr⟩
    all_goals (first|rfl|simp only[memL_cons,memL_nil,wks,vcs,seval,tys])
end Go.Proofs.Ytfcfldmioonipaa
