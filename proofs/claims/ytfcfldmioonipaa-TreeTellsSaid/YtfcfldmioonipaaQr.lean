/-
 Texts joined: XOk,XOl,XIb,XJf,XJg,XJv,XKa,XKf,XKg.
-/
import Derived.Test.YtfcfldmioonipaaChecked
import Derived.LoopTactic
import Derived.Test.YtfcfldmioonipaaQq
import Derived.Test.YtfcfldmioonipaaQp
import Derived.Test.YtfcfldmioonipaaQo
import Derived.Test.YtfcfldmioonipaaQn
import Derived.Test.YtfcfldmioonipaaQe
namespace Go.Proofs.Ytfcfldmioonipaa
set_option maxRecDepth 100000
set_option maxHeartbeats 32000000
set_option linter.unusedSimpArgs false
set_option linter.unusedVariables false
open Go Go.RowKit Vm Go.Lib Try
open Vm renaming cond_bool→Ca,cond_bit→Cb
open And renaming intro→Ai
open List renaming length_map→Lm,not_mem_nil→Ln,map_nil→Lo,map_cons→Lc,mem_cons→Lk
open Bool renaming not_false→Bf,not_true→Bt
def toksU (v:List Nd):List Tk×Int:=if checkB v≠0 then ([],8) else if spacedL v=true then ([],8) else if 512<(foOf v).toks.length then ([],4) else ((foOf v).toks,0)
theorem toksU_tree {n:Nd}{k:Fo}(hk:n.kind=1)(hg:(Fo.cons n k .nil).good 12 0=true)(hl:k.size+1≤512):toksU (n::k.flat)=(toksT n k,toksE n k):=by
 unfold toksU toksT toksE
 rw[if_neg (by simp[checkB_of hk hg hl]),foOf_of hg]
 split
 ·rfl
 ·split<;>simp
theorem toksU_ok {v:List Nd}(h:(toksU v).2=0):∃ n k,n.kind=1∧v=n::k.flat∧(Fo.cons n k .nil).good 12 0=true∧k.size+1≤512∧spacedL v=false∧(Fo.cons n k .nil).toks.length≤512∧(toksU v).1=(Fo.cons n k .nil).toks:=by
 have hc:checkB v=0:=by
  by_cases hc:checkB v=0
  ·exact hc
  ·unfold toksU at h;rw[if_pos hc]at h;cases h
 obtain⟨n,k,hk,hv,hg,hl⟩:=tree_ofB hc
 have ht:=toksU_tree hk hg hl
 rw[← hv]at ht
 rw[ht]at h ⊢
 simp only at h ⊢
 have hT:toksT n k=(Fo.cons n k .nil).toks:=by unfold toksT;rw[if_pos h]
 refine⟨n,k,hk,hv,hg,hl,?_⟩
 unfold toksE at h
 rw[← hv]at h
 split at h
 ·cases h
 ·rename_i h1
  split at h
  ·cases h
  ·rename_i h2
   exact⟨by simpa using h1,by omega,hT⟩
theorem toks_no {v:List Nd}(h:(toksU v).2≠0):(toksU v).1=[]:=by
 unfold toksU at h ⊢
 split
 ·rfl
 ·rename_i h1
  rw[if_neg h1]at h
  split
  ·rfl
  ·rename_i h2
   rw[if_neg h2]at h
   split
   ·rfl
   ·rename_i h3
    rw[if_neg h3]at h;exact absurd rfl h
theorem toksU_ev (v:List Nd)(hv:v.length≤lim)(hok:∀ n∈v,n.okTo lim∧n.i64)(nm:Nat):Ev cx 11 nm [.sl false 6 (v.map ndC)] Mem.nil (tokV (toksU v).1 (toksU v).2) []:=by
 cases hbo:behindO v with
 | none =>
  have:toksU v=([],8):=by unfold toksU checkB;rw[hbo];rfl
  rw[this]
  exact tokens_nofz v hv hok hbo nm
 | some en =>
  obtain⟨n,k,h1,h2,h3,h4,h5⟩:=tree_of hbo
  subst h2
  rw[toksU_tree h1 h3 h4]
  exact tokens_fz n k h1 h3 h4 hok nm
theorem toksU_len (v:List Nd):(toksU v).1.length≤512:=by
 by_cases h:(toksU v).2=0
 ·obtain⟨n,k,_,_,_,_,_,h6,h7⟩:=toksU_ok h
  rw[h7];exact h6
 ·rw[toks_no h];simp
theorem toksU_fit {v:List Nd}{K:Nat}(hok:∀ x∈v,x.okTo K):∀ t∈(toksU v).1,t.okTo K∧t.attrs.length≤30:=by
 by_cases h:(toksU v).2=0
 ·obtain⟨n,k,h1,h2,h3,h4,h5,h6,h7⟩:=toksU_ok h
  rw[h7]
  have hfl:(Fo.cons n k .nil).flat=v:=by rw[h2];simp[Fo.flat]
  refine Fo.toks_fit _ (by
   rw[hfl]
   intro x hx
   have hm:=(Fo.good_all h3 x (by rw[hfl];exact hx)).1
   exact⟨hok x hx,by have:=(mayN_attrs hm).1;omega⟩)
 ·rw[toks_no h];intro t ht;cases ht
theorem allF_app {P:Nd→Fo→Prop} : ∀ {D:Fo} {m:Nd} {c r:Fo},AllF P (D.app (.cons m c r))→P m c
 | .nil,_,_,_,h=>h.1
 | .cons _ _ D,_,_,_,h=>allF_app (D:=D) h.2
theorem part_drop {v:List Nd}{p:Nat}{D k:Fo}{m:Nd}{c r:Fo}{rest:List Nd}(hd1:v.drop (p+1)=k.flat++rest)(h:D.app (.cons m c r)=k):v.drop (p+1+D.size)=m::(c.flat++(r.flat++rest)):=by
 have:(v.drop (p+1)).drop D.size=m::(c.flat++(r.flat++rest)):=by
  rw[hd1,← h,Fo.app_flat,List.append_assoc,← Fo.flat_length,List.drop_left]
  simp[Fo.flat]
 rwa[List.drop_drop]at this
theorem part_top {D k:Fo}{m:Nd}{c r:Fo}(h:D.app (.cons m c r)=k)(p:Nat):(k.tops (p+1))[D.count]? = some (p+1+D.size):=by
 rw[← h,Fo.tops_app]
 simp only[Fo.tops]
 exact at_app (by rw[Fo.tops_length])
theorem one_tkL (l:List Tk):((l.map tkC).all fun r=>r.all V.one)=true:=by
 rw[List.all_eq_true]
 intro r hr
 obtain⟨t,_,rfl⟩:=List.mem_map.1 hr
 rfl
def TldOk (v:List Nd)(n:Nd)(k:Fo):Prop:=∀(p:Nat) (rest:List Nd),v.drop p=n::(k.flat++rest) → ∀ nm,Ev cx 37 nm [.sl false 6 (v.map ndC),.int .i64 p] Mem.nil (.sl false 4 ((Fo.cons n k .nil).toks.map tkC)) []
theorem Ev.rows_fz {f:FuncId}{nm:Nat}{args:List V}{z:Nat}{R T:List (List V)}(h:Ev cx f nm args Mem.nil (.own nm 0 T.length) [(nm,some ⟨z,R⟩)])(hle:leLL R T)(hpl:plainLL T=true):Ev cx f nm args Mem.nil (.sl false z T) []:=by
 have h2:=Ev.last_le (eff:=[]) (k':=⟨z,T⟩) h ⟨rfl,.inl rfl,hle⟩
 have htk:T.take T.length=T:=List.take_length
 refine Ev.freeze h2 ?_ ?_
 ·simp only[fins,mems,wks,hpl,htk,List.nil_append,vcs,seval,tys]<;>omega
 ·simp only[fins,mems,wks,hpl,htk,List.nil_append,vcs,seval,tys]
theorem told_text (v:List Nd)(n:Nd)(hk:n.kind=2):TldOk v n .nil:=by
 intro p rest hd nm
 obtain⟨hx,hpl,hd1⟩:=at_drop hd
 have hat:=nd_at hx
 have hpi:(p:Int)<(v.length:Int):=by omega
 have k1:((n.kind:Int)==2)=true:=by rw[hk];rfl
 have ht:(Fo.cons n .nil .nil).toks=[⟨4,[],[],n.text⟩]:=by simp[Fo.toks,hk]
 rw[ht]
 refine Ev.rows_fz (R:=[[.int .u8 4,.str [],.nils,.str n.text]]) ?_ ?_ (plain_tk _)
 ·show Ev cx _ nm _ Mem.nil (.own nm 0 1) _
  refine ev_go rfl (fun cargs w=>call37 cargs w) func37 rfl mixed (by kernel_rfl) rfl ?_;intro b0 hb0
  ((repeat' first|simp only[fins,mems,results37,ntmps37,wks,hat,ndC,hpl,hpi,k1,plainL,V.plain,Bool.and_self,Lm,vcs,seval,tys]|exact rfl|refine call_off (v:=.any) ?_|refine draw_end' (ps:=[(1,4)]) (by decide +kernel) (by simp only[List.forall_mem_cons,List.getD_cons_zero,List.getD_cons_succ,results37,ntmps37,wks,hat,ndC,hpl,hpi,k1,plainL,V.plain,Bool.and_self,Lm,vcs,seval,tys]<;>(try simp)<;>(try omega)) ?_|refine draw_end (by decide +kernel) ?_|((first|apply Ca|apply Cb)<;>intro hb)|refine Ai (by omega) ?_|(apply Ai<;>intro hb));(all_goals (first|(refine Fin.auto (r:=?_) (l:=?_) ?_ ?_ ?_ ?_ ?_ ?_ ?_;rotate_left 1;(simp only[results37,ntmps37,envL_cons,envL_nil,memL_cons,memL_nil,hat,ndC,hpl,hpi,k1,plainL,V.plain,Bool.and_self,Lm,vcs,seval,tys]);(exact rfl);rotate_left 1;(simp only[V.owns,ownsL,List.cons_append,List.nil_append]);(exact rfl);all_goals (try simp only[results37,ntmps37,envL_cons,envL_nil,memL_cons,memL_nil,hat,ndC,hpl,hpi,k1,plainL,V.plain,Bool.and_self,Lm,ownx,vcs,seval,tys]);all_goals (try simp only[injs]))|skip)))
 ·rw[show [(⟨4,[],[],n.text⟩:Tk)].map tkC=[[.int .u8 4,.str [],.sl false 2 [],.str n.text]] from rfl]
  simp only[leLL_cons,leL_cons,leL_nil,le_int,le_str,le_nils_sl,leLL,and_self]
theorem told_leaf (v:List Nd)(n:Nd)(hk:n.kind≠2)(hm:n.many=0)(ha:n.attrs.length≤1000):TldOk v n .nil:=by
 intro p rest hd nm
 obtain⟨hx,hpl,hd1⟩:=at_drop hd
 have hat:=nd_at hx
 have hpi:(p:Int)<(v.length:Int):=by omega
 have k1:((n.kind:Int)==2)=false:=beq_false_of_ne (by omega)
 have k2:(n.many==0)=true:=by rw[hm];rfl
 have hpr:=rPairs_fz n.attrs ha
 have ht:(Fo.cons n .nil .nil).toks=[⟨3,n.name,pairsL n.attrs,[]⟩]:=by simp[Fo.toks,hk,hm]
 rw[ht]
 refine Ev.rows_fz (R:=[[.int .u8 3,.str n.name,.sl false 2 ((pairsL n.attrs).map prC),.str []]]) ?_ (leLL_refl _) (plain_tk _)
 show Ev cx _ nm _ Mem.nil (.own nm 0 1) _
 refine ev_go rfl (fun cargs w=>call37 cargs w) func37 rfl mixed (by kernel_rfl) rfl ?_;intro b0 hb0
 ((repeat' first|simp only[fins,mems,results37,ntmps37,wks,hat,ndC,hpl,hpi,k1,k2,plain_at,plain_pr,plainL,V.plain,Bool.and_self,Lm,vcs,seval,tys]|exact rfl|refine call_off (v:=.any) ?_|(first|(refine call_fn ?_ (hpr _) ?_)|(refine call_fn_g ?_ (fun _=>hpr _) ?_))|refine draw_end' (ps:=[(1,4)]) (by decide +kernel) (by simp only[List.forall_mem_cons,List.getD_cons_zero,List.getD_cons_succ,results37,ntmps37,wks,hat,ndC,hpl,hpi,k1,k2,plain_at,plain_pr,plainL,V.plain,Bool.and_self,Lm,vcs,seval,tys]<;>(try simp)<;>(try omega)) ?_|refine draw_end (by decide +kernel) ?_|((first|apply Ca|apply Cb)<;>intro hb)|refine Ai (by omega) ?_|(apply Ai<;>intro hb));(all_goals (first|(refine Fin.auto (r:=?_) (l:=?_) ?_ ?_ ?_ ?_ ?_ ?_ ?_;rotate_left 1;(simp only[results37,ntmps37,envL_cons,envL_nil,memL_cons,memL_nil,hat,ndC,hpl,hpi,k1,k2,plain_at,plain_pr,plainL,V.plain,Bool.and_self,Lm,vcs,seval,tys]);(exact rfl);rotate_left 1;(simp only[V.owns,ownsL,List.cons_append,List.nil_append]);(exact rfl);all_goals (try simp only[results37,ntmps37,envL_cons,envL_nil,memL_cons,memL_nil,hat,ndC,hpl,hpi,k1,k2,plain_at,plain_pr,plainL,V.plain,Bool.and_self,Lm,ownx,vcs,seval,tys]);all_goals (try simp only[injs]))|skip)))
theorem told_elem (v:List Nd)(hv:v.length≤1000)(hok:∀ n∈v,n.okTo lim)(n:Nd)(k:Fo)(hk:n.kind≠2)(hm0:n.many≠0)(ha:n.attrs.length≤1000)(d:Nat)(hd12:d≤12)(hg:(Fo.cons n k .nil).good d 0=true)(ih:AllF (TldOk v) k):TldOk v n k:=by
  intro p rest hd nm
  obtain⟨hx,hpl,hd1⟩:=at_drop hd
  have hat:=nd_at hx
  have hpi:(p:Int)<(v.length:Int):=by omega
  obtain⟨g1,g2,g3,g4,g5,g6⟩:=Fo.good_cons.1 hg
  have hkl:=flat_len hd1
  have hkc:=count_le_size k
  have k1:((n.kind:Int)==2)=false:=beq_false_of_ne (by omega)
  have k2:(n.many==0)=false:=beq_false_of_ne hm0
  have hpr:=rPairs_fz n.attrs ha
  have hun:=rUnder_fz v hv hok hd hg hd12
  have hTl:=Fo.tops_length k (p+1)
  generalize hTd:k.tops (p+1)=T at hun hTl
  have ht:(Fo.cons n k .nil).toks=(⟨1,n.name,pairsL n.attrs,[]⟩::k.toks)++[⟨2,n.name,[],[]⟩]:=by simp[Fo.toks,hk,hm0]
  have htl:k.toks.length≤3000:=by
    rw[Fo.toks_length g5]
    have:=List.length_filter_le (fun n:Nd=>decide (0<n.many)) k.flat
    rw[Fo.flat_length]at this
    omega
  have h1b:tkC ⟨1,n.name,pairsL n.attrs,[]⟩=[.int .u8 1,.str n.name,.sl false 2 ((pairsL n.attrs).map prC),.str []]:=rfl
  rw[ht]
  refine Ev.rows_fz (R:=(⟨1,n.name,pairsL n.attrs,[]⟩::k.toks).map tkC++[[.int .u8 2,.str n.name,.nils,.str []]]) ?_ ?_ (plain_tk _)
  · rw [show(((⟨1,n.name,pairsL n.attrs,[]⟩::k.toks)++[(⟨2,n.name,[],[]⟩:Tk)]).map tkC).length=(⟨1,n.name,pairsL n.attrs,[]⟩::k.toks).length+1 by simp]
    obtain⟨Z,hZ⟩:∃ Z,Z=(⟨1,n.name,pairsL n.attrs,[]⟩::k.toks).map tkC++[[.int .u8 2,.str n.name,.nils,.str []]]:=⟨_,rfl⟩
    obtain⟨N,hN⟩:∃ N,N=((⟨1,n.name,pairsL n.attrs,[]⟩:Tk)::k.toks).length+1:=⟨_,rfl⟩
    rw[← hZ,← hN]
    refine ev_go rfl (fun cargs w=>call37 cargs w) func37 rfl mixed (by kernel_rfl) rfl ?_;intro b0 hb0
    repeat' first|simp only[fins,mems,results37,ntmps37,wks,hat,ndC,hpl,hpi,k1,k2,plain_nd,plain_at,plain_pr,plain_no,Lm,vcs,seval,tys]|exact rfl|refine call_off (v:=.any) ?_|(first|(refine call_fn ?_ (hpr _) ?_)|(refine call_fn_g ?_ (fun _=>hpr _) ?_)|(refine call_fn ?_ (hun _) ?_)|(refine call_fn_g ?_ (fun _=>hun _) ?_))|refine draw_end' (ps:=[(1,4)]) (by decide +kernel) (by simp only[List.forall_mem_cons,List.getD_cons_zero,List.getD_cons_succ,results37,ntmps37,wks,hat,ndC,hpl,hpi,k1,k2,plain_nd,plain_at,plain_pr,plain_no,Lm,vcs,seval,tys]<;>(try simp)<;>(try omega)) ?_|refine draw_end (by decide +kernel) ?_|((first|apply Ca|apply Cb)<;>intro hb)|refine Ai (by omega) ?_|(apply Ai<;>intro hb)
    (refine loop_can2 cxG (fun x:UnSt=>k.count-x.D.count) (fun x=>x.inv k p) (b0+16) (fun x=>[(0,.sl false 6 (v.map ndC)),(1,.int .i64 p),(5,.ptr b0 0 0),(6,.own (b0+1) 0 (⟨1,n.name,pairsL n.attrs,[]⟩::x.D.toks).length),(7,.sl false 1 (T.map noC)),(8,.int .i64 x.D.count)]) (fun x=>[(b0,⟨6,[ndC n]⟩),(b0+1,⟨4,(⟨1,n.name,pairsL n.attrs,[]⟩::x.D.toks).map tkC⟩)]) ((UnSt.mk .nil k (p+1))) [some (b0+80),some (b0+304)] ?_ ?_ ?_ ?_;rotate_left 1;(focus (show b0≤_;omega));(focus (refine⟨?_,?_⟩<;>(try simp only[cans,h1b,ndC,plain_nd,plain_no,plain_pr,plain_at,plain_tk,isRow_inst,leLL_same,Fo.toks,Fo.count,Lc,Lo,List.length_cons,List.length_nil,Lm,vcs,seval,tys,injs])<;>(try omega)));rotate_left 1)
    · exact⟨rfl,rfl⟩
    · rintro ⟨D,R,q⟩ ⟨hi1,hi2⟩
      simp only at hi1 hi2 ⊢
      obtain⟨L,hL⟩:∃ L,L=(⟨1,n.name,pairsL n.attrs,[]⟩:Tk)::D.toks:=⟨_,rfl⟩
      rw[← hL]
      have htk:(L.map tkC).take L.length=L.map tkC:=take_map_len _ _
      cases R with
      | nil =>
        rw[Fo.app_nil]at hi1
        subst hi1
        have hLl:L.length≤3001:=by rw[hL];simp;omega
        rw[← hL]at hZ hN
        have hZ':=hZ.symm
        have hZp:plainLL Z=true:=by rw[hZ,plainLL_append,plain_tk];rfl
        have hN':L.length+1=N:=hN.symm
        have d1:decide ((D.count:Int)<(T.length:Int))=false:=decide_eq_false (by omega)
        have d2:decide (D.count<T.length)=false:=decide_eq_false (by omega)
        ((repeat' first|simp only[fins,mems,results37,ntmps37,wks,d1,d2,htk,hZ',hZp,hN',ndC,plain_no,plain_tk,plainL,V.plain,plainLL_append,Bool.and_self,Lm,vcs,seval,tys]|exact rfl|refine call_off (v:=.any) ?_|refine draw_end' (ps:=[(1,4)]) (by decide +kernel) (by simp only[List.forall_mem_cons,List.getD_cons_zero,List.getD_cons_succ,results37,ntmps37,wks,d1,d2,htk,hZ',hZp,hN',ndC,plain_no,plain_tk,plainL,V.plain,plainLL_append,Bool.and_self,Lm,vcs,seval,tys]<;>(try simp)<;>(try omega)) ?_|refine draw_end (by decide +kernel) ?_|((first|apply Ca|apply Cb)<;>intro hb)|refine Ai (by omega) ?_|(apply Ai<;>intro hb));(all_goals (first|(refine Fin.auto (r:=?_) (l:=?_) ?_ ?_ ?_ ?_ ?_ ?_ ?_;rotate_left 1;(simp only[results37,ntmps37,envL_cons,envL_nil,memL_cons,memL_nil,d1,d2,htk,hZ',hZp,hN',ndC,plain_no,plain_tk,plainL,V.plain,plainLL_append,Bool.and_self,Lm,vcs,seval,tys]);(exact rfl);rotate_left 1;(simp only[V.owns,ownsL,List.cons_append,List.nil_append]);(exact rfl);all_goals (try simp only[results37,ntmps37,envL_cons,envL_nil,memL_cons,memL_nil,d1,d2,htk,hZ',hZp,hN',ndC,plain_no,plain_tk,plainL,V.plain,plainLL_append,Bool.and_self,Lm,ownx,vcs,seval,tys]);all_goals (try simp only[injs]))|skip)))
      | cons m c r =>
        have hi1':(D.app (.cons m c .nil)).app r=k:=by rw[Fo.app_assoc];exact hi1
        have hkc2:k.count=D.count+(r.count+1):=by rw[← hi1,Fo.app_count];rfl
        have hks2:k.size=D.size+(c.size+r.size+1):=by rw[← hi1,Fo.app_size];rfl
        have hdq:=part_drop hd1 hi1
        rw[← hi2]at hdq
        have hTq:=part_top hi1 p
        rw[hTd,← hi2]at hTq
        obtain⟨hat1,hil⟩:=noC_at hTq
        have hili:(D.count:Int)<(T.length:Int):=by omega
        have d1:decide ((D.count:Int)<(T.length:Int))=true:=decide_eq_true hili
        have d2:decide (D.count<T.length)=true:=decide_eq_true hil
        have w2:IntKind.i64.wrap ((D.count:Int)+1)=((D.count+1:Nat):Int):=wrap_in (by omega) (by omega)
        rw[← hi1]at ih
        have hrc:=(allF_app ih) q _ hdq
        have hct:=Fo.app_count D (.cons m c .nil)
        simp only[Fo.count,Nat.zero_add]at hct
        have hta:=Fo.toks_app D (.cons m c .nil)
        have hkt:k.toks=D.toks++((Fo.cons m c .nil).toks++r.toks):=by
          rw[← hi1',Fo.toks_app,hta,List.append_assoc]
        have hkl2:=congrArg List.length hkt
        simp only[List.length_append]at hkl2
        have hL2:(⟨1,n.name,pairsL n.attrs,[]⟩:Tk)::(D.app (.cons m c .nil)).toks=L++(Fo.cons m c .nil).toks:=by rw[hta,hL];rfl
        have hLl:L.length≤3001:=by rw[hL];simp;omega
        generalize (Fo.cons m c .nil).toks=X at hrc hta hkl2 hL2
        have hLX:L.map tkC++X.map tkC=(L++X).map tkC:=List.map_append.symm
        have hL2m:tkC ⟨1,n.name,pairsL n.attrs,[]⟩::(D.app (.cons m c .nil)).toks.map tkC=(L++X).map tkC:=by rw[← hL2];rfl
        have hL2l:(D.app (.cons m c .nil)).toks.length+1=L.length+X.length:=by have:=congrArg List.length hL2;simpa using this
        repeat' first|simp only[fins,mems,results37,ntmps37,wks,d1,d2,htk,hat1,hil,hili,one_tkL,ndC,noC,plain_nd,plain_no,plain_tk,Lm,vcs,seval,tys]|exact rfl|refine call_off (v:=.any) ?_|(first|(refine call_fn ?_ (hrc _) ?_)|(refine call_fn_g ?_ (fun _=>hrc _) ?_))|refine draw_end' (ps:=[(1,4)]) (by decide +kernel) (by simp only[List.forall_mem_cons,List.getD_cons_zero,List.getD_cons_succ,results37,ntmps37,wks,d1,d2,htk,hat1,hil,hili,one_tkL,ndC,noC,plain_nd,plain_no,plain_tk,Lm,vcs,seval,tys]<;>(try simp)<;>(try omega)) ?_|refine draw_end (by decide +kernel) ?_|((first|apply Ca|apply Cb)<;>intro hb)|refine Ai (by omega) ?_|(apply Ai<;>intro hb)
        all_goals ((refine again_can2 cxG (UnSt.mk (D.app (.cons m c .nil)) r (q+1+c.size)) [some b0,some (b0+192)] ?_ ?_ ?_ ?_;rotate_left 2;(focus (show b0≤_;omega));(focus (refine⟨?_,?_⟩<;>(try simp only[cans,w2,hct,hLX,hL2m,hL2l,ndC,plain_nd,plain_no,plain_tk,plain_at,isRow_inst,leLL_same,Lm,vcs,seval,tys,injs])<;>(try omega)))))
        all_goals (first|(show k.count-(D.app (.cons m c .nil)).count<k.count-D.count;omega)|(refine⟨hi1',?_⟩;simp only[Fo.app_size,Fo.size];omega)|skip)
  · rw[List.map_append]
    refine leLL_append ?_
    rw[show [(⟨2,n.name,[],[]⟩:Tk)].map tkC=[[.int .u8 2,.str n.name,.sl false 2 [],.str []]] from rfl]
    simp only[leLL_cons,leL_cons,leL_nil,le_int,le_str,le_nils_sl,leLL,and_self]
theorem told_all (v:List Nd)(hv:v.length≤1000)(hok:∀ n∈v,n.okTo lim):∀(F:Fo) (d last:Nat),d≤12→F.good d last=true→AllF (TldOk v) F
 | .nil,_,_,_,_=>trivial
 | .cons n k r,d,last,hd,hg=>by
  obtain⟨h1,h2,h3,h4,h5,h6⟩:=Fo.good_cons.1 hg
  refine⟨?_,told_all v hv hok r d n.kind hd h6⟩
  have ha:=(mayN_attrs h1).1
  by_cases hk:n.kind=2
  ·have:=Fo.text_leaf hg hk
   subst this
   exact told_text v n hk
  ·by_cases hm:n.many=0
   ·have hkn:k = .nil:=by
     cases k with
     | nil=>rfl
     | cons _ _ _=>simp[Fo.count]at h2;omega
    subst hkn
    exact told_leaf v n hk hm (by omega)
   ·exact told_elem v hv hok n k hk hm (by omega) d hd (Fo.good_cons.2 ⟨h1,h2,by omega,h4,h5,rfl⟩) (told_all v hv hok k (d-1) 1 (by omega) h5)
theorem rTokens_ev (v:List Nd)(hv:v.length≤1000)(hok:∀ n∈v,n.okTo lim)(nm:Nat):Ev cx 12 nm [.sl false 6 (v.map ndC)] Mem.nil (tokV (toksU v).1 (toksU v).2) []:=by
 have hm:=rMayV_ev v (by omega) hok
 have hs:=rSpc10_ev v (by omega) hok
 unfold tokV
 by_cases hc:checkB v=0
 ·obtain⟨n,k,hk,hvv,hg,hl⟩:=tree_ofB hc
  have hmt:mayT v=true:=decide_eq_true hc
  rw[hmt]at hm
  unfold toksU
  rw[if_neg (by simp[hc])]
  cases hsp:spacedL v with
  | true =>
   rw[hsp]at hs
   simp only[if_true,Lo]
   refine ev_go rfl (fun cargs w=>call12 cargs w) func12 rfl mixed (by kernel_rfl) rfl ?_;intro b0 hb0
   (repeat' first|simp only[fins,mems,results12,ntmps12,wks,plain_nd,Bt,Bf,vcs,seval,tys]|exact rfl|refine call_off (v:=.any) ?_|(first|(refine call_fn ?_ (hm _) ?_)|(refine call_fn_g ?_ (fun _=>hm _) ?_)|(refine call_fn ?_ (hs _) ?_)|(refine call_fn_g ?_ (fun _=>hs _) ?_))|((first|apply Ca|apply Cb)<;>intro hb)|refine Ai (by omega) ?_|(apply Ai<;>intro hb)|refine Fin.pure ?_ ?_ ?_|simp only[injs])
  | false =>
   rw[hsp]at hs
   have hf:foOf v = .cons n k .nil:=by rw[hvv];exact foOf_of hg
   have ht:=(told_all v hv hok (.cons n k .nil) 12 0 (Nat.le_refl _) hg).1 0 [] (by rw[List.drop_zero,List.append_nil];exact hvv)
   simp only[Int.ofNat_zero]at ht
   rw[hf]
   simp only[Bool.false_eq_true,if_false]
   have hpl:=plain_tk (Fo.cons n k .nil).toks
   have hle:(Fo.cons n k .nil).toks.length≤3000:=by
    rw[Fo.toks_length hg]
    have:=List.length_filter_le (fun n:Nd=>decide (0<n.many)) (Fo.cons n k .nil).flat
    rw[Fo.flat_length]at this
    simp only[Fo.size]at this ⊢
    omega
   generalize (Fo.cons n k .nil).toks=T at ht hpl hle ⊢
   by_cases h5:512<T.length
   ·have d1:decide ((512:Int)<(T.length:Int))=true:=decide_eq_true (by omega)
    have d2:decide (512<T.length)=true:=decide_eq_true h5
    rw[if_pos h5]
    simp only[Lo]
    refine ev_go rfl (fun cargs w=>call12 cargs w) func12 rfl mixed (by kernel_rfl) rfl ?_;intro b0 hb0
    (repeat' first|simp only[fins,mems,results12,ntmps12,wks,d1,d2,hpl,plain_nd,Bt,Bf,Lm,vcs,seval,tys]|exact rfl|refine call_off (v:=.any) ?_|(first|(refine call_fn ?_ (hm _) ?_)|(refine call_fn_g ?_ (fun _=>hm _) ?_)|(refine call_fn ?_ (hs _) ?_)|(refine call_fn_g ?_ (fun _=>hs _) ?_)|(refine call_fn ?_ (ht _) ?_)|(refine call_fn_g ?_ (fun _=>ht _) ?_))|((first|apply Ca|apply Cb)<;>intro hb)|refine Ai (by omega) ?_|(apply Ai<;>intro hb)|refine Fin.pure ?_ ?_ ?_|simp only[injs])
   ·have d1:decide ((512:Int)<(T.length:Int))=false:=decide_eq_false (by omega)
    have d2:decide (512<T.length)=false:=decide_eq_false h5
    rw[if_neg h5]
    refine ev_go rfl (fun cargs w=>call12 cargs w) func12 rfl mixed (by kernel_rfl) rfl ?_;intro b0 hb0
    (repeat' first|simp only[fins,mems,results12,ntmps12,wks,d1,d2,hpl,plain_nd,Bt,Bf,Lm,vcs,seval,tys]|exact rfl|refine call_off (v:=.any) ?_|(first|(refine call_fn ?_ (hm _) ?_)|(refine call_fn_g ?_ (fun _=>hm _) ?_)|(refine call_fn ?_ (hs _) ?_)|(refine call_fn_g ?_ (fun _=>hs _) ?_)|(refine call_fn ?_ (ht _) ?_)|(refine call_fn_g ?_ (fun _=>ht _) ?_))|((first|apply Ca|apply Cb)<;>intro hb)|refine Ai (by omega) ?_|(apply Ai<;>intro hb)|refine Fin.pure ?_ ?_ ?_|simp only[injs])
 ·have hmt:mayT v=false:=decide_eq_false hc
  rw[hmt]at hm
  unfold toksU
  rw[if_pos hc]
  simp only[Lo]
  refine ev_go rfl (fun cargs w=>call12 cargs w) func12 rfl mixed (by kernel_rfl) rfl ?_;intro b0 hb0
  (repeat' first|simp only[fins,mems,results12,ntmps12,wks,plain_nd,Bt,Bf,vcs,seval,tys]|exact rfl|refine call_off (v:=.any) ?_|(first|(refine call_fn ?_ (hm _) ?_)|(refine call_fn_g ?_ (fun _=>hm _) ?_))|(refine call_off (v:=.any) ?_)|((first|apply Ca|apply Cb)<;>intro hb)|refine Ai (by omega) ?_|(apply Ai<;>intro hb)|refine Fin.pure ?_ ?_ ?_|simp only[injs])
theorem rTwin_own (v:List Nd)(hv:v.length≤1000)(ha:∀ n∈v,n.attrs.length≤1000)(nm:Nat):Ev cx 6 nm [.sl false 6 (v.map ndC)] Mem.nil (.own nm 0 v.length) [(nm,some ⟨6,v.map ndC⟩)]:=by
 refine ev_go rfl (fun cargs w=>call6 cargs w) func6 rfl mixed (by kernel_rfl) rfl ?_;intro b0 hb0
 repeat' first|simp only[fins,mems,results6,ntmps6,wks,vcs,seval,tys]|exact rfl|refine call_off (v:=.any) ?_|((first|apply Ca|apply Cb)<;>intro hb)|refine Ai (by omega) ?_|(apply Ai<;>intro hb)
 (refine loop_can2F cxG (fun x:Nat=>v.length-x) (fun x=>x≤v.length) (b0+16) (fun x=>[(0,.sl false 6 (v.map ndC)),(3,.own b0 0 x),(4,.int .i64 x)]) (fun x=>[(b0,⟨6,(v.take x).map ndC⟩)]) (0) [none] ?_ ?_ ?_ ?_;rotate_left 1;(focus (show b0≤_;omega));(focus (refine⟨?_,?_⟩<;>(try simp only[cans,canfs,plain_nd,isRow_inst,List.take_zero,Lo,List.length_nil,Lm,vcs,seval,tys,injs])<;>(try omega)));rotate_left 1)
 ·exact Nat.zero_le _
 ·intro k hk
  by_cases hlt:k<v.length
  ·obtain⟨x,hx⟩:∃ x,v[k]? = some x:=⟨_,List.getElem?_eq_getElem hlt⟩
   have hat:=nd_at hx
   have hxa:=ha x (List.mem_of_getElem? hx)
   have d1:decide ((k:Int)<(v.length:Int))=true:=decide_eq_true (by omega)
   have d2:decide (k<v.length)=true:=decide_eq_true hlt
   have hki:(k:Int)<(v.length:Int):=by omega
   have hwk:IntKind.i64.wrap ((k:Int)+1)=((k+1:Nat):Int):=wrap_in (by omega) (by omega)
   have hkl:(v.take k).length=k:=by rw[List.length_take];omega
   have htk:((v.take k).map ndC).take k=(v.take k).map ndC:=List.take_of_length_le (by rw[Lm,hkl];omega)
   have hta:(x.attrs.map atC).take x.attrs.length=x.attrs.map atC:=take_map_len _ _
   have hsn:(v.take (k+1)).map ndC=(v.take k).map ndC++[ndC x]:=by
    obtain⟨h1,h2⟩:=List.getElem?_eq_some_iff.1 hx
    rw[List.take_succ_eq_append_getElem h1,h2];simp
   repeat' first|simp only[fins,mems,results6,ntmps6,wks,plain_nd,plain_at,hat,ndC,hlt,hki,d1,d2,hwk,htk,hkl,hta,one_atL,List.nil_append,List.length_nil,Nat.zero_add,Lm,vcs,seval,tys]|exact rfl|refine call_off (v:=.any) ?_|((first|apply Ca|apply Cb)<;>intro hb)|refine Ai (by omega) ?_|(apply Ai<;>intro hb)
   all_goals ((refine again_can2F cxG (k+1) [some (b0+320)] ?_ ?_ ?_ ?_;rotate_left 2;(focus (show b0≤_;omega));(focus (refine⟨?_,?_⟩<;>(try simp only[cans,canfs,hwk,hsn,htk,hkl,hta,ndC,isRow_inst,plain_nd,plain_at,finLL_append,finLL_plain _ _ (plain_nd _),finLLOk_append,finLLOk_plain _ _ (plain_nd _),leLL_snoc,leLL_same,List.length_append,List.length_cons,List.length_nil,Lm,vcs,seval,tys,injs])<;>(try omega)))))
   all_goals (first|(show v.length-(k+1)<v.length-k;omega)|exact hlt|skip)
  ·have hkm:k=v.length:=by omega
   subst hkm
   have d1:decide ((v.length:Int)<(v.length:Int))=false:=decide_eq_false (by omega)
   have d2:decide (v.length<v.length)=false:=decide_eq_false (by omega)
   ((repeat' first|simp only[fins,mems,results6,ntmps6,wks,d1,d2,plain_nd,List.take_length,Lm,vcs,seval,tys]|exact rfl|refine call_off (v:=.any) ?_|((first|apply Ca|apply Cb)<;>intro hb)|refine Ai (by omega) ?_|(apply Ai<;>intro hb));(all_goals (first|(refine Fin.auto (r:=?_) (l:=?_) ?_ ?_ ?_ ?_ ?_ ?_ ?_;rotate_left 1;(simp only[results6,ntmps6,envL_cons,envL_nil,memL_cons,memL_nil,d1,d2,plain_nd,List.take_length,Lm,vcs,seval,tys]);(exact rfl);rotate_left 1;(simp only[V.owns,ownsL,List.cons_append,List.nil_append]);(exact rfl);all_goals (try simp only[results6,ntmps6,envL_cons,envL_nil,memL_cons,memL_nil,d1,d2,plain_nd,List.take_length,Lm,ownx,vcs,seval,tys]);all_goals (try simp only[injs]))|skip)))
theorem rTwin_fz (v:List Nd)(hv:v.length≤1000)(ha:∀ n∈v,n.attrs.length≤1000)(nm:Nat):Ev cx 6 nm [.sl false 6 (v.map ndC)] Mem.nil (.sl false 6 (v.map ndC)) []:=by
 have hpl:=plain_nd v
 have htk:(v.map ndC).take v.length=v.map ndC:=take_map_len _ _
 refine Ev.freeze (rTwin_own v hv ha nm) ?_ ?_
 ·simp only[fins,mems,wks,hpl,htk,Lm,vcs,seval,tys]<;>omega
 ·simp only[fins,mems,wks,hpl,htk,Lm,vcs,seval,tys]
theorem atG (L:Nat)(_hL:True):L=0 ∨ ∃ cs,(cx.at L).G (L-1) = .rp cs:=by
 rcases Nat.eq_zero_or_pos L with h0|h0
 ·exact .inl h0
 refine .inr ⟨[],?_⟩
 show(if L-1+1=L then V.rp [] else V.any)=V.rp []
 rw[if_pos (by omega)]
theorem cyG (L:Nat):∀ g,((cx.at L).G g).plain=true:=Cx.at_plain cxG L
def ndE (L:Nat)(n:Nd):List V:=[.int .u8 n.kind,.str n.space,.str n.name,.ys L 3 (n.attrs.map atC),.str n.text,.int .i64 n.many]
theorem plain_ndE (L:Nat)(n:Nd):plainL (ndE L n)=true:=by
 simp only[ndE,plainL,V.plain,plain_at,Bool.and_self]
def isSl:Value→Bool
 | .slice _ _ _=>true
 | _=>false
structure Spo (L U:Nat) (w0 w:World):Prop where
 size:w.heap.size=w0.heap.size
 os:w.os=w0.os
 tape:w.tape=w0.tape
 output:w.output=w0.output
 out:∀ b,(b<L∨U≤b)→w.heap[b]? = w0.heap[b]?
 fro:∀ a,w.frozen? a=w0.frozen? a
 sl:∀ a v,w0.cell? a=some v→isSl v=true→w.cell? a=some v
 ot:∀ a v,w0.cell? a=some v → ∃ v',w.cell? a=some v'
theorem Spo.refl (L U:Nat)(w:World):Spo L U w w:=⟨rfl,rfl,rfl,rfl,fun _ _=>rfl,fun _=>rfl,fun _ _ h _=>h,fun _ v h=>⟨v,h⟩⟩
theorem heap_setCell (w:World)(b p x:Nat)(v:Value)(h:x≠b):(w.setCell ⟨b,p,none⟩ v).heap[x]? = w.heap[x]?:=by
 simp only[World.setCell,Array.getElem?_modify]
 rw[if_neg (fun e=>h e.symm)]
theorem Spo.store {L U:Nat}{w0 w:World}(h:Spo L U w0 w){b p:Nat}{v x:Value}(h1:L≤b)(h2:b<U)(hc:w0.cell? ⟨b,p,none⟩=some v)(hv:isSl v=false):Spo L U w0 (w.setCell ⟨b,p,none⟩ x) where
 size:=by rw[World.size_setCell];exact h.size
 os:=h.os
 tape:=h.tape
 output:=h.output
 out:=fun y hy=>by rw[heap_setCell _ _ _ _ _ (by omega)];exact h.out y hy
 fro:=fun a=>by rw[World.frozen?_setCell];exact h.fro a
 sl:=fun a u hu hs=>by
  by_cases e:(⟨b,p,none⟩:Addr)=a
  ·subst e;rw[hc]at hu;cases hu;rw[hv]at hs;cases hs
  ·rw[World.cell?_setCell_other (h:=e)];exact h.sl a u hu hs
 ot:=fun a u hu=>by
  obtain⟨v',hv'⟩:=h.ot a u hu
  exact cell?_setCell_some hv'
def SpTree (f1 f2 L U:Nat)(w:World)(b o n:Nat):Prop :=
 ∀ i,i<n→L≤b∧b<U∧(∃ v,w.cell? ⟨b,o+i*6+f1,none⟩=some v∧isSl v=false)∧w.frozen? ⟨b,o+i*6+f1,none⟩=false ∧
  ∃ A m c,w.cell? ⟨b,o+i*6+3,none⟩=some (.slice A m c)∧m≤1000000 ∧ ∀ k,k<m → ∃ b' o',A=some ⟨b',o',none⟩∧L≤b'∧b'<U∧w.frozen? ⟨b',o'+k*3+f2,none⟩=false ∧ ∃ v,w.cell? ⟨b',o'+k*3+f2,none⟩=some v∧isSl v=false
def noN:Names:=fun _=>none
def noD:Nat→Prop:=fun _=>False
def Fz (w:World)(v:V)(cv:Value):Prop:=Is noN noD w v cv
structure Grows (w w':World):Prop where
 size:w.heap.size≤w'.heap.size
 os:w'.os=w.os
 tape:w'.tape=w.tape
 output:w'.output=w.output
 keep:∀ b,b<w.heap.size→w'.heap[b]? = w.heap[b]?
theorem Grows.refl (w:World):Grows w w:=⟨Nat.le_refl _,rfl,rfl,rfl,fun _ _=>rfl⟩
theorem Grows.trans {a b c:World}(h:Grows a b)(g:Grows b c):Grows a c:=⟨Nat.le_trans h.size g.size,g.os.trans h.os,g.tape.trans h.tape,g.output.trans h.output,fun x hx=>(g.keep x (Nat.lt_of_lt_of_le hx h.size)).trans (h.keep x hx)⟩
theorem Fz.grow {w w':World}{v:V}{cv:Value}(h:Fz w v cv)(g:Grows w w'):Fz w' v cv:=Is.step (fun _ _ h=>h) g.size (fun b hb _=>g.keep b hb) (fun _ _ h=>h) h
section
variable {c:Cx} {f:FuncId} {args:List V} {v:V} {w:World} {cargs:Array Value}
theorem ev_pure (h:Ev c f 0 args Mem.nil v [])(hv:v.plain=true)(hcall:(callFunc f cargs).run c.P w = .ok (.enter f cargs) w)(hG:∀ g,Fz w (c.G g) (.pointer (some ⟨g,0,none⟩)))(hn:args.length=cargs.size)
  (ha:∀(i:Nat) (u:V) (cv:Value),args[i]? = some u→cargs[i]? = some cv→Fz w u cv):Calls c.P f cargs w fun e w'=>∃ cv,e = .returned cv∧Fz w' v cv∧Grows w w':=by
 have hd:∀ b,Dom noD noN Mem.nil b→False:=by
  rintro b (h|⟨_,_,h,_⟩)
  ·exact h
  ·cases h
 have up:∀ {u:V} {cv:Value},Fz w u cv→Is noN (Dom noD noN Mem.nil) w u cv:=fun hu=>Is.step (fun _ _ h=>h) (Nat.le_refl _) (fun _ _ _=>rfl) (fun b _ hb=>(hd b hb).elim) hu
 have hr:Rel c.G noD w (Blocks noN Mem.nil) noN Mem.nil w:=⟨Nat.le_refl _,rfl,rfl,rfl,fun _ _ _=>rfl,fun _ _ h=>(by cases h),fun _ _ _ _ h=>(by cases h),fun _ h=>h.elim,fun g=>up (hG g)⟩
 refine((h.2 noD w noN cargs 0 hr (fun _ _=>rfl) (fun _ _=>⟨rfl,rfl⟩) hn (fun i u cv hi hc=>up (ha i u cv hi hc))).calls hcall).mono ?_
 rintro e w' ⟨cv,rfl,ρ',r,m,hvv,_⟩
 exact⟨cv,rfl,hvv.plain (Nat.le_refl _) (fun _ _ _=>rfl) (fun _ _ h=>h.elim) hv,m.size,m.os,m.tape,m.output,fun b hb=>m.kept b hb (fun _ _ h=>(by cases h))⟩
theorem ev_pureB {b:Bool}(h:Ev c f 0 args Mem.nil (.bool b) [])(hcall:(callFunc f cargs).run c.P w = .ok (.enter f cargs) w)(hG:∀ g,Fz w (c.G g) (.pointer (some ⟨g,0,none⟩)))(hn:args.length=cargs.size)
  (ha:∀(i:Nat) (u:V) (cv:Value),args[i]? = some u→cargs[i]? = some cv→Fz w u cv):Calls c.P f cargs w fun e w'=>e = .returned (.bool b)∧Grows w w':=by
 refine(ev_pure h rfl hcall hG hn ha).mono ?_
 rintro e w' ⟨cv,rfl,hv,g⟩
 cases hv
 exact⟨rfl,g⟩
theorem ev_pureI {k:IntKind}{b:Int}(h:Ev c f 0 args Mem.nil (.int k b) [])(hcall:(callFunc f cargs).run c.P w = .ok (.enter f cargs) w)(hG:∀ g,Fz w (c.G g) (.pointer (some ⟨g,0,none⟩)))(hn:args.length=cargs.size)
  (ha:∀(i:Nat) (u:V) (cv:Value),args[i]? = some u→cargs[i]? = some cv→Fz w u cv):Calls c.P f cargs w fun e w'=>e = .returned (.int k b)∧Grows w w':=by
 refine(ev_pure h rfl hcall hG hn ha).mono ?_
 rintro e w' ⟨cv,rfl,hv,g⟩
 cases hv
 exact⟨rfl,g⟩
theorem ev_pureT {k:IntKind}{b:Int}{u:V}(h:Ev c f 0 args Mem.nil (.tup [u,.int k b]) [])(hu:u.plain=true)(hcall:(callFunc f cargs).run c.P w = .ok (.enter f cargs) w)(hG:∀ g,Fz w (c.G g) (.pointer (some ⟨g,0,none⟩)))(hn:args.length=cargs.size)
    (ha:∀(i:Nat) (u:V) (cv:Value),args[i]? = some u→cargs[i]? = some cv→Fz w u cv):Calls c.P f cargs w fun e w'=>∃ x,e = .returned (.tuple #[x,.int k b])∧Fz w' u x∧Grows w w':=by
  refine(ev_pure h (by simp only[V.plain,plainL,hu,Bool.and_self]) hcall hG hn ha).mono ?_
  rintro e w' ⟨cv,rfl,hv,g⟩
  cases hv with
  | tup hn hu =>
    rename_i cvs
    match cvs,hn,hu with
    |⟨[x,y]⟩,_,hu =>
      have h1:=hu 1 _ y rfl rfl
      cases h1
      exact⟨x,rfl,hu 0 _ x rfl rfl,g⟩
end
theorem glob_any (w:World)(g:Nat):Fz w (cx.G g) (.pointer (some ⟨g,0,none⟩)):=.any _
theorem glob_at {L:Nat}{w:World}(h:L≤w.heap.size)(g:Nat):Fz w ((cx.at L).G g) (.pointer (some ⟨g,0,none⟩)):=by
 show Is noN noD w (if g+1=L then V.rp [] else V.any) _
 split
 ·exact .rp (fun _=>undef) (fun h=>h) (by omega) (fun j u hj=>by cases hj) (fun j u hj=>by cases hj)
 ·exact .any _
theorem frozen_no {w:World}{b p q:Nat}(h:∃ cs t fz,w.heap[b]? = some (.cells cs t fz) ∧ ∀ p,p<q → ¬(fz.1≤p∧p<fz.2))(hp:p<q):w.frozen? ⟨b,p,none⟩=false:=by
 obtain⟨cs,t,⟨f1,f2⟩,h1,h2⟩:=h
 have:=h2 p hp
 simp only[World.frozen?,h1,Bool.and_eq_false_iff,decide_eq_false_iff_not]
 simp only at this
 omega
theorem cell_same {w w':World}{b p:Nat}(h:w'.heap[b]? = w.heap[b]?):w'.cell? ⟨b,p,none⟩=w.cell? ⟨b,p,none⟩:=World.cell?_of_block h
theorem frozen_same {w w':World}{b p:Nat}(h:w'.heap[b]? = w.heap[b]?):w'.frozen? ⟨b,p,none⟩=w.frozen? ⟨b,p,none⟩:=by
 simp only[World.frozen?,h]
theorem SpTree.keep {f1 f2 L U b o n:Nat}{w w':World}(h:SpTree f1 f2 L U w b o n)(hk:∀ b,L≤b→b<U→w'.heap[b]? = w.heap[b]?):SpTree f1 f2 L U w' b o n:=by
 intro i hi
 obtain⟨t1,t2,t3,t5,A,m,cA,t6,t7,t8⟩:=h i hi
 have hb:=hk b t1 t2
 refine⟨t1,t2,by rw[cell_same hb];exact t3,by rw[frozen_same hb];exact t5,A,m,cA,by rw[cell_same hb];exact t6,t7,fun k hkm=>?_⟩
 obtain⟨b',o',e,a1,a2,a3,a4⟩:=t8 k hkm
 have hb':=hk b' a1 a2
 exact⟨b',o',e,a1,a2,by rw[frozen_same hb'];exact a3,by rw[cell_same hb'];exact a4⟩
end Go.Proofs.Ytfcfldmioonipaa
