/-
 Texts joined: XSu.
-/
import Derived.Test.YtjdjclecdfhciaaGreatDoorQw
namespace Go.Proofs.YtjdjclecdfhciaaGreatDoor
set_option maxRecDepth 100000
set_option maxHeartbeats 32000000
set_option linter.unusedSimpArgs false
set_option linter.unusedVariables false
open Go Go.RowKit Vm Go.Lib Go.Proofs.Tryz
open Vm renaming cond_bool→Ca,cond_bit→Cb
open And renaming intro→Ai
open List renaming length_map→Lm,not_mem_nil→Ln,map_nil→Lo,map_cons→Lc,mem_cons→Lk
open Bool renaming not_false→Bf,not_true→Bt
theorem pairs_fit {n:Nd}{K:Nat}(h:n.okTo K)(h30:n.attrs.length≤30)(k:Nat):(⟨k,n.name,pairsL n.attrs,[]⟩:Tk).okTo K∧(pairsL n.attrs).length≤30:=by
 obtain⟨h1,h2,h3,h4,h5⟩:=h
 have hl:(pairsL n.attrs).length=n.attrs.length:=by simp[pairsL]
 refine⟨⟨by rw[hl];exact h1,h3,by simp,fun a ha=>?_⟩,by omega⟩
 simp only[pairsL,List.mem_map]at ha
 obtain⟨b,hb,rfl⟩:=ha
 exact⟨(h5 b hb).2.1,(h5 b hb).2.2⟩
theorem Fo.toks_fit {K:Nat} : ∀(F:Fo),(∀ x∈F.flat,x.okTo K∧x.attrs.length≤30) → ∀ t∈F.toks,t.okTo K∧t.attrs.length≤30
 | .nil,_=>fun t ht=>by simp[Fo.toks]at ht
 | .cons n k r,h=>fun t ht=>by
  have hn:=h n (by simp[Fo.flat])
  have hk:=Fo.toks_fit k (fun x hx=>h x (by simp[Fo.flat,hx]))
  have hr:=Fo.toks_fit r (fun x hx=>h x (by simp[Fo.flat,hx]))
  simp only[Fo.toks,List.mem_append]at ht
  rcases ht with ht|ht
  ·split at ht
   ·simp only[List.mem_singleton]at ht
    subst ht
    exact⟨⟨by simp,by simp,hn.1.2.2.2.1,by simp⟩,by simp⟩
   ·split at ht
    ·simp only[List.mem_singleton]at ht
     subst ht
     exact pairs_fit hn.1 hn.2 3
    ·simp only[Lk,List.mem_append,Ln,or_false]at ht
     rcases ht with rfl|ht|rfl
     ·exact pairs_fit hn.1 hn.2 1
     ·exact hk t ht
     ·exact⟨⟨by simp,hn.1.2.2.1,by simp,by simp⟩,by simp⟩
  ·exact hr t ht
structure BackT (v:List Nd) (T:List Tk) (E:Int):Prop where
 toks:∀ nm,Ev cx 23 nm [.sl false 6 (v.map ndC)] Mem.nil (.tup [.sl false 4 (T.map tkC),.int .i64 E]) []
 parse:E=0 → ∀ nm,Ev cx 24 nm [.sl false 4 (T.map tkC)] Mem.nil (.tup [.sl false 6 (v.map ndC),.int .i64 0]) []
 same:∀ nm,Ev cx 25 nm [.sl false 6 (v.map ndC),.sl false 6 (v.map ndC)] Mem.nil (.bool true) []
 check:E=0 → ∀ nm,Ev cx 26 nm [.sl false 6 (v.map ndC)] Mem.nil (.int .i64 0) []
theorem back_same {v:List Nd}(hv:v.length≤lim)(hok:∀ x∈v,x.okTo lim)(nm:Nat):Ev cx 25 nm [.sl false 6 (v.map ndC),.sl false 6 (v.map ndC)] Mem.nil (.bool true) []:=by
 have h:=sameT_ev v v hv hv (fun t ht=>(hok t ht).1) (fun t ht=>(hok t ht).1) nm
 rwa[decide_eq_true rfl]at h
theorem back_tree {v:List Nd}{en:List Nat}(hbo:behindO v=some en)(hok:∀ x∈v,x.okTo 1000000∧x.i64∧x.attrs.length≤30):∃ n k,v=n::k.flat∧(Fo.cons n k .nil).good 12 0=true∧BackT v (toksT n k) (toksE n k):=by
 obtain⟨n,k,h1,h2,h3,h4,h5⟩:=tree_of hbo
 have hl:∀ x∈v,x.okTo lim∧x.i64:=fun x hx=>⟨okTo_nd (hok x hx).1 (by unfold lim;omega),(hok x hx).2.1⟩
 have hvl:v.length≤lim:=by unfold lim;omega
 have ht:=tokens_fz n k h1 h3 h4 (by rw[← h2];exact hl)
 rw[← h2]at ht
 have hfl:(Fo.cons n k .nil).flat=v:=by rw[h2];simp[Fo.flat]
 refine⟨n,k,h2,h3,ht,fun hE=>?_,back_same hvl (fun x hx=>(hl x hx).1),fun hE=>?_⟩
 ·have hT:toksT n k=(Fo.cons n k .nil).toks:=by unfold toksT;rw[if_pos hE]
  rw[hT]
  unfold toksE at hE
  split at hE
  ·cases hE
  ·rename_i hs
   split at hE
   ·cases hE
   ·rename_i h512
    have hfit:=Fo.toks_fit (Fo.cons n k .nil) (K:=1000000) (by rw[hfl];exact fun x hx=>⟨(hok x hx).1,(hok x hx).2.2⟩)
    obtain⟨p1,p2⟩:=parse_toks h1 h3 (by simpa using hs) (by omega)
    have hp:=parse_fz (Fo.cons n k .nil).toks (by omega) hfit
    rw[p1,p2,← h2]at hp
    exact hp
 ·have hc:=checkT_ev v hvl hl
  unfold checkB at hc
  rw[hbo]at hc
  exact hc
theorem back_no {v:List Nd}(hbo:behindO v=none)(hv:v.length≤lim)(hok:∀ x∈v,x.okTo lim∧x.i64):BackT v [] 8 :=
 ⟨tokens_nofz v hv hok hbo,fun h=>absurd h (by decide),back_same hv (fun x hx=>(hok x hx).1),fun h=>absurd h (by decide)⟩
theorem back_any {v:List Nd}(hv:v.length≤1000000)(hok:∀ x∈v,x.okTo 1000000∧x.i64∧x.attrs.length≤30):∃ T E,BackT v T E:=by
 cases hbo:behindO v with
 | none=>exact⟨[],8,back_no hbo (by unfold lim;omega) (fun x hx=>⟨okTo_nd (hok x hx).1 (by unfold lim;omega),(hok x hx).2.1⟩)⟩
 | some en=>
  obtain⟨n,k,_,_,h⟩:=back_tree hbo hok
  exact⟨_,_,h⟩
theorem back_parsed {s:List UInt8}(hs:s.length≤16384)(h:(parseA s).2=0):∃ T,BackT (parseA s).1 T 0:=by
 obtain⟨hf1,hf2⟩:=parseA_fit hs
 unfold parseA at h hf1 hf2 ⊢
 split at h
 ·rename_i hx
  exact absurd h (by simpa using hx)
 ·rename_i hx
  rw[if_neg hx]at hf1 hf2 ⊢
  simp only at h hf1 hf2 ⊢
  obtain⟨n,k,h1,h2,h3,h4,h5,h6⟩:=parse_good h
  have hlen:=Fo.size_toks h3
  simp only[Fo.size,Nat.add_zero]at hlen
  have hbo:=behind_of (Nat.le_refl _) h1 h3 (by omega)
  rw[← h2]at hbo
  obtain⟨n2,k2,q1,q2,hb⟩:=back_tree hbo (fun x hx=>⟨(hf2 x hx).1,(hf2 x hx).2,by have:=(mayN_attrs (ends_may hbo x hx)).1;omega⟩)
  have he:n::k.flat=n2::k2.flat:=by rw[← h2,← q1]
  refine⟨toksT n2 k2,?_⟩
  have hE:toksE n2 k2=0:=by
   unfold toksE
   have hl2:=Fo.toks_length h3
   have hl3:=Fo.toks_length q2
   have hfl:(Fo.cons n k .nil).flat=(Fo.cons n2 k2 .nil).flat:=by simpa [Fo.flat] using he
   have hsz:(Fo.cons n k .nil).size=(Fo.cons n2 k2 .nil).size:=by rw[← Fo.flat_length,← Fo.flat_length,hfl]
   rw[hfl,hsz]at hl2
   rw[if_neg (by rw[← he];simp[h4]),if_neg (by omega)]
  rwa[hE]at hb
theorem treeBack_main (v:List Nd)(s:List UInt8)(hv:v.length≤lim)(hok:∀ x∈v,x.okTo lim∧x.i64)(hsl:s.length≤lim)(nm:Nat):Ev cx 5 nm [.sl false 6 (v.map ndC),.str s] Mem.nil (.bool true) []:=by
 have hgr:=great10_ev v 100 2000 (by omega) (by omega) hv (fun x hx=>(hok x hx).1)
 have hal:=alive10_ev
 cases hg:greatV v 100 2000 with
 | true =>
  rw[hg]at hgr
  refine ev_go rfl (fun cargs w=>call5 cargs w) func5 rfl mixed (by kernel_rfl) rfl ?_;intro b0 hb0
  (repeat' first|simp only[fins,mems,results5,ntmps5,wks,plain_nd,vcs,seval,tys]|exact rfl|refine call_off (v:=.any) ?_|(first|(refine call_fn ?_ (hal _) ?_)|(refine call_fn_g ?_ (fun _=>hal _) ?_)|(refine call_fn ?_ (hgr _) ?_)|(refine call_fn_g ?_ (fun _=>hgr _) ?_))|((first|apply Ca|apply Cb)<;>intro hb)|refine Ai (by omega) ?_|(apply Ai<;>intro hb)|refine Fin.pure ?_ ?_ ?_|simp only[injs])
 | false =>
  rw[hg]at hgr
  obtain⟨hv1,hv2⟩:=great_small10 (by omega) (by omega) hg
  by_cases hs2:2000<s.length
  ·have d1:decide (2000<s.length)=true:=decide_eq_true hs2
   have d2:decide ((2000:Int)<(s.length:Int))=true:=decide_eq_true (by omega)
   refine ev_go rfl (fun cargs w=>call5 cargs w) func5 rfl mixed (by kernel_rfl) rfl ?_;intro b0 hb0
   (repeat' first|simp only[fins,mems,results5,ntmps5,wks,d1,d2,plain_nd,vcs,seval,tys]|exact rfl|refine call_off (v:=.any) ?_|(first|(refine call_fn ?_ (hal _) ?_)|(refine call_fn_g ?_ (fun _=>hal _) ?_)|(refine call_fn ?_ (hgr _) ?_)|(refine call_fn_g ?_ (fun _=>hgr _) ?_))|((first|apply Ca|apply Cb)<;>intro hb)|refine Ai (by omega) ?_|(apply Ai<;>intro hb)|refine Fin.pure ?_ ?_ ?_|simp only[injs])
  ·have d1:decide (2000<s.length)=false:=decide_eq_false hs2
   have d2:decide ((2000:Int)<(s.length:Int))=false:=decide_eq_false (by omega)
   obtain⟨T,E,hb⟩:=back_any (v:=v) (by omega) (fun x hx=>⟨okTo_nd (hv2 x hx).2.1 (by omega),(hok x hx).2,(hv2 x hx).1⟩)
   obtain⟨ht1,hp1,hs1,hc1⟩:=hb
   have hpa:=parse10_ev s (by omega)
   unfold treeV at hpa
   by_cases hE:E=0
   ·replace hp1:=hp1 hE
    replace hc1:=hc1 hE
    subst hE
    by_cases hF:(parseA s).2=0
    ·obtain⟨T2,ht2,hp2,hs2,hc2⟩:=back_parsed (by omega) hF
     have hp2:=hp2 rfl
     have hc2:=hc2 rfl
     rw[hF]at hpa
     refine ev_go rfl (fun cargs w=>call5 cargs w) func5 rfl mixed (by kernel_rfl) rfl ?_;intro b0 hb0
     (repeat' first|simp only[fins,mems,results5,ntmps5,wks,d1,d2,plain_nd,plain_tk,Bt,Bf,vcs,seval,tys]|exact rfl|refine call_off (v:=.any) ?_|((first|(refine call_fn ?_ (ht1 _) ?_)|(refine call_fn_g ?_ (fun _=>ht1 _) ?_)|(refine call_fn ?_ (hp1 _) ?_)|(refine call_fn_g ?_ (fun _=>hp1 _) ?_)|(refine call_fn ?_ (hs1 _) ?_)|(refine call_fn_g ?_ (fun _=>hs1 _) ?_)|(refine call_fn ?_ (hc1 _) ?_)|(refine call_fn_g ?_ (fun _=>hc1 _) ?_));(focus (simp only[results5,ntmps5,wks,d1,d2,plain_nd,plain_tk,Bt,Bf,vcs,seval,tys]<;>exact rfl)))|((first|(refine call_fn ?_ (ht2 _) ?_)|(refine call_fn_g ?_ (fun _=>ht2 _) ?_)|(refine call_fn ?_ (hp2 _) ?_)|(refine call_fn_g ?_ (fun _=>hp2 _) ?_)|(refine call_fn ?_ (hs2 _) ?_)|(refine call_fn_g ?_ (fun _=>hs2 _) ?_)|(refine call_fn ?_ (hc2 _) ?_)|(refine call_fn_g ?_ (fun _=>hc2 _) ?_));(focus (simp only[results5,ntmps5,wks,d1,d2,plain_nd,plain_tk,Bt,Bf,vcs,seval,tys]<;>exact rfl)))|(first|(refine call_fn ?_ (hal _) ?_)|(refine call_fn_g ?_ (fun _=>hal _) ?_)|(refine call_fn ?_ (hgr _) ?_)|(refine call_fn_g ?_ (fun _=>hgr _) ?_)|(refine call_fn ?_ (hpa _) ?_)|(refine call_fn_g ?_ (fun _=>hpa _) ?_))|((first|apply Ca|apply Cb)<;>intro hb)|refine Ai (by omega) ?_|(apply Ai<;>intro hb)|refine Fin.pure ?_ ?_ ?_|simp only[injs])
    ·have hnil:=parseA_bad hF
     have q:((parseA s).2 != 0)=true:=by simpa using hF
     rw[hnil]at hpa
     refine ev_go rfl (fun cargs w=>call5 cargs w) func5 rfl mixed (by kernel_rfl) rfl ?_;intro b0 hb0
     (repeat' first|simp only[fins,mems,results5,ntmps5,wks,d1,d2,q,plain_nd,plain_tk,Lo,List.length_nil,Bt,Bf,vcs,seval,tys]|exact rfl|refine call_off (v:=.any) ?_|(first|(refine call_fn ?_ (hal _) ?_)|(refine call_fn_g ?_ (fun _=>hal _) ?_)|(refine call_fn ?_ (hgr _) ?_)|(refine call_fn_g ?_ (fun _=>hgr _) ?_)|(refine call_fn ?_ (ht1 _) ?_)|(refine call_fn_g ?_ (fun _=>ht1 _) ?_)|(refine call_fn ?_ (hp1 _) ?_)|(refine call_fn_g ?_ (fun _=>hp1 _) ?_)|(refine call_fn ?_ (hs1 _) ?_)|(refine call_fn_g ?_ (fun _=>hs1 _) ?_)|(refine call_fn ?_ (hc1 _) ?_)|(refine call_fn_g ?_ (fun _=>hc1 _) ?_)|(refine call_fn ?_ (hpa _) ?_)|(refine call_fn_g ?_ (fun _=>hpa _) ?_))|((first|apply Ca|apply Cb)<;>intro hb)|refine Ai (by omega) ?_|(apply Ai<;>intro hb)|refine Fin.pure ?_ ?_ ?_|simp only[injs])
   ·have q0:(E==0)=false:=by simpa using hE
    by_cases hF:(parseA s).2=0
    ·obtain⟨T2,ht2,hp2,hs2,hc2⟩:=back_parsed (by omega) hF
     have hp2:=hp2 rfl
     have hc2:=hc2 rfl
     rw[hF]at hpa
     refine ev_go rfl (fun cargs w=>call5 cargs w) func5 rfl mixed (by kernel_rfl) rfl ?_;intro b0 hb0
     (repeat' first|simp only[fins,mems,results5,ntmps5,wks,d1,d2,q0,plain_nd,plain_tk,Bt,Bf,vcs,seval,tys]|exact rfl|refine call_off (v:=.any) ?_|((first|(refine call_fn ?_ (ht1 _) ?_)|(refine call_fn_g ?_ (fun _=>ht1 _) ?_));(focus (simp only[results5,ntmps5,wks,d1,d2,q0,plain_nd,plain_tk,Bt,Bf,vcs,seval,tys]<;>exact rfl)))|((first|(refine call_fn ?_ (ht2 _) ?_)|(refine call_fn_g ?_ (fun _=>ht2 _) ?_));(focus (simp only[results5,ntmps5,wks,d1,d2,q0,plain_nd,plain_tk,Bt,Bf,vcs,seval,tys]<;>exact rfl)))|(first|(refine call_fn ?_ (hal _) ?_)|(refine call_fn_g ?_ (fun _=>hal _) ?_)|(refine call_fn ?_ (hgr _) ?_)|(refine call_fn_g ?_ (fun _=>hgr _) ?_)|(refine call_fn ?_ (hp2 _) ?_)|(refine call_fn_g ?_ (fun _=>hp2 _) ?_)|(refine call_fn ?_ (hs2 _) ?_)|(refine call_fn_g ?_ (fun _=>hs2 _) ?_)|(refine call_fn ?_ (hc2 _) ?_)|(refine call_fn_g ?_ (fun _=>hc2 _) ?_)|(refine call_fn ?_ (hpa _) ?_)|(refine call_fn_g ?_ (fun _=>hpa _) ?_))|((first|apply Ca|apply Cb)<;>intro hb)|refine Ai (by omega) ?_|(apply Ai<;>intro hb)|refine Fin.pure ?_ ?_ ?_|simp only[injs])
    ·have hnil:=parseA_bad hF
     have q:((parseA s).2 != 0)=true:=by simpa using hF
     rw[hnil]at hpa
     refine ev_go rfl (fun cargs w=>call5 cargs w) func5 rfl mixed (by kernel_rfl) rfl ?_;intro b0 hb0
     (repeat' first|simp only[fins,mems,results5,ntmps5,wks,d1,d2,q0,q,plain_nd,plain_tk,Lo,List.length_nil,Bt,Bf,vcs,seval,tys]|exact rfl|refine call_off (v:=.any) ?_|(first|(refine call_fn ?_ (hal _) ?_)|(refine call_fn_g ?_ (fun _=>hal _) ?_)|(refine call_fn ?_ (hgr _) ?_)|(refine call_fn_g ?_ (fun _=>hgr _) ?_)|(refine call_fn ?_ (ht1 _) ?_)|(refine call_fn_g ?_ (fun _=>ht1 _) ?_)|(refine call_fn ?_ (hpa _) ?_)|(refine call_fn_g ?_ (fun _=>hpa _) ?_))|((first|apply Ca|apply Cb)<;>intro hb)|refine Ai (by omega) ?_|(apply Ai<;>intro hb)|refine Fin.pure ?_ ?_ ?_|simp only[injs])
theorem treeBack_args (xs:List V)(h:ShapeArgs cx.P Tryz.f5.params.toList xs):Ev cx 5 0 xs Mem.nil (.bool true) []:=by
 rw[Tryz.params5]at h
 obtain⟨_,v1,_,rfl,h1,_,v2,_,rfl,h2,h3⟩:=h
 obtain rfl:=args_nil h3
 obtain⟨l,rfl,hl,hs⟩:=nds_shape h1
 obtain⟨s,rfl,hs2⟩:=shape_str kind_9 h2
 rw[argV_one kind_22 (by simp),argV_one kind_9 (by simp)]
 exact treeBack_main l s hl hs (by unfold lim;omega) 0
end Go.Proofs.YtjdjclecdfhciaaGreatDoor
