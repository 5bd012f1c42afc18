/-
 Texts joined: XSi,XSj,XSk.
-/
import Derived.Test.YtjdjclecdfhciaaGreatDoorQs
import Derived.Test.YtjdjclecdfhciaaGreatDoorQh
namespace Go.Proofs.YtjdjclecdfhciaaGreatDoor
set_option maxRecDepth 100000
set_option maxHeartbeats 32000000
set_option linter.unusedSimpArgs false
set_option linter.unusedVariables false
open Go Go.RowKit Vm Go.Lib Tryz
open Vm renaming cond_bool→Ca,cond_bit→Cb
open And renaming intro→Ai
open List renaming length_map→Lm,not_mem_nil→Ln,map_nil→Lo,map_cons→Lc,mem_cons→Lk
open Bool renaming not_false→Bf,not_true→Bt
def checkB (v:List Nd):Int:=if (behindO v).isNone=true then 8 else 0
theorem ends_ok {v:List Nd}{en:List Nat}(h:behindO v=some en):en.length=v.length∧0<v.length∧v.length≤512 ∧ ∀ i e,en[i]? = some e→i<e∧e≤v.length:=by
 obtain⟨n,k,h1,h2,h3,h4,h5⟩:=behind_iff.1 h
 have hl:v.length=k.size+1:=by rw[h2];simp[Fo.flat_length]
 have he:en=(Fo.cons n k .nil).ends 0:=by rw[h5];simp[Fo.ends]
 refine⟨by rw[h5];simp[Fo.ends_length,hl],by omega,h4,fun i e hi=>?_⟩
 rw[he]at hi
 have:=ends_up _ _ _ _ hi
 simp only[Fo.size]at this
 omega
theorem checkT_ev (v:List Nd)(hv:v.length≤lim)(hok:∀ n∈v,n.okTo lim∧n.i64)(nm:Nat):Ev cx 26 nm [.sl false 6 (v.map ndC)] Mem.nil (.int .i64 (checkB v)) []:=by
 unfold checkB
 cases h:behindO v with
 | none =>
  have hb:=behind_none_ev v hv hok h
  refine ev_go rfl (fun cargs w=>call26 cargs w) func26 rfl mixed (by kernel_rfl) rfl ?_;intro b0 hb0
  (repeat' first|simp only[fins,mems,results26,ntmps26,wks,Option.isNone_none,if_true,plain_nd,vcs,seval,tys]|exact rfl|refine call_off (v:=.any) ?_|(first|(refine call_fn ?_ (hb _) ?_)|(refine call_fn_g ?_ (fun _=>hb _) ?_))|((first|apply Ca|apply Cb)<;>intro hb)|refine Ai (by omega) ?_|(apply Ai<;>intro hb)|refine Fin.pure ?_ ?_ ?_|simp only[injs])
 | some en =>
  have hb:=behind_some_ev v hv hok h
  have h0:decide (v.length=0)=false:=decide_eq_false (by have:=(ends_ok h).2.1;omega)
  refine ev_go rfl (fun cargs w=>call26 cargs w) func26 rfl mixed (by kernel_rfl) rfl ?_;intro b0 hb0
  repeat' first|simp only[fins,mems,results26,ntmps26,wks,Option.isNone_some,Bool.false_eq_true,if_false,plain_nd,plain_no,h0,vcs,seval,tys]|exact rfl|refine call_off (v:=.any) ?_|(refine call_fn_new ?_ (hb _) ?_ ?_)|omega|((first|apply Ca|apply Cb)<;>intro hb)|refine Ai (by omega) ?_|(apply Ai<;>intro hb)
  all_goals (first|(cases hb;done)|((refine Fin.pure ?_ ?_ ?_<;>simp only[Option.isNone_some,Bool.false_eq_true,if_false,plain_nd,results26,ntmps26,vcs,seval,tys])))
def askedE (v:List Nd)(p:Int):Int:=if (behindO v).isNone=true then 8 else if p<0∨(v.length:Int)≤p then 2 else 0
theorem asked_no (v:List Nd)(hv:v.length≤lim)(hok:∀ n∈v,n.okTo lim∧n.i64)(p:Int)(h:askedE v p≠0)(nm:Nat):Ev cx 76 nm [.sl false 6 (v.map ndC),.int .i64 p] Mem.nil (.tup [.nils,.int .i64 (askedE v p)]) []:=by
 unfold askedE at h ⊢
 cases hbo:behindO v with
 | none =>
  have hb:=behind_none_ev v hv hok hbo
  refine ev_go rfl (fun cargs w=>call76 cargs w) func76 rfl mixed (by kernel_rfl) rfl ?_;intro b0 hb0
  (repeat' first|simp only[fins,mems,results76,ntmps76,wks,Option.isNone_none,if_true,plain_nd,vcs,seval,tys]|exact rfl|refine call_off (v:=.any) ?_|(first|(refine call_fn ?_ (hb _) ?_)|(refine call_fn_g ?_ (fun _=>hb _) ?_))|((first|apply Ca|apply Cb)<;>intro hb)|refine Ai (by omega) ?_|(apply Ai<;>intro hb)|refine Fin.pure ?_ ?_ ?_|simp only[injs])
 | some en =>
  rw[hbo]at h
  simp only[Option.isNone_some,Bool.false_eq_true,if_false]at h ⊢
  have hp:p<0∨(v.length:Int)≤p:=by
   by_cases hp:p<0∨(v.length:Int)≤p
   ·exact hp
   ·rw[if_neg hp]at h;exact absurd rfl h
  rw[if_pos hp]
  have hb:=behind_some_ev v hv hok hbo
  have h0:decide (v.length=0)=false:=decide_eq_false (by have:=(ends_ok hbo).2.1;omega)
  by_cases hp1:p<0
  ·have q1:decide (p<0)=true:=decide_eq_true hp1
   refine ev_go rfl (fun cargs w=>call76 cargs w) func76 rfl mixed (by kernel_rfl) rfl ?_;intro b0 hb0
   repeat' first|simp only[fins,mems,results76,ntmps76,wks,plain_nd,plain_no,h0,q1,Bt,Bf,Lm,vcs,seval,tys]|exact rfl|refine call_off (v:=.any) ?_|(refine call_fn_new ?_ (hb _) ?_ ?_)|omega|((first|apply Ca|apply Cb)<;>intro hb)|refine Ai (by omega) ?_|(apply Ai<;>intro hb)
   all_goals (first|(cases hb;done)|((refine Fin.pure ?_ ?_ ?_<;>simp only[plain_nd,results76,ntmps76,vcs,seval,tys])))
  ·have q1:decide (p<0)=false:=decide_eq_false hp1
   have q2:decide ((v.length:Int)≤p)=true:=decide_eq_true (by omega)
   refine ev_go rfl (fun cargs w=>call76 cargs w) func76 rfl mixed (by kernel_rfl) rfl ?_;intro b0 hb0
   repeat' first|simp only[fins,mems,results76,ntmps76,wks,plain_nd,plain_no,h0,q1,q2,Bt,Bf,Lm,vcs,seval,tys]|exact rfl|refine call_off (v:=.any) ?_|(refine call_fn_new ?_ (hb _) ?_ ?_)|omega|((first|apply Ca|apply Cb)<;>intro hb)|refine Ai (by omega) ?_|(apply Ai<;>intro hb)
   all_goals (first|(cases hb;done)|((refine Fin.pure ?_ ?_ ?_<;>simp only[plain_nd,results76,ntmps76,vcs,seval,tys])))
theorem asked_yes (v:List Nd)(hv:v.length≤lim)(hok:∀ n∈v,n.okTo lim∧n.i64){en:List Nat}(hbo:behindO v=some en)(p:Nat)(hp:p<v.length)(nm:Nat):Ev cx 76 nm [.sl false 6 (v.map ndC),.int .i64 p] Mem.nil (.tup [.own nm 0 v.length,.int .i64 0]) [(nm,some ⟨1,en.map noC⟩)]:=by
 have hb:=behind_some_ev v hv hok hbo
 obtain⟨hel,hv0,_,_⟩:=ends_ok hbo
 have h0:decide (v.length=0)=false:=decide_eq_false (by omega)
 have q1:decide ((p:Int)<0)=false:=decide_eq_false (by omega)
 have q2:decide (v.length≤p)=false:=decide_eq_false (by omega)
 refine ev_go rfl (fun cargs w=>call76 cargs w) func76 rfl mixed (by kernel_rfl) rfl ?_;intro b0 hb0
 repeat' first|simp only[fins,mems,results76,ntmps76,wks,plain_nd,plain_no,h0,q1,q2,Bt,Bf,Lm,vcs,seval,tys]|exact rfl|refine call_off (v:=.any) ?_|(refine call_fn_new ?_ (hb _) ?_ ?_)|omega|((first|apply Ca|apply Cb)<;>intro hb)|refine Ai (by omega) ?_|(apply Ai<;>intro hb)
 all_goals (first|(cases hb;done)|((refine Fin.give [(b0+48,some 0)] [] ?_ ?_ ?_ ?_ ?_ (fun q hq=>by have hqq:=nil_mem q hq;first|(simp only[gives,tgt,Lc,Lo,Lk,Ln,or_false]at hqq ⊢;omega)|(simp only[gives,tgt,Lc,Lo,Lk,Ln,or_false]at hqq))<;>(try simp only[results76,ntmps76,wks,hel,plain_no,Lm,giv,vcs,seval,tys])<;>(try simp only[injs])<;>(try omega))))
structure KSt where
 p:Nat
 acc:List Nat
theorem no_snoc (l:List Nat)(p:Nat):l.map noC++[[.int .i64 p]]=(l++[p]).map noC:=by simp[noC]
theorem tak_no (l:List Nat):(l.map noC).take l.length=l.map noC:=take_map_len _ _
theorem kids_no (v:List Nd)(hv:v.length≤lim)(hok:∀ n∈v,n.okTo lim∧n.i64)(p:Int)(h:askedE v p≠0)(nm:Nat):Ev cx 29 nm [.sl false 6 (v.map ndC),.int .i64 p] Mem.nil (.tup [.nils,.int .i64 (askedE v p)]) []:=by
 have ha:=asked_no v hv hok p h
 have q:(askedE v p != 0)=true:=by simpa using h
 refine ev_go rfl (fun cargs w=>call29 cargs w) func29 rfl mixed (by kernel_rfl) rfl ?_;intro b0 hb0
 (repeat' first|simp only[fins,mems,results29,ntmps29,wks,q,plain_nd,Bt,Bf,Lm,vcs,seval,tys]|exact rfl|refine call_off (v:=.any) ?_|(first|(refine call_fn ?_ (ha _) ?_)|(refine call_fn_g ?_ (fun _=>ha _) ?_))|((first|apply Ca|apply Cb)<;>intro hb)|refine Ai (by omega) ?_|(apply Ai<;>intro hb)|refine Fin.pure ?_ ?_ ?_|simp only[injs])
theorem kids_yes (v:List Nd)(hv:v.length≤lim)(hok:∀ n∈v,n.okTo lim∧n.i64){en:List Nat}(hbo:behindO v=some en)(p e:Nat)(hp:p<v.length)(hep:en[p]? = some e)(nm:Nat):Ev cx 29 nm [.sl false 6 (v.map ndC),.int .i64 p] Mem.nil (.tup [.own nm 0 (hopL en e (p+1)).length,.int .i64 0]) [(nm,some ⟨1,(hopL en e (p+1)).map noC⟩)]:=by
 have ha:=asked_yes v hv hok hbo p hp
 obtain⟨hel,hv0,h512,hup⟩:=ends_ok hbo
 have hev:=(hup p e hep).2
 have hat:(en.map noC)[p]? = some (noC e):=by rw[List.getElem?_map,hep];rfl
 have w1:IntKind.i64.wrap ((p:Int)+1)=((p+1:Nat):Int):=wrap_in (by omega) (by omega)
 have hpi:(p:Int)<(v.length:Int):=by omega
 refine ev_go rfl (fun cargs w=>call29 cargs w) func29 rfl mixed (by kernel_rfl) rfl ?_;intro b0 hb0
 repeat' first|simp only[fins,mems,results29,ntmps29,wks,plain_nd,plain_no,w1,Lm,vcs,seval,tys]|exact rfl|refine call_off (v:=.any) ?_|(refine call_fn_new ?_ (ha _) ?_ ?_)|omega|((first|apply Ca|apply Cb)<;>intro hb)|refine Ai (by omega) ?_|(apply Ai<;>intro hb)
 (refine loop_can2 cxG (fun s:KSt=>e-s.p) (fun s=>s.acc.length+e≤s.p+e∧s.acc++hopL en e s.p=hopL en e (p+1)) (b0+16) (fun s=>[(1,.int .i64 p),(4,.own b0 0 s.acc.length),(6,.own (b0+1) 0 v.length),(7,.int .i64 s.p)]) (fun s=>[(b0,⟨1,s.acc.map noC⟩),(b0+1,⟨1,en.map noC⟩)]) (⟨p+1,[]⟩) [none,some (b0+64)] ?_ ?_ ?_ ?_;rotate_left 1;(focus (show b0≤_;omega));(focus (refine⟨?_,?_⟩<;>(try simp only[cans,plain_nd,plain_no,isRow_inst,Lo,List.length_nil,Lm,vcs,seval,tys,injs])<;>(try omega)));rotate_left 1)
 ·exact⟨by simp,rfl⟩
 ·rintro ⟨k,acc⟩ ⟨hk,hinv⟩
  dsimp only at hk hinv ⊢
  by_cases hlt:k<e
  ·obtain⟨e2,he2⟩:∃ e2,en[k]? = some e2:=⟨_,List.getElem?_eq_getElem (by omega)⟩
   have hk2:=(hup k e2 he2).1
   have hat2:(en.map noC)[k]? = some (noC e2):=by rw[List.getElem?_map,he2];rfl
   have d1:decide ((k:Int)<(e:Int))=true:=decide_eq_true (by omega)
   have d2:decide (k<e)=true:=decide_eq_true hlt
   have hkv:k<v.length:=by omega
   have hst:=hopL_step (fun i x _ hi=>(hup i x hi).1) (by omega) hlt he2
   rw[hst]at hinv
   have hll:(acc++[k]).length=acc.length+1:=by simp
   repeat' first|simp only[fins,mems,results29,ntmps29,wks,hat,hat2,noC,d1,d2,hp,hpi,hkv,tak_no,no_snoc,plain_no,Bt,Bf,Lm,vcs,seval,tys]|exact rfl|refine call_off (v:=.any) ?_|((first|apply Ca|apply Cb)<;>intro hb)|refine Ai (by omega) ?_|(apply Ai<;>intro hb)
   all_goals ((refine again_can2 cxG (⟨e2,acc++[k]⟩) [some (b0+160),some (b0+1)] ?_ ?_ ?_ ?_;rotate_left 2;(focus (show b0≤_;omega));(focus (refine⟨?_,?_⟩<;>(try simp only[cans,plain_nd,plain_no,no_snoc,hll,Lm,vcs,seval,tys,injs])<;>(try omega)))))
   all_goals (first|(show e-e2<e-k;omega)|exact⟨by simp;omega,by simpa using hinv⟩|skip)
  ·have d1:decide ((k:Int)<(e:Int))=false:=decide_eq_false (by omega)
   have d2:decide (k<e)=false:=decide_eq_false hlt
   rw[hopL_end hlt,List.append_nil]at hinv
   rw[← hinv]
   repeat' first|simp only[fins,mems,results29,ntmps29,wks,hat,noC,d1,d2,hp,hpi,plain_no,Bt,Bf,Lm,vcs,seval,tys]|exact rfl|refine call_off (v:=.any) ?_|((first|apply Ca|apply Cb)<;>intro hb)|refine Ai (by omega) ?_|(apply Ai<;>intro hb)
   all_goals ((refine Fin.give [(b0,some 0)] [] ?_ ?_ ?_ ?_ ?_ (fun q hq=>by have hqq:=nil_mem q hq;first|(simp only[gives,tgt,Lc,Lo,Lk,Ln,or_false]at hqq ⊢;omega)|(simp only[gives,tgt,Lc,Lo,Lk,Ln,or_false]at hqq))<;>(try simp only[results29,ntmps29,wks,plain_no,Lm,giv,vcs,seval,tys])<;>(try simp only[injs])<;>(try omega)))
theorem one_atL (l:List At):((l.map atC).all fun r=>r.all V.one)=true:=by
 rw[List.all_map,List.all_eq_true];intro a _;rfl
theorem one_ndL (l:List Nd):((l.map ndC).all fun r=>r.all V.one)=true:=by
 rw[List.all_map,List.all_eq_true];intro a _;rfl
theorem cloneAt_ev (l:List At)(hl:l.length≤1000000)(nm:Nat):Ev cx 115 nm [.sl false 3 (l.map atC)] Mem.nil (.own nm 0 l.length) [(nm,some ⟨3,l.map atC⟩)]:=by
 refine ev_go rfl (fun cargs w=>call115 cargs w) func115 rfl mixed (by kernel_rfl) rfl ?_;intro b0 hb0
 repeat' first|simp only[fins,mems,results115,ntmps115,wks,plain_at,one_atL,Lm,vcs,seval,tys]|exact rfl|refine call_off (v:=.any) ?_|((first|apply Ca|apply Cb)<;>intro hb)|refine Ai (by omega) ?_|(apply Ai<;>intro hb)
 ·have h0:l=[]:=by cases l with
   | nil=>rfl
   | cons a r=>cases hb
  subst h0
  ((refine Fin.zero [3] ?_ ?_ ?_ ?_ ?_<;>simp only[results115,ntmps115,ownx,vcs,seval,tys]))
 ·all_goals ((refine Fin.give [(b0+80,some 0)] [] ?_ ?_ ?_ ?_ ?_ (fun q hq=>by have hqq:=nil_mem q hq;first|(simp only[gives,tgt,Lc,Lo,Lk,Ln,or_false]at hqq ⊢;omega)|(simp only[gives,tgt,Lc,Lo,Lk,Ln,or_false]at hqq))<;>(try simp only[results115,ntmps115,wks,plain_at,Lm,giv,vcs,seval,tys])<;>(try simp only[injs])<;>(try omega)))
theorem cloneNd_ev (l:List Nd)(hl:l.length≤1000000)(nm:Nat):Ev cx 114 nm [.sl false 6 (l.map ndC)] Mem.nil (.own nm 0 l.length) [(nm,some ⟨6,l.map ndC⟩)]:=by
 refine ev_go rfl (fun cargs w=>call114 cargs w) func114 rfl mixed (by kernel_rfl) rfl ?_;intro b0 hb0
 repeat' first|simp only[fins,mems,results114,ntmps114,wks,plain_nd,one_ndL,Lm,vcs,seval,tys]|exact rfl|refine call_off (v:=.any) ?_|((first|apply Ca|apply Cb)<;>intro hb)|refine Ai (by omega) ?_|(apply Ai<;>intro hb)
 ·have h0:l=[]:=by cases l with
   | nil=>rfl
   | cons a r=>cases hb
  subst h0
  ((refine Fin.zero [6] ?_ ?_ ?_ ?_ ?_<;>simp only[results114,ntmps114,ownx,vcs,seval,tys]))
 ·all_goals ((refine Fin.give [(b0+80,some 0)] [] ?_ ?_ ?_ ?_ ?_ (fun q hq=>by have hqq:=nil_mem q hq;first|(simp only[gives,tgt,Lc,Lo,Lk,Ln,or_false]at hqq ⊢;omega)|(simp only[gives,tgt,Lc,Lo,Lk,Ln,or_false]at hqq))<;>(try simp only[results114,ntmps114,wks,plain_nd,Lm,giv,vcs,seval,tys])<;>(try simp only[injs])<;>(try omega)))
theorem nd_same {v:List Nd}{k:Nat}{x:Nd}(h:v[k]? = some x):(v.map ndC).set k [.int .u8 x.kind,.str x.space,.str x.name,.sl false 3 (x.attrs.map atC),.str x.text,.int .i64 x.many]=v.map ndC:=by
 obtain⟨hk,rfl⟩:=List.getElem?_eq_some_iff.1 h
 refine List.ext_getElem? fun i=>?_
 rw[List.getElem?_set]
 split
 ·rename_i e;subst e;rw[if_pos (by simpa using hk)];rw[List.getElem?_map,List.getElem?_eq_getElem hk];rfl
 ·rfl
theorem mem_set_of {α:Type}{l:List α}{i:Nat}{a x:α}(h:x∈l.set i a):x=a∨x∈l:=by
 obtain⟨j,hj,rfl⟩:=List.mem_iff_getElem.1 h
 rw[List.getElem_set]
 split
 ·exact .inl rfl
 ·exact .inr (List.getElem_mem _)
theorem self_set {α:Type}{l:List α}{i:Nat}{a:α}(h:i<l.length):a∈l.set i a:=by
 refine List.mem_iff_getElem.2 ⟨i,by simpa using h,by simp⟩
theorem finLL_nset (σ:List (Nat×Nat))(M:Mem)(v:List Nd)(i:Nat)(r:List V):finLL σ M ((v.map ndC).set i r)=(v.map ndC).set i (finL σ M r):=by
 unfold finLL
 rw[List.map_set]
 congr 1
 exact finLL_plain σ M (plain_nd v)
theorem finLLOk_nset (σ:List (Nat×Nat))(M:Mem){v:List Nd}{i:Nat}(r:List V)(h:i<v.length):finLLOk σ M ((v.map ndC).set i r)=finLOk σ M r:=by
 refine propext ⟨fun h2=>h2 r (self_set (by simpa using h)),fun h2 x hx=>?_⟩
 rcases mem_set_of hx with rfl|hx
 ·exact h2
 ·exact(finL_plain σ M x (by have:=plain_nd v;rw[plainLL_all,List.all_eq_true]at this;exact this x hx)).2
theorem plain_nset {v:List Nd}{i:Nat}(r:List V)(h:i<v.length):plainLL ((v.map ndC).set i r)=plainL r:=by
 rw[Bool.eq_iff_iff,plainLL_all,List.all_eq_true]
 refine⟨fun h2=>h2 r (self_set (by simpa using h)),fun h2 x hx=>?_⟩
 rcases mem_set_of hx with rfl|hx
 ·exact h2
 ·have:=plain_nd v;rw[plainLL_all,List.all_eq_true]at this;exact this x hx
theorem renOk_nset (σ:List (Nat×Nat)){v:List Nd}{i:Nat}(r:List V)(h:i<v.length):((v.map ndC).set i r).all (renOkL σ)=renOkL σ r:=by
 rw[Bool.eq_iff_iff,List.all_eq_true]
 refine⟨fun h2=>h2 r (self_set (by simpa using h)),fun h2 x hx=>?_⟩
 rcases mem_set_of hx with rfl|hx
 ·exact h2
 ·have:=renOk_nds σ v;rw[List.all_eq_true]at this;exact this x hx
theorem twin_ev (v:List Nd)(hl:v.length≤1000000)(ha:∀ n∈v,n.attrs.length≤1000000)(nm:Nat):Ev cx 79 nm [.sl false 6 (v.map ndC)] Mem.nil (.own nm 0 v.length) [(nm,some ⟨6,v.map ndC⟩)]:=by
 have hc:=cloneNd_ev v hl
 refine ev_go rfl (fun cargs w=>call79 cargs w) func79 rfl mixed (by kernel_rfl) rfl ?_;intro b0 hb0
 repeat' first|simp only[fins,mems,results79,ntmps79,wks,plain_nd,Lm,vcs,seval,tys]|exact rfl|refine call_off (v:=.any) ?_|(refine call_fn_new ?_ (hc _) ?_ ?_)|omega|((first|apply Ca|apply Cb)<;>intro hb)|refine Ai (by omega) ?_|(apply Ai<;>intro hb)
 (refine loop_can2F cxG (fun x:Nat=>v.length-x) (fun x=>x≤v.length) (b0+16) (fun x=>[(3,.own b0 0 v.length),(8,.own b0 0 v.length),(9,.int .i64 v.length),(10,.int .i64 x)]) (fun x=>[(b0,⟨6,v.map ndC⟩)]) (0) [some (b0+32)] ?_ ?_ ?_ ?_;rotate_left 1;(focus (show b0≤_;omega));(focus (refine⟨?_,?_⟩<;>(try simp only[cans,canfs,plain_nd,isRow_inst,Lm,vcs,seval,tys,injs])<;>(try omega)));rotate_left 1)
 ·exact Nat.zero_le _
 ·intro k hk
  by_cases hlt:k<v.length
  ·obtain⟨x,hx⟩:∃ x,v[k]? = some x:=⟨_,List.getElem?_eq_getElem hlt⟩
   have hat:=nd_at hx
   have d1:decide ((k:Int)<(v.length:Int))=true:=decide_eq_true (by omega)
   have d2:decide (k<v.length)=true:=decide_eq_true hlt
   have hki:(k:Int)<(v.length:Int):=by omega
   have hwk:IntKind.i64.wrap ((k:Int)+1)=((k+1:Nat):Int):=wrap_in (by omega) (by omega)
   have hca:=cloneAt_ev x.attrs (ha x (List.mem_of_getElem? hx))
   repeat' first|simp only[fins,mems,results79,ntmps79,wks,plain_nd,plain_at,hat,ndC,hlt,hki,d1,d2,hwk,Lm,vcs,seval,tys]|exact rfl|refine call_off (v:=.any) ?_|(refine call_fn_new ?_ (hca _) ?_ ?_)|omega|((first|apply Ca|apply Cb)<;>intro hb)|refine Ai (by omega) ?_|(apply Ai<;>intro hb)
   have hns:=nd_same hx
   have f1:=fun (σ:List (Nat×Nat)) (M:Mem) (r:List V)=>finLL_nset σ M v k r
   have f2:=fun (σ:List (Nat×Nat)) (M:Mem) (r:List V)=>finLLOk_nset σ M r hlt
   have f3:=fun (r:List V)=>plain_nset r hlt
   have f4:=fun (σ:List (Nat×Nat)) (r:List V)=>renOk_nset σ r hlt
   all_goals ((refine again_can2F cxG (k+1) [some b0] ?_ ?_ ?_ ?_;rotate_left 2;(focus (show b0≤_;omega));(focus (refine⟨?_,?_⟩<;>(try simp only[cans,canfs,hwk,isRow_inst,plain_nd,plain_at,ndC,f1,f2,f3,f4,hns,leLL_same,take_map_len,Lm,vcs,seval,tys,injs])<;>(try omega)))))
   all_goals (first|(show v.length-(k+1)<v.length-k;omega)|exact hlt|skip)
  ·have hkm:k=v.length:=by omega
   subst hkm
   have d1:decide ((v.length:Int)<(v.length:Int))=false:=decide_eq_false (by omega)
   have d2:decide (v.length<v.length)=false:=decide_eq_false (by omega)
   repeat' first|simp only[fins,mems,results79,ntmps79,wks,d1,d2,plain_nd,Lm,vcs,seval,tys]|exact rfl|refine call_off (v:=.any) ?_|((first|apply Ca|apply Cb)<;>intro hb)|refine Ai (by omega) ?_|(apply Ai<;>intro hb)
   all_goals ((refine Fin.give [(b0,some 0)] [] ?_ ?_ ?_ ?_ ?_ (fun q hq=>by have hqq:=nil_mem q hq;first|(simp only[gives,tgt,Lc,Lo,Lk,Ln,or_false]at hqq ⊢;omega)|(simp only[gives,tgt,Lc,Lo,Lk,Ln,or_false]at hqq))<;>(try simp only[results79,ntmps79,wks,plain_nd,Lm,giv,vcs,seval,tys])<;>(try simp only[injs])<;>(try omega)))
theorem mayN_attrs {n:Nd}(h:mayN n=true):n.attrs.length≤16∧n.text.length≤16384:=by
 rcases mayN_kind h with hk|hk
 ·obtain⟨h1,_,_,h4⟩:=mayN_elem h hk
  exact⟨(ats_iff.1 h4).1,by rw[h1];simp⟩
 ·obtain⟨_,_,h3,_,_,h6⟩:=mayN_text h hk
  exact⟨by rw[h3];simp,ptsErr_len h6⟩
theorem ends_may {v:List Nd}{en:List Nat}(h:behindO v=some en):∀ n∈v,mayN n=true:=by
 obtain⟨n,k,h1,h2,h3,h4,h5⟩:=behind_iff.1 h
 intro x hx
 have:v=(Fo.cons n k .nil).flat:=by rw[h2];simp[Fo.flat]
 rw[this]at hx
 exact(Fo.good_all h3 x hx).1
theorem sub_text (v:List Nd)(hv:v.length≤lim)(hok:∀ n∈v,n.okTo lim∧n.i64){en:List Nat}(hbo:behindO v=some en)(p:Nat){x:Nd}(hx:v[p]? = some x)(hk:x.kind=2)(nm:Nat):Ev cx 31 nm [.sl false 6 (v.map ndC),.int .i64 p] Mem.nil (.tup [.nils,.int .i64 2]) []:=by
 have hp:=(List.getElem?_eq_some_iff.1 hx).1
 have ha:=asked_yes v hv hok hbo p hp
 have hpi:(p:Int)<(v.length:Int):=by omega
 have hat:=nd_at hx
 have q3:((x.kind:Int)==2)=true:=by rw[hk];rfl
 refine ev_go rfl (fun cargs w=>call31 cargs w) func31 rfl mixed (by kernel_rfl) rfl ?_;intro b0 hb0
 repeat' first|simp only[fins,mems,results31,ntmps31,wks,q3,hat,ndC,hp,hpi,plain_nd,plain_no,Bt,Bf,Lm,vcs,seval,tys]|exact rfl|refine call_off (v:=.any) ?_|(refine call_fn_new ?_ (ha _) ?_ ?_)|omega|((first|apply Ca|apply Cb)<;>intro hb)|refine Ai (by omega) ?_|(apply Ai<;>intro hb)
 all_goals ((refine Fin.pure ?_ ?_ ?_<;>simp only[plain_nd,results31,ntmps31,vcs,seval,tys]))
theorem sub_yes (v:List Nd)(hv:v.length≤lim)(hok:∀ n∈v,n.okTo lim∧n.i64){en:List Nat}(hbo:behindO v=some en)(p e:Nat){x:Nd}(hx:v[p]? = some x)(hk:x.kind≠2)(hep:en[p]? = some e)(nm:Nat):Ev cx 31 nm [.sl false 6 (v.map ndC),.int .i64 p] Mem.nil (.tup [.own nm 0 ((v.drop p).take (e-p)).length,.int .i64 0]) [(nm,some ⟨6,((v.drop p).take (e-p)).map ndC⟩)]:=by
 have hp:=(List.getElem?_eq_some_iff.1 hx).1
 have ha:=asked_yes v hv hok hbo p hp
 obtain⟨hel,hv0,h512,hup⟩:=ends_ok hbo
 obtain⟨hpe,hev⟩:=hup p e hep
 have hate:(en.map noC)[p]? = some (noC e):=by rw[List.getElem?_map,hep];rfl
 have hpi:(p:Int)<(v.length:Int):=by omega
 have hat:=nd_at hx
 have q3:((x.kind:Int)==2)=false:=beq_false_of_ne (by omega)
 have hpart:((v.map ndC).drop p).take (e-p)=((v.drop p).take (e-p)).map ndC:=by rw[List.map_take,List.map_drop]
 have htw:=twin_ev ((v.drop p).take (e-p)) (by simp;omega) (fun n hn=>by
  have:=(mayN_attrs (ends_may hbo n (List.mem_of_mem_drop (List.mem_of_mem_take hn)))).1;omega)
 have c1:(p:Int)≤(e:Int):=by omega
 have c2:(e:Int)≤(v.length:Int):=by omega
 have c3:p≤e:=by omega
 generalize hL:(v.drop p).take (e-p)=L at hpart htw
 refine ev_go rfl (fun cargs w=>call31 cargs w) func31 rfl mixed (by kernel_rfl) rfl ?_;intro b0 hb0
 repeat' first|simp only[fins,mems,results31,ntmps31,wks,q3,hat,hate,hpart,ndC,noC,hp,hpi,c1,c2,c3,hev,plain_nd,plain_no,Bt,Bf,Lm,vcs,seval,tys]|exact rfl|refine call_off (v:=.any) ?_|(refine call_fn_new ?_ (ha _) ?_ ?_)|(refine call_fn_new ?_ (htw _) ?_ ?_)|omega|((first|apply Ca|apply Cb)<;>intro hb)|refine Ai (by omega) ?_|(apply Ai<;>intro hb)
 all_goals ((refine Fin.give [(b0+464,some 0)] [] ?_ ?_ ?_ ?_ ?_ (fun q hq=>by have hqq:=nil_mem q hq;first|(simp only[gives,tgt,Lc,Lo,Lk,Ln,or_false]at hqq ⊢;omega)|(simp only[gives,tgt,Lc,Lo,Lk,Ln,or_false]at hqq))<;>(try simp only[results31,ntmps31,wks,plain_nd,Lm,giv,vcs,seval,tys])<;>(try simp only[injs])<;>(try omega)))
theorem wStrZ_ev (used:Bool)(q:Nat)(M:Mem)(nm:Nat)(hq:M q=some (bK used q .nils))(ho:∀ z,(M z).isSome=true→z∈[q])(hn:q<nm) :
  Ev cx 77 nm [.ptr q 0 0,.str []] M (.tup [.int .i64 0,.val .nilIface]) [(q,some (bK true q .nils))]:=by
 refine ev_go rfl (fun cargs w=>call77 cargs w) func77 rfl mixed (by kernel_rfl) rfl ?_;intro b0 hb0
 have lq:q<b0:=below_of hb0 (by rw[hq];rfl)
 have z0:=lt_ne lq;have z1:=lt_ne_add lq;have z2:=lt_ne' lq;have z3:=lt_ne_add' lq
 repeat' first|simp only[fins,mems,results77,ntmps77,wks,bK_t,hq,z0,z1,z2,z3,vcs,seval,tys]|exact rfl|refine call_off (v:=.any) ?_|(refine call_fn_full ?_ [[q]] (copyN_ev used q _ _ ?_ only_mem (by omega)) ?_ ?_)|((first|apply Ca|apply Cb)<;>intro hb)|refine Ai (by omega) ?_|(apply Ai<;>intro hb)
 refine call_fn_full ?_ [q] (copyN_ev used q _ _ ?_ only_mem (by omega)) ?_ ?_
 ·simp only[vcs,seval,tys]
 ·simp only[only_at,Lk,Ln,hq,vcs,seval,tys]
 ·simp only[Lk,Ln,forall_eq,forall_eq_or_imp,hq,vcs,seval,tys]
 repeat' first|simp only[fins,mems,results77,ntmps77,wks,bK_t,hq,z0,z1,z2,z3,one_b,one_bs,Lm,List.length_nil,vcs,seval,tys]|exact rfl|refine call_off (v:=.any) ?_|((first|apply Ca|apply Cb)<;>intro hb)|refine Ai (by omega) ?_|(apply Ai<;>intro hb)
 all_goals ((refine Fin.give [(q,none)] [] ?_ ?_ ?_ ?_ ?_ (fun q hq=>by have hqq:=ho q hq;first|(simp only[gives,tgt,Lc,Lo,Lk,Ln,or_false]at hqq ⊢;omega)|(simp only[gives,tgt,Lc,Lo,Lk,Ln,or_false]at hqq))<;>(try simp only[results77,ntmps77,wks,rK,ren_cons,renOk_cons,ren_bytes,renOk_bytes,ite_self,Bool.false_and,Bool.false_eq_true,if_false,bK_t,hq,z0,z1,z2,z3,fresh_self,giv,vcs,seval,tys])<;>(try simp only[injs])<;>(try omega)))
def textsL (v:List Nd)(l:List Nat):List UInt8:=l.flatMap fun k=>((v[k]?).map Nd.text).getD []
def wrdL (v:List Nd)(en:List Nat)(p e:Nat):List UInt8:=((v[p]?).map Nd.text).getD []++textsL v (hopL en e (p+1))
theorem hops_lt {en:List Nat}{stop:Nat} : ∀(f p:Nat),∀ x∈hops en stop f p,x<stop
 | 0,_,x,h=>by simp[hops]at h
 | f+1,p,x,h=>by
  simp only[hops]at h
  split at h
  ·rcases List.mem_cons.1 h with rfl|h
   ·assumption
   ·exact hops_lt f _ x h
  ·simp at h
theorem hopL_lt {en:List Nat}{stop p:Nat} : ∀ x∈hopL en stop p,x<stop:=hops_lt _ _
theorem hops_len {en:List Nat}{stop:Nat} : ∀(f p:Nat),(hops en stop f p).length≤f
 | 0,_=>by simp[hops]
 | f+1,p=>by
  simp only[hops]
  split
  ·simp;exact hops_len f _
  ·simp
theorem textsL_take {v:List Nd}{l:List Nat}{k p:Nat}{x:Nd}(h:l[k]? = some p)(hx:v[p]? = some x):textsL v (l.take (k+1))=textsL v (l.take k)++x.text:=by
 obtain⟨hk,rfl⟩:=List.getElem?_eq_some_iff.1 h
 rw[List.take_succ_eq_append_getElem hk]
 unfold textsL
 rw[List.flatMap_append]
 simp[hx]
structure WdSt where
 k:Nat
 u:Bool
 bs:List UInt8
theorem wStrG_ev (u:Bool)(q y:Nat)(bs:List UInt8)(M:Mem)(nm:Nat)(s:List UInt8)(hs:bs++s≠[])(hl:bs.length+s.length≤lim)(hqy:q≠y)(hq:M q=some (bS u q y bs))(hy:M y=some (rK bs))(ho:∀ z,(M z).isSome=true→z∈[q,y])(hn:q<nm)(hny:y<nm) :
  Ev cx 77 nm [.ptr q 0 0,.str s] M (.tup [.int .i64 s.length,.val .nilIface]) [(y,none),(q,some (bS false q nm (bs++s))),(nm,some (rK (bs++s)))]:=by
 by_cases h:s=[]
 ·subst h
  rw[List.append_nil]at hs
  have h1:=wStrO_ev true q y bs [] hl M nm hqy (by rw[hq,bS_ne u q y hs]) hy ho hn hny
  rw[List.append_nil]at h1 ⊢
  rw[bS_ne false q nm hs]
  exact h1
 ·exact wStr_ev u q y bs M nm s h hl hqy hq hy ho hn hny
theorem wrd_yes (v:List Nd)(hv:v.length≤lim)(hok:∀ n∈v,n.okTo lim∧n.i64){en:List Nat}(hbo:behindO v=some en)(p e:Nat)(hp:p<v.length)(hep:en[p]? = some e)(nm:Nat):Ev cx 30 nm [.sl false 6 (v.map ndC),.int .i64 p] Mem.nil (.tup [.str (wrdL v en p e),.int .i64 0]) []:=by
 have ha:=kids_yes v hv hok hbo p e hp hep
 obtain⟨hel,hv0,h512,hup⟩:=ends_ok hbo
 obtain⟨x,hx⟩:∃ x,v[p]? = some x:=⟨_,List.getElem?_eq_getElem hp⟩
 have hat:=nd_at hx
 have hpi:(p:Int)<(v.length:Int):=by omega
 have htx:=(mayN_attrs (ends_may hbo x (List.mem_of_getElem? hx))).2
 have hlt:=fun q=>hopL_lt (en:=en) (stop:=e) (p:=p+1) q
 have hln:(hopL en e (p+1)).length≤512:=by
  have:=hops_len (en:=en) (stop:=e) (e-(p+1)) (p+1)
  have:=(hup p e hep).2
  unfold hopL;omega
 have hw:wrdL v en p e=x.text++textsL v (hopL en e (p+1)):=by unfold wrdL;rw[hx];rfl
 rw[hw]
 clear hw
 have hee:=(hup p e hep).2
 generalize hopL en e (p+1)=L at ha hlt hln ⊢
 have t0:textsL v []=[]:=rfl
 have textsL_zero:textsL v (L.take 0)=[]:=rfl
 rcases Decidable.em (x.text=[]) with h0|h0
 (focus (
  have hz:=wStrZ_ev false
  refine ev_go rfl (fun cargs w=>call30 cargs w) func30 rfl mixed (by kernel_rfl) rfl ?_;intro b0 hb0
  repeat' first|simp only[fins,mems,results30,ntmps30,wks,hat,ndC,hp,hpi,h0,plain_nd,plain_no,bK_f,Bt,Bf,Lm,vcs,seval,tys]|exact rfl|refine call_off (v:=.any) ?_|(refine call_fn_new ?_ (ha _) ?_ ?_)|(refine call_fn_full ?_ [b0+192] (hz _ _ _ ?_ only_mem (by omega)) ?_ ?_)|omega|((first|apply Ca|apply Cb)<;>intro hb)|refine Ai (by omega) ?_|(apply Ai<;>intro hb)
  (refine loop_can2 cxG (fun s:WdSt=>L.length-s.k) (fun s=>s.k≤L.length∧s.bs=x.text++textsL v (L.take s.k)∧s.bs.length≤16384*(s.k+1)) (b0+16) (fun s=>[(0,.sl false 6 (v.map ndC)),(8,.ptr b0 0 0),(26,.own (b0+2) 0 L.length),(27,.int .i64 L.length),(28,.int .i64 s.k)]) (fun s=>[(b0,bS s.u b0 (b0+1) s.bs),(b0+1,rK s.bs),(b0+2,⟨1,L.map noC⟩)]) (⟨0,true,[]⟩) [some (b0+192),none,some (b0+64)] ?_ ?_ ?_ ?_;rotate_left 1;(focus (show b0≤_;omega));(focus (refine⟨?_,?_⟩<;>(try simp only[cans,h0,plain_nd,plain_no,bK_t,bS_nil,rK_nil,rK_row,ren_bS,renOk_bS,ren_rK,renOk_rK,Option.getD_some,Option.isSome_some,textsL_zero,List.append_nil,Bool.and_self,Bool.and_false,Bool.false_and,Lm,vcs,seval,tys,injs])<;>(try omega)));rotate_left 1)
  (focus (exact⟨Nat.zero_le _,by simp[textsL_zero,h0,t0],by simp⟩))))
 rotate_left 1
 (focus (
  have hz:=wStrN_ev false
  refine ev_go rfl (fun cargs w=>call30 cargs w) func30 rfl mixed (by kernel_rfl) rfl ?_;intro b0 hb0
  repeat' first|simp only[fins,mems,results30,ntmps30,wks,hat,ndC,hp,hpi,plain_nd,plain_no,bK_f,fresh_self,Bt,Bf,Lm,vcs,seval,tys]|exact rfl|refine call_off (v:=.any) ?_|(refine call_fn_new ?_ (ha _) ?_ ?_)|(refine call_fn_full ?_ [b0+192] (wStrN_ev false (b0+192) x.text h0 (by unfold lim;omega) _ _ ?_ only_mem (by omega)) ?_ ?_)|omega|((first|apply Ca|apply Cb)<;>intro hb)|refine Ai (by omega) ?_|(apply Ai<;>intro hb)
  have hbs:=bS_ne false b0 (b0+1) h0
  (refine loop_can2 cxG (fun s:WdSt=>L.length-s.k) (fun s=>s.k≤L.length∧s.bs=x.text++textsL v (L.take s.k)∧s.bs.length≤16384*(s.k+1)) (b0+16) (fun s=>[(0,.sl false 6 (v.map ndC)),(8,.ptr b0 0 0),(26,.own (b0+2) 0 L.length),(27,.int .i64 L.length),(28,.int .i64 s.k)]) (fun s=>[(b0,bS s.u b0 (b0+1) s.bs),(b0+1,rK s.bs),(b0+2,⟨1,L.map noC⟩)]) (⟨0,false,x.text⟩) [some (b0+192),some (b0+288),some (b0+64)] ?_ ?_ ?_ ?_;rotate_left 1;(focus (show b0≤_;omega));(focus (refine⟨?_,?_⟩<;>(try simp only[cans,hbs,plain_nd,plain_no,bK_t,bS_nil,rK_nil,rK_row,ren_bS,renOk_bS,ren_rK,renOk_rK,Option.getD_some,Option.isSome_some,textsL_zero,List.append_nil,Bool.and_self,Bool.and_false,Bool.false_and,Lm,vcs,seval,tys,injs])<;>(try omega)));rotate_left 1)
  (focus (exact⟨Nat.zero_le _,by simp[textsL_zero,t0],by simp;omega⟩))))
 all_goals (
  rintro ⟨k,u,bs⟩ ⟨hk,hbs,hbl⟩
  dsimp only at hk hbs hbl ⊢
  by_cases hka:k<L.length
  ·obtain⟨q,hq⟩:∃ q,L[k]? = some q:=⟨_,List.getElem?_eq_getElem hka⟩
   have hqe:=hlt q (List.mem_of_getElem? hq)
   obtain⟨y,hy⟩:∃ y,v[q]? = some y:=⟨_,List.getElem?_eq_getElem (by omega)⟩
   have hpL:(L.map noC)[k]? = some (noC q):=by rw[List.getElem?_map,hq];rfl
   have hay:=nd_at hy
   have hpv:=(List.getElem?_eq_some_iff.1 hy).1
   have hpvi:(q:Int)<(v.length:Int):=by omega
   have hd1:decide ((k:Int)<(L.length:Int))=true:=decide_eq_true (by omega)
   have hd2:decide (k<L.length)=true:=decide_eq_true hka
   have hwk:IntKind.i64.wrap ((k:Int)+1)=((k+1:Nat):Int):=wrap_in (by omega) (by omega)
   have hyt:=(mayN_attrs (ends_may hbo y (List.mem_of_getElem? hy))).2
   have hnx:=textsL_take hq hy
   by_cases hne:bs++y.text=[]
   ·obtain⟨rfl,hyz⟩:=List.append_eq_nil_iff.1 hne
    have hz:=wStrZ_ev u
    repeat' first|simp only[fins,mems,results30,ntmps30,wks,hyz,bS_nil,hd1,hd2,hka,hpL,hpv,hpvi,hay,ndC,noC,plain_nd,plain_no,Bt,Bf,Lm,vcs,seval,tys]|exact rfl|refine call_off (v:=.any) ?_|(refine call_fn_full ?_ [b0] (hz b0 _ _ ?_ only_mem (by omega)) ?_ ?_)|((first|apply Ca|apply Cb)<;>intro hb)|refine Ai (by omega) ?_|(apply Ai<;>intro hb)
    all_goals ((refine again_can2 cxG (⟨k+1,true,[]⟩) [some b0,none,some (b0+2)] ?_ ?_ ?_ ?_;rotate_left 2;(focus (show b0≤_;omega));(focus (refine⟨?_,?_⟩<;>(try simp only[cans,hwk,bK_t,bS_nil,rK_nil,rK_row,plain_nd,plain_no,ren_bS,renOk_bS,ren_rK,renOk_rK,Option.getD_some,Option.isSome_some,Bool.and_self,Bool.and_false,Bool.false_and,Lm,vcs,seval,tys,injs])<;>(try omega)))))
    all_goals (first|(show L.length-(k+1)<L.length-k;omega)|exact⟨hka,by rw[hnx,← List.append_assoc,← hbs,hyz];rfl,by simp⟩|skip)
   ·repeat' first|simp only[fins,mems,results30,ntmps30,wks,fresh_self,hd1,hd2,hka,hpL,hpv,hpvi,hay,ndC,noC,plain_nd,plain_no,Bt,Bf,Lm,vcs,seval,tys]|exact rfl|refine call_off (v:=.any) ?_|(refine call_fn_full ?_ [b0,b0+1] (wStrG_ev u b0 (b0+1) bs _ _ y.text hne (by unfold lim;omega) (by omega) ?_ ?_ only_mem (by omega) (by omega)) ?_ ?_)|((first|apply Ca|apply Cb)<;>intro hb)|refine Ai (by omega) ?_|(apply Ai<;>intro hb)
    all_goals ((refine again_can2 cxG (⟨k+1,false,bs++y.text⟩) [some b0,some (b0+160),some (b0+2)] ?_ ?_ ?_ ?_;rotate_left 2;(focus (show b0≤_;omega));(focus (refine⟨?_,?_⟩<;>(try simp only[cans,hwk,rK_row,plain_nd,plain_no,ren_bS,renOk_bS,ren_rK,renOk_rK,Option.getD_some,Option.isSome_some,Bool.and_self,Bool.and_false,Bool.false_and,Lm,vcs,seval,tys,injs])<;>(try omega)))))
    all_goals (first|(show L.length-(k+1)<L.length-k;omega)|exact⟨hka,by rw[hnx,← List.append_assoc,← hbs],by show(bs++y.text).length≤16384*(k+1+1);rw[List.length_append];omega⟩|skip)
  ·have hkm:k=L.length:=by omega
   subst hkm
   rw[List.take_length]at hbs
   first|rw[← hbs]|(rw[h0,List.nil_append]at hbs;rw[← hbs])
   have hd1:decide ((L.length:Int)<(L.length:Int))=false:=decide_eq_false (by omega)
   have hd2:decide (L.length<L.length)=false:=decide_eq_false (by omega)
   (repeat' first|simp only[fins,mems,results30,ntmps30,wks,hd1,hd2,plain_nd,plain_no,Lm,vcs,seval,tys]|exact rfl|refine call_off (v:=.any) ?_|(refine call_fn_full ?_ [b0,b0+1] (bStr_ev u b0 (b0+1) bs _ _ (by unfold lim;omega) (by omega) ?_ ?_ only_mem (by omega) (by omega)) ?_ ?_)|((first|apply Ca|apply Cb)<;>intro hb)|refine Ai (by omega) ?_|(apply Ai<;>intro hb)|refine Fin.pure ?_ ?_ ?_|simp only[injs]))
end Go.Proofs.YtjdjclecdfhciaaGreatDoor
