/-
 Texts joined: XKi,XKj,XKk,XKn,XKl.
-/
import Derived.Test.YtfcfldmioonipaaQr
import Derived.Test.YtfcfldmioonipaaQm
import Derived.Test.YtfcfldmioonipaaQp
namespace Go.Proofs.Ytfcfldmioonipaa
set_option linter.unusedSimpArgs false
set_option linter.unusedVariables false
open Go Go.RowKit Vm Go.Lib Try
open Vm renaming cond_bool→Ca,cond_bit→Cb
open And renaming intro→Ai
open List renaming length_map→Lm,not_mem_nil→Ln,map_nil→Lo,map_cons→Lc,mem_cons→Lk
open Bool renaming not_false→Bf,not_true→Bt
theorem cloneY_ev (L:Nat)(l:List At)(hl:l.length≤1000000)(nm:Nat):Ev (cx.at L) 46 nm [.sl false 3 (l.map atC)] Mem.nil (.ys L 3 (l.map atC)) []:=by
 have hpl:=plain_at l
 have htk:=tak_at l
 refine((cloneAt_ev l hl nm).at L).young (L:=L) (atG L trivial) (fun x hx k hk=>?_) ?_ ?_
 ·rw[List.mem_singleton]at hx;subst hx
  simp only[Option.some.injEq]at hk;subst hk
  rfl
 ·simp only[fins,mems,wks,hpl,htk,Lm,vcs,seval,tys,Cx.at_P]<;>omega
 ·simp only[V.you,youL,fins,mems,wks,szOf,hpl,htk,Lm,vcs,seval,tys,Cx.at_P]
def twR (L:Nat)(v:List Nd)(k:Nat):List (List V):=(v.take k).map (ndE L)++(v.drop k).map ndC
theorem twR_len (L:Nat)(v:List Nd)(k:Nat):(twR L v k).length=v.length:=by
 unfold twR
 simp only[List.length_append,Lm,List.length_take,List.length_drop];omega
theorem twR_at {L:Nat}{v:List Nd}{k:Nat}{x:Nd}(h:v[k]? = some x):(twR L v k)[k]? = some (ndC x):=by
 obtain⟨hk,rfl⟩:=List.getElem?_eq_some_iff.1 h
 unfold twR
 rw[List.getElem?_append_right (by simp;omega)]
 simp only[Lm,List.length_take,List.getElem?_map,List.getElem?_drop]
 rw[show k+(k-min k v.length)=k by omega,h];rfl
theorem twR_set {L:Nat}{v:List Nd}{k:Nat}{x:Nd}(h:v[k]? = some x):(twR L v k).set k (ndE L x)=twR L v (k+1):=by
 obtain⟨hk,rfl⟩:=List.getElem?_eq_some_iff.1 h
 unfold twR
 rw[List.set_append_right _ _ (by simp;omega),List.take_succ_eq_append_getElem hk,List.map_append]
 simp only[Lm,List.length_take,Lc,Lo,List.append_assoc,List.singleton_append]
 rw[show k-min k v.length=0 by omega,List.drop_eq_getElem_cons hk,Lc,List.set_cons_zero]
theorem twR_all (L:Nat)(v:List Nd):twR L v v.length=v.map (ndE L):=by unfold twR;simp
theorem twR_zero (L:Nat)(v:List Nd):twR L v 0=v.map ndC:=rfl
theorem plain_ne (L:Nat)(l:List Nd):plainLL (l.map (ndE L))=true:=by
 rw[plainLL_all,List.all_eq_true]
 intro r hr
 obtain⟨n,_,rfl⟩:=List.mem_map.1 hr
 exact plain_ndE L n
theorem plain_tw (L:Nat)(v:List Nd)(k:Nat):plainLL (twR L v k)=true:=by
 unfold twR
 rw[plainLL_all,List.all_append,← plainLL_all,← plainLL_all,plain_ne,plain_nd];rfl
theorem ne_le (L:Nat):∀ l:List Nd,leLL (l.map (ndE L)) (l.map ndC)
 | []=>trivial
 | n::l=>by
  refine⟨?_,ne_le L l⟩
  simp only[ndE,ndC,leL_cons,leL_nil,le_int,le_str,le_ys_sl,and_self]
set_option maxRecDepth 100000 in
set_option maxHeartbeats 4000000 in
theorem twinY_ev (L:Nat)(v:List Nd)(hl:v.length≤1000000)(ha:∀ n∈v,n.attrs.length≤1000000)(nm:Nat):Ev (cx.at L) 19 nm [.sl false 6 (v.map ndC)] Mem.nil (.own nm 0 v.length) [(nm,some ⟨6,v.map (ndE L)⟩)]:=by
 have hc:=fun nm=>(cloneNd_ev v hl nm).at L
 have t0:=twR_zero L v
 refine ev_go rfl (fun cargs w=>call19 cargs w) func19 rfl mixed (by kernel_rfl) rfl ?_;intro b0 hb0
 repeat' first|simp only[fins,mems,results19,ntmps19,wks,plain_nd,Lm,vcs,seval,tys,Cx.at_P]|exact rfl|refine call_off (v:=.any) ?_|(refine call_fn_new ?_ (hc _) ?_ ?_)|omega|((first|apply Ca|apply Cb)<;>intro hb)|refine Ai (by omega) ?_|(apply Ai<;>intro hb)
 (refine loop_can2 (cyG L) (fun x:Nat=>v.length-x) (fun x=>x≤v.length) (b0+16) (fun x=>[(3,.own b0 0 v.length),(8,.own b0 0 v.length),(9,.int .i64 v.length),(10,.int .i64 x)]) (fun x=>[(b0,⟨6,twR L v x⟩)]) (0) [some (b0+32)] ?_ ?_ ?_ ?_;rotate_left 1;(focus (show b0≤_;omega));(focus (refine⟨?_,?_⟩<;>(try simp only[cans,t0,plain_tw,plain_nd,isRow_inst,Lm,vcs,seval,tys,Cx.at_P,injs])<;>(try omega)));rotate_left 1)
 ·exact Nat.zero_le _
 ·intro k hk
  by_cases hlt:k<v.length
  ·obtain⟨x,hx⟩:∃ x,v[k]? = some x:=⟨_,List.getElem?_eq_getElem hlt⟩
   have hat:=twR_at (L:=L) hx
   have d1:decide ((k:Int)<(v.length:Int))=true:=decide_eq_true (by omega)
   have d2:decide (k<v.length)=true:=decide_eq_true hlt
   have hki:(k:Int)<(v.length:Int):=by omega
   have hwk:IntKind.i64.wrap ((k:Int)+1)=((k+1:Nat):Int):=wrap_in (by omega) (by omega)
   have hca:=cloneY_ev L x.attrs (ha x (List.mem_of_getElem? hx))
   have hst:=twR_set (L:=L) hx
   have hln:=twR_len L v k
   unfold ndE at hst
   repeat' first|simp only[fins,mems,results19,ntmps19,wks,plain_tw,plain_nd,plain_at,hat,ndC,hlt,hki,d1,d2,hwk,hln,hst,Lm,vcs,seval,tys,Cx.at_P]|exact rfl|refine call_off (v:=.any) ?_|(first|(refine call_fn ?_ (hca _) ?_)|(refine call_fn_g ?_ (fun _=>hca _) ?_))|((first|apply Ca|apply Cb)<;>intro hb)|refine Ai (by omega) ?_|(apply Ai<;>intro hb)
   all_goals ((refine again_can2 (cyG L) (k+1) [some b0] ?_ ?_ ?_ ?_;rotate_left 2;(focus (show b0≤_;omega));(focus (refine⟨?_,?_⟩<;>(try simp only[cans,hwk,hst,isRow_inst,plain_tw,plain_nd,plain_at,ndC,hln,leLL_same,Lm,vcs,seval,tys,Cx.at_P,injs])<;>(try omega)))))
   all_goals (first|(show v.length-(k+1)<v.length-k;omega)|exact hlt|skip)
  ·have hkm:k=v.length:=by omega
   subst hkm
   have d1:decide ((v.length:Int)<(v.length:Int))=false:=decide_eq_false (by omega)
   have d2:decide (v.length<v.length)=false:=decide_eq_false (by omega)
   have hta:=twR_all L v
   repeat' first|simp only[fins,mems,results19,ntmps19,wks,d1,d2,hta,plain_ne,plain_nd,Lm,vcs,seval,tys,Cx.at_P]|exact rfl|refine call_off (v:=.any) ?_|((first|apply Ca|apply Cb)<;>intro hb)|refine Ai (by omega) ?_|(apply Ai<;>intro hb)
   all_goals ((refine Fin.give [(b0,some 0)] [] ?_ ?_ ?_ ?_ ?_ (fun q hq=>by have hqq:=nil_mem q hq;first|(simp only[gives,tgt,Lc,Lo,Lk,Ln,or_false]at hqq ⊢;omega)|(simp only[gives,tgt,Lc,Lo,Lk,Ln,or_false]at hqq))<;>(try simp only[results19,ntmps19,wks,hta,plain_ne,plain_nd,Lm,giv,vcs,seval,tys,Cx.at_P])<;>(try simp only[injs])<;>(try omega)))
theorem twinYs_ev (L:Nat)(v:List Nd)(hl:v.length≤1000000)(ha:∀ n∈v,n.attrs.length≤1000000)(nm:Nat):Ev (cx.at L) 19 nm [.sl false 6 (v.map ndC)] Mem.nil (.ys L 6 (v.map (ndE L))) []:=by
 have hpl:=plain_ne L v
 have htk:(v.map (ndE L)).take v.length=v.map (ndE L):=take_map_len _ _
 refine(twinY_ev L v hl ha nm).young (L:=L) (atG L trivial) (fun x hx k hk=>?_) ?_ ?_
 ·rw[List.mem_singleton]at hx;subst hx
  simp only[Option.some.injEq]at hk;subst hk
  rfl
 ·simp only[fins,mems,wks,hpl,htk,Lm,vcs,seval,tys,Cx.at_P]<;>omega
 ·simp only[V.you,youL,fins,mems,wks,szOf,hpl,htk,Lm,vcs,seval,tys,Cx.at_P]
set_option maxRecDepth 100000 in
set_option maxHeartbeats 4000000 in
theorem subY_ev (L:Nat)(v:List Nd)(hv:v.length≤lim)(hok:∀ n∈v,n.okTo lim∧n.i64){en:List Nat}(hbo:behindO v=some en)(p e:Nat){x:Nd}(hx:v[p]? = some x)(hk:x.kind≠2)(hep:en[p]? = some e){W:List Nd}(hW:(v.drop p).take (e-p)=W)(nm:Nat):Ev (cx.at L) 15 nm [.sl false 6 (v.map ndC),.int .i64 p] Mem.nil (.tup [.ys L 6 (W.map (ndE L)),.int .i64 0]) []:=by
 have hp:=(List.getElem?_eq_some_iff.1 hx).1
 have ha:=fun nm=>(asked_yes v hv hok hbo p hp nm).at L
 obtain⟨hel,hv0,h512,hup⟩:=ends_ok hbo
 obtain⟨hpe,hev⟩:=hup p e hep
 have hate:(en.map noC)[p]? = some (noC e):=by rw[List.getElem?_map,hep];rfl
 have hpi:(p:Int)<(v.length:Int):=by omega
 have hat:=nd_at hx
 have q3:((x.kind:Int)==2)=false:=beq_false_of_ne (by omega)
 have hpart:((v.map ndC).drop p).take (e-p)=((v.drop p).take (e-p)).map ndC:=by rw[List.map_take,List.map_drop]
 have hWl:W.length≤1000000:=by rw[← hW];simp;omega
 have hWa:∀ n∈W,n.attrs.length≤1000000:=fun n hn=>by
  rw[← hW]at hn
  have:=(mayN_attrs (ends_may hbo n (List.mem_of_mem_drop (List.mem_of_mem_take hn)))).1;omega
 have htw:=twinYs_ev L W hWl hWa
 have c1:(p:Int)≤(e:Int):=by omega
 have c2:(e:Int)≤(v.length:Int):=by omega
 have c3:p≤e:=by omega
 rw[hW]at hpart
 refine ev_go rfl (fun cargs w=>call15 cargs w) func15 rfl mixed (by kernel_rfl) rfl ?_;intro b0 hb0
 (repeat' first|simp only[fins,mems,results15,ntmps15,wks,q3,hat,hate,hpart,ndC,noC,hp,hpi,c1,c2,c3,hev,plain_ne,plain_nd,plain_no,Bt,Bf,Lm,vcs,seval,tys,Cx.at_P]|exact rfl|refine call_off (v:=.any) ?_|(first|(refine call_fn ?_ (htw _) ?_)|(refine call_fn_g ?_ (fun _=>htw _) ?_))|(refine call_fn_new ?_ (ha _) ?_ ?_)|omega|((first|apply Ca|apply Cb)<;>intro hb)|refine Ai (by omega) ?_|(apply Ai<;>intro hb)|refine Fin.pure ?_ ?_ ?_|simp only[injs])
theorem good_one {n:Nd}{k r:Fo}{d last:Nat}(h:(Fo.cons n k r).good d last=true):(Fo.cons n k .nil).good d 0=true:=by
 obtain⟨h1,h2,h3,h4,h5,h6⟩:=Fo.good_cons.1 h
 exact Fo.good_cons.2 ⟨h1,h2,fun e=>absurd e.1 (by decide),h4,h5,rfl⟩
theorem Fo.at_place:∀(F:Fo) (d last a i:Nat),F.good d last=true→i<F.size → ∃ n k d' r s,d'≤d∧(Fo.cons n k .nil).good d' 0=true∧F.flat.drop i=n::(k.flat++r)∧(F.ends a).drop i=(a+i+1+k.size)::(k.ends (a+i+1)++s)
 | .nil,_,_,_,_,_,h=>absurd h (Nat.not_lt_zero _)
 | .cons n k r,d,last,a,0,h,_=>⟨n,k,d,r.flat,r.ends (a+1+k.size),Nat.le_refl _,good_one h,rfl,rfl⟩
 | .cons n k r,d,last,a,i+1,h,hi=>by
  obtain⟨_,_,_,_,h5,h6⟩:=Fo.good_cons.1 h
  simp only[Fo.size]at hi
  simp only[Fo.flat,Fo.ends,List.drop_succ_cons]
  by_cases hk:i<k.size
  ·obtain⟨n',k',d',r',s',g1,g2,g3,g4⟩:=k.at_place (d-1) 1 (a+1) i h5 hk
   refine⟨n',k',d',r'++r.flat,s'++r.ends (a+1+k.size),by omega,g2,?_,?_⟩
   ·rw[List.drop_append_of_le_length (by rw[Fo.flat_length];omega),g3];simp
   ·rw[List.drop_append_of_le_length (by rw[Fo.ends_length];omega),g4,show a+1+i=a+(i+1) by omega];simp
  ·obtain⟨n',k',d',r',s',g1,g2,g3,g4⟩:=r.at_place d n.kind (a+1+k.size) (i-k.size) h6 (by omega)
   refine⟨n',k',d',r',s',g1,g2,?_,?_⟩
   ·rw[List.drop_append,Fo.flat_length,List.drop_eq_nil_of_le (by rw[Fo.flat_length];omega),List.nil_append,g3]
   ·rw[List.drop_append,Fo.ends_length,List.drop_eq_nil_of_le (by rw[Fo.ends_length];omega),List.nil_append,g4,show a+1+k.size+(i-k.size)=a+(i+1) by omega]
theorem place {v:List Nd}{en:List Nat}(hbo:behindO v=some en){p:Nat}(hp:p<v.length):∃ n k d r,d≤12∧(Fo.cons n k .nil).good d 0=true∧v[p]? = some n∧v.drop p=n::(k.flat++r)∧en[p]? = some (p+1+k.size)∧hopL en (p+1+k.size) (p+1)=k.tops (p+1)∧(v.drop p).take (p+1+k.size-p)=n::k.flat∧p+1+k.size≤v.length:=by
 obtain⟨n0,k0,h1,h2,h3,h4,h5⟩:=behind_iff.1 hbo
 have he:en=(Fo.cons n0 k0 .nil).ends 0:=by rw[h5];simp[Fo.ends]
 have hv:v=(Fo.cons n0 k0 .nil).flat:=by rw[h2];simp[Fo.flat]
 have hsz:p<(Fo.cons n0 k0 .nil).size:=by rw[← Fo.flat_length,← hv];exact hp
 obtain⟨n,k,d,r,s,g1,g2,g3,g4⟩:=Fo.at_place _ 12 0 0 p h3 hsz
 rw[← hv]at g3
 rw[← he]at g4
 simp only[Nat.zero_add]at g4
 have hx:v[p]? = some n:=by
  have:(v.drop p)[0]? = some n:=by rw[g3];rfl
  simpa using this
 have hex:en[p]? = some (p+1+k.size):=by
  have:(en.drop p)[0]? = some (p+1+k.size):=by rw[g4];rfl
  simpa using this
 have hd:en.drop (p+1)=k.ends (p+1)++s:=by
  have:(en.drop p).drop 1=k.ends (p+1)++s:=by rw[g4];rfl
  simpa using this
 refine⟨n,k,d,r,g1,g2,hx,g3,hex,hopL_tops hd,?_,?_⟩
 ·rw[g3,show p+1+k.size-p=k.size+1 by omega,List.take_succ_cons,List.take_append_of_le_length (by rw[Fo.flat_length];omega),List.take_of_length_le (by rw[Fo.flat_length];omega)]
 ·have:=congrArg List.length g3
  simp only[List.length_drop,List.length_cons,List.length_append,Fo.flat_length]at this
  omega
def kidsU (v:List Nd)(p:Int):List Nat:=match behindO v with
 | none=>[]
 | some en=>if p<0∨(v.length:Int)≤p then [] else hopL en (en.getD p.toNat 0) (p.toNat+1)
def subE (v:List Nd)(p:Int):Int:=if askedE v p≠0 then askedE v p else if (v[p.toNat]?).map Nd.kind=some 2 then 2 else 0
def subU (v:List Nd)(p:Int):List Nd:=match behindO v with
 | none=>[]
 | some en=>if subE v p≠0 then [] else (v.drop p.toNat).take (en.getD p.toNat 0-p.toNat)
def wordsU (v:List Nd)(p:Int):List UInt8:=match behindO v with
 | none=>[]
 | some en=>if p<0∨(v.length:Int)≤p then [] else wrdL v en p.toNat (en.getD p.toNat 0)
theorem asked_case {v:List Nd}{p:Int}(h:askedE v p=0):∃ en,behindO v=some en ∧ ∃ q:Nat,p=(q:Int)∧q<v.length:=by
 unfold askedE at h
 split at h
 ·cases h
 ·rename_i h1
  split at h
  ·cases h
  ·rename_i h2
   cases hb:behindO v with
   | none=>rw[hb]at h1;exact absurd rfl h1
   | some en=>exact⟨en,rfl,p.toNat,by omega,by omega⟩
theorem checkB_8 (v:List Nd):checkB v=if checkB v=0 then 0 else 8:=by
 unfold checkB
 split<;>rfl
theorem checkB_some {v:List Nd}{en:List Nat}(h:behindO v=some en):checkB v=0:=by unfold checkB;rw[h];rfl
theorem noC_def (k:Nat):noC k=[.int .i64 k]:=rfl
set_option maxRecDepth 100000 in
theorem rCheckT_ev (v:List Nd)(hv:v.length≤1000)(hok:∀ n∈v,n.okTo lim)(nm:Nat):Ev cx 23 nm [.sl false 6 (v.map ndC)] Mem.nil (.int .i64 (checkB v)) []:=by
 have hm:=rMayV_ev v (by omega) hok
 unfold mayT at hm
 rw[checkB_8]
 by_cases h:checkB v=0
 ·rw[if_pos h]
  rw[decide_eq_true h]at hm
  refine ev_go rfl (fun cargs w=>call23 cargs w) func23 rfl mixed (by kernel_rfl) rfl ?_;intro b0 hb0
  (repeat' first|simp only[fins,mems,results23,ntmps23,wks,Bt,plain_nd,vcs,seval,tys]|exact rfl|refine call_off (v:=.any) ?_|(first|(refine call_fn ?_ (hm _) ?_)|(refine call_fn_g ?_ (fun _=>hm _) ?_))|((first|apply Ca|apply Cb)<;>intro hb)|refine Ai (by omega) ?_|(apply Ai<;>intro hb)|refine Fin.pure ?_ ?_ ?_|simp only[injs])
 ·rw[if_neg h]
  rw[decide_eq_false h]at hm
  refine ev_go rfl (fun cargs w=>call23 cargs w) func23 rfl mixed (by kernel_rfl) rfl ?_;intro b0 hb0
  (repeat' first|simp only[fins,mems,results23,ntmps23,wks,Bf,plain_nd,vcs,seval,tys]|exact rfl|refine call_off (v:=.any) ?_|(first|(refine call_fn ?_ (hm _) ?_)|(refine call_fn_g ?_ (fun _=>hm _) ?_))|((first|apply Ca|apply Cb)<;>intro hb)|refine Ai (by omega) ?_|(apply Ai<;>intro hb)|refine Fin.pure ?_ ?_ ?_|simp only[injs])
set_option maxRecDepth 100000 in
set_option maxHeartbeats 4000000 in
theorem rAsked_ev (v:List Nd)(p:Int)(hv:v.length≤1000)(hok:∀ n∈v,n.okTo lim)(nm:Nat):Ev cx 39 nm [.sl false 6 (v.map ndC),.int .i64 p] Mem.nil (.int .i64 (askedE v p)) []:=by
 have hm:=rMayV_ev v (by omega) hok
 unfold mayT at hm
 unfold askedE
 cases hbo:behindO v with
 | none =>
  have h:¬ checkB v=0:=by unfold checkB;rw[hbo];decide
  rw[decide_eq_false h]at hm
  simp only[Option.isNone_none,if_true]
  refine ev_go rfl (fun cargs w=>call39 cargs w) func39 rfl mixed (by kernel_rfl) rfl ?_;intro b0 hb0
  (repeat' first|simp only[fins,mems,results39,ntmps39,wks,Bf,plain_nd,vcs,seval,tys]|exact rfl|refine call_off (v:=.any) ?_|(first|(refine call_fn ?_ (hm _) ?_)|(refine call_fn_g ?_ (fun _=>hm _) ?_))|((first|apply Ca|apply Cb)<;>intro hb)|refine Ai (by omega) ?_|(apply Ai<;>intro hb)|refine Fin.pure ?_ ?_ ?_|simp only[injs])
 | some en =>
  rw[decide_eq_true (checkB_some hbo)]at hm
  rw[if_neg (by simp)]
  by_cases h1:p<0
  ·have d1:decide (p<0)=true:=decide_eq_true h1
   rw[if_pos (.inl h1)]
   refine ev_go rfl (fun cargs w=>call39 cargs w) func39 rfl mixed (by kernel_rfl) rfl ?_;intro b0 hb0
   (repeat' first|simp only[fins,mems,results39,ntmps39,wks,d1,Bt,plain_nd,Lm,vcs,seval,tys]|exact rfl|refine call_off (v:=.any) ?_|(first|(refine call_fn ?_ (hm _) ?_)|(refine call_fn_g ?_ (fun _=>hm _) ?_))|((first|apply Ca|apply Cb)<;>intro hb)|refine Ai (by omega) ?_|(apply Ai<;>intro hb)|refine Fin.pure ?_ ?_ ?_|simp only[injs])
  ·have d1:decide (p<0)=false:=decide_eq_false h1
   by_cases h2:(v.length:Int)≤p
   ·have d2:decide ((v.length:Int)≤p)=true:=decide_eq_true h2
    rw[if_pos (.inr h2)]
    refine ev_go rfl (fun cargs w=>call39 cargs w) func39 rfl mixed (by kernel_rfl) rfl ?_;intro b0 hb0
    (repeat' first|simp only[fins,mems,results39,ntmps39,wks,d1,d2,Bt,plain_nd,Lm,vcs,seval,tys]|exact rfl|refine call_off (v:=.any) ?_|(first|(refine call_fn ?_ (hm _) ?_)|(refine call_fn_g ?_ (fun _=>hm _) ?_))|((first|apply Ca|apply Cb)<;>intro hb)|refine Ai (by omega) ?_|(apply Ai<;>intro hb)|refine Fin.pure ?_ ?_ ?_|simp only[injs])
   ·have d2:decide ((v.length:Int)≤p)=false:=decide_eq_false h2
    rw[if_neg (fun h=>h.elim h1 h2)]
    refine ev_go rfl (fun cargs w=>call39 cargs w) func39 rfl mixed (by kernel_rfl) rfl ?_;intro b0 hb0
    (repeat' first|simp only[fins,mems,results39,ntmps39,wks,d1,d2,Bt,plain_nd,Lm,vcs,seval,tys]|exact rfl|refine call_off (v:=.any) ?_|(first|(refine call_fn ?_ (hm _) ?_)|(refine call_fn_g ?_ (fun _=>hm _) ?_))|((first|apply Ca|apply Cb)<;>intro hb)|refine Ai (by omega) ?_|(apply Ai<;>intro hb)|refine Fin.pure ?_ ?_ ?_|simp only[injs])
theorem kids_at {v:List Nd}{en:List Nat}(hbo:behindO v=some en){q:Nat}(hq:q<v.length){k:Fo}(he:en[q]? = some (q+1+k.size))(ht:hopL en (q+1+k.size) (q+1)=k.tops (q+1)):kidsU v (q:Int)=k.tops (q+1):=by
 unfold kidsU
 rw[hbo]
 simp only[Int.toNat_natCast]
 rw[if_neg (by omega),List.getD_eq_getElem?_getD,he,Option.getD_some,ht]
theorem kids_none {v:List Nd}{p:Int}(h:askedE v p≠0):kidsU v p=[]:=by
 unfold kidsU
 cases hbo:behindO v with
 | none=>rfl
 | some en =>
  simp only
  rw[if_pos]
  unfold askedE at h
  rw[hbo,if_neg (by simp)]at h
  split at h
  ·assumption
  ·exact absurd rfl h
set_option maxRecDepth 100000 in
set_option maxHeartbeats 4000000 in
theorem rKids_ev (v:List Nd)(p:Int)(hv:v.length≤1000)(hok:∀ n∈v,n.okTo lim)(nm:Nat):Ev cx 14 nm [.sl false 6 (v.map ndC),.int .i64 p] Mem.nil (.tup [.sl false 1 ((kidsU v p).map noC),.int .i64 (askedE v p)]) []:=by
 have ha:=rAsked_ev v p hv hok
 by_cases h:askedE v p=0
 ·obtain⟨en,hbo,q,rfl,hq⟩:=asked_case h
  obtain⟨n,k,d,r,g1,g2,g3,g4,g5,g6,g7,g8⟩:=place hbo hq
  have hu:=rUnder_fz v hv hok g4 g2 g1
  rw[h]at ha ⊢
  rw[kids_at hbo hq g5 g6]
  refine ev_go rfl (fun cargs w=>call14 cargs w) func14 rfl mixed (by kernel_rfl) rfl ?_;intro b0 hb0
  (repeat' first|simp only[fins,mems,results14,ntmps14,wks,plain_nd,plain_no,vcs,seval,tys]|exact rfl|refine call_off (v:=.any) ?_|(first|(refine call_fn ?_ (ha _) ?_)|(refine call_fn_g ?_ (fun _=>ha _) ?_)|(refine call_fn ?_ (hu _) ?_)|(refine call_fn_g ?_ (fun _=>hu _) ?_))|((first|apply Ca|apply Cb)<;>intro hb)|refine Ai (by omega) ?_|(apply Ai<;>intro hb)|refine Fin.pure ?_ ?_ ?_|simp only[injs])
 ·have h1:(askedE v p != 0)=true:=by simpa using h
  rw[kids_none h]
  refine Ev.res_le (v:=.tup [.nils,.int .i64 (askedE v p)]) ?_ (by simp only[le_tup,leL_cons,leL_nil,le_nils_sl,le_int,Lo,and_self])
  refine ev_go rfl (fun cargs w=>call14 cargs w) func14 rfl mixed (by kernel_rfl) rfl ?_;intro b0 hb0
  (repeat' first|simp only[fins,mems,results14,ntmps14,wks,h1,plain_nd,vcs,seval,tys]|exact rfl|refine call_off (v:=.any) ?_|(first|(refine call_fn ?_ (ha _) ?_)|(refine call_fn_g ?_ (fun _=>ha _) ?_))|((first|apply Ca|apply Cb)<;>intro hb)|refine Ai (by omega) ?_|(apply Ai<;>intro hb)|refine Fin.pure ?_ ?_ ?_|simp only[injs])
theorem kidsT_ev (v:List Nd)(p:Int)(hv:v.length≤lim)(hok:∀ n∈v,n.okTo lim∧n.i64)(nm:Nat):Ev cx 13 nm [.sl false 6 (v.map ndC),.int .i64 p] Mem.nil (.tup [.sl false 1 ((kidsU v p).map noC),.int .i64 (askedE v p)]) []:=by
 by_cases h:askedE v p=0
 ·obtain⟨en,hbo,q,rfl,hq⟩:=asked_case h
  obtain⟨n,k,d,r,g1,g2,g3,g4,g5,g6,g7,g8⟩:=place hbo hq
  have:=kids_fz v hv hok hbo q _ hq g5 nm
  rw[h,kids_at hbo hq g5 g6,← g6]
  exact this
 ·rw[kids_none h]
  exact Ev.res_le (kids_no v hv hok p h nm) (by simp only[le_tup,leL_cons,leL_nil,le_nils_sl,le_int,Lo,and_self])
set_option maxRecDepth 100000 in
set_option maxHeartbeats 4000000 in
theorem same05_ev (l:List Nat)(hl:l.length≤100000)(nm:Nat):Ev cx 48 nm [.sl false 1 (l.map noC),.sl false 1 (l.map noC)] Mem.nil (.bool true) []:=by
 have hb:((l.length:Int) !=(l.length:Int))=false:=by simp
 refine ev_go rfl (fun cargs w=>call48 cargs w) func48 rfl mixed (by kernel_rfl) rfl ?_;intro b0 hb0
 repeat' first|simp only[fins,mems,results48,ntmps48,wks,hb,plain_no,Lm,vcs,seval,tys]|exact rfl|refine call_off (v:=.any) ?_|refine draw_end (by decide +kernel) ?_|((first|apply Ca|apply Cb)<;>intro hb)|refine Ai (by omega) ?_|(apply Ai<;>intro hb)
 (refine loop_can2 cxG (fun x:Nat=>l.length-x) (fun x=>x≤l.length) (b0+16) (fun x=>[(0,.sl false 1 (l.map noC)),(1,.sl false 1 (l.map noC)),(5,.int .i64 x)]) (fun x=>[]) (0) [] ?_ ?_ ?_ ?_;rotate_left 1;(focus (show b0≤_;omega));(focus (refine⟨?_,?_⟩<;>(try simp only[cans,plain_no,Lm,vcs,seval,tys,injs])<;>(try omega)));rotate_left 1)
 ·exact Nat.zero_le _
 ·intro k hk
  by_cases hlt:k<l.length
  ·obtain⟨x,hx⟩:∃ x,l[k]? = some x:=⟨_,List.getElem?_eq_getElem hlt⟩
   obtain⟨hat,_⟩:=noC_at hx
   have d1:decide ((k:Int)<(l.length:Int))=true:=decide_eq_true (by omega)
   have d2:decide (k<l.length)=true:=decide_eq_true hlt
   have hki:(k:Int)<(l.length:Int):=by omega
   have hwk:IntKind.i64.wrap ((k:Int)+1)=((k+1:Nat):Int):=wrap_in (by omega) (by omega)
   have hn:((x:Int) !=(x:Int))=false:=by simp
   repeat' first|simp only[fins,mems,results48,ntmps48,wks,hat,noC_def,hlt,hki,d1,d2,hwk,hn,plain_no,Lm,vcs,seval,tys]|exact rfl|refine call_off (v:=.any) ?_|refine draw_end (by decide +kernel) ?_|((first|apply Ca|apply Cb)<;>intro hb)|refine Ai (by omega) ?_|(apply Ai<;>intro hb)
   all_goals ((refine again_can2 cxG (k+1) [] ?_ ?_ ?_ ?_;rotate_left 2;(focus (show b0≤_;omega));(focus (refine⟨?_,?_⟩<;>(try simp only[cans,hwk,plain_no,Lm,vcs,seval,tys,injs])<;>(try omega)))))
   all_goals (first|(show l.length-(k+1)<l.length-k;omega)|exact hlt|skip)
  ·have hkm:k=l.length:=by omega
   subst hkm
   have d1:decide ((l.length:Int)<(l.length:Int))=false:=decide_eq_false (by omega)
   have d2:decide (l.length<l.length)=false:=decide_eq_false (by omega)
   (repeat' first|simp only[fins,mems,results48,ntmps48,wks,d1,d2,plain_no,Lm,vcs,seval,tys]|exact rfl|refine call_off (v:=.any) ?_|refine draw_end (by decide +kernel) ?_|((first|apply Ca|apply Cb)<;>intro hb)|refine Ai (by omega) ?_|(apply Ai<;>intro hb)|refine Fin.pure ?_ ?_ ?_|simp only[injs])
set_option maxRecDepth 100000 in
theorem sameInts_ev (l:List Nat)(hl:l.length≤100000)(nm:Nat):Ev cx 21 nm [.sl false 1 (l.map noC),.sl false 1 (l.map noC)] Mem.nil (.bool true) []:=by
 have h:=same05_ev l hl
 refine ev_go rfl (fun cargs w=>call21 cargs w) func21 rfl mixed (by kernel_rfl) rfl ?_;intro b0 hb0
 (repeat' first|simp only[fins,mems,results21,ntmps21,wks,plain_no,vcs,seval,tys]|exact rfl|refine call_off (v:=.any) ?_|(first|(refine call_fn ?_ (h _) ?_)|(refine call_fn_g ?_ (fun _=>h _) ?_))|((first|apply Ca|apply Cb)<;>intro hb)|refine Ai (by omega) ?_|(apply Ai<;>intro hb)|refine Fin.pure ?_ ?_ ?_|simp only[injs])
set_option maxHeartbeats 4000000 in
theorem spoil10_calls (L U b o n c:Nat)(w:World)(hn:n≤1000000)(ht:SpTree 5 1 L U w b o n) :
  Calls Try.prog 10 #[.slice (some ⟨b,o,none⟩) n c] w fun e w'=>e = .returned (.tuple #[])∧Spo L U w w':=by
 have hs0:=Spo.refl L U w
 go_enter func10,ntmps10
 go_wp2
 go_loopw [2] (fun s2 wr=>∃ i:Nat,i≤n∧s2 = .int .i64 i∧Spo L U w wr) (fun s2 _=>n-(RowKit.intOf s2).toNat)
 case atStart=>exact⟨0,Nat.zero_le _,rfl,hs0⟩
 case round =>
  obtain⟨i,hi,rfl,hsp⟩:=hrel
  by_cases hlt:i<n
  ·obtain⟨t1,t2,⟨v1,t3,t4⟩,t5,A,m,cA,t6,t7,t8⟩:=ht i hlt
   go_wp2
   obtain⟨wo,rfl⟩:∃ wo:World,wo=wr:=⟨_,rfl⟩
   go_loopw [3] (fun s3 wr2=>∃ k:Nat,k≤m∧s3 = .int .i64 k∧Spo L U w wr2) (fun s3 _=>m-(RowKit.intOf s3).toNat)
   case atStart=>exact⟨0,Nat.zero_le _,rfl,hsp⟩
   case round =>
    obtain⟨k,hk,rfl,hsq⟩:=hrel
    have e1:=hsq.sl _ _ t6 rfl
    by_cases hkm:k<m
    ·obtain⟨b',o',rfl,a1,a2,a3,v2,a4,a5⟩:=t8 k hkm
     obtain⟨v3,a6⟩:=hsq.ot _ _ a4
     have a7:=(hsq.fro ⟨b',o'+k*3+1,none⟩).trans a3
     go_wp2
     exact⟨⟨k+1,by omega,by simp,hsq.store a1 a2 a4 a5⟩,by simp only[RowKit.intOf];omega⟩
    ·obtain⟨v3,a6⟩:=hsq.ot _ _ t3
     have a7:=(hsq.fro ⟨b,o+i*6+5,none⟩).trans t5
     go_wp2
     exact⟨⟨i+1,by omega,by simp,hsq.store t1 t2 t3 t4⟩,by simp only[RowKit.intOf];omega⟩
  ·go_wp2
   exact⟨rfl,_,results_none results10 _ _ _,rfl,hsp⟩
set_option maxHeartbeats 4000000 in
theorem spoil10_none (A:Option Addr)(c:Nat)(w:World) :
  Calls Try.prog 10 #[.slice A 0 c] w fun e w'=>e = .returned (.tuple #[])∧w'=w:=by
 go_enter func10,ntmps10
 go_wp2
 go_loop [2] (fun s2=>s2 = .int .i64 0) (fun _=>0)
 case atStart=>rfl
 case round =>
  subst hrel
  go_wp2
  exact⟨rfl,_,results_none results10 _ _ _,rfl,rfl⟩
def YT (L U n:Nat)(w:World)(x:Value):Prop:=∃ A c,x = .slice A n c∧(n=0 ∨ ∃ b o,A=some ⟨b,o,none⟩∧SpTree 5 1 L U w b o n)
theorem YT.keep {L U n:Nat}{x:Value}{w w':World}(h:YT L U n w x)(hk:∀ b,L≤b→b<U→w'.heap[b]? = w.heap[b]?):YT L U n w' x:=by
 obtain⟨A,c,rfl,h0|⟨b,o,rfl,ht⟩⟩:=h
 ·exact⟨A,c,rfl,.inl h0⟩
 ·exact⟨_,c,rfl,.inr ⟨b,o,rfl,ht.keep hk⟩⟩
theorem YT.spoil {L U n:Nat}{x:Value}{w:World}(hn:n≤1000000)(h:YT L U n w x):Calls Try.prog 10 #[x] w fun e w'=>e = .returned (.tuple #[])∧Spo L U w w':=by
 obtain⟨A,c,rfl,h0|⟨b,o,rfl,ht⟩⟩:=h
 ·rw[h0]
  refine(spoil10_none A c w).mono ?_
  rintro e w' ⟨rfl,rfl⟩
  exact⟨rfl,Spo.refl _ _ _⟩
 ·exact spoil10_calls L U b o n c w hn ht
theorem Fz.treeE {L:Nat}{w:World}{l:List Nd}{x:Value}(h:Fz w (.ys L 6 (l.map (ndE L))) x):Fz w (.sl false 6 (l.map ndC)) x :=
 Is.rows_le (h.le (.sl false 6 (l.map (ndE L))) (by rw[le_ys_sl];exact⟨rfl,rfl,rfl⟩)) (ne_le L l)
theorem young_treeE {L:Nat}{w:World}{l:List Nd}{x:Value}(h:Fz w (.ys L 6 (l.map (ndE L))) x)(ha:∀ n∈l,n.attrs.length≤1000000):YT L w.heap.size l.length w x:=by
 unfold Fz at h
 generalize hrows:l.map (ndE L)=rows at h
 have hlen:rows.length=l.length:=by rw[← hrows,Lm]
 cases h with
 | ys0 =>
  have:l.length=0:=by rw[← hlen];rfl
  exact⟨_,_,by rw[this],.inl this⟩
 | ys cv hc hL hD hb hf hr hx hu =>
  refine⟨_,_,by rw[← hlen],.inr ⟨_,_,rfl,fun i hi=>?_⟩⟩
  obtain⟨n,hn⟩:∃ n,l[i]? = some n:=⟨_,List.getElem?_eq_getElem hi⟩
  have hrow:rows[i]? = some (ndE L n):=by rw[← hrows,List.getElem?_map,hn];rfl
  have hm:=List.mem_of_getElem? hn
  rename_i b o c
  have c2:(ndE L n)[5]? = some (.int .i64 n.many):=rfl
  refine⟨hL,hb,⟨cv i 5,hx i 5 _ _ hrow c2,?_⟩,frozen_no hf (by omega),?_⟩
  ·have:=hu i 5 _ _ hrow c2
   generalize cv i 5=y at this
   cases this;rfl
  ·have c3:(ndE L n)[3]? = some (.ys L 3 (n.attrs.map atC)):=rfl
   have h1:=hx i 3 _ _ hrow c3
   have h2:=hu i 3 _ _ hrow c3
   generalize cv i 3=y at h1 h2
   have hal:=ha n hm
   generalize hat:n.attrs.map atC=ats at h2
   have hatl:ats.length=n.attrs.length:=by rw[← hat,Lm]
   cases h2 with
   | ys0=>exact⟨_,_,_,h1,Nat.zero_le _,fun k hk=>absurd hk (Nat.not_lt_zero _)⟩
   | ys cw wc wL wD wb wf wr wx wu =>
    refine⟨_,_,_,h1,by omega,fun k hk=>⟨_,_,rfl,wL,wb,frozen_no wf (by omega),?_⟩⟩
    obtain⟨a,haa⟩:∃ a,n.attrs[k]? = some a:=⟨_,List.getElem?_eq_getElem (by omega)⟩
    have hra:ats[k]? = some (atC a):=by rw[← hat,List.getElem?_map,haa];rfl
    refine⟨cw k 1,wx k 1 _ _ hra rfl,?_⟩
    have:=wu k 1 _ _ hra rfl
    generalize cw k 1=y at this
    cases this;rfl
theorem Grows.spo {a w w':World}{L U:Nat}(g:Grows a w)(s:Spo L U w w')(h:a.heap.size≤L):Grows a w' :=
 ⟨by rw[s.size];exact g.size,s.os.trans g.os,s.tape.trans g.tape,s.output.trans g.output,fun b hb=>(s.out b (.inl (by omega))).trans (g.keep b hb)⟩
theorem fz1 {w:World}{a:V}{x:Value}(h1:Fz w a x):∀(i:Nat) (u:V) (cv:Value),[a][i]? = some u → #[x][i]? = some cv→Fz w u cv:=by
 intro i u cv h g
 match i with
 | 0=>cases h;cases g;exact h1
 | i+1=>simp at h
theorem fz2 {w:World}{a b:V}{x y:Value}(h1:Fz w a x)(h2:Fz w b y):∀(i:Nat) (u:V) (cv:Value),[a,b][i]? = some u → #[x,y][i]? = some cv→Fz w u cv:=by
 intro i u cv h g
 match i with
 | 0=>cases h;cases g;exact h1
 | 1=>cases h;cases g;exact h2
 | i+2=>simp at h
theorem fz3 {w:World}{a b c:V}{x y z:Value}(h1:Fz w a x)(h2:Fz w b y)(h3:Fz w c z):∀(i:Nat) (u:V) (cv:Value),[a,b,c][i]? = some u → #[x,y,z][i]? = some cv→Fz w u cv:=by
 intro i u cv h g
 match i with
 | 0=>cases h;cases g;exact h1
 | 1=>cases h;cases g;exact h2
 | 2=>cases h;cases g;exact h3
 | i+3=>simp at h
theorem fz_slice {w:World}{t:Bool}{s:Nat}{rows:List (List V)}{x:Value}(h:Fz w (.sl t s rows) x):∃ A c,x = .slice A rows.length c:=by
 cases h with
 | sl0=>exact⟨_,_,rfl⟩
 | sl=>exact⟨_,_,rfl⟩
theorem sub_at {v:List Nd}{en:List Nat}(hbo:behindO v=some en){q:Nat}{n:Nd}(hx:v[q]? = some n):subE v (q:Int)=if n.kind=2 then 2 else 0:=by
 have hq:=(List.getElem?_eq_some_iff.1 hx).1
 have h0:askedE v (q:Int)=0:=by unfold askedE;rw[hbo,if_neg (by simp),if_neg (by omega)]
 unfold subE
 rw[h0,if_neg (by simp),Int.toNat_natCast,hx]
 simp
theorem sub_none {v:List Nd}{p:Int}(h:askedE v p≠0):subE v p=askedE v p∧subU v p=[]:=by
 have h1:subE v p=askedE v p:=by unfold subE;rw[if_pos h]
 refine⟨h1,?_⟩
 unfold subU
 cases behindO v with
 | none=>rfl
 | some en=>simp only;rw[if_pos (by rw[h1];exact h)]
theorem subU_zero {v:List Nd}{p:Int}(h:subE v p≠0):subU v p=[]:=by
 unfold subU
 cases behindO v with
 | none=>rfl
 | some en=>simp only;rw[if_pos h]
theorem subU_at {v:List Nd}{en:List Nat}(hbo:behindO v=some en){q e:Nat}{W:List Nd}(he:en[q]? = some e)(h0:subE v (q:Int)=0)(hW:(v.drop q).take (e-q)=W):subU v (q:Int)=W:=by
 unfold subU
 rw[hbo]
 simp only[Int.toNat_natCast]
 rw[if_neg (by rw[h0];simp),List.getD_eq_getElem?_getD,he,Option.getD_some,hW]
set_option maxRecDepth 100000 in
set_option maxHeartbeats 4000000 in
theorem rPart_ev (v:List Nd)(hv:v.length≤1000)(hok:∀ n∈v,n.okTo lim)(ha:∀ n∈v,n.attrs.length≤1000){n:Nd}{k:Fo}{q:Nat}{r:List Nd}(hg:(Fo.cons n k .nil).good 12 0=true)(hd:v.drop q=n::(k.flat++r))(hW:(v.drop q).take (q+1+k.size-q)=n::k.flat)(he:q+1+k.size≤v.length)(nm:Nat) :
  Ev cx 41 nm [.sl false 6 (v.map ndC),.int .i64 q] Mem.nil (.sl false 6 ((n::k.flat).map ndC)) []:=by
 have hb:=rBehind_ev v (by omega) hok 12 (by omega) q (by omega)
 rw[behB_good hd hg]at hb
 unfold behI at hb
 have hl:(n::k.flat).length≤1000:=by rw[← hW];simp;omega
 have htw:=rTwin_fz (n::k.flat) hl (fun x hx=>ha x (by rw[← hW]at hx;exact List.mem_of_mem_drop (List.mem_of_mem_take hx)))
 have hpart:((v.map ndC).drop q).take (q+1+k.size-q)=(n::k.flat).map ndC:=by rw[← hW,List.map_take,List.map_drop]
 have e12:((13-12:Nat):Int)=1:=rfl
 rw[e12]at hb
 have hpl:=plain_nd (n::k.flat)
 generalize n::k.flat=W at hpart htw hpl
 generalize he2:q+1+k.size=e at hb hpart he
 have c1:(q:Int)≤(e:Int):=by omega
 have c2:(e:Int)≤(v.length:Int):=by omega
 have c3:q≤e:=by omega
 refine ev_go rfl (fun cargs w=>call41 cargs w) func41 rfl mixed (by kernel_rfl) rfl ?_;intro b0 hb0
 (repeat' first|simp only[fins,mems,results41,ntmps41,wks,hpart,c1,c2,c3,he,hpl,plain_nd,Lm,vcs,seval,tys]|exact rfl|refine call_off (v:=.any) ?_|(first|(refine call_fn ?_ (hb _) ?_)|(refine call_fn_g ?_ (fun _=>hb _) ?_)|(refine call_fn ?_ (htw _) ?_)|(refine call_fn_g ?_ (fun _=>htw _) ?_))|((first|apply Ca|apply Cb)<;>intro hb)|refine Ai (by omega) ?_|(apply Ai<;>intro hb)|refine Fin.pure ?_ ?_ ?_|simp only[injs])
set_option maxRecDepth 100000 in
set_option maxHeartbeats 4000000 in
theorem rSub_ev (v:List Nd)(p:Int)(hv:v.length≤1000)(hok:∀ n∈v,n.okTo lim)(ha:∀ n∈v,n.attrs.length≤1000)(nm:Nat):Ev cx 16 nm [.sl false 6 (v.map ndC),.int .i64 p] Mem.nil (.tup [.sl false 6 ((subU v p).map ndC),.int .i64 (subE v p)]) []:=by
 have hka:=rAsked_ev v p hv hok
 by_cases h:askedE v p=0
 ·obtain⟨en,hbo,q,rfl,hq⟩:=asked_case h
  obtain⟨n,k,d,r,g1,g2,g3,g4,g5,g6,g7,g8⟩:=place hbo hq
  have hat:=nd_at g3
  have hpi:(q:Int)<(v.length:Int):=by omega
  have hs:=sub_at hbo g3
  rw[h]at hka
  by_cases hk:n.kind=2
  ·rw[if_pos hk]at hs
   have q3:((n.kind:Int)==2)=true:=by rw[hk];rfl
   rw[subU_zero (by rw[hs];decide),hs]
   refine Ev.res_le (v:=.tup [.nils,.int .i64 2]) ?_ (by simp only[le_tup,leL_cons,leL_nil,le_nils_sl,le_int,Lo,and_self])
   refine ev_go rfl (fun cargs w=>call16 cargs w) func16 rfl mixed (by kernel_rfl) rfl ?_;intro b0 hb0
   (repeat' first|simp only[fins,mems,results16,ntmps16,wks,q3,hat,ndC,hq,hpi,plain_nd,Lm,vcs,seval,tys]|exact rfl|refine call_off (v:=.any) ?_|(first|(refine call_fn ?_ (hka _) ?_)|(refine call_fn_g ?_ (fun _=>hka _) ?_))|((first|apply Ca|apply Cb)<;>intro hb)|refine Ai (by omega) ?_|(apply Ai<;>intro hb)|refine Fin.pure ?_ ?_ ?_|simp only[injs])
  ·rw[if_neg hk]at hs
   have q3:((n.kind:Int)==2)=false:=beq_false_of_ne (by omega)
   rw[subU_at hbo g5 hs g7,hs]
   have hp:=rPart_ev v hv hok ha (Fo.good_mono g1 g2) g4 g7 g8
   have hpl:=plain_nd (n::k.flat)
   generalize n::k.flat=W at hp hpl
   refine ev_go rfl (fun cargs w=>call16 cargs w) func16 rfl mixed (by kernel_rfl) rfl ?_;intro b0 hb0
   (repeat' first|simp only[fins,mems,results16,ntmps16,wks,q3,hat,ndC,hq,hpi,hpl,plain_nd,Lm,vcs,seval,tys]|exact rfl|refine call_off (v:=.any) ?_|(first|(refine call_fn ?_ (hka _) ?_)|(refine call_fn_g ?_ (fun _=>hka _) ?_)|(refine call_fn ?_ (hp _) ?_)|(refine call_fn_g ?_ (fun _=>hp _) ?_))|((first|apply Ca|apply Cb)<;>intro hb)|refine Ai (by omega) ?_|(apply Ai<;>intro hb)|refine Fin.pure ?_ ?_ ?_|simp only[injs])
 ·obtain⟨h1,h2⟩:=sub_none h
  have e1:(askedE v p==0)=false:=by simpa using h
  have e2:(askedE v p != 0)=true:=by simpa using h
  rw[h1,h2]
  refine Ev.res_le (v:=.tup [.nils,.int .i64 (askedE v p)]) ?_ (by simp only[le_tup,leL_cons,leL_nil,le_nils_sl,le_int,Lo,and_self])
  refine ev_go rfl (fun cargs w=>call16 cargs w) func16 rfl mixed (by kernel_rfl) rfl ?_;intro b0 hb0
  (repeat' first|simp only[fins,mems,results16,ntmps16,wks,e1,e2,plain_nd,Lm,vcs,seval,tys]|exact rfl|refine call_off (v:=.any) ?_|(first|(refine call_fn ?_ (hka _) ?_)|(refine call_fn_g ?_ (fun _=>hka _) ?_))|((first|apply Ca|apply Cb)<;>intro hb)|refine Ai (by omega) ?_|(apply Ai<;>intro hb)|refine Fin.pure ?_ ?_ ?_|simp only[injs])
theorem subYU_ev (L:Nat)(v:List Nd)(p:Int)(hv:v.length≤lim)(hok:∀ n∈v,n.okTo lim∧n.i64)(nm:Nat):Ev (cx.at L) 15 nm [.sl false 6 (v.map ndC),.int .i64 p] Mem.nil (.tup [.ys L 6 ((subU v p).map (ndE L)),.int .i64 (subE v p)]) []:=by
 by_cases h:askedE v p=0
 ·obtain⟨en,hbo,q,rfl,hq⟩:=asked_case h
  obtain⟨n,k,d,r,g1,g2,g3,g4,g5,g6,g7,g8⟩:=place hbo hq
  have hs:=sub_at hbo g3
  by_cases hk:n.kind=2
  ·rw[if_pos hk]at hs
   rw[subU_zero (by rw[hs];decide),hs]
   exact Ev.res_le ((sub_text v hv hok hbo q g3 hk nm).at L) (by simp only[le_tup,leL_cons,leL_nil,le_nils_ys,le_int,Lo,and_self])
  ·rw[if_neg hk]at hs
   rw[subU_at hbo g5 hs g7,hs]
   exact subY_ev L v hv hok hbo q _ g3 hk g5 g7 nm
 ·obtain⟨h1,h2⟩:=sub_none h
  rw[h1,h2]
  exact Ev.res_le ((sub_no v hv hok p h nm).at L) (by simp only[le_tup,leL_cons,leL_nil,le_nils_ys,le_int,Lo,and_self])
theorem textsL_len {v:List Nd}(hv:∀ n∈v,n.text.length≤16384):∀ l:List Nat,(textsL v l).length≤16384*l.length
 | []=>Nat.le_refl _
 | p::l=>by
  have ih:=textsL_len hv l
  have:(((v[p]?).map Nd.text).getD []).length≤16384:=by
   cases h:v[p]? with
   | none=>simp
   | some x=>exact hv x (List.mem_of_getElem? h)
  unfold textsL at ih ⊢
  simp only[List.flatMap_cons,List.length_append,List.length_cons]
  omega
set_option maxRecDepth 100000 in
set_option maxHeartbeats 8000000 in
theorem rSaid_ev (v:List Nd)(hv:v.length≤1000)(hok:∀ n∈v,n.okTo lim)(ht:∀ n∈v,n.text.length≤16384){n:Nd}{k:Fo}{d q:Nat}{r:List Nd}(hd12:d≤12)(hg:(Fo.cons n k .nil).good d 0=true)(hx:v[q]? = some n)(hd:v.drop q=n::(k.flat++r))(htl:∀ x∈k.tops (q+1),x<v.length)(nm:Nat) :
  Ev cx 44 nm [.sl false 6 (v.map ndC),.int .i64 q] Mem.nil (.str (n.text++textsL v (k.tops (q+1)))) []:=by
 have hat:=nd_at hx
 have hq:=(List.getElem?_eq_some_iff.1 hx).1
 have hpi:(q:Int)<(v.length:Int):=by omega
 have hu:=rUnder_fz v hv hok hd hg hd12
 have hmay:=(Fo.good_cons.1 hg).1
 have hcl:k.count≤v.length:=by
  have h1:=count_le_size k
  have h2:=congrArg List.length hd
  simp only[List.length_drop,List.length_cons,List.length_append,Fo.flat_length]at h2
  omega
 by_cases hk:n.kind=2
 ·have hkn:=Fo.text_leaf hg hk
  subst hkn
  have q3:((n.kind:Int)==2)=true:=by rw[hk];rfl
  have ht0:n.text++textsL v (Fo.nil.tops (q+1))=n.text:=by simp[Fo.tops,textsL]
  rw[ht0]
  refine ev_go rfl (fun cargs w=>call44 cargs w) func44 rfl mixed (by kernel_rfl) rfl ?_;intro b0 hb0
  (repeat' first|simp only[fins,mems,results44,ntmps44,wks,q3,hat,ndC,hq,hpi,plain_nd,Lm,vcs,seval,tys]|exact rfl|refine call_off (v:=.any) ?_|((first|apply Ca|apply Cb)<;>intro hb)|refine Ai (by omega) ?_|(apply Ai<;>intro hb)|refine Fin.pure ?_ ?_ ?_|simp only[injs])
 ·have hn1:n.kind=1:=(mayN_kind hmay).resolve_right hk
  have q3:((n.kind:Int)==2)=false:=beq_false_of_ne (by omega)
  rw[(mayN_elem hmay hn1).1,List.nil_append]
  have hcnt:=Fo.tops_length k (q+1)
  rw[← hcnt]at hcl
  generalize k.tops (q+1)=T at hu htl hcl ⊢
  have t0:textsL v []=[]:=rfl
  refine ev_go rfl (fun cargs w=>call44 cargs w) func44 rfl mixed (by kernel_rfl) rfl ?_;intro b0 hb0
  repeat' first|simp only[fins,mems,results44,ntmps44,wks,q3,hat,ndC,hq,hpi,plain_nd,plain_no,Lm,vcs,seval,tys]|exact rfl|refine call_off (v:=.any) ?_|(first|(refine call_fn ?_ (hu _) ?_)|(refine call_fn_g ?_ (fun _=>hu _) ?_))|((first|apply Ca|apply Cb)<;>intro hb)|refine Ai (by omega) ?_|(apply Ai<;>intro hb)
  (refine loop_can2 cxG (fun x:Nat=>T.length-x) (fun x=>x≤T.length) (b0+16) (fun x=>[(0,.sl false 6 (v.map ndC)),(5,.str (textsL v (T.take x))),(6,.sl false 1 (T.map noC)),(7,.int .i64 x)]) (fun x=>[]) (0) [] ?_ ?_ ?_ ?_;rotate_left 1;(focus (show b0≤_;omega));(focus (refine⟨?_,?_⟩<;>(try simp only[cans,t0,List.take_zero,plain_nd,plain_no,Lm,vcs,seval,tys,injs])<;>(try omega)));rotate_left 1)
  ·exact Nat.zero_le _
  ·intro i hi
   by_cases hlt:i<T.length
   ·obtain⟨t,htt⟩:∃ t,T[i]? = some t:=⟨_,List.getElem?_eq_getElem hlt⟩
    have htv:=htl t (List.mem_of_getElem? htt)
    obtain⟨y,hy⟩:∃ y,v[t]? = some y:=⟨_,List.getElem?_eq_getElem htv⟩
    have hat1:(T.map noC)[i]? = some (noC t):=by rw[List.getElem?_map,htt];rfl
    have hat2:=nd_at hy
    have d1:decide ((i:Int)<(T.length:Int))=true:=decide_eq_true (by omega)
    have d2:decide (i<T.length)=true:=decide_eq_true hlt
    have hti:(t:Int)<(v.length:Int):=by omega
    have hwk:IntKind.i64.wrap ((i:Int)+1)=((i+1:Nat):Int):=wrap_in (by omega) (by omega)
    have hnx:=(textsL_take htt hy).symm
    have hl1:=textsL_len ht (T.take i)
    rw[List.length_take]at hl1
    have hl2:=ht y (List.mem_of_getElem? hy)
    have hll:(textsL v (T.take i)++y.text).length≤lim:=by rw[List.length_append];unfold lim;omega
    repeat' first|simp only[fins,mems,results44,ntmps44,wks,hat1,hat2,noC_def,ndC,hlt,hti,htv,d1,d2,hwk,hll,hnx,plain_nd,plain_no,Lm,vcs,seval,tys]|exact rfl|refine call_off (v:=.any) ?_|((first|apply Ca|apply Cb)<;>intro hb)|refine Ai (by omega) ?_|(apply Ai<;>intro hb)
    all_goals ((refine again_can2 cxG (i+1) [] ?_ ?_ ?_ ?_;rotate_left 2;(focus (show b0≤_;omega));(focus (refine⟨?_,?_⟩<;>(try simp only[cans,hwk,hnx,plain_nd,plain_no,Lm,vcs,seval,tys,injs])<;>(try omega)))))
    all_goals (first|(show T.length-(i+1)<T.length-i;omega)|exact hlt|skip)
   ·have hkm:i=T.length:=by omega
    subst hkm
    have d1:decide ((T.length:Int)<(T.length:Int))=false:=decide_eq_false (by omega)
    have d2:decide (T.length<T.length)=false:=decide_eq_false (by omega)
    (repeat' first|simp only[fins,mems,results44,ntmps44,wks,d1,d2,List.take_length,plain_nd,plain_no,Lm,vcs,seval,tys]|exact rfl|refine call_off (v:=.any) ?_|((first|apply Ca|apply Cb)<;>intro hb)|refine Ai (by omega) ?_|(apply Ai<;>intro hb)|refine Fin.pure ?_ ?_ ?_|simp only[injs])
theorem words_at {v:List Nd}{en:List Nat}(hbo:behindO v=some en){q:Nat}{n:Nd}{k:Fo}(hx:v[q]? = some n)(he:en[q]? = some (q+1+k.size))(ht:hopL en (q+1+k.size) (q+1)=k.tops (q+1)):wordsU v (q:Int)=n.text++textsL v (k.tops (q+1)):=by
 have hq:=(List.getElem?_eq_some_iff.1 hx).1
 unfold wordsU
 rw[hbo]
 simp only[Int.toNat_natCast]
 rw[if_neg (by omega),List.getD_eq_getElem?_getD,he,Option.getD_some]
 unfold wrdL
 rw[hx,ht];rfl
theorem words_none {v:List Nd}{p:Int}(h:askedE v p≠0):wordsU v p=[]:=by
 unfold wordsU
 cases hbo:behindO v with
 | none=>rfl
 | some en =>
  simp only
  rw[if_pos]
  unfold askedE at h
  rw[hbo,if_neg (by simp)]at h
  split at h
  ·assumption
  ·exact absurd rfl h
set_option maxRecDepth 100000 in
theorem rWords_ev (v:List Nd)(p:Int)(hv:v.length≤1000)(hok:∀ n∈v,n.okTo lim)(nm:Nat):Ev cx 18 nm [.sl false 6 (v.map ndC),.int .i64 p] Mem.nil (.tup [.str (wordsU v p),.int .i64 (askedE v p)]) []:=by
 have ha:=rAsked_ev v p hv hok
 by_cases h:askedE v p=0
 ·obtain⟨en,hbo,q,rfl,hq⟩:=asked_case h
  obtain⟨n,k,d,r,g1,g2,g3,g4,g5,g6,g7,g8⟩:=place hbo hq
  have hs:=rSaid_ev v hv hok (fun x hx=>(mayN_attrs (ends_may hbo x hx)).2) g1 g2 g3 g4 (fun x hx=>by
   rw[← g6]at hx
   have:=hopL_lt x hx;omega)
  rw[h]at ha ⊢
  rw[words_at hbo g3 g5 g6]
  generalize n.text++textsL v (k.tops (q+1))=S at hs
  refine ev_go rfl (fun cargs w=>call18 cargs w) func18 rfl mixed (by kernel_rfl) rfl ?_;intro b0 hb0
  (repeat' first|simp only[fins,mems,results18,ntmps18,wks,plain_nd,plain_no,vcs,seval,tys]|exact rfl|refine call_off (v:=.any) ?_|(first|(refine call_fn ?_ (ha _) ?_)|(refine call_fn_g ?_ (fun _=>ha _) ?_)|(refine call_fn ?_ (hs _) ?_)|(refine call_fn_g ?_ (fun _=>hs _) ?_))|((first|apply Ca|apply Cb)<;>intro hb)|refine Ai (by omega) ?_|(apply Ai<;>intro hb)|refine Fin.pure ?_ ?_ ?_|simp only[injs])
 ·have h1:(askedE v p != 0)=true:=by simpa using h
  rw[words_none h]
  refine ev_go rfl (fun cargs w=>call18 cargs w) func18 rfl mixed (by kernel_rfl) rfl ?_;intro b0 hb0
  (repeat' first|simp only[fins,mems,results18,ntmps18,wks,h1,plain_nd,vcs,seval,tys]|exact rfl|refine call_off (v:=.any) ?_|(first|(refine call_fn ?_ (ha _) ?_)|(refine call_fn_g ?_ (fun _=>ha _) ?_))|((first|apply Ca|apply Cb)<;>intro hb)|refine Ai (by omega) ?_|(apply Ai<;>intro hb)|refine Fin.pure ?_ ?_ ?_|simp only[injs])
theorem wordsT_ev (v:List Nd)(p:Int)(hv:v.length≤lim)(hok:∀ n∈v,n.okTo lim∧n.i64)(nm:Nat):Ev cx 17 nm [.sl false 6 (v.map ndC),.int .i64 p] Mem.nil (.tup [.str (wordsU v p),.int .i64 (askedE v p)]) []:=by
 by_cases h:askedE v p=0
 ·obtain⟨en,hbo,q,rfl,hq⟩:=asked_case h
  obtain⟨n,k,d,r,g1,g2,g3,g4,g5,g6,g7,g8⟩:=place hbo hq
  have hw:=wrd_yes v hv hok hbo q _ hq g5 nm
  rw[h,words_at hbo g3 g5 g6]
  unfold wrdL at hw
  rw[g3,g6]at hw
  exact hw
 ·rw[words_none h]
  exact wrd_no v hv hok p h nm
end Go.Proofs.Ytfcfldmioonipaa
