/-
 Texts joined: XKi,XKj,XKk,XKn,XKl.
-/
import Derived.Test.YtfcfldmioonipaaQr
import Derived.Test.YtfcfldmioonipaaQm
import Derived.Test.YtfcfldmioonipaaQp
namespace Go.Proofs.Ytfcfldmioonipaa
set_option linter.unusedSimpArgs false
set_option linter.unusedVariables false
open Go Go.RowKit Vm Go.Lib Try
open Vm renaming cond_bool→Ca,cond_bit→Cb
open And renaming intro→Ai
open List renaming length_map→Lm,not_mem_nil→Ln,map_nil→Lo,map_cons→Lc,mem_cons→Lk
open Bool renaming not_false→Bf,not_true→Bt
theorem cloneY_ev (L:Nat)(l:List At)(hl:l.length≤1000000)(nm:Nat):Ev (cx.at L) 46 nm [.sl false 3 (l.map atC)] Mem.nil (.ys L 3 (l.map atC)) []:=by
 have hpl:=plain_at l
 have htk:=tak_at l
 refine((cloneAt_ev l hl nm).at L).young (L:=L) (atG L trivial) (fun x hx k hk=>?_) ?_ ?_
 ·rw[List.mem_singleton]at hx;subst hx
  simp only[Option.some.injEq]at hk;subst hk
  rfl
 ·simp only[fins,mems,wks,hpl,htk,Lm,vcs,seval,tys,Cx.at_P]<;>omega
 ·simp only[V.you,youL,fins,mems,wks,szOf,hpl,htk,Lm,vcs,seval,tys,Cx.at_P]
def twR (L:Nat)(v:List Nd)(k:Nat):List (List V):=(v.take k).map (ndE L)++(v.drop k).map ndC
theorem twR_len (L:Nat)(v:List Nd)(k:Nat):(twR L v k).length=v.length:=by
 unfold twR
 simp only[List.length_append,Lm,List.length_take,List.length_drop];omega
theorem twR_at {L:Nat}{v:List Nd}{k:Nat}{x:Nd}(h:v[k]? = some x):(twR L v k)[k]? = some (ndC x):=by
 obtain⟨hk,rfl⟩:=List.getElem?_eq_some_iff.1 h
 unfold twR
 rw[List.getElem?_append_right (by simp;omega)]
 simp only[Lm,List.length_take,List.getElem?_map,List.getElem?_drop]
 rw[show k+(k-min k v.length)=k by omega,h];rfl
theorem twR_set {L:Nat}{v:List Nd}{k:Nat}{x:Nd}(h:v[k]? = some x):(twR L v k).set k (ndE L x)=twR L v (k+1):=by
 obtain⟨hk,rfl⟩:=List.getElem?_eq_some_iff.1 h
 unfold twR
 rw[List.set_append_right _ _ (by simp;omega),List.take_succ_eq_append_getElem hk,List.map_append]
 simp only[Lm,List.length_take,Lc,Lo,List.append_assoc,List.singleton_append]
 rw[show k-min k v.length=0 by omega,List.drop_eq_getElem_cons hk,Lc,List.set_cons_zero]
theorem twR_all (L:Nat)(v:List Nd):twR L v v.length=v.map (ndE L):=by unfold twR;simp
theorem twR_zero (L:Nat)(v:List Nd):twR L v 0=v.map ndC:=rfl
theorem plain_ne (L:Nat)(l:List Nd):plainLL (l.map (ndE L))=true:=by
 rw[plainLL_all,List.all_eq_true]
 intro r hr
 obtain⟨n,_,rfl⟩:=List.mem_map.1 hr
 exact plain_ndE L n
theorem plain_tw (L:Nat)(v:List Nd)(k:Nat):plainLL (twR L v k)=true:=by
 unfold twR
 rw[plainLL_all,List.all_append,← plainLL_all,← plainLL_all,plain_ne,plain_nd];rfl
theorem ne_le (L:Nat):∀ l:List Nd,leLL (l.map (ndE L)) (l.map ndC)
 | []=>trivial
 | n::l=>by
  refine⟨?_,ne_le L l⟩
  simp only[ndE,ndC,leL_cons,leL_nil,le_int,le_str,le_ys_sl,and_self]
set_option maxRecDepth 100000 in
set_option maxHeartbeats 4000000 in
theorem twinY_ev (L:Nat)(v:List Nd)(hl:v.length≤1000000)(ha:∀ n∈v,n.attrs.length≤1000000)(nm:Nat):Ev (cx.at L) 19 nm [.sl false 6 (v.map ndC)] Mem.nil (.own nm 0 v.length) [(nm,some ⟨6,v.map (ndE L)⟩)]:=by
 have hc:=fun nm=>(cloneNd_ev v hl nm).at L
 have t0:=twR_zero L v
 refine ev_go rfl (fun cargs w=>call19 cargs w) func19 rfl mixed (by kernel_rfl) rfl ?_;intro b0 hb0
 repeat' first|simp only[fins,mems,results19,ntmps19,wks,plain_nd,Lm,vcs,seval,tys,Cx.at_P]|exact rfl|refine call_off (v:=.any) ?_|(refine call_fn_new ?_ (hc _) ?_ ?_)|omega|((first|apply Ca|apply Cb)<;>intro hb)|refine Ai (by omega) ?_|(apply Ai<;>intro hb)
 (refine loop_can2 (cyG L) (fun x:Nat=>v.length-x) (fun x=>x≤v.length) (b0+16) (fun x=>[(3,.own b0 0 v.length),(8,.own b0 0 v.length),(9,.int .i64 v.length),(10,.int .i64 x)]) (fun x=>[(b0,⟨6,twR L v x⟩)]) (0) [some (b0+32)] ?_ ?_ ?_ ?_;rotate_left 1;(focus (show b0≤_;omega));(focus (refine⟨?_,?_⟩<;>(try simp only[cans,t0,plain_tw,plain_nd,isRow_inst,Lm,vcs,seval,tys,Cx.at_P,injs])<;>(try omega)));rotate_left 1)
 ·exact Nat.zero_le _
 ·intro k hk
  by_cases hlt:k<v.length
  ·obtain⟨x,hx⟩:∃ x,v[k]? = some x:=⟨_,List.getElem?_eq_getElem hlt⟩
   have hat:=twR_at (L:=L) hx
   have d1:decide ((k:Int)<(v.length:Int))=true:=decide_eq_true (by omega)
   have d2:decide (k<v.length)=true:=decide_eq_true hlt
   have hki:(k:Int)<(v.length:Int):=by omega
   have hwk:IntKind.i64.wrap ((k:Int)+1)=((k+1:Nat):Int):=wrap_in (by omega) (by omega)
   have hca:=cloneY_ev L x.attrs (ha x (List.mem_of_getElem? hx))
   have hst:=twR_set (L:=L) hx
   have hln:=twR_len L v k
   unfold ndE at hst
   repeat' first|simp only[fins,mems,results19,ntmps19,wks,plain_tw,plain_nd,plain_at,hat,ndC,hlt,hki,d1,d2,hwk,hln,hst,Lm,vcs,seval,tys,Cx.at_P]|exact rfl|refine call_off (v:=.any) ?_|(first|(refine call_fn ?_ (hca _) ?_)|(refine call_fn_g ?_ (fun _=>hca _) ?_))|((first|apply Ca|apply Cb)<;>intro hb)|refine Ai (by omega) ?_|(apply Ai<;>intro hb)
   all_goals ((refine again_can2 (cyG L) (k+1) [some b0] ?_ ?_ ?_ ?_;rotate_left 2;(focus (show b0≤_;omega));(focus (refine⟨?_,?_⟩<;>(try simp only[cans,hwk,hst,isRow_inst,plain_tw,plain_nd,plain_at,ndC,hln,leLL_same,Lm,vcs,seval,tys,Cx.at_P,injs])<;>(try omega)))))
   all_goals (first|(show v.length-(k+1)<v.length-k;omega)|exact hlt|skip)
  ·have hkm:k=v.length:=by omega
   subst hkm
   have d1:decide ((v.length:Int)<(v.length:Int))=false:=decide_eq_false (by omega)
   have d2:decide (v.length<v.length)=false:=decide_eq_false (by omega)
   have hta:=twR_all L v
   repeat' first|simp only[fins,mems,results19,ntmps19,wks,d1,d2,hta,plain_ne,plain_nd,Lm,vcs,seval,tys,Cx.at_P]|exact rfl|refine call_off (v:=.any) ?_|((first|apply Ca|apply Cb)<;>intro hb)|refine Ai (by omega) ?_|(apply Ai<;>intro hb)
   all_goals ((refine Fin.give [(b0,some 0)] [] ?_ ?_ ?_ ?_ ?_ (fun q hq=>by have hqq:=nil_mem q hq;first|(simp only[gives,tgt,Lc,Lo,Lk,Ln,or_false]at hqq ⊢;omega)|(simp only[gives,tgt,Lc,Lo,Lk,Ln,or_false]at hqq))<;>(try simp only[results19,ntmps19,wks,hta,plain_ne,plain_nd,Lm,giv,vcs,seval,tys,Cx.at_P])<;>(try simp only[injs])<;>(try omega)))
theorem twinYs_ev (L:Nat)(v:List Nd)(hl:v.length≤1000000)(ha:∀ n∈v,n.attrs.length≤1000000)(nm:Nat):Ev (cx.at L) 19 nm [.sl false 6 (v.map ndC)] Mem.nil (.ys L 6 (v.map (ndE L))) []:=by
 have hpl:=plain_ne L v
 have htk:(v.map (ndE L)).take v.length=v.map (ndE L):=take_map_len _ _
 refine(twinY_ev L v hl ha nm).young (L:=L) (atG L trivial) (fun x hx k hk=>?_) ?_ ?_
 ·rw[List.mem_singleton]at hx;subst hx
  simp only[Option.some.injEq]at hk;subst hk
  rfl
 ·simp only[fins,mems,wks,hpl,htk,Lm,vcs,seval,tys,Cx.at_P]<;>omega
 ·simp only[V.you,youL,fins,mems,wks,szOf,hpl,htk,Lm,vcs,seval,tys,Cx.at_P]
theorem good_one {n:Nd}{k r:Fo}{d last:Nat}(h:(Fo.cons n k r).good d last=true):(Fo.cons n k .nil).good d 0=true:=by
 obtain⟨h1,h2,h3,h4,h5,h6⟩:=Fo.good_cons.1 h
 exact Fo.good_cons.2 ⟨h1,h2,fun e=>absurd e.1 (by decide),h4,h5,rfl⟩
theorem Fo.at_place:∀(F:Fo) (d last a i:Nat),F.good d last=true→i<F.size → ∃ n k d' r s,d'≤d∧(Fo.cons n k .nil).good d' 0=true∧F.flat.drop i=n::(k.flat++r)∧(F.ends a).drop i=(a+i+1+k.size)::(k.ends (a+i+1)++s)
 | .nil,_,_,_,_,_,h=>absurd h (Nat.not_lt_zero _)
 | .cons n k r,d,last,a,0,h,_=>⟨n,k,d,r.flat,r.ends (a+1+k.size),Nat.le_refl _,good_one h,rfl,rfl⟩
 | .cons n k r,d,last,a,i+1,h,hi=>by
  obtain⟨_,_,_,_,h5,h6⟩:=Fo.good_cons.1 h
  simp only[Fo.size]at hi
  simp only[Fo.flat,Fo.ends,List.drop_succ_cons]
  by_cases hk:i<k.size
  ·obtain⟨n',k',d',r',s',g1,g2,g3,g4⟩:=k.at_place (d-1) 1 (a+1) i h5 hk
   refine⟨n',k',d',r'++r.flat,s'++r.ends (a+1+k.size),by omega,g2,?_,?_⟩
   ·rw[List.drop_append_of_le_length (by rw[Fo.flat_length];omega),g3];simp
   ·rw[List.drop_append_of_le_length (by rw[Fo.ends_length];omega),g4,show a+1+i=a+(i+1) by omega];simp
  ·obtain⟨n',k',d',r',s',g1,g2,g3,g4⟩:=r.at_place d n.kind (a+1+k.size) (i-k.size) h6 (by omega)
   refine⟨n',k',d',r',s',g1,g2,?_,?_⟩
   ·rw[List.drop_append,Fo.flat_length,List.drop_eq_nil_of_le (by rw[Fo.flat_length];omega),List.nil_append,g3]
   ·rw[List.drop_append,Fo.ends_length,List.drop_eq_nil_of_le (by rw[Fo.ends_length];omega),List.nil_append,g4,show a+1+k.size+(i-k.size)=a+(i+1) by omega]
theorem place {v:List Nd}{en:List Nat}(hbo:behindO v=some en){p:Nat}(hp:p<v.length):∃ n k d r,d≤12∧(Fo.cons n k .nil).good d 0=true∧v[p]? = some n∧v.drop p=n::(k.flat++r)∧en[p]? = some (p+1+k.size)∧hopL en (p+1+k.size) (p+1)=k.tops (p+1)∧(v.drop p).take (p+1+k.size-p)=n::k.flat∧p+1+k.size≤v.length:=by
 obtain⟨n0,k0,h1,h2,h3,h4,h5⟩:=behind_iff.1 hbo
 have he:en=(Fo.cons n0 k0 .nil).ends 0:=by rw[h5];simp[Fo.ends]
 have hv:v=(Fo.cons n0 k0 .nil).flat:=by rw[h2];simp[Fo.flat]
 have hsz:p<(Fo.cons n0 k0 .nil).size:=by rw[← Fo.flat_length,← hv];exact hp
 obtain⟨n,k,d,r,s,g1,g2,g3,g4⟩:=Fo.at_place _ 12 0 0 p h3 hsz
 rw[← hv]at g3
 rw[← he]at g4
 simp only[Nat.zero_add]at g4
 have hx:v[p]? = some n:=by
  have:(v.drop p)[0]? = some n:=by rw[g3];rfl
  simpa using this
 have hex:en[p]? = some (p+1+k.size):=by
  have:(en.drop p)[0]? = some (p+1+k.size):=by rw[g4];rfl
  simpa using this
 have hd:en.drop (p+1)=k.ends (p+1)++s:=by
  have:(en.drop p).drop 1=k.ends (p+1)++s:=by rw[g4];rfl
  simpa using this
 refine⟨n,k,d,r,g1,g2,hx,g3,hex,hopL_tops hd,?_,?_⟩
 ·rw[g3,show p+1+k.size-p=k.size+1 by omega,List.take_succ_cons,List.take_append_of_le_length (by rw[Fo.flat_length];omega),List.take_of_length_le (by rw[Fo.flat_length];omega)]
 ·have:=congrArg List.length g3
  simp only[List.length_drop,List.length_cons,List.length_append,Fo.flat_length]at this
  omega
theorem checkB_8 (v:List Nd):checkB v=if checkB v=0 then 0 else 8:=by
 unfold checkB
 split<;>rfl
set_option maxHeartbeats 4000000 in
theorem spoil10_calls (L U b o n c:Nat)(w:World)(hn:n≤1000000)(ht:SpTree 5 1 L U w b o n) :
  Calls Try.prog 10 #[.slice (some ⟨b,o,none⟩) n c] w fun e w'=>e = .returned (.tuple #[])∧Spo L U w w':=by
 have hs0:=Spo.refl L U w
 go_enter func10,ntmps10
 go_wp2
 go_loopw [2] (fun s2 wr=>∃ i:Nat,i≤n∧s2 = .int .i64 i∧Spo L U w wr) (fun s2 _=>n-(RowKit.intOf s2).toNat)
 case atStart=>exact⟨0,Nat.zero_le _,rfl,hs0⟩
 case round =>
  obtain⟨i,hi,rfl,hsp⟩:=hrel
  by_cases hlt:i<n
  ·obtain⟨t1,t2,⟨v1,t3,t4⟩,t5,A,m,cA,t6,t7,t8⟩:=ht i hlt
   go_wp2
   obtain⟨wo,rfl⟩:∃ wo:World,wo=wr:=⟨_,rfl⟩
   go_loopw [3] (fun s3 wr2=>∃ k:Nat,k≤m∧s3 = .int .i64 k∧Spo L U w wr2) (fun s3 _=>m-(RowKit.intOf s3).toNat)
   case atStart=>exact⟨0,Nat.zero_le _,rfl,hsp⟩
   case round =>
    obtain⟨k,hk,rfl,hsq⟩:=hrel
    have e1:=hsq.sl _ _ t6 rfl
    by_cases hkm:k<m
    ·obtain⟨b',o',rfl,a1,a2,a3,v2,a4,a5⟩:=t8 k hkm
     obtain⟨v3,a6⟩:=hsq.ot _ _ a4
     have a7:=(hsq.fro ⟨b',o'+k*3+1,none⟩).trans a3
     go_wp2
     exact⟨⟨k+1,by omega,by simp,hsq.store a1 a2 a4 a5⟩,by simp only[RowKit.intOf];omega⟩
    ·obtain⟨v3,a6⟩:=hsq.ot _ _ t3
     have a7:=(hsq.fro ⟨b,o+i*6+5,none⟩).trans t5
     go_wp2
     exact⟨⟨i+1,by omega,by simp,hsq.store t1 t2 t3 t4⟩,by simp only[RowKit.intOf];omega⟩
  ·go_wp2
   exact⟨rfl,_,results_none results10 _ _ _,rfl,hsp⟩
set_option maxHeartbeats 4000000 in
theorem spoil10_none (A:Option Addr)(c:Nat)(w:World) :
  Calls Try.prog 10 #[.slice A 0 c] w fun e w'=>e = .returned (.tuple #[])∧w'=w:=by
 go_enter func10,ntmps10
 go_wp2
 go_loop [2] (fun s2=>s2 = .int .i64 0) (fun _=>0)
 case atStart=>rfl
 case round =>
  subst hrel
  go_wp2
  exact⟨rfl,_,results_none results10 _ _ _,rfl,rfl⟩
def YT (L U n:Nat)(w:World)(x:Value):Prop:=∃ A c,x = .slice A n c∧(n=0 ∨ ∃ b o,A=some ⟨b,o,none⟩∧SpTree 5 1 L U w b o n)
theorem YT.keep {L U n:Nat}{x:Value}{w w':World}(h:YT L U n w x)(hk:∀ b,L≤b→b<U→w'.heap[b]? = w.heap[b]?):YT L U n w' x:=by
 obtain⟨A,c,rfl,h0|⟨b,o,rfl,ht⟩⟩:=h
 ·exact⟨A,c,rfl,.inl h0⟩
 ·exact⟨_,c,rfl,.inr ⟨b,o,rfl,ht.keep hk⟩⟩
theorem YT.spoil {L U n:Nat}{x:Value}{w:World}(hn:n≤1000000)(h:YT L U n w x):Calls Try.prog 10 #[x] w fun e w'=>e = .returned (.tuple #[])∧Spo L U w w':=by
 obtain⟨A,c,rfl,h0|⟨b,o,rfl,ht⟩⟩:=h
 ·rw[h0]
  refine(spoil10_none A c w).mono ?_
  rintro e w' ⟨rfl,rfl⟩
  exact⟨rfl,Spo.refl _ _ _⟩
 ·exact spoil10_calls L U b o n c w hn ht
theorem Fz.treeE {L:Nat}{w:World}{l:List Nd}{x:Value}(h:Fz w (.ys L 6 (l.map (ndE L))) x):Fz w (.sl false 6 (l.map ndC)) x :=
 Is.rows_le (h.le (.sl false 6 (l.map (ndE L))) (by rw[le_ys_sl];exact⟨rfl,rfl,rfl⟩)) (ne_le L l)
theorem young_treeE {L:Nat}{w:World}{l:List Nd}{x:Value}(h:Fz w (.ys L 6 (l.map (ndE L))) x)(ha:∀ n∈l,n.attrs.length≤1000000):YT L w.heap.size l.length w x:=by
 unfold Fz at h
 generalize hrows:l.map (ndE L)=rows at h
 have hlen:rows.length=l.length:=by rw[← hrows,Lm]
 cases h with
 | ys0 =>
  have:l.length=0:=by rw[← hlen];rfl
  exact⟨_,_,by rw[this],.inl this⟩
 | ys cv hc hL hD hb hf hr hx hu =>
  refine⟨_,_,by rw[← hlen],.inr ⟨_,_,rfl,fun i hi=>?_⟩⟩
  obtain⟨n,hn⟩:∃ n,l[i]? = some n:=⟨_,List.getElem?_eq_getElem hi⟩
  have hrow:rows[i]? = some (ndE L n):=by rw[← hrows,List.getElem?_map,hn];rfl
  have hm:=List.mem_of_getElem? hn
  rename_i b o c
  have c2:(ndE L n)[5]? = some (.int .i64 n.many):=rfl
  refine⟨hL,hb,⟨cv i 5,hx i 5 _ _ hrow c2,?_⟩,frozen_no hf (by omega),?_⟩
  ·have:=hu i 5 _ _ hrow c2
   generalize cv i 5=y at this
   cases this;rfl
  ·have c3:(ndE L n)[3]? = some (.ys L 3 (n.attrs.map atC)):=rfl
   have h1:=hx i 3 _ _ hrow c3
   have h2:=hu i 3 _ _ hrow c3
   generalize cv i 3=y at h1 h2
   have hal:=ha n hm
   generalize hat:n.attrs.map atC=ats at h2
   have hatl:ats.length=n.attrs.length:=by rw[← hat,Lm]
   cases h2 with
   | ys0=>exact⟨_,_,_,h1,Nat.zero_le _,fun k hk=>absurd hk (Nat.not_lt_zero _)⟩
   | ys cw wc wL wD wb wf wr wx wu =>
    refine⟨_,_,_,h1,by omega,fun k hk=>⟨_,_,rfl,wL,wb,frozen_no wf (by omega),?_⟩⟩
    obtain⟨a,haa⟩:∃ a,n.attrs[k]? = some a:=⟨_,List.getElem?_eq_getElem (by omega)⟩
    have hra:ats[k]? = some (atC a):=by rw[← hat,List.getElem?_map,haa];rfl
    refine⟨cw k 1,wx k 1 _ _ hra rfl,?_⟩
    have:=wu k 1 _ _ hra rfl
    generalize cw k 1=y at this
    cases this;rfl
theorem Grows.spo {a w w':World}{L U:Nat}(g:Grows a w)(s:Spo L U w w')(h:a.heap.size≤L):Grows a w' :=
 ⟨by rw[s.size];exact g.size,s.os.trans g.os,s.tape.trans g.tape,s.output.trans g.output,fun b hb=>(s.out b (.inl (by omega))).trans (g.keep b hb)⟩
theorem fz2 {w:World}{a b:V}{x y:Value}(h1:Fz w a x)(h2:Fz w b y):∀(i:Nat) (u:V) (cv:Value),[a,b][i]? = some u → #[x,y][i]? = some cv→Fz w u cv:=by
 intro i u cv h g
 match i with
 | 0=>cases h;cases g;exact h1
 | 1=>cases h;cases g;exact h2
 | i+2=>simp at h
theorem fz_slice {w:World}{t:Bool}{s:Nat}{rows:List (List V)}{x:Value}(h:Fz w (.sl t s rows) x):∃ A c,x = .slice A rows.length c:=by
 cases h with
 | sl0=>exact⟨_,_,rfl⟩
 | sl=>exact⟨_,_,rfl⟩
end Go.Proofs.Ytfcfldmioonipaa
