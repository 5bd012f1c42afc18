/-
 Texts joined: XTc,XCe,XOa,XSj,XSk,XOb,XJb,XSl,XSm.
-/
import Derived.Test.YtfcfldmioonipaaQl
import Derived.Test.YtfcfldmioonipaaQf
import Derived.Test.YtfcfldmioonipaaQe
import Derived.Test.YtfcfldmioonipaaQj
import Derived.Test.YtfcfldmioonipaaQh
namespace Go.Proofs.Ytfcfldmioonipaa
set_option maxRecDepth 100000
set_option maxHeartbeats 32000000
set_option linter.unusedSimpArgs false
set_option linter.unusedVariables false
open Go Go.RowKit Vm Go.Lib Try
open Vm renaming cond_bool→Ca,cond_bit→Cb
open And renaming intro→Ai
open List renaming length_map→Lm,not_mem_nil→Ln,map_nil→Lo,map_cons→Lc,mem_cons→Lk
open Bool renaming not_false→Bf,not_true→Bt
def itoaU (n:Nat):List UInt8:=if n<10 then [(48+n).toUInt8] else [(48+n / 10).toUInt8,(48+n % 10).toUInt8]
def seenF (S:List (List UInt8))(a:At):List (List UInt8):=if (a.space==[])=true then S else if (a.space==xmlU)=true then S else if S.contains a.space=true then S else S++[a.space]
def seenL (l:List At):List (List UInt8):=l.foldl seenF []
def ixU (S:List (List UInt8))(s:List UInt8):Nat:=(S.findIdx? (· == s)).getD S.length
def preU (S:List (List UInt8))(s:List UInt8):List UInt8:=if (s==xmlU)=true then [120,109,108] else 110::itoaU (ixU S s+1)
def relU (S:List (List UInt8))(a:At):At:=⟨[],if (a.space==[])=true then a.name else preU S a.space++58::a.name,a.value⟩
def decU (k:Nat)(s:List UInt8):At:=⟨[],[120,109,108,110,115,58,110]++itoaU (k+1),s⟩
def decsU (S:List (List UInt8)):List At:=S.mapIdx decU
def hdU (n:Nd)(sp:List UInt8):List At:=if (n.space==sp)=true then [] else [⟨[],[120,109,108,110,115],n.space⟩]
def toldU (n:Nd)(sp:List UInt8):Nd:=⟨n.kind,[],n.name,hdU n sp++decsU (seenL n.attrs)++n.attrs.map (relU (seenL n.attrs)),[],n.many⟩
def Fo.bare:Fo→List UInt8→List Nd
 | .nil,_=>[]
 | .cons n k r,sp=>(if n.kind=2 then [n] else toldU n sp::k.bare n.space)++r.bare sp
def foV:Nat→Nat→List Nd→Fo×List Nd
 | 0,_,v=>(.nil,v)
 | _+1,0,v=>(.nil,v)
 | _+1,_+1,[]=>(.nil,[])
 | f+1,c+1,n::v=>(.cons n (foV f n.many.toNat v).1 (foV f c (foV f n.many.toNat v).2).1,(foV f c (foV f n.many.toNat v).2).2)
theorem foV_of:∀(F:Fo) (d last f:Nat) (r:List Nd),F.good d last=true→F.size<f→foV f F.count (F.flat++r)=(F,r)
 | .nil,_,_,f+1,r,_,_=>by simp[Fo.count,Fo.flat,foV]
 | .cons n k r,d,last,f+1,rest,h,hf=>by
  obtain⟨h1,h2,h3,h4,h5,h6⟩:=Fo.good_cons.1 h
  simp only[Fo.size]at hf
  have hk:=foV_of k (d-1) 1 f (r.flat++rest) h5 (by omega)
  have hr:=foV_of r d n.kind f rest h6 (by omega)
  have hm:n.many.toNat=k.count:=by omega
  simp only[Fo.count,Fo.flat,List.cons_append,List.append_assoc,foV,hm,hk,hr]
 | F,_,_,0,_,_,hf=>by omega
def foOf (v:List Nd):Fo:=(foV (v.length+1) 1 v).1
theorem foOf_of {n:Nd}{k:Fo}{d:Nat}(h:(Fo.cons n k .nil).good d 0=true):foOf (n::k.flat) = .cons n k .nil:=by
 have:=foV_of (.cons n k .nil) d 0 ((n::k.flat).length+1) [] h (by simp[Fo.size,Fo.flat_length])
 unfold foOf
 simp only[Fo.count,Fo.flat,List.append_nil]at this
 rw[this]
structure KSt where
 p:Nat
 acc:List Nat
theorem no_snoc (l:List Nat)(p:Nat):l.map noC++[[.int .i64 p]]=(l++[p]).map noC:=by simp[noC]
theorem tak_no (l:List Nat):(l.map noC).take l.length=l.map noC:=take_map_len _ _
theorem kids_no (v:List Nd)(hv:v.length≤lim)(hok:∀ n∈v,n.okTo lim∧n.i64)(p:Int)(h:askedE v p≠0)(nm:Nat):Ev cx 13 nm [.sl false 6 (v.map ndC),.int .i64 p] Mem.nil (.tup [.nils,.int .i64 (askedE v p)]) []:=by
 have ha:=asked_no v hv hok p h
 have q:(askedE v p != 0)=true:=by simpa using h
 refine ev_go rfl (fun cargs w=>call13 cargs w) func13 rfl mixed (by kernel_rfl) rfl ?_;intro b0 hb0
 (repeat' first|simp only[fins,mems,results13,ntmps13,wks,q,plain_nd,Bt,Bf,Lm,vcs,seval,tys]|exact rfl|refine call_off (v:=.any) ?_|(first|(refine call_fn ?_ (ha _) ?_)|(refine call_fn_g ?_ (fun _=>ha _) ?_))|((first|apply Ca|apply Cb)<;>intro hb)|refine Ai (by omega) ?_|(apply Ai<;>intro hb)|refine Fin.pure ?_ ?_ ?_|simp only[injs])
theorem kids_yes (v:List Nd)(hv:v.length≤lim)(hok:∀ n∈v,n.okTo lim∧n.i64){en:List Nat}(hbo:behindO v=some en)(p e:Nat)(hp:p<v.length)(hep:en[p]? = some e)(nm:Nat):Ev cx 13 nm [.sl false 6 (v.map ndC),.int .i64 p] Mem.nil (.tup [.own nm 0 (hopL en e (p+1)).length,.int .i64 0]) [(nm,some ⟨1,(hopL en e (p+1)).map noC⟩)]:=by
 have ha:=asked_yes v hv hok hbo p hp
 obtain⟨hel,hv0,h512,hup⟩:=ends_ok hbo
 have hev:=(hup p e hep).2
 have hat:(en.map noC)[p]? = some (noC e):=by rw[List.getElem?_map,hep];rfl
 have w1:IntKind.i64.wrap ((p:Int)+1)=((p+1:Nat):Int):=wrap_in (by omega) (by omega)
 have hpi:(p:Int)<(v.length:Int):=by omega
 refine ev_go rfl (fun cargs w=>call13 cargs w) func13 rfl mixed (by kernel_rfl) rfl ?_;intro b0 hb0
 repeat' first|simp only[fins,mems,results13,ntmps13,wks,plain_nd,plain_no,w1,Lm,vcs,seval,tys]|exact rfl|refine call_off (v:=.any) ?_|(refine call_fn_new ?_ (ha _) ?_ ?_)|omega|((first|apply Ca|apply Cb)<;>intro hb)|refine Ai (by omega) ?_|(apply Ai<;>intro hb)
 (refine loop_can2 cxG (fun s:KSt=>e-s.p) (fun s=>s.acc.length+e≤s.p+e∧s.acc++hopL en e s.p=hopL en e (p+1)) (b0+16) (fun s=>[(1,.int .i64 p),(4,.own b0 0 s.acc.length),(6,.own (b0+1) 0 v.length),(7,.int .i64 s.p)]) (fun s=>[(b0,⟨1,s.acc.map noC⟩),(b0+1,⟨1,en.map noC⟩)]) (⟨p+1,[]⟩) [none,some (b0+64)] ?_ ?_ ?_ ?_;rotate_left 1;(focus (show b0≤_;omega));(focus (refine⟨?_,?_⟩<;>(try simp only[cans,plain_nd,plain_no,isRow_inst,Lo,List.length_nil,Lm,vcs,seval,tys,injs])<;>(try omega)));rotate_left 1)
 ·exact⟨by simp,rfl⟩
 ·rintro ⟨k,acc⟩ ⟨hk,hinv⟩
  dsimp only at hk hinv ⊢
  by_cases hlt:k<e
  ·obtain⟨e2,he2⟩:∃ e2,en[k]? = some e2:=⟨_,List.getElem?_eq_getElem (by omega)⟩
   have hk2:=(hup k e2 he2).1
   have hat2:(en.map noC)[k]? = some (noC e2):=by rw[List.getElem?_map,he2];rfl
   have d1:decide ((k:Int)<(e:Int))=true:=decide_eq_true (by omega)
   have d2:decide (k<e)=true:=decide_eq_true hlt
   have hkv:k<v.length:=by omega
   have hst:=hopL_step (fun i x _ hi=>(hup i x hi).1) (by omega) hlt he2
   rw[hst]at hinv
   have hll:(acc++[k]).length=acc.length+1:=by simp
   repeat' first|simp only[fins,mems,results13,ntmps13,wks,hat,hat2,noC,d1,d2,hp,hpi,hkv,tak_no,no_snoc,plain_no,Bt,Bf,Lm,vcs,seval,tys]|exact rfl|refine call_off (v:=.any) ?_|((first|apply Ca|apply Cb)<;>intro hb)|refine Ai (by omega) ?_|(apply Ai<;>intro hb)
   all_goals ((refine again_can2 cxG (⟨e2,acc++[k]⟩) [some (b0+160),some (b0+1)] ?_ ?_ ?_ ?_;rotate_left 2;(focus (show b0≤_;omega));(focus (refine⟨?_,?_⟩<;>(try simp only[cans,plain_nd,plain_no,no_snoc,hll,Lm,vcs,seval,tys,injs])<;>(try omega)))))
   all_goals (first|(show e-e2<e-k;omega)|exact⟨by simp;omega,by simpa using hinv⟩|skip)
  ·have d1:decide ((k:Int)<(e:Int))=false:=decide_eq_false (by omega)
   have d2:decide (k<e)=false:=decide_eq_false hlt
   rw[hopL_end hlt,List.append_nil]at hinv
   rw[← hinv]
   repeat' first|simp only[fins,mems,results13,ntmps13,wks,hat,noC,d1,d2,hp,hpi,plain_no,Bt,Bf,Lm,vcs,seval,tys]|exact rfl|refine call_off (v:=.any) ?_|((first|apply Ca|apply Cb)<;>intro hb)|refine Ai (by omega) ?_|(apply Ai<;>intro hb)
   all_goals ((refine Fin.give [(b0,some 0)] [] ?_ ?_ ?_ ?_ ?_ (fun q hq=>by have hqq:=nil_mem q hq;first|(simp only[gives,tgt,Lc,Lo,Lk,Ln,or_false]at hqq ⊢;omega)|(simp only[gives,tgt,Lc,Lo,Lk,Ln,or_false]at hqq))<;>(try simp only[results13,ntmps13,wks,plain_no,Lm,giv,vcs,seval,tys])<;>(try simp only[injs])<;>(try omega)))
theorem one_atL (l:List At):((l.map atC).all fun r=>r.all V.one)=true:=by
 rw[List.all_map,List.all_eq_true];intro a _;rfl
theorem one_ndL (l:List Nd):((l.map ndC).all fun r=>r.all V.one)=true:=by
 rw[List.all_map,List.all_eq_true];intro a _;rfl
theorem cloneAt_ev (l:List At)(hl:l.length≤1000000)(nm:Nat):Ev cx 46 nm [.sl false 3 (l.map atC)] Mem.nil (.own nm 0 l.length) [(nm,some ⟨3,l.map atC⟩)]:=by
 refine ev_go rfl (fun cargs w=>call46 cargs w) func46 rfl mixed (by kernel_rfl) rfl ?_;intro b0 hb0
 repeat' first|simp only[fins,mems,results46,ntmps46,wks,plain_at,one_atL,Lm,vcs,seval,tys]|exact rfl|refine call_off (v:=.any) ?_|((first|apply Ca|apply Cb)<;>intro hb)|refine Ai (by omega) ?_|(apply Ai<;>intro hb)
 ·have h0:l=[]:=by cases l with
   | nil=>rfl
   | cons a r=>cases hb
  subst h0
  ((refine Fin.zero [3] ?_ ?_ ?_ ?_ ?_<;>simp only[results46,ntmps46,ownx,vcs,seval,tys]))
 ·all_goals ((refine Fin.give [(b0+80,some 0)] [] ?_ ?_ ?_ ?_ ?_ (fun q hq=>by have hqq:=nil_mem q hq;first|(simp only[gives,tgt,Lc,Lo,Lk,Ln,or_false]at hqq ⊢;omega)|(simp only[gives,tgt,Lc,Lo,Lk,Ln,or_false]at hqq))<;>(try simp only[results46,ntmps46,wks,plain_at,Lm,giv,vcs,seval,tys])<;>(try simp only[injs])<;>(try omega)))
theorem cloneNd_ev (l:List Nd)(hl:l.length≤1000000)(nm:Nat):Ev cx 45 nm [.sl false 6 (l.map ndC)] Mem.nil (.own nm 0 l.length) [(nm,some ⟨6,l.map ndC⟩)]:=by
 refine ev_go rfl (fun cargs w=>call45 cargs w) func45 rfl mixed (by kernel_rfl) rfl ?_;intro b0 hb0
 repeat' first|simp only[fins,mems,results45,ntmps45,wks,plain_nd,one_ndL,Lm,vcs,seval,tys]|exact rfl|refine call_off (v:=.any) ?_|((first|apply Ca|apply Cb)<;>intro hb)|refine Ai (by omega) ?_|(apply Ai<;>intro hb)
 ·have h0:l=[]:=by cases l with
   | nil=>rfl
   | cons a r=>cases hb
  subst h0
  ((refine Fin.zero [6] ?_ ?_ ?_ ?_ ?_<;>simp only[results45,ntmps45,ownx,vcs,seval,tys]))
 ·all_goals ((refine Fin.give [(b0+80,some 0)] [] ?_ ?_ ?_ ?_ ?_ (fun q hq=>by have hqq:=nil_mem q hq;first|(simp only[gives,tgt,Lc,Lo,Lk,Ln,or_false]at hqq ⊢;omega)|(simp only[gives,tgt,Lc,Lo,Lk,Ln,or_false]at hqq))<;>(try simp only[results45,ntmps45,wks,plain_nd,Lm,giv,vcs,seval,tys])<;>(try simp only[injs])<;>(try omega)))
theorem mayN_attrs {n:Nd}(h:mayN n=true):n.attrs.length≤16∧n.text.length≤16384:=by
 rcases mayN_kind h with hk|hk
 ·obtain⟨h1,_,_,h4⟩:=mayN_elem h hk
  exact⟨(ats_iff.1 h4).1,by rw[h1];simp⟩
 ·obtain⟨_,_,h3,_,_,h6⟩:=mayN_text h hk
  exact⟨by rw[h3];simp,ptsErr_len h6⟩
theorem ends_may {v:List Nd}{en:List Nat}(h:behindO v=some en):∀ n∈v,mayN n=true:=by
 obtain⟨n,k,h1,h2,h3,h4,h5⟩:=behind_iff.1 h
 intro x hx
 have:v=(Fo.cons n k .nil).flat:=by rw[h2];simp[Fo.flat]
 rw[this]at hx
 exact(Fo.good_all h3 x hx).1
theorem sub_no (v:List Nd)(hv:v.length≤lim)(hok:∀ n∈v,n.okTo lim∧n.i64)(p:Int)(h:askedE v p≠0)(nm:Nat):Ev cx 15 nm [.sl false 6 (v.map ndC),.int .i64 p] Mem.nil (.tup [.nils,.int .i64 (askedE v p)]) []:=by
 have ha:=asked_no v hv hok p h
 have q:(askedE v p != 0)=true:=by simpa using h
 have q2:(askedE v p==0)=false:=by simpa using h
 refine ev_go rfl (fun cargs w=>call15 cargs w) func15 rfl mixed (by kernel_rfl) rfl ?_;intro b0 hb0
 (repeat' first|simp only[fins,mems,results15,ntmps15,wks,q,q2,plain_nd,Bt,Bf,Lm,vcs,seval,tys]|exact rfl|refine call_off (v:=.any) ?_|(first|(refine call_fn ?_ (ha _) ?_)|(refine call_fn_g ?_ (fun _=>ha _) ?_))|((first|apply Ca|apply Cb)<;>intro hb)|refine Ai (by omega) ?_|(apply Ai<;>intro hb)|refine Fin.pure ?_ ?_ ?_|simp only[injs])
theorem sub_text (v:List Nd)(hv:v.length≤lim)(hok:∀ n∈v,n.okTo lim∧n.i64){en:List Nat}(hbo:behindO v=some en)(p:Nat){x:Nd}(hx:v[p]? = some x)(hk:x.kind=2)(nm:Nat):Ev cx 15 nm [.sl false 6 (v.map ndC),.int .i64 p] Mem.nil (.tup [.nils,.int .i64 2]) []:=by
 have hp:=(List.getElem?_eq_some_iff.1 hx).1
 have ha:=asked_yes v hv hok hbo p hp
 have hpi:(p:Int)<(v.length:Int):=by omega
 have hat:=nd_at hx
 have q3:((x.kind:Int)==2)=true:=by rw[hk];rfl
 refine ev_go rfl (fun cargs w=>call15 cargs w) func15 rfl mixed (by kernel_rfl) rfl ?_;intro b0 hb0
 repeat' first|simp only[fins,mems,results15,ntmps15,wks,q3,hat,ndC,hp,hpi,plain_nd,plain_no,Bt,Bf,Lm,vcs,seval,tys]|exact rfl|refine call_off (v:=.any) ?_|(refine call_fn_new ?_ (ha _) ?_ ?_)|omega|((first|apply Ca|apply Cb)<;>intro hb)|refine Ai (by omega) ?_|(apply Ai<;>intro hb)
 all_goals ((refine Fin.pure ?_ ?_ ?_<;>simp only[plain_nd,results15,ntmps15,vcs,seval,tys]))
theorem wStrZ_ev (used:Bool)(q:Nat)(M:Mem)(nm:Nat)(hq:M q=some (bK used q .nils))(ho:∀ z,(M z).isSome=true→z∈[q])(hn:q<nm) :
  Ev cx 42 nm [.ptr q 0 0,.str []] M (.tup [.int .i64 0,.val .nilIface]) [(q,some (bK true q .nils))]:=by
 refine ev_go rfl (fun cargs w=>call42 cargs w) func42 rfl mixed (by kernel_rfl) rfl ?_;intro b0 hb0
 have lq:q<b0:=below_of hb0 (by rw[hq];rfl)
 have z0:=lt_ne lq;have z1:=lt_ne_add lq;have z2:=lt_ne' lq;have z3:=lt_ne_add' lq
 repeat' first|simp only[fins,mems,results42,ntmps42,wks,bK_t,hq,z0,z1,z2,z3,vcs,seval,tys]|exact rfl|refine call_off (v:=.any) ?_|(refine call_fn_full ?_ [[q]] (copyN_ev used q _ _ ?_ only_mem (by omega)) ?_ ?_)|((first|apply Ca|apply Cb)<;>intro hb)|refine Ai (by omega) ?_|(apply Ai<;>intro hb)
 refine call_fn_full ?_ [q] (copyN_ev used q _ _ ?_ only_mem (by omega)) ?_ ?_
 ·simp only[vcs,seval,tys]
 ·simp only[only_at,Lk,Ln,hq,vcs,seval,tys]
 ·simp only[Lk,Ln,forall_eq,forall_eq_or_imp,hq,vcs,seval,tys]
 repeat' first|simp only[fins,mems,results42,ntmps42,wks,bK_t,hq,z0,z1,z2,z3,one_b,one_bs,Lm,List.length_nil,vcs,seval,tys]|exact rfl|refine call_off (v:=.any) ?_|((first|apply Ca|apply Cb)<;>intro hb)|refine Ai (by omega) ?_|(apply Ai<;>intro hb)
 all_goals ((refine Fin.give [(q,none)] [] ?_ ?_ ?_ ?_ ?_ (fun q hq=>by have hqq:=ho q hq;first|(simp only[gives,tgt,Lc,Lo,Lk,Ln,or_false]at hqq ⊢;omega)|(simp only[gives,tgt,Lc,Lo,Lk,Ln,or_false]at hqq))<;>(try simp only[results42,ntmps42,wks,rK,ren_cons,renOk_cons,ren_bytes,renOk_bytes,ite_self,Bool.false_and,Bool.false_eq_true,if_false,bK_t,hq,z0,z1,z2,z3,fresh_self,giv,vcs,seval,tys])<;>(try simp only[injs])<;>(try omega)))
def textsL (v:List Nd)(l:List Nat):List UInt8:=l.flatMap fun k=>((v[k]?).map Nd.text).getD []
def wrdL (v:List Nd)(en:List Nat)(p e:Nat):List UInt8:=((v[p]?).map Nd.text).getD []++textsL v (hopL en e (p+1))
theorem hops_lt {en:List Nat}{stop:Nat} : ∀(f p:Nat),∀ x∈hops en stop f p,x<stop
 | 0,_,x,h=>by simp[hops]at h
 | f+1,p,x,h=>by
  simp only[hops]at h
  split at h
  ·rcases List.mem_cons.1 h with rfl|h
   ·assumption
   ·exact hops_lt f _ x h
  ·simp at h
theorem hopL_lt {en:List Nat}{stop p:Nat} : ∀ x∈hopL en stop p,x<stop:=hops_lt _ _
theorem hops_len {en:List Nat}{stop:Nat} : ∀(f p:Nat),(hops en stop f p).length≤f
 | 0,_=>by simp[hops]
 | f+1,p=>by
  simp only[hops]
  split
  ·simp;exact hops_len f _
  ·simp
theorem textsL_take {v:List Nd}{l:List Nat}{k p:Nat}{x:Nd}(h:l[k]? = some p)(hx:v[p]? = some x):textsL v (l.take (k+1))=textsL v (l.take k)++x.text:=by
 obtain⟨hk,rfl⟩:=List.getElem?_eq_some_iff.1 h
 rw[List.take_succ_eq_append_getElem hk]
 unfold textsL
 rw[List.flatMap_append]
 simp[hx]
theorem wrd_no (v:List Nd)(hv:v.length≤lim)(hok:∀ n∈v,n.okTo lim∧n.i64)(p:Int)(h:askedE v p≠0)(nm:Nat):Ev cx 17 nm [.sl false 6 (v.map ndC),.int .i64 p] Mem.nil (.tup [.str [],.int .i64 (askedE v p)]) []:=by
 have ha:=kids_no v hv hok p h
 have q:(askedE v p != 0)=true:=by simpa using h
 refine ev_go rfl (fun cargs w=>call17 cargs w) func17 rfl mixed (by kernel_rfl) rfl ?_;intro b0 hb0
 (repeat' first|simp only[fins,mems,results17,ntmps17,wks,q,plain_nd,Bt,Bf,Lm,vcs,seval,tys]|exact rfl|refine call_off (v:=.any) ?_|(first|(refine call_fn ?_ (ha _) ?_)|(refine call_fn_g ?_ (fun _=>ha _) ?_))|((first|apply Ca|apply Cb)<;>intro hb)|refine Ai (by omega) ?_|(apply Ai<;>intro hb)|refine Fin.pure ?_ ?_ ?_|simp only[injs])
structure WdSt where
 k:Nat
 u:Bool
 bs:List UInt8
theorem wStrG_ev (u:Bool)(q y:Nat)(bs:List UInt8)(M:Mem)(nm:Nat)(s:List UInt8)(hs:bs++s≠[])(hl:bs.length+s.length≤lim)(hqy:q≠y)(hq:M q=some (bS u q y bs))(hy:M y=some (rK bs))(ho:∀ z,(M z).isSome=true→z∈[q,y])(hn:q<nm)(hny:y<nm) :
  Ev cx 42 nm [.ptr q 0 0,.str s] M (.tup [.int .i64 s.length,.val .nilIface]) [(y,none),(q,some (bS false q nm (bs++s))),(nm,some (rK (bs++s)))]:=by
 by_cases h:s=[]
 ·subst h
  rw[List.append_nil]at hs
  have h1:=wStrO_ev true q y bs [] hl M nm hqy (by rw[hq,bS_ne u q y hs]) hy ho hn hny
  rw[List.append_nil]at h1 ⊢
  rw[bS_ne false q nm hs]
  exact h1
 ·exact wStr_ev u q y bs M nm s h hl hqy hq hy ho hn hny
theorem wrd_yes (v:List Nd)(hv:v.length≤lim)(hok:∀ n∈v,n.okTo lim∧n.i64){en:List Nat}(hbo:behindO v=some en)(p e:Nat)(hp:p<v.length)(hep:en[p]? = some e)(nm:Nat):Ev cx 17 nm [.sl false 6 (v.map ndC),.int .i64 p] Mem.nil (.tup [.str (wrdL v en p e),.int .i64 0]) []:=by
 have ha:=kids_yes v hv hok hbo p e hp hep
 obtain⟨hel,hv0,h512,hup⟩:=ends_ok hbo
 obtain⟨x,hx⟩:∃ x,v[p]? = some x:=⟨_,List.getElem?_eq_getElem hp⟩
 have hat:=nd_at hx
 have hpi:(p:Int)<(v.length:Int):=by omega
 have htx:=(mayN_attrs (ends_may hbo x (List.mem_of_getElem? hx))).2
 have hlt:=fun q=>hopL_lt (en:=en) (stop:=e) (p:=p+1) q
 have hln:(hopL en e (p+1)).length≤512:=by
  have:=hops_len (en:=en) (stop:=e) (e-(p+1)) (p+1)
  have:=(hup p e hep).2
  unfold hopL;omega
 have hw:wrdL v en p e=x.text++textsL v (hopL en e (p+1)):=by unfold wrdL;rw[hx];rfl
 rw[hw]
 clear hw
 have hee:=(hup p e hep).2
 generalize hopL en e (p+1)=L at ha hlt hln ⊢
 have t0:textsL v []=[]:=rfl
 have textsL_zero:textsL v (L.take 0)=[]:=rfl
 rcases Decidable.em (x.text=[]) with h0|h0
 (focus (
  have hz:=wStrZ_ev false
  refine ev_go rfl (fun cargs w=>call17 cargs w) func17 rfl mixed (by kernel_rfl) rfl ?_;intro b0 hb0
  repeat' first|simp only[fins,mems,results17,ntmps17,wks,hat,ndC,hp,hpi,h0,plain_nd,plain_no,bK_f,Bt,Bf,Lm,vcs,seval,tys]|exact rfl|refine call_off (v:=.any) ?_|(refine call_fn_new ?_ (ha _) ?_ ?_)|(refine call_fn_full ?_ [b0+192] (hz _ _ _ ?_ only_mem (by omega)) ?_ ?_)|omega|((first|apply Ca|apply Cb)<;>intro hb)|refine Ai (by omega) ?_|(apply Ai<;>intro hb)
  (refine loop_can2 cxG (fun s:WdSt=>L.length-s.k) (fun s=>s.k≤L.length∧s.bs=x.text++textsL v (L.take s.k)∧s.bs.length≤16384*(s.k+1)) (b0+16) (fun s=>[(0,.sl false 6 (v.map ndC)),(8,.ptr b0 0 0),(26,.own (b0+2) 0 L.length),(27,.int .i64 L.length),(28,.int .i64 s.k)]) (fun s=>[(b0,bS s.u b0 (b0+1) s.bs),(b0+1,rK s.bs),(b0+2,⟨1,L.map noC⟩)]) (⟨0,true,[]⟩) [some (b0+192),none,some (b0+64)] ?_ ?_ ?_ ?_;rotate_left 1;(focus (show b0≤_;omega));(focus (refine⟨?_,?_⟩<;>(try simp only[cans,h0,plain_nd,plain_no,bK_t,bS_nil,rK_nil,rK_row,ren_bS,renOk_bS,ren_rK,renOk_rK,Option.getD_some,Option.isSome_some,textsL_zero,List.append_nil,Bool.and_self,Bool.and_false,Bool.false_and,Lm,vcs,seval,tys,injs])<;>(try omega)));rotate_left 1)
  (focus (exact⟨Nat.zero_le _,by simp[textsL_zero,h0,t0],by simp⟩))))
 rotate_left 1
 (focus (
  have hz:=wStrN_ev false
  refine ev_go rfl (fun cargs w=>call17 cargs w) func17 rfl mixed (by kernel_rfl) rfl ?_;intro b0 hb0
  repeat' first|simp only[fins,mems,results17,ntmps17,wks,hat,ndC,hp,hpi,plain_nd,plain_no,bK_f,fresh_self,Bt,Bf,Lm,vcs,seval,tys]|exact rfl|refine call_off (v:=.any) ?_|(refine call_fn_new ?_ (ha _) ?_ ?_)|(refine call_fn_full ?_ [b0+192] (wStrN_ev false (b0+192) x.text h0 (by unfold lim;omega) _ _ ?_ only_mem (by omega)) ?_ ?_)|omega|((first|apply Ca|apply Cb)<;>intro hb)|refine Ai (by omega) ?_|(apply Ai<;>intro hb)
  have hbs:=bS_ne false b0 (b0+1) h0
  (refine loop_can2 cxG (fun s:WdSt=>L.length-s.k) (fun s=>s.k≤L.length∧s.bs=x.text++textsL v (L.take s.k)∧s.bs.length≤16384*(s.k+1)) (b0+16) (fun s=>[(0,.sl false 6 (v.map ndC)),(8,.ptr b0 0 0),(26,.own (b0+2) 0 L.length),(27,.int .i64 L.length),(28,.int .i64 s.k)]) (fun s=>[(b0,bS s.u b0 (b0+1) s.bs),(b0+1,rK s.bs),(b0+2,⟨1,L.map noC⟩)]) (⟨0,false,x.text⟩) [some (b0+192),some (b0+288),some (b0+64)] ?_ ?_ ?_ ?_;rotate_left 1;(focus (show b0≤_;omega));(focus (refine⟨?_,?_⟩<;>(try simp only[cans,hbs,plain_nd,plain_no,bK_t,bS_nil,rK_nil,rK_row,ren_bS,renOk_bS,ren_rK,renOk_rK,Option.getD_some,Option.isSome_some,textsL_zero,List.append_nil,Bool.and_self,Bool.and_false,Bool.false_and,Lm,vcs,seval,tys,injs])<;>(try omega)));rotate_left 1)
  (focus (exact⟨Nat.zero_le _,by simp[textsL_zero,t0],by simp;omega⟩))))
 all_goals (
  rintro ⟨k,u,bs⟩ ⟨hk,hbs,hbl⟩
  dsimp only at hk hbs hbl ⊢
  by_cases hka:k<L.length
  ·obtain⟨q,hq⟩:∃ q,L[k]? = some q:=⟨_,List.getElem?_eq_getElem hka⟩
   have hqe:=hlt q (List.mem_of_getElem? hq)
   obtain⟨y,hy⟩:∃ y,v[q]? = some y:=⟨_,List.getElem?_eq_getElem (by omega)⟩
   have hpL:(L.map noC)[k]? = some (noC q):=by rw[List.getElem?_map,hq];rfl
   have hay:=nd_at hy
   have hpv:=(List.getElem?_eq_some_iff.1 hy).1
   have hpvi:(q:Int)<(v.length:Int):=by omega
   have hd1:decide ((k:Int)<(L.length:Int))=true:=decide_eq_true (by omega)
   have hd2:decide (k<L.length)=true:=decide_eq_true hka
   have hwk:IntKind.i64.wrap ((k:Int)+1)=((k+1:Nat):Int):=wrap_in (by omega) (by omega)
   have hyt:=(mayN_attrs (ends_may hbo y (List.mem_of_getElem? hy))).2
   have hnx:=textsL_take hq hy
   by_cases hne:bs++y.text=[]
   ·obtain⟨rfl,hyz⟩:=List.append_eq_nil_iff.1 hne
    have hz:=wStrZ_ev u
    repeat' first|simp only[fins,mems,results17,ntmps17,wks,hyz,bS_nil,hd1,hd2,hka,hpL,hpv,hpvi,hay,ndC,noC,plain_nd,plain_no,Bt,Bf,Lm,vcs,seval,tys]|exact rfl|refine call_off (v:=.any) ?_|(refine call_fn_full ?_ [b0] (hz b0 _ _ ?_ only_mem (by omega)) ?_ ?_)|((first|apply Ca|apply Cb)<;>intro hb)|refine Ai (by omega) ?_|(apply Ai<;>intro hb)
    all_goals ((refine again_can2 cxG (⟨k+1,true,[]⟩) [some b0,none,some (b0+2)] ?_ ?_ ?_ ?_;rotate_left 2;(focus (show b0≤_;omega));(focus (refine⟨?_,?_⟩<;>(try simp only[cans,hwk,bK_t,bS_nil,rK_nil,rK_row,plain_nd,plain_no,ren_bS,renOk_bS,ren_rK,renOk_rK,Option.getD_some,Option.isSome_some,Bool.and_self,Bool.and_false,Bool.false_and,Lm,vcs,seval,tys,injs])<;>(try omega)))))
    all_goals (first|(show L.length-(k+1)<L.length-k;omega)|exact⟨hka,by rw[hnx,← List.append_assoc,← hbs,hyz];rfl,by simp⟩|skip)
   ·repeat' first|simp only[fins,mems,results17,ntmps17,wks,fresh_self,hd1,hd2,hka,hpL,hpv,hpvi,hay,ndC,noC,plain_nd,plain_no,Bt,Bf,Lm,vcs,seval,tys]|exact rfl|refine call_off (v:=.any) ?_|(refine call_fn_full ?_ [b0,b0+1] (wStrG_ev u b0 (b0+1) bs _ _ y.text hne (by unfold lim;omega) (by omega) ?_ ?_ only_mem (by omega) (by omega)) ?_ ?_)|((first|apply Ca|apply Cb)<;>intro hb)|refine Ai (by omega) ?_|(apply Ai<;>intro hb)
    all_goals ((refine again_can2 cxG (⟨k+1,false,bs++y.text⟩) [some b0,some (b0+160),some (b0+2)] ?_ ?_ ?_ ?_;rotate_left 2;(focus (show b0≤_;omega));(focus (refine⟨?_,?_⟩<;>(try simp only[cans,hwk,rK_row,plain_nd,plain_no,ren_bS,renOk_bS,ren_rK,renOk_rK,Option.getD_some,Option.isSome_some,Bool.and_self,Bool.and_false,Bool.false_and,Lm,vcs,seval,tys,injs])<;>(try omega)))))
    all_goals (first|(show L.length-(k+1)<L.length-k;omega)|exact⟨hka,by rw[hnx,← List.append_assoc,← hbs],by show(bs++y.text).length≤16384*(k+1+1);rw[List.length_append];omega⟩|skip)
  ·have hkm:k=L.length:=by omega
   subst hkm
   rw[List.take_length]at hbs
   first|rw[← hbs]|(rw[h0,List.nil_append]at hbs;rw[← hbs])
   have hd1:decide ((L.length:Int)<(L.length:Int))=false:=decide_eq_false (by omega)
   have hd2:decide (L.length<L.length)=false:=decide_eq_false (by omega)
   (repeat' first|simp only[fins,mems,results17,ntmps17,wks,hd1,hd2,plain_nd,plain_no,Lm,vcs,seval,tys]|exact rfl|refine call_off (v:=.any) ?_|(refine call_fn_full ?_ [b0,b0+1] (bStr_ev u b0 (b0+1) bs _ _ (by unfold lim;omega) (by omega) ?_ ?_ only_mem (by omega) (by omega)) ?_ ?_)|((first|apply Ca|apply Cb)<;>intro hb)|refine Ai (by omega) ?_|(apply Ai<;>intro hb)|refine Fin.pure ?_ ?_ ?_|simp only[injs]))
theorem tree_ofB {v:List Nd}(h:checkB v=0):∃ n k,n.kind=1∧v=n::k.flat∧(Fo.cons n k .nil).good 12 0=true∧k.size+1≤512:=by
 unfold checkB at h
 cases hb:behindO v with
 | none=>rw[hb]at h;cases h
 | some en =>
  obtain⟨n,k,h1,h2,h3,h4,_⟩:=behind_iff.1 hb
  exact⟨n,k,h1,h2,h3,by rw[h2]at h4;simpa [Fo.flat_length] using h4⟩
theorem checkB_of {n:Nd}{k:Fo}(hk:n.kind=1)(h:(Fo.cons n k .nil).good 12 0=true)(hl:k.size+1≤512):checkB (n::k.flat)=0:=by
 unfold checkB;rw[behind_of (Nat.le_refl _) hk h hl];rfl
def loopB (rec:Nat→Option Nat)(v:List Nd):Nat→Nat→Bool→Option Nat
 | 0,next,_=>some next
 | c+1,next,text=>match rec next with
  | none=>none
  | some e=>match v[next]? with
   | none=>none
   | some y=>if (text&&y.kind==2)=true then none else loopB rec v c e (y.kind==2)
def okB (v:List Nd)(dz:Bool)(x:Nd):Bool:=mayN x&&decide (0≤x.many)&&decide (x.many≤(v.length:Int)) && !(x.kind==1&&dz)
def nodeB (rec:Nat→Option Nat)(v:List Nd)(dz:Bool)(p:Nat):Option Nat:=match v[p]? with
 | none=>none
 | some x=>if okB v dz x=true then loopB rec v x.many.toNat (p+1) false else none
def behB (v:List Nd):Nat→Nat→Option Nat
 | 0=>nodeB (fun _=>none) v true
 | d+1=>nodeB (behB v d) v false
theorem at_drop {v:List Nd}{p:Nat}{n:Nd}{r:List Nd}(h:v.drop p=n::r):v[p]? = some n∧p<v.length∧v.drop (p+1)=r:=by
 have h1:v[p]? = some n:=by
  have:(v.drop p)[0]? = some n:=by rw[h];rfl
  rwa[List.getElem?_drop,Nat.add_zero]at this
 refine⟨h1,(List.getElem?_eq_some_iff.1 h1).1,?_⟩
 have:(v.drop p).drop 1=r:=by rw[h];rfl
 rwa[List.drop_drop]at this
theorem flat_len {v:List Nd}{p:Nat}{F:Fo}{r:List Nd}(h:v.drop p=F.flat++r):F.size≤v.length:=by
 have:=congrArg List.length h
 rw[List.length_drop,List.length_append,Fo.flat_length]at this
 omega
theorem count_le_size:∀(F:Fo),F.count≤F.size
 | .nil=>Nat.le_refl _
 | .cons n k r=>by have:=count_le_size r;simp only[Fo.count,Fo.size];omega
theorem loopB_good (v:List Nd):∀(F:Fo) (d last p:Nat) (rest:List Nd) (text:Bool),v.drop p=F.flat++rest→F.good d last=true→(text=true→last=2)→loopB (behB v d) v F.count p text=some (p+F.size)
 | .nil,d,last,p,rest,text,_,_,_=>rfl
 | .cons n k r,d,last,p,rest,text,hd,hg,ht=>by
  obtain⟨h1,h2,h3,h4,h5,h6⟩:=Fo.good_cons.1 hg
  have hd':v.drop p=n::(k.flat++(r.flat++rest)):=by rw[hd];simp[Fo.flat]
  obtain⟨a1,a2,a3⟩:=at_drop hd'
  have hkl:=flat_len a3
  have hkc:=count_le_size k
  have hm:n.many.toNat=k.count:=by omega
  have hok:okB v (d==0) n=true:=by
   unfold okB
   rw[h1,decide_eq_true (by omega),decide_eq_true (by omega)]
   simp only[Bool.and_self,Bool.true_and,Bool.not_eq_true',Bool.and_eq_false_iff,beq_eq_false_iff_ne,ne_eq]
   by_cases hd0:d=0
   ·left;exact fun h=>h4 ⟨h,hd0⟩
   ·right;exact hd0
  have hrec:behB v d p=some (p+1+k.size):=by
   cases d with
   | zero =>
    have hk2:n.kind=2:=by
     rcases mayN_kind h1 with e|e
     ·exact absurd ⟨e,rfl⟩ h4
     ·exact e
    have:=Fo.text_leaf hg hk2
    subst this
    unfold behB nodeB
    rw[a1]
    simp only[beq_self_eq_true]at hok
    simp only[hok,if_true,hm,Fo.count,loopB,Fo.size,Nat.add_zero]
   | succ d =>
    unfold behB nodeB
    rw[a1]
    have hok':okB v false n=true:=hok
    simp only[hok',if_true,hm]
    exact loopB_good v k d 1 (p+1) (r.flat++rest) false a3 h5 (fun h=>by cases h)
  have hdr:v.drop (p+1+k.size)=r.flat++rest:=by
   have:(v.drop (p+1)).drop k.size=r.flat++rest:=by rw[a3,← Fo.flat_length,List.drop_left]
   rwa[List.drop_drop]at this
  have htk:(text&&n.kind==2)=false:=by
   cases text with
   | false=>rfl
   | true =>
    rw[Bool.true_and,beq_eq_false_iff_ne]
    exact fun h=>h3 ⟨ht rfl,h⟩
  simp only[Fo.count,loopB,hrec,a1,htk,Bool.false_eq_true,if_false]
  rw[loopB_good v r d n.kind (p+1+k.size) rest (n.kind==2) hdr h6 (fun h=>by simpa using h)]
  simp only[Fo.size]
  congr 1;omega
theorem behB_good {v:List Nd}{n:Nd}{k:Fo}{d p:Nat}{rest:List Nd}(hd:v.drop p=n::(k.flat++rest))(hg:(Fo.cons n k .nil).good d 0=true):behB v d p=some (p+1+k.size):=by
 have h:=loopB_good v (.cons n k .nil) d 0 p rest false (by rw[hd];simp[Fo.flat]) hg (fun h=>by cases h)
 simp only[Fo.count,loopB,Fo.size,Nat.add_zero,Nat.zero_add]at h
 cases hb:behB v d p with
 | none=>rw[hb]at h;cases h
 | some e =>
  rw[hb,(at_drop hd).1]at h
  simp only[Bool.false_and,Bool.false_eq_true,if_false,Option.some.injEq]at h
  rw[h];congr 1;omega
theorem loopB_some {rec:Nat→Option Nat}{v:List Nd}{d:Nat}(hrec:∀ p e,rec p=some e → ∃ n k rest,v.drop p=n::(k.flat++rest)∧(Fo.cons n k .nil).good d 0=true∧e=p+1+k.size) :
  ∀(c p:Nat) (text:Bool) (e last:Nat),loopB rec v c p text=some e→(last=2→text=true)→p≤v.length → ∃(F:Fo) (rest:List Nd),v.drop p=F.flat++rest∧F.count=c∧F.good d last=true∧e=p+F.size
 | 0,p,text,e,last,h,_,_=>by
  simp only[loopB,Option.some.injEq]at h
  exact⟨.nil,v.drop p,rfl,rfl,rfl,by simp[Fo.size,h]⟩
 | c+1,p,text,e,last,h,hl,hp=>by
  simp only[loopB]at h
  cases hr:rec p with
  | none=>rw[hr]at h;cases h
  | some e1 =>
   rw[hr]at h
   obtain⟨n,k,rest,a1,a2,a3⟩:=hrec p e1 hr
   obtain⟨b1,b2,b3⟩:=at_drop a1
   rw[b1]at h
   simp only at h
   split at h
   ·cases h
   ·rename_i htx
    obtain⟨g1,g2,g3,g4,g5,g6⟩:=Fo.good_cons.1 a2
    have hdr:v.drop e1=rest:=by
     have:(v.drop (p+1)).drop k.size=rest:=by rw[b3,← Fo.flat_length,List.drop_left]
     rw[List.drop_drop]at this
     rw[a3];exact this
    have he1:e1≤v.length:=by
     have:=congrArg List.length b3
     rw[List.length_drop,List.length_append,Fo.flat_length]at this
     omega
    obtain⟨R,rest2,c1,c2,c3,c4⟩:=loopB_some hrec c e1 (n.kind==2) e n.kind h (fun h=>by simp[h]) he1
    rw[hdr]at c1
    refine⟨.cons n k R,rest2,?_,?_,Fo.good_cons.2 ⟨g1,g2,fun hx=>?_,g4,g5,c3⟩,?_⟩
    ·rw[a1,c1];simp[Fo.flat]
    ·simp only[Fo.count,c2]
    ·exact htx (by rw[hl hx.1,hx.2];rfl)
    ·simp only[Fo.size];omega
theorem behB_some {v:List Nd} : ∀ {d p e:Nat},behB v d p=some e → ∃ n k rest,v.drop p=n::(k.flat++rest)∧(Fo.cons n k .nil).good d 0=true∧e=p+1+k.size
 | 0,p,e,h=>by
  unfold behB nodeB at h
  cases hx:v[p]? with
  | none=>rw[hx]at h;cases h
  | some x =>
   rw[hx]at h
   simp only at h
   split at h
   ·rename_i hok
    unfold okB at hok
    simp only[Bool.and_true,Bool.and_eq_true,decide_eq_true_eq,Bool.not_eq_true',beq_eq_false_iff_ne]at hok
    obtain⟨⟨⟨h1,h2⟩,h3⟩,h4⟩:=hok
    have hk2:x.kind=2:=by
     rcases mayN_kind h1 with e|e
     ·exact absurd e h4
     ·exact e
    have hm:=(mayN_text h1 hk2).2.2.2.1
    rw[hm]at h
    simp only[Int.toNat_zero,loopB,Option.some.injEq]at h
    obtain⟨hp,hpe⟩:=List.getElem?_eq_some_iff.1 hx
    refine⟨x,.nil,v.drop (p+1),?_,Fo.good_cons.2 ⟨h1,by rw[hm];rfl,by omega,by omega,rfl,rfl⟩,by simp[Fo.size,h]⟩
    rw[List.drop_eq_getElem_cons hp,hpe];rfl
   ·cases h
 | d+1,p,e,h=>by
  unfold behB nodeB at h
  cases hx:v[p]? with
  | none=>rw[hx]at h;cases h
  | some x =>
   rw[hx]at h
   simp only at h
   split at h
   ·rename_i hok
    unfold okB at hok
    simp only[Bool.and_false,Bf,Bool.and_true,Bool.and_eq_true,decide_eq_true_eq]at hok
    obtain⟨⟨h1,h2⟩,h3⟩:=hok
    obtain⟨hp,hpe⟩:=List.getElem?_eq_some_iff.1 hx
    obtain⟨F,rest,c1,c2,c3,c4⟩:=loopB_some (d:=d) (fun p e he=>behB_some he) x.many.toNat (p+1) false e 1 h (fun h=>by cases h) hp
    refine⟨x,F,rest,?_,Fo.good_cons.2 ⟨h1,by omega,by omega,by omega,c3,rfl⟩,c4⟩
    rw[List.drop_eq_getElem_cons hp,hpe,c1]
   ·cases h
theorem behB_le {v:List Nd}{d p e:Nat}(h:behB v d p=some e):p<e∧e≤v.length:=by
 obtain⟨n,k,rest,h1,_,h3⟩:=behB_some h
 obtain⟨_,_,a3⟩:=at_drop h1
 obtain⟨_,hp,_⟩:=at_drop h1
 have:=congrArg List.length a3
 rw[List.length_drop,List.length_append,Fo.flat_length]at this
 omega
def mayT (v:List Nd):Bool:=decide (checkB v=0)
theorem mayT_eq (v:List Nd):mayT v=(((decide (0<v.length)&&decide (v.length≤512))&&((v[0]?).map Nd.kind==some 1))&&(behB v 12 0==some v.length)):=by
 rw[Bool.eq_iff_iff]
 unfold mayT
 simp only[decide_eq_true_eq,Bool.and_eq_true,beq_iff_eq]
 constructor
 ·intro h
  obtain⟨n,k,hk,hv,hg,hl⟩:=tree_ofB h
  have hlen:v.length=k.size+1:=by rw[hv];simp[Fo.flat_length]
  have hb:=behB_good (v:=v) (n:=n) (k:=k) (d:=12) (p:=0) (rest:=[]) (by rw[List.drop_zero,List.append_nil];exact hv) hg
  refine⟨⟨⟨by omega,by omega⟩,by rw[hv];simp[hk]⟩,?_⟩
  rw[hb];congr 1;omega
 ·rintro ⟨⟨⟨h1,h2⟩,h3⟩,h4⟩
  obtain⟨n,k,rest,a1,a2,a3⟩:=behB_some h4
  rw[List.drop_zero]at a1
  have hr:rest=[]:=by
   have:=congrArg List.length a1
   simp only[List.length_cons,List.length_append,Fo.flat_length]at this
   exact List.eq_nil_of_length_eq_zero (by omega)
  subst hr
  rw[List.append_nil]at a1
  have hk:n.kind=1:=by rw[a1]at h3;simpa using h3
  rw[a1]
  exact checkB_of hk a2 (by rw[a1]at h2;simpa [Fo.flat_length] using h2)
theorem tok1_ev (a:At)(nm:Nat):Ev cx 35 nm [.agg (atC a)] Mem.nil (.bool (!a.space.isEmpty)) []:=by
 refine ev_go rfl (fun cargs w=>call35 cargs w) func35 rfl mixed (by kernel_rfl) rfl ?_;intro b0 hb0
 (repeat' first|simp only[fins,mems,results35,ntmps35,wks,atC,beq_nil,vcs,seval,tys]|exact rfl|refine call_off (v:=.any) ?_|((first|apply Ca|apply Cb)<;>intro hb)|refine Ai (by omega) ?_|(apply Ai<;>intro hb)|refine Fin.pure ?_ ?_ ?_|simp only[injs])
def AllF (P:Nd→Fo→Prop):Fo→Prop
 | .nil=>True
 | .cons n k r=>P n k∧AllF P r
def pkC (v:List Nd)(en:List Nat)(sp lb pb:Nat):V:=.fn 33 [.rp [.sl false 6 (v.map ndC)],.ptr sp 0 0,.ptr lb 0 0,.rp [.sl false 1 (en.map noC)],.ptr pb 0 0]
def PutOk (v:List Nd)(en:List Nat)(sp lb pb:Nat)(n:Nd)(k:Fo):Prop :=
  ∀(p:Nat) (r:List Nd) (er:List Nat) (L:List Tk) (s:Bool) (lk:Nat) (M:Mem) (nm:Nat),v.drop p=n::(k.flat++r)→en.drop p=(p+1+k.size)::(k.ends (p+1)++er)→L.length+(Fo.cons n k .nil).toks.length≤2000 →
    sp≠lk→lb≠lk→pb≠lk→M sp=some ⟨1,[[.bool s]]⟩→M lb=some ⟨1,[[.own lk 0 L.length]]⟩→M lk=some ⟨4,L.map tkC⟩→M pb=some ⟨1,[[pkC v en sp lb pb]]⟩→(∀ z,(M z).isSome=true→z∈[sp,lb,lk,pb])→sp<nm→lb<nm→lk<nm→pb<nm →
    Ev cx 33 nm [.int .i64 p,.rp [.sl false 6 (v.map ndC)],.ptr sp 0 0,.ptr lb 0 0,.rp [.sl false 1 (en.map noC)],.ptr pb 0 0] M (.tup [])
      [(lk,none),(sp,some ⟨1,[[.bool (s||spacedL (n::k.flat))]]⟩),(lb,some ⟨1,[[.own nm 0 (L++(Fo.cons n k .nil).toks).length]]⟩),(pb,some ⟨1,[[pkC v en sp lb pb]]⟩),(nm,some ⟨4,(L++(Fo.cons n k .nil).toks).map tkC⟩)]
structure TkSt where
 R:Fo
 q:Nat
 L:List Tk
 s:Bool
theorem tak_tk (l:List Tk):(l.map tkC).take l.length=l.map tkC:=take_map_len _ _
theorem tk_snoc (l:List Tk)(t:Tk):l.map tkC++[tkC t]=(l++[t]).map tkC:=by simp
theorem pairs_take {l:List At}{k:Nat}{a:At}(h:l[k]? = some a):(pairsL (l.take k)).map prC++[[.str a.name,.str a.value]]=(pairsL (l.take (k+1))).map prC:=by
 obtain⟨hk,rfl⟩:=List.getElem?_eq_some_iff.1 h
 unfold pairsL
 rw[List.take_succ_eq_append_getElem hk,List.map_append,List.map_append];rfl
theorem pairs_zero:pairsL []=[]:=rfl
theorem pairs_len (l:List At):(pairsL l).length=l.length:=by simp[pairsL]
theorem drop_no {en:List Nat}{p e:Nat}{r:List Nat}(h:en.drop p=e::r):(en.map noC)[p]? = some (noC e)∧p<en.length:=by
 have h1:en[p]? = some e:=by have:=congrArg (·[0]?) h;simpa using this
 exact⟨by rw[List.getElem?_map,h1];rfl,(List.getElem?_eq_some_iff.1 h1).1⟩
theorem put_text (v:List Nd)(hv:v.length≤512)(en:List Nat)(sp lb pb:Nat)(d1:sp≠lb)(d2:sp≠pb)(d3:lb≠pb)(n:Nd)(k:Fo)(hn:n.okTo lim)(hk:n.kind=2)(hk0:k = .nil):PutOk v en sp lb pb n k:=by
 subst hk0
 intro p r er L s lk M nm hvd hed hL e1 e2 e3 hsp hlb hlk hpb ho l1 l2 l3 l4
 obtain⟨hx,_,hp⟩:=drop_at hvd
 have hat:=nd_at hx
 have hpi:(p:Int)<(v.length:Int):=by omega
 have hkb:((n.kind:Int)==2)=true:=by rw[hk];rfl
 have hco:=containsat_ev n.attrs 35 [] (fun a=>!a.space.isEmpty) (fun a _ nm=>tok1_ev a nm) hn.1 rfl
 have htk:(Fo.cons n .nil .nil).toks=[⟨4,[],[],n.text⟩]:=by simp[Fo.toks,hk]
 have hss:(s||spacedL (n::Fo.nil.flat))=((s || !n.space.isEmpty)||n.attrs.any fun a=>!a.space.isEmpty):=by simp[spacedL,spacedN,Fo.flat,Bool.or_assoc]
 rw[htk]at hL ⊢
 rw[hss]
 have hLn:L.length≤2000:=by simp at hL;omega
 generalize (n.attrs.any fun a=>!a.space.isEmpty)=B at hco ⊢
 have hsn:=tk_snoc L ⟨4,[],[],n.text⟩
 have hll:(L++[(⟨4,[],[],n.text⟩:Tk)]).length=L.length+1:=by simp
 rw[← hsn,hll]
 refine Ev.last_le (eff:=[(lk,none),(sp,_),(lb,_),(pb,_)]) (k:=⟨4,L.map tkC++[[.int .u8 4,.str [],.nils,.str n.text]]⟩) ?_ ⟨rfl,.inl rfl,leLL_append (by rw[show tkC ⟨4,[],[],n.text⟩=[.int .u8 4,.str [],.sl false 2 [],.str n.text] from rfl];simp only[leLL_cons,leL_cons,leL_nil,le_int,le_str,le_nils_sl,leLL,and_self])⟩
 have g1:(nm=sp)=False:=eq_false (by omega);have g2:(nm=lb)=False:=eq_false (by omega);have g3:(nm=pb)=False:=eq_false (by omega)
 unfold pkC at hpb ⊢
 simp only[List.cons_append,List.nil_append]
 have n1:=eq_false d1;have n2:=eq_false d2;have n3:=eq_false d3;have n4:=eq_false e1;have n5:=eq_false e2;have n6:=eq_false e3
 have n7:=eq_false (Ne.symm d1);have n8:=eq_false (Ne.symm d2);have n9:=eq_false (Ne.symm d3);have o4:=eq_false (Ne.symm e1);have o5:=eq_false (Ne.symm e2);have o6:=eq_false (Ne.symm e3)
 refine ev_go rfl (fun cargs w=>call33 cargs w) func33 rfl mixed (by kernel_rfl) rfl ?_;intro b0 hb0
 have k1:sp<b0:=below_of hb0 (by rw[hsp];rfl)
 have k2:lb<b0:=below_of hb0 (by rw[hlb];rfl)
 have k3:lk<b0:=below_of hb0 (by rw[hlk];rfl)
 have k4:pb<b0:=below_of hb0 (by rw[hpb];rfl)
 have z0:=lt_ne k1;have z1:=lt_ne_add k1;have z2:=lt_ne' k1;have z3:=lt_ne_add' k1
 have y0:=lt_ne k2;have y1:=lt_ne_add k2;have y2:=lt_ne' k2;have y3:=lt_ne_add' k2
 have x0:=lt_ne k3;have x1:=lt_ne_add k3;have x2:=lt_ne' k3;have x3:=lt_ne_add' k3
 have w0:=lt_ne k4;have w1:=lt_ne_add k4;have w2:=lt_ne' k4;have w3:=lt_ne_add' k4
 repeat' first|simp only[fins,mems,results33,ntmps33,wks,hat,ndC,tkC,hkb,hp,hpi,beq_nil,hsp,hlb,hlk,hpb,tak_tk,plain_nd,plain_at,plain_tk,plain_pr,n1,n2,n3,n4,n5,n6,n7,n8,n9,o4,o5,o6,z0,z1,z2,z3,y0,y1,y2,y3,x0,x1,x2,x3,w0,w1,w2,w3,Lo,Bt,Bf,Lm,vcs,seval,tys]|exact rfl|refine call_off (v:=.any) ?_|(first|(refine call_fn ?_ (hco _) ?_)|(refine call_fn_g ?_ (fun _=>hco _) ?_))|((first|apply Ca|apply Cb)<;>intro hb)|refine Ai (by omega) ?_|(apply Ai<;>intro hb)
 all_goals ((refine Fin.give [(sp,none),(lb,none),(pb,none),(b0+416,some 0)] [lk] ?_ ?_ ?_ ?_ ?_ (fun q hq=>by have hqq:=ho q hq;first|(simp only[gives,tgt,Lc,Lo,Lk,Ln,or_false]at hqq ⊢;omega)|(simp only[gives,tgt,Lc,Lo,Lk,Ln,or_false]at hqq))<;>(try simp only[results33,ntmps33,wks,hsp,hlb,hlk,hpb,tkC,g1,g2,g3,plain_nd,plain_no,plain_tk,plainLL_append,Lo,n1,n2,n3,n4,n5,n6,n7,n8,n9,o4,o5,o6,z0,z1,z2,z3,y0,y1,y2,y3,x0,x1,x2,x3,w0,w1,w2,w3,Bool.and_self,Bool.and_false,Bool.false_and,Lm,giv,vcs,seval,tys])<;>(try simp only[injs])<;>(try omega)))
theorem put_elem (v:List Nd)(hv:v.length≤512)(en:List Nat)(hen:en.length=v.length)(sp lb pb:Nat)(d1:sp≠lb)(d2:sp≠pb)(d3:lb≠pb)(n:Nd)(k:Fo)(hn:n.okTo lim)(ha16:n.attrs.length≤16)(hk:n.kind≠2)(hm:n.many=(k.count:Int))(ih:AllF (PutOk v en sp lb pb) k):PutOk v en sp lb pb n k:=by
 intro p r er L s lk M nm hvd hed hL e1 e2 e3 hsp hlb hlk hpb ho l1 l2 l3 l4
 obtain⟨hx,hvd1,hp⟩:=drop_at hvd
 have hat:=nd_at hx
 have hpi:(p:Int)<(v.length:Int):=by omega
 have hkb:((n.kind:Int)==2)=false:=beq_false_of_ne (by omega)
 obtain⟨heat,hpe⟩:=drop_no hed
 have hco:=containsat_ev n.attrs 35 [] (fun a=>!a.space.isEmpty) (fun a _ nm=>tok1_ev a nm) hn.1 rfl
 have hss:(s||spacedL (n::k.flat))=(((s || !n.space.isEmpty)||n.attrs.any fun a=>!a.space.isEmpty)||spacedL k.flat):=by simp[spacedL,spacedN,Bool.or_assoc]
 rw[hss]
 clear hss
 have hLn:L.length≤2000:=by omega
 generalize hs1:(n.attrs.any fun a=>!a.space.isEmpty)=B at hco ⊢
 generalize hs2:((s || !n.space.isEmpty)||B)=S1
 have hw1:IntKind.i64.wrap ((p:Int)+1)=((p+1:Nat):Int):=wrap_in (by omega) (by omega)
 have n1:=eq_false d1;have n2:=eq_false d2;have n3:=eq_false d3;have n4:=eq_false e1;have n5:=eq_false e2;have n6:=eq_false e3
 have n7:=eq_false (Ne.symm d1);have n8:=eq_false (Ne.symm d2);have n9:=eq_false (Ne.symm d3);have o4:=eq_false (Ne.symm e1);have o5:=eq_false (Ne.symm e2);have o6:=eq_false (Ne.symm e3)
 obtain⟨RAW,hr0,hr1,hrl⟩:∃ RAW:List (List V),(k.count=0→RAW=(L++(Fo.cons n k .nil).toks).map tkC)∧(k.count≠0→RAW=(L++⟨1,n.name,pairsL n.attrs,[]⟩::k.toks).map tkC++[[.int .u8 2,.str n.name,.nils,.str []]])∧leLL RAW ((L++(Fo.cons n k .nil).toks).map tkC):=by
  by_cases hk0:k.count=0
  ·exact⟨_,fun _=>rfl,fun h=>absurd hk0 h,leLL_refl _⟩
  ·refine⟨_,fun h=>absurd h hk0,fun _=>rfl,?_⟩
   have hm0:¬ n.many=0:=by rw[hm];simpa using hk0
   have htk:(Fo.cons n k .nil).toks=⟨1,n.name,pairsL n.attrs,[]⟩::(k.toks++[⟨2,n.name,[],[]⟩]):=by simp[Fo.toks,hk,hm0]
   rw[htk,show L++⟨1,n.name,pairsL n.attrs,[]⟩::(k.toks++[⟨2,n.name,[],[]⟩])=(L++⟨1,n.name,pairsL n.attrs,[]⟩::k.toks)++[⟨2,n.name,[],[]⟩] by simp,← tk_snoc]
   refine leLL_append ?_
   rw[show tkC ⟨2,n.name,[],[]⟩=[.int .u8 2,.str n.name,.sl false 2 [],.str []] from rfl]
   simp only[leLL_cons,leL_cons,leL_nil,le_int,le_str,le_nils_sl,leLL,and_self]
 refine Ev.last_le (eff:=[(lk,none),(sp,_),(lb,_),(pb,_)]) (k:=⟨4,RAW⟩) ?_ ⟨rfl,.inl rfl,hrl⟩
 clear hrl
 simp only[List.cons_append,List.nil_append]
 unfold pkC at hpb ⊢
 refine ev_goW rfl (fun cargs w=>call33 cargs w) func33 rfl mixed (by kernel_rfl) rfl ?_;intro b0 hb0
 have k1:sp<b0:=below_of hb0 (by rw[hsp];rfl)
 have k2:lb<b0:=below_of hb0 (by rw[hlb];rfl)
 have k3:lk<b0:=below_of hb0 (by rw[hlk];rfl)
 have k4:pb<b0:=below_of hb0 (by rw[hpb];rfl)
 have z0:=lt_ne k1;have z1:=lt_ne_add k1;have z2:=lt_ne' k1;have z3:=lt_ne_add' k1
 have y0:=lt_ne k2;have y1:=lt_ne_add k2;have y2:=lt_ne' k2;have y3:=lt_ne_add' k2
 have x0:=lt_ne k3;have x1:=lt_ne_add k3;have x2:=lt_ne' k3;have x3:=lt_ne_add' k3
 have w0:=lt_ne k4;have w1:=lt_ne_add k4;have w2:=lt_ne' k4;have w3:=lt_ne_add' k4
 repeat' first|simp only[fins,mems,results33,ntmps33,wks,hat,ndC,hkb,hp,hpi,beq_nil,hs2,hsp,hlb,hlk,hpb,plain_nd,plain_at,plain_tk,plain_pr,n1,n2,n3,n4,n5,n6,n7,n8,n9,o4,o5,o6,z0,z1,z2,z3,y0,y1,y2,y3,x0,x1,x2,x3,w0,w1,w2,w3,Lo,Bt,Bf,Lm,vcs,seval,tys]|exact rfl|refine call_off (v:=.any) ?_|(first|(refine call_fn ?_ (hco _) ?_)|(refine call_fn_g ?_ (fun _=>hco _) ?_))|refine mid_skip ?_|((first|apply Ca|apply Cb)<;>intro hb)|refine Ai (by omega) ?_|(apply Ai<;>intro hb)
 (refine loop_can2 cxG (fun x:Nat=>n.attrs.length-x) (fun x=>x≤n.attrs.length) (b0+16) (fun x=>[(0,.int .i64 p),(3,.ptr lb 0 0),(4,.rp [.sl false 1 (en.map noC)]),(5,.ptr pb 0 0),(2,.ptr sp 0 0),(7,.ptr b0 0 0),(8,.ptr (b0+1) 0 0),(40,.sl false 3 (n.attrs.map atC)),(41,.int .i64 n.attrs.length),(42,.int .i64 x)]) (fun x=>[(b0,⟨6,[ndC n]⟩),(b0+1,⟨4,[[.int .u8 3,.str n.name,.own (b0+2) 0 x,.str []]]⟩),(b0+2,⟨2,(pairsL (n.attrs.take x)).map prC⟩),(sp,⟨1,[[.bool S1]]⟩),(lb,⟨1,[[.own lk 0 L.length]]⟩),(lk,⟨4,L.map tkC⟩),(pb,⟨1,[[.fn 33 [.rp [.sl false 6 (v.map ndC)],.ptr sp 0 0,.ptr lb 0 0,.rp [.sl false 1 (en.map noC)],.ptr pb 0 0]]]⟩)]) (0) [some (b0+64),some (b0+384),none,some sp,some lb,some lk,some pb] ?_ ?_ ?_ ?_;rotate_left 1;(focus (show b0≤_;omega));(focus (refine⟨?_,?_⟩<;>(try simp only[cans,plain_nd,plain_no,plain_pr,plain_at,plain_tk,pairs_zero,List.take_zero,Lo,isRow_inst,ndC,hsp,hlb,hlk,hpb,n1,n2,n3,n4,n5,n6,n7,n8,n9,o4,o5,o6,z0,z1,z2,z3,y0,y1,y2,y3,x0,x1,x2,x3,w0,w1,w2,w3,Bool.and_self,Bool.and_false,Bool.false_and,Lm,vcs,seval,tys,injs])<;>(try omega)));rotate_left 1)
 ·exact Nat.zero_le _
 ·intro i hi
  by_cases hlt:i<n.attrs.length
  ·obtain⟨a,ha⟩:∃ a,n.attrs[i]? = some a:=⟨_,List.getElem?_eq_getElem hlt⟩
   have haa:=at_at ha
   have q1:decide ((i:Int)<(n.attrs.length:Int))=true:=decide_eq_true (by omega)
   have q2:decide (i<n.attrs.length)=true:=decide_eq_true hlt
   have hwk:IntKind.i64.wrap ((i:Int)+1)=((i+1:Nat):Int):=wrap_in (by omega) (by omega)
   have hpl:((pairsL (n.attrs.take i)).map prC).length=i:=by rw[Lm,pairs_len,List.length_take];omega
   have hpl2:(pairsL (n.attrs.take i)).length=i:=by rw[pairs_len,List.length_take];omega
   have htk:((pairsL (n.attrs.take i)).map prC).take i=(pairsL (n.attrs.take i)).map prC:=List.take_of_length_le (by omega)
   have hsn:=pairs_take ha
   repeat' first|simp only[fins,mems,results33,ntmps33,wks,haa,atC,hlt,q1,q2,hwk,htk,hsn,hpl,hpl2,plain_pr,n1,n2,n3,n4,n5,n6,n7,n8,n9,o4,o5,o6,z0,z1,z2,z3,y0,y1,y2,y3,x0,x1,x2,x3,w0,w1,w2,w3,Bt,Bf,Lm,vcs,seval,tys]|exact rfl|refine call_off (v:=.any) ?_|((first|apply Ca|apply Cb)<;>intro hb)|refine Ai (by omega) ?_|(apply Ai<;>intro hb)
   all_goals ((refine again_can2 cxG (i+1) [some b0,some (b0+1),some (b0+224),some sp,some lb,some lk,some pb] ?_ ?_ ?_ ?_;rotate_left 2;(focus (show b0≤_;omega));(focus (refine⟨?_,?_⟩<;>(try simp only[cans,hwk,ndC,plain_nd,plain_no,plain_pr,plain_at,plain_tk,isRow_inst,n1,n2,n3,n4,n5,n6,n7,n8,n9,o4,o5,o6,z0,z1,z2,z3,y0,y1,y2,y3,x0,x1,x2,x3,w0,w1,w2,w3,Bool.and_self,Bool.and_false,Bool.false_and,Lm,vcs,seval,tys,injs])<;>(try omega)))))
   all_goals (first|(show n.attrs.length-(i+1)<n.attrs.length-i;omega)|exact hlt|skip)
  ·have hie:i=n.attrs.length:=by omega
   subst hie
   have q1:decide ((n.attrs.length:Int)<(n.attrs.length:Int))=false:=decide_eq_false (by omega)
   have q2:decide (n.attrs.length<n.attrs.length)=false:=decide_eq_false (by omega)
   have hpl:(pairsL n.attrs).length=n.attrs.length:=pairs_len _
   have htk:((pairsL n.attrs).map prC).take n.attrs.length=(pairsL n.attrs).map prC:=List.take_of_length_le (by rw[Lm,hpl];omega)
   repeat' first|simp only[fins,mems,results33,ntmps33,wks,q1,q2,List.take_length,Lm,vcs,seval,tys]|exact rfl|refine call_off (v:=.any) ?_|((first|apply Ca|apply Cb)<;>intro hb)|refine Ai (by omega) ?_|(apply Ai<;>intro hb)
   (refine mid_canF cxG (b0+16) ([(0,.int .i64 p),(3,.ptr lb 0 0),(4,.rp [.sl false 1 (en.map noC)]),(5,.ptr pb 0 0),(7,.ptr b0 0 0),(8,.ptr (b0+1) 0 0)]) ([(b0,⟨6,[ndC n]⟩),(b0+1,⟨4,[tkC ⟨3,n.name,pairsL n.attrs,[]⟩]⟩),(sp,⟨1,[[.bool S1]]⟩),(lb,⟨1,[[.own lk 0 L.length]]⟩),(lk,⟨4,L.map tkC⟩),(pb,⟨1,[[.fn 33 [.rp [.sl false 6 (v.map ndC)],.ptr sp 0 0,.ptr lb 0 0,.rp [.sl false 1 (en.map noC)],.ptr pb 0 0]]]⟩)]) [some b0,some (b0+1),some sp,some lb,some lk,some pb] ?_ ?_ ?_;(focus (show b0≤_;omega));(focus (refine⟨?_,?_⟩<;>(try simp only[cans,canfs,htk,hpl,tkC,ndC,Nat.le_refl,or_true,plain_nd,plain_no,plain_pr,plain_at,plain_tk,isRow_inst,leLL_same,List.take_length,n1,n2,n3,n4,n5,n6,n7,n8,n9,o4,o5,o6,z0,z1,z2,z3,y0,y1,y2,y3,x0,x1,x2,x3,w0,w1,w2,w3,Bool.and_self,Bool.and_false,Bool.false_and,Lm,vcs,seval,tys,injs])<;>(try omega))))
   have g1:(nm=sp)=False:=eq_false (by omega);have g2:(nm=lb)=False:=eq_false (by omega);have g3:(nm=pb)=False:=eq_false (by omega)
   have h3b:tkC ⟨3,n.name,pairsL n.attrs,[]⟩=[.int .u8 3,.str n.name,.sl false 2 ((pairsL n.attrs).map prC),.str []]:=rfl
   have h1b:tkC ⟨1,n.name,pairsL n.attrs,[]⟩=[.int .u8 1,.str n.name,.sl false 2 ((pairsL n.attrs).map prC),.str []]:=rfl
   by_cases hk0:k.count=0
   ·have hkz:(n.many==0)=true:=by rw[hm,hk0];rfl
    have hkn:k = .nil:=by
     cases k with
     | nil=>rfl
     | cons _ _ _=>simp[Fo.count]at hk0
    subst hkn
    have hm0:n.many=0:=by rw[hm,hk0];rfl
    have htk:(Fo.cons n .nil .nil).toks=[⟨3,n.name,pairsL n.attrs,[]⟩]:=by simp[Fo.toks,hk,hm0]
    rw[hr0 hk0,htk]
    have hsn:=tk_snoc L ⟨3,n.name,pairsL n.attrs,[]⟩
    have hll:(L++[(⟨3,n.name,pairsL n.attrs,[]⟩:Tk)]).length=L.length+1:=by simp
    have hsz:spacedL Fo.nil.flat=false:=rfl
    rw[← hsn,hll,hsz,Bool.or_false,h3b]
    repeat' first|simp only[fins,mems,results33,ntmps33,wks,hkz,ndC,h3b,tak_tk,plain_tk,plain_pr,n1,n2,n3,n4,n5,n6,n7,n8,n9,o4,o5,o6,z0,z1,z2,z3,y0,y1,y2,y3,x0,x1,x2,x3,w0,w1,w2,w3,Bt,Bf,Lm,vcs,seval,tys]|exact rfl|refine call_off (v:=.any) ?_|((first|apply Ca|apply Cb)<;>intro hb)|refine Ai (by omega) ?_|(apply Ai<;>intro hb)
    all_goals ((refine Fin.give [(sp,none),(lb,none),(pb,none),(b0+112,some 0)] [lk] ?_ ?_ ?_ ?_ ?_ (fun q hq=>by have hqq:=ho q hq;first|(simp only[gives,tgt,Lc,Lo,Lk,Ln,or_false]at hqq ⊢;omega)|(simp only[gives,tgt,Lc,Lo,Lk,Ln,or_false]at hqq))<;>(try simp only[results33,ntmps33,wks,hsp,hlb,hlk,hpb,g1,g2,g3,plain_nd,plain_no,plain_tk,plain_pr,plainLL_append,n1,n2,n3,n4,n5,n6,n7,n8,n9,o4,o5,o6,z0,z1,z2,z3,y0,y1,y2,y3,x0,x1,x2,x3,w0,w1,w2,w3,Bool.and_self,Bool.and_false,Bool.false_and,Lm,giv,vcs,seval,tys])<;>(try simp only[injs])<;>(try omega)))
   ·have hkz:(n.many==0)=false:=by rw[hm];simp;exact hk0
    have hm0:¬ n.many=0:=by rw[hm];simpa using hk0
    have htk:(Fo.cons n k .nil).toks=⟨1,n.name,pairsL n.attrs,[]⟩::(k.toks++[⟨2,n.name,[],[]⟩]):=by simp[Fo.toks,hk,hm0]
    rw[htk]at hL ⊢
    have hL3:L.length+k.toks.length+2≤2000:=by simp at hL;omega
    have hfin:L++⟨1,n.name,pairsL n.attrs,[]⟩::(k.toks++[⟨2,n.name,[],[]⟩])=(L++⟨1,n.name,pairsL n.attrs,[]⟩::k.toks)++[⟨2,n.name,[],[]⟩]:=by simp
    rw[hr1 hk0,hfin,List.length_append]
    clear hr0 hr1
    have hsn:=tk_snoc L ⟨1,n.name,pairsL n.attrs,[]⟩
    have hll:(L++[(⟨1,n.name,pairsL n.attrs,[]⟩:Tk)]).length=L.length+1:=by simp
    rw[h1b]at hsn
    have hstp:∀(P:Prop),P→P:=fun _ h=>h
    obtain⟨hev1,hev2⟩:v.drop (p+1)=k.flat++r∧en.drop (p+1)=k.ends (p+1)++er:=by
     refine⟨hvd1,?_⟩
     have:=congrArg (List.drop 1) hed
     rw[List.drop_drop]at this;simpa using this
    repeat' first|simp only[fins,mems,results33,ntmps33,wks,hkz,ndC,h3b,hsn,hw1,tak_tk,plain_tk,plain_pr,n1,n2,n3,n4,n5,n6,n7,n8,n9,o4,o5,o6,z0,z1,z2,z3,y0,y1,y2,y3,x0,x1,x2,x3,w0,w1,w2,w3,Bt,Bf,Lm,vcs,seval,tys]|exact rfl|refine call_off (v:=.any) ?_|((first|apply Ca|apply Cb)<;>intro hb)|refine Ai (by omega) ?_|(apply Ai<;>intro hb)
    (refine loop_can2 cxG (fun x:TkSt=>x.R.size) (fun x=>AllF (PutOk v en sp lb pb) x.R∧(∃ r',v.drop x.q=x.R.flat++r')∧(∃ er',en.drop x.q=x.R.ends x.q++er')∧x.q+x.R.size=p+1+k.size∧x.L++x.R.toks=L++⟨1,n.name,pairsL n.attrs,[]⟩::k.toks∧(x.s||spacedL x.R.flat)=(S1||spacedL k.flat)) (b0+16) (fun x=>[(0,.int .i64 p),(3,.ptr lb 0 0),(4,.rp [.sl false 1 (en.map noC)]),(5,.ptr pb 0 0),(7,.ptr b0 0 0),(11,.int .i64 x.q)]) (fun x=>[(b0,⟨6,[ndC n]⟩),(sp,⟨1,[[.bool x.s]]⟩),(lb,⟨1,[[.own (b0+1) 0 x.L.length]]⟩),(b0+1,⟨4,x.L.map tkC⟩),(pb,⟨1,[[.fn 33 [.rp [.sl false 6 (v.map ndC)],.ptr sp 0 0,.ptr lb 0 0,.rp [.sl false 1 (en.map noC)],.ptr pb 0 0]]]⟩)]) (⟨k,p+1,L++[⟨1,n.name,pairsL n.attrs,[]⟩],S1⟩) [some b0,some sp,some lb,some (b0+144),some pb] ?_ ?_ ?_ ?_;rotate_left 1;(focus (show b0≤_;omega));(focus (refine⟨?_,?_⟩<;>(try simp only[cans,hll,h3b,ndC,plain_nd,plain_no,plain_pr,plain_at,plain_tk,n1,n2,n3,n4,n5,n6,n7,n8,n9,o4,o5,o6,z0,z1,z2,z3,y0,y1,y2,y3,x0,x1,x2,x3,w0,w1,w2,w3,Bool.and_self,Bool.and_false,Bool.false_and,Lm,vcs,seval,tys,injs])<;>(try omega)));rotate_left 1)
    ·exact⟨ih,⟨r,hev1⟩,⟨er,hev2⟩,rfl,by simp,rfl⟩
    ·rintro ⟨R,q,Lx,sx⟩ ⟨g1',⟨r',g2'⟩,⟨er',g3'⟩,g4',g5',g6'⟩
     dsimp only at g1' g2' g3' g4' g5' g6' ⊢
     cases R with
     | nil =>
      simp only[Fo.size,Nat.add_zero]at g4'
      subst g4'
      simp only[Fo.toks,List.append_nil]at g5'
      have hsz:spacedL Fo.nil.flat=false:=rfl
      rw[hsz,Bool.or_false]at g6'
      rw[← g5',← g6']
      have q1:decide (((p+1+k.size:Nat):Int)<((p+1+k.size:Nat):Int))=false:=decide_eq_false (by omega)
      have q2:decide (p+(1+k.size)<p+(1+k.size))=false:=decide_eq_false (by omega)
      have hLx:Lx.length≤2001:=by rw[g5'];simp;omega
      repeat' first|simp only[fins,mems,results33,ntmps33,wks,q1,q2,heat,noC,hpe,ndC,tak_tk,plain_tk,n1,n2,n3,n4,n5,n6,n7,n8,n9,o4,o5,o6,z0,z1,z2,z3,y0,y1,y2,y3,x0,x1,x2,x3,w0,w1,w2,w3,Bt,Bf,Lm,vcs,seval,tys]|exact rfl|refine call_off (v:=.any) ?_|((first|apply Ca|apply Cb)<;>intro hb)|refine Ai (by omega) ?_|(apply Ai<;>intro hb)
      all_goals ((refine Fin.give [(sp,none),(lb,none),(pb,none),(b0+192,some 0)] [lk] ?_ ?_ ?_ ?_ ?_ (fun q hq=>by have hqq:=ho q hq;first|(simp only[gives,tgt,Lc,Lo,Lk,Ln,or_false]at hqq ⊢;omega)|(simp only[gives,tgt,Lc,Lo,Lk,Ln,or_false]at hqq))<;>(try simp only[results33,ntmps33,wks,hsp,hlb,hlk,hpb,g1,g2,g3,plain_nd,plain_no,plain_tk,plain_pr,plainLL_append,n1,n2,n3,n4,n5,n6,n7,n8,n9,o4,o5,o6,z0,z1,z2,z3,y0,y1,y2,y3,x0,x1,x2,x3,w0,w1,w2,w3,Bool.and_self,Bool.and_false,Bool.false_and,Lm,giv,vcs,seval,tys])<;>(try simp only[injs])<;>(try omega)))
     | cons u2 j2 R2 =>
      obtain⟨hp2,hr2⟩:=g1'
      have hd2:v.drop q=u2::(j2.flat++(R2.flat++r')):=by rw[g2'];simp[Fo.flat]
      have he2:en.drop q=(q+1+j2.size)::(j2.ends (q+1)++(R2.ends (q+1+j2.size)++er')):=by rw[g3'];simp[Fo.ends]
      have htk2:(Fo.cons u2 j2 R2).toks=(Fo.cons u2 j2 .nil).toks++R2.toks:=by simp[Fo.toks]
      have hsp2:spacedL (Fo.cons u2 j2 R2).flat=(spacedL (u2::j2.flat)||spacedL R2.flat):=by simp[spacedL,Fo.flat,Bool.or_assoc]
      rw[htk2,← List.append_assoc]at g5'
      rw[hsp2,← Bool.or_assoc]at g6'
      simp only[Fo.size]at g4'
      have hlen5:=congrArg List.length g5'
      simp only[List.length_append,List.length_cons]at hlen5
      obtain⟨heat2,hqe⟩:=drop_no he2
      have q1:decide ((q:Int)<((p+1+k.size:Nat):Int))=true:=decide_eq_true (by omega)
      have q2:decide (q<p+(1+k.size))=true:=decide_eq_true (by omega)
      have hcall:=fun (M':Mem) a1 a2 a3 a4 a5 (m:Nat) l1 l2 l3 l4=>hp2 q (R2.flat++r') (R2.ends (q+1+j2.size)++er') Lx sx (b0+1) M' m hd2 he2 (by omega) (by omega) (by omega) (by omega) a1 a2 a3 a4 a5 l1 l2 l3 l4
      unfold pkC at hcall
      have hd2':v.drop (q+1+j2.size)=R2.flat++r':=by
       have:=drop_more (v:=v) (p:=q) (a:=u2::j2.flat) (r:=R2.flat++r') (by rw[hd2];simp)
       rw[List.length_cons,Fo.flat_length]at this
       rw[show q+1+j2.size=q+(j2.size+1) by omega];exact this
      have he2':en.drop (q+1+j2.size)=R2.ends (q+1+j2.size)++er':=by
       have:=congrArg (List.drop (1+j2.size)) he2
       rw[List.drop_drop]at this
       rw[show q+1+j2.size=q+(1+j2.size) by omega,this,show 1+j2.size=(j2.ends (q+1)).length+1 by rw[Fo.ends_length];omega,List.drop_succ_cons,List.drop_left]
       rw[show q+((j2.ends (q+1)).length+1)=q+1+j2.size by rw[Fo.ends_length];omega]
      generalize hT:Lx++(Fo.cons u2 j2 .nil).toks=T at hcall g5'
      generalize hS:(sx||spacedL (u2::j2.flat))=S2 at hcall g6'
      repeat' first|simp only[fins,mems,results33,ntmps33,wks,q1,q2,heat,heat2,noC,hpe,hqe,ndC,tak_tk,plain_tk,fresh_self,n1,n2,n3,n4,n5,n6,n7,n8,n9,o4,o5,o6,z0,z1,z2,z3,y0,y1,y2,y3,x0,x1,x2,x3,w0,w1,w2,w3,Bt,Bf,Lm,vcs,seval,tys]|exact rfl|refine call_off (v:=.any) ?_|((refine call_full (caps:=?_) ?_ ?_ [sp,lb,b0+1,pb] (hcall _ ?_ ?_ ?_ ?_ only_mem _ (by omega) (by omega) (by omega) (by omega)) ?_ ?_);rotate_left 1)|((first|apply Ca|apply Cb)<;>intro hb)|refine Ai (by omega) ?_|(apply Ai<;>intro hb)
      all_goals ((refine again_can2 cxG (TkSt.mk R2 (q+1+j2.size) T S2) [some b0,some sp,some lb,some (b0+144),some pb] ?_ ?_ ?_ ?_;rotate_left 2;(focus (show b0≤_;omega));(focus (refine⟨?_,?_⟩<;>(try simp only[cans,ndC,plain_nd,plain_no,plain_pr,plain_at,plain_tk,n1,n2,n3,n4,n5,n6,n7,n8,n9,o4,o5,o6,z0,z1,z2,z3,y0,y1,y2,y3,x0,x1,x2,x3,w0,w1,w2,w3,Bool.and_self,Bool.and_false,Bool.false_and,Lm,vcs,seval,tys,injs])<;>(try omega)))))
      all_goals (first|(show R2.size<j2.size+R2.size+1;omega)|exact⟨hr2,⟨r',hd2'⟩,⟨er',he2'⟩,by show q+1+j2.size+R2.size=_;omega,g5',g6'⟩|skip)
theorem put_all (v:List Nd)(hv:v.length≤512)(hok:∀ n∈v,n.okTo lim∧n.i64)(en:List Nat)(hen:en.length=v.length)(sp lb pb:Nat)(d1:sp≠lb)(d2:sp≠pb)(d3:lb≠pb):∀(F:Fo) (d last:Nat),F.good d last=true→(∀ n∈F.flat,n∈v)→AllF (PutOk v en sp lb pb) F
 | .nil,_,_,_,_=>trivial
 | .cons n k r,d,last,h,hin=>by
  obtain⟨h1,h2,h3,h4,h5,h6⟩:=Fo.good_cons.1 h
  have hno:=hok n (hin n (by simp[Fo.flat]))
  refine⟨?_,put_all v hv hok en hen sp lb pb d1 d2 d3 r d n.kind h6 (fun x hx=>hin x (by simp[Fo.flat,hx]))⟩
  by_cases hk:n.kind=2
  ·exact put_text v hv en sp lb pb d1 d2 d3 n k hno.1 hk (Fo.text_leaf h hk)
  ·exact put_elem v hv en hen sp lb pb d1 d2 d3 n k hno.1 (mayN_attrs h1).1 hk h2 (put_all v hv hok en hen sp lb pb d1 d2 d3 k (d-1) 1 h5 (fun x hx=>hin x (by simp[Fo.flat,hx])))
theorem tokens_no (v:List Nd)(hv:v.length≤lim)(hok:∀ n∈v,n.okTo lim∧n.i64)(h:behindO v=none)(nm:Nat):Ev cx 11 nm [.sl false 6 (v.map ndC)] Mem.nil (.tup [.nils,.int .i64 8]) []:=by
 have hb:=behind_none_ev v hv hok h
 refine ev_go rfl (fun cargs w=>call11 cargs w) func11 rfl mixed (by kernel_rfl) rfl ?_;intro b0 hb0
 (repeat' first|simp only[fins,mems,results11,ntmps11,wks,plain_nd,vcs,seval,tys]|exact rfl|refine call_off (v:=.any) ?_|(first|(refine call_fn ?_ (hb _) ?_)|(refine call_fn_g ?_ (fun _=>hb _) ?_))|((first|apply Ca|apply Cb)<;>intro hb)|refine Ai (by omega) ?_|(apply Ai<;>intro hb)|refine Fin.pure ?_ ?_ ?_|simp only[injs])
def toksE (n:Nd)(k:Fo):Int:=if spacedL (n::k.flat)=true then 8 else if 512<(Fo.cons n k .nil).toks.length then 4 else 0
theorem tokens_all (n:Nd)(k:Fo)(hk1:n.kind=1)(hg:(Fo.cons n k .nil).good 12 0=true)(hl:k.size+1≤512)(hok:∀ x∈n::k.flat,x.okTo lim∧x.i64)(r:V)(eff:List (Nat×Option Blk))(nm:Nat)
  (hr:(toksE n k≠0∧r = .tup [.nils,.int .i64 (toksE n k)]∧eff=[])∨(toksE n k=0∧r = .tup [.own nm 0 (Fo.cons n k .nil).toks.length,.int .i64 0]∧eff=[(nm,some ⟨4,(Fo.cons n k .nil).toks.map tkC⟩)])) :
  Ev cx 11 nm [.sl false 6 ((n::k.flat).map ndC)] Mem.nil r eff:=by
 have hb:=behind_some_ev (n::k.flat) (by simp[Fo.flat_length];unfold lim;omega) hok (behind_of (Nat.le_refl _) hk1 hg hl)
 have htl:(Fo.cons n k .nil).toks.length≤1100:=by
  rw[Fo.toks_length hg]
  have:=List.length_filter_le (fun n:Nd=>decide (0<n.many)) (Fo.cons n k .nil).flat
  rw[Fo.flat_length]at this
  simp only[Fo.size]at this ⊢
  omega
 have hput:∀(sp lb pb:Nat),sp≠lb→sp≠pb→lb≠pb→PutOk (n::k.flat) ((1+k.size)::k.ends 1) sp lb pb n k:=fun sp lb pb d1 d2 d3 =>
  (put_all (n::k.flat) (by simp[Fo.flat_length];omega) hok ((1+k.size)::k.ends 1) (by simp[Fo.flat_length,Fo.ends_length]) sp lb pb d1 d2 d3 (.cons n k .nil) 12 0 hg (fun x hx=>by simpa [Fo.flat] using hx)).1
 have hcall:=fun (sp lb pb lk:Nat) (d1:sp≠lb) (d2:sp≠pb) (d3:lb≠pb) (M:Mem) (m:Nat) e1 e2 e3 a1 a2 a3 a4 a5 l1 l2 l3 l4=>hput sp lb pb d1 d2 d3 0 [] [] [] false lk M m (by simp) (by simp) (by simp;omega) e1 e2 e3 a1 a2 a3 a4 a5 l1 l2 l3 l4
 clear hput
 simp only[List.nil_append,List.length_nil,Lo,Bool.false_or]at hcall
 have hne:(((1+k.size)::k.ends 1).map noC).isEmpty=false:=rfl
 unfold toksE at hr
 have hev:((1+k.size)::k.ends 1).length=(n::k.flat).length:=by simp[Fo.flat_length,Fo.ends_length]
 generalize hV:n::k.flat=v at hb hcall hr hev ⊢
 generalize hEn:(1+k.size)::k.ends 1=en at hb hcall hne hev
 generalize (Fo.cons n k .nil).toks=T at htl hcall hr
 generalize spacedL v=S at hcall hr
 have hte:(en.map noC).take v.length=en.map noC:=List.take_of_length_le (by rw[Lm,hev];omega)
 have hlv:v.length≤en.length:=by omega
 have htt:(T.map tkC).take T.length=T.map tkC:=take_map_len _ _
 unfold pkC at hcall
 clear hok hg
 refine ev_goW rfl (fun cargs w=>call11 cargs w) func11 rfl mixed (by kernel_rfl) rfl ?_;intro b0 hb0
 repeat' first|simp only[fins,mems,results11,ntmps11,wks,vcs,seval,tys]|exact rfl|refine call_off (v:=.any) ?_|((first|apply Ca|apply Cb)<;>intro hb)|refine Ai (by omega) ?_|(apply Ai<;>intro hb)
 (refine mid_can_on cxG (b0+16) ([(1,.rp [.sl false 6 (v.map ndC)]),(2,.ptr b0 0 0)]) ([(b0,⟨1,[[.nils]]⟩)]) [some (b0+16)] ?_ ?_ ?_;(focus (show b0≤_;omega));(focus (refine⟨?_,?_⟩<;>(try simp only[cans,canfs,plain_nd,isRow_inst,leLL_same,vcs,seval,tys,injs])<;>(try omega))))
 repeat' first|simp only[fins,mems,results11,ntmps11,wks,plain_nd,vcs,seval,tys]|exact rfl|refine call_off (v:=.any) ?_|(refine call_fn_new ?_ (hb _) ?_ ?_)|omega|((first|apply Ca|apply Cb)<;>intro hb)|refine Ai (by omega) ?_|(apply Ai<;>intro hb)
 (refine mid_can_on cxG (b0+16) ([(1,.rp [.sl false 6 (v.map ndC)]),(2,.ptr b0 0 0),(4,.ptr (b0+1) 0 0)]) ([(b0,⟨1,[[.nils]]⟩),(b0+1,⟨1,[[.sl false 1 (en.map noC)]]⟩)]) [some b0,some (b0+48)] ?_ ?_ ?_;(focus (show b0≤_;omega));(focus (refine⟨?_,?_⟩<;>(try simp only[cans,canfs,hte,hlv,or_true,plain_nd,plain_no,isRow_inst,leLL_same,Lm,vcs,seval,tys,injs])<;>(try omega))))
 repeat' first|simp only[fins,mems,results11,ntmps11,wks,hne,plain_nd,plain_no,vcs,seval,tys]|exact rfl|refine call_off (v:=.any) ?_|((first|apply Ca|apply Cb)<;>intro hb)|refine Ai (by omega) ?_|(apply Ai<;>intro hb)
 ·cases hb
 (refine mid_can_on cxG (b0+16) ([(1,.rp [.sl false 6 (v.map ndC)]),(2,.ptr b0 0 0),(4,.rp [.sl false 1 (en.map noC)])]) ([(b0,⟨1,[[.nils]]⟩)]) [some b0] ?_ ?_ ?_;(focus (show b0≤_;omega));(focus (refine⟨?_,?_⟩<;>(try simp only[cans,canfs,plain_nd,plain_no,isRow_inst,leLL_same,Lm,vcs,seval,tys,injs])<;>(try omega))))
 repeat' first|simp only[fins,mems,results11,ntmps11,wks,plain_nd,plain_no,vcs,seval,tys]|exact rfl|refine call_off (v:=.any) ?_|((first|apply Ca|apply Cb)<;>intro hb)|refine Ai (by omega) ?_|(apply Ai<;>intro hb)
 refine mid_skip ?_
 repeat' first|simp only[fins,mems,results11,ntmps11,wks,plain_nd,plain_no,vcs,seval,tys]|exact rfl|refine call_off (v:=.any) ?_|((first|apply Ca|apply Cb)<;>intro hb)|refine Ai (by omega) ?_|(apply Ai<;>intro hb)
 refine mid_skip ?_
 repeat' first|simp only[fins,mems,results11,ntmps11,wks,plain_nd,plain_no,vcs,seval,tys]|exact rfl|refine call_off (v:=.any) ?_|((first|apply Ca|apply Cb)<;>intro hb)|refine Ai (by omega) ?_|(apply Ai<;>intro hb)
 (refine mid_can cxG (b0+16) ([(2,.ptr b0 0 0),(5,.ptr (b0+1) 0 0),(6,.ptr (b0+2) 0 0)]) ([(b0,⟨1,[[.own (b0+3) 0 0]]⟩),(b0+1,⟨1,[[.bool false]]⟩),(b0+2,⟨1,[[.fn 33 [.rp [.sl false 6 (v.map ndC)],.ptr (b0+1) 0 0,.ptr b0 0 0,.rp [.sl false 1 (en.map noC)],.ptr (b0+2) 0 0]]]⟩),(b0+3,⟨4,[]⟩)]) [some b0,some (b0+16),some (b0+48),none] ?_ ?_ ?_;(focus (show b0≤_;omega));(focus (refine⟨?_,?_⟩<;>(try simp only[cans,plain_nd,plain_no,isRow_inst,leLL_same,Bool.and_self,Bool.and_false,Bool.false_and,Lm,vcs,seval,tys,injs])<;>(try omega))))
 cases S with
 | true =>
  have hre:r = .tup [.nils,.int .i64 8]∧eff=[]:=by
   rcases hr with ⟨_,h⟩|⟨h,_⟩
   ·exact h
   ·simp at h
  obtain⟨rfl,rfl⟩:=hre
  repeat' first|simp only[fins,mems,results11,ntmps11,wks,plain_nd,plain_no,plain_tk,fresh_self,vcs,seval,tys]|exact rfl|refine call_off (v:=.any) ?_|((refine call_full (caps:=?_) ?_ ?_ [b0+1,b0,b0+3,b0+2] (hcall (b0+1) b0 (b0+2) (b0+3) (by omega) (by omega) (by omega) _ _ (by omega) (by omega) (by omega) ?_ ?_ ?_ ?_ only_mem (by omega) (by omega) (by omega) (by omega)) ?_ ?_);rotate_left 1)|((first|apply Ca|apply Cb)<;>intro hb)|refine Ai (by omega) ?_|(apply Ai<;>intro hb)
  all_goals ((refine Fin.pure ?_ ?_ ?_<;>simp only[wks,plain_nd,results11,ntmps11,vcs,seval,tys]))
 | false =>
  by_cases h5:512<T.length
  ·have hre:r = .tup [.nils,.int .i64 4]∧eff=[]:=by
    rcases hr with ⟨_,h⟩|⟨h,_⟩
    ·simpa [h5] using h
    ·simp[h5]at h
   obtain⟨rfl,rfl⟩:=hre
   have q1:decide ((512:Int)<(T.length:Int))=true:=decide_eq_true (by omega)
   have q2:decide (512<T.length)=true:=decide_eq_true h5
   repeat' first|simp only[fins,mems,results11,ntmps11,wks,q1,q2,plain_nd,plain_no,plain_tk,fresh_self,vcs,seval,tys]|exact rfl|refine call_off (v:=.any) ?_|((refine call_full (caps:=?_) ?_ ?_ [b0+1,b0,b0+3,b0+2] (hcall (b0+1) b0 (b0+2) (b0+3) (by omega) (by omega) (by omega) _ _ (by omega) (by omega) (by omega) ?_ ?_ ?_ ?_ only_mem (by omega) (by omega) (by omega) (by omega)) ?_ ?_);rotate_left 1)|((first|apply Ca|apply Cb)<;>intro hb)|refine Ai (by omega) ?_|(apply Ai<;>intro hb)
   all_goals ((refine Fin.pure ?_ ?_ ?_<;>simp only[wks,plain_nd,results11,ntmps11,vcs,seval,tys]))
  ·have hre:r = .tup [.own nm 0 T.length,.int .i64 0]∧eff=[(nm,some ⟨4,T.map tkC⟩)]:=by
    rcases hr with ⟨h,_⟩|⟨_,h⟩
    ·simp[h5]at h
    ·exact h
   obtain⟨rfl,rfl⟩:=hre
   have q1:decide ((512:Int)<(T.length:Int))=false:=decide_eq_false (by omega)
   have q2:decide (512<T.length)=false:=decide_eq_false h5
   repeat' first|simp only[fins,mems,results11,ntmps11,wks,q1,q2,plain_nd,plain_no,plain_tk,fresh_self,vcs,seval,tys]|exact rfl|refine call_off (v:=.any) ?_|((refine call_full (caps:=?_) ?_ ?_ [b0+1,b0,b0+3,b0+2] (hcall (b0+1) b0 (b0+2) (b0+3) (by omega) (by omega) (by omega) _ _ (by omega) (by omega) (by omega) ?_ ?_ ?_ ?_ only_mem (by omega) (by omega) (by omega) (by omega)) ?_ ?_);rotate_left 1)|((first|apply Ca|apply Cb)<;>intro hb)|refine Ai (by omega) ?_|(apply Ai<;>intro hb)
   all_goals ((refine Fin.give [(b0+32,some 0)] [] ?_ ?_ ?_ ?_ ?_ (fun q hq=>by have hqq:=nil_mem q hq;first|(simp only[gives,tgt,Lc,Lo,Lk,Ln,or_false]at hqq ⊢;omega)|(simp only[gives,tgt,Lc,Lo,Lk,Ln,or_false]at hqq))<;>(try simp only[results11,ntmps11,wks,plain_tk,Lm,giv,vcs,seval,tys])<;>(try simp only[injs])<;>(try omega)))
end Go.Proofs.Ytfcfldmioonipaa
