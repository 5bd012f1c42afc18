/-
 Texts joined: XUb,XUc,XUd.
-/
import Derived.Test.YtjdjclecdfhciaaGreatDoorQo
import Derived.Test.YtjdjclecdfhciaaGreatDoorQf
import Derived.Test.YtjdjclecdfhciaaGreatDoorQi
namespace Go.Proofs.YtjdjclecdfhciaaGreatDoor
set_option maxRecDepth 100000
set_option maxHeartbeats 32000000
set_option linter.unusedSimpArgs false
set_option linter.unusedVariables false
open Go Go.RowKit Vm Go.Lib Tryz
open Vm renaming cond_bool→Ca,cond_bit→Cb
open And renaming intro→Ai
open List renaming length_map→Lm,not_mem_nil→Ln,map_nil→Lo,map_cons→Lc,mem_cons→Lk
open Bool renaming not_false→Bf,not_true→Bt
def atC (a:At):List V:=[.str a.space,.str a.name,.str a.value]
def ndC (n:Nd):List V:=[.int .u8 n.kind,.str n.space,.str n.name,.sl false 3 (n.attrs.map atC),.str n.text,.int .i64 n.many]
def noC (k:Nat):List V:=[.int .i64 k]
theorem nd_at {l:List Nd}{k:Nat}{a:Nd}(h:l[k]? = some a):(l.map ndC)[k]? = some (ndC a):=by rw[List.getElem?_map,h];rfl
theorem at_at {l:List At}{k:Nat}{a:At}(h:l[k]? = some a):(l.map atC)[k]? = some (atC a):=by rw[List.getElem?_map,h];rfl
theorem no_at {l m:List Nat}{k:Nat}{a:Nat}(h:l[k]? = some a):((l++m).map noC)[k]? = some (noC a):=by
 have hk:=(List.getElem?_eq_some_iff.1 h).1
 rw[List.getElem?_map,List.getElem?_append_left hk,h];rfl
theorem plain_at (l:List At):plainLL (l.map atC)=true:=plainLL_map _ (fun _=>rfl) l
theorem plain_nd (l:List Nd):plainLL (l.map ndC)=true:=plainLL_map _ (fun t=>by simp[ndC,plainL,V.plain,plain_at]) l
theorem plain_no (l:List Nat):plainLL (l.map noC)=true:=plainLL_map _ (fun _=>rfl) l
theorem nd_set {v:List Nd}{k:Nat}{x:Nd}(h:v[k]? = some x)(m:Int)(hm:m=x.many+1):(v.map ndC).set k [.int .u8 x.kind,.str x.space,.str x.name,.sl false 3 (x.attrs.map atC),.str x.text,.int .i64 m]=(v.modify k Nd.inc).map ndC:=by
 subst hm
 rw[set_modify h,List.map_set];rfl
theorem ren_nds (σ:List (Nat×Nat))(l:List Nd):(l.map ndC).map (renL σ)=l.map ndC:=by
 rw[List.map_map]
 exact List.map_congr_left (fun n _=>by simp[ndC,renL,V.ren])
theorem renOk_nds (σ:List (Nat×Nat))(l:List Nd):(l.map ndC).all (renOkL σ)=true:=by
 rw[List.all_eq_true]
 intro r hr
 obtain⟨n,_,rfl⟩:=List.mem_map.1 hr
 simp[ndC,renOkL,V.renOk,plain_at]
def grC (y z:Nat)(g:Gr)(last:Nat):List V:=[.own y 0 g.v.length,.own z 0 g.opn.length,.int .u8 last]
theorem tak_nd (l:List Nd):(l.map ndC).take l.length=l.map ndC:=List.take_of_length_le (by simp)
theorem addP_ev (g:Gr)(n:Nat)(hg:g.Ok n)(hn:n≤1000)(junk:List Nat)(last q y z:Nat)(x:Nd)(M:Mem)(nm:Nat)(hqy:q≠y)(hqz:q≠z)(hyz:y≠z)(hq:M q=some ⟨3,[grC y z g last]⟩)(hy:M y=some ⟨6,g.v.map ndC⟩)(hz:M z=some ⟨1,(g.opn++junk).map noC⟩)(ho:∀ w,(M w).isSome=true→w∈[q,y,z])(hqn:q<nm)(hyn:y<nm)(hzn:z<nm) :
  Ev cx 108 nm [.ptr q 0 0,.agg [.int .u8 x.kind,.str x.space,.str x.name,.nils,.str x.text,.int .i64 x.many]] M (.tup []) [(y,none),(q,some ⟨3,[[.own nm 0 (g.v.length+1),.own z 0 g.opn.length,.int .u8 last]]⟩),(z,some ⟨1,(g.opn++junk).map noC⟩),(nm,some ⟨6,(incG g.v g.opn).map ndC++[[.int .u8 x.kind,.str x.space,.str x.name,.nils,.str x.text,.int .i64 x.many]]⟩)]:=by
 have hvl:=hg.len
 have hl12:=hg.deep
 refine ev_go rfl (fun cargs w=>call108 cargs w) func108 rfl mixed (by kernel_rfl) rfl ?_;intro b0 hb0
 have lq:q<b0:=below_of hb0 (by rw[hq];rfl)
 have z0:=lt_ne lq;have z1:=lt_ne_add lq;have z2:=lt_ne' lq;have z3:=lt_ne_add' lq
 have ly:y<b0:=below_of hb0 (by rw[hy];rfl)
 have y0:=lt_ne ly;have y1:=lt_ne_add ly;have y2:=lt_ne' ly;have y3:=lt_ne_add' ly
 have lz:z<b0:=below_of hb0 (by rw[hz];rfl)
 have w0:=lt_ne lz;have w1:=lt_ne_add lz;have w2:=lt_ne' lz;have w3:=lt_ne_add' lz
 have n1:=eq_false hqy;have n2:=eq_false hqz;have n3:=eq_false hyz
 have n4:=eq_false (Ne.symm hqy);have n5:=eq_false (Ne.symm hqz);have n6:=eq_false (Ne.symm hyz)
 by_cases h0:g.opn=[]
 ·have hl0:g.opn.length=0:=by rw[h0];rfl
  have hinc:incG g.v g.opn=g.v:=by rw[h0];rfl
  rw[hinc]
  have hd:decide ((0:Int)<(g.opn.length:Int))=false:=decide_eq_false (by omega)
  repeat' first|simp only[fins,mems,results108,ntmps108,wks,grC,hd,hq,hy,hz,z0,z1,z2,z3,y0,y1,y2,y3,w0,w1,w2,w3,n1,n2,n3,n4,n5,n6,tak_nd,plain_nd,plain_at,Lm,vcs,seval,tys]|exact rfl|refine call_off (v:=.any) ?_|refine draw_end' (ps:=[(4,6)]) (by decide +kernel) (by simp only[List.forall_mem_cons,List.getD_cons_zero,List.getD_cons_succ,results108,ntmps108,wks,grC,hd,hq,hy,hz,z0,z1,z2,z3,y0,y1,y2,y3,w0,w1,w2,w3,n1,n2,n3,n4,n5,n6,tak_nd,plain_nd,plain_at,Lm,vcs,seval,tys]<;>(try simp)<;>(try omega)) ?_|refine draw_end (by decide +kernel) ?_|((first|apply Ca|apply Cb)<;>intro hb)|refine Ai (by omega) ?_|(apply Ai<;>intro hb)
  all_goals ((refine Fin.give [(q,none),(z,none),(b0+256,some 0)] [y] ?_ ?_ ?_ ?_ ?_ (fun q hq=>by have hqq:=ho q hq;first|(simp only[gives,tgt,Lc,Lo,Lk,Ln,or_false]at hqq ⊢;omega)|(simp only[gives,tgt,Lc,Lo,Lk,Ln,or_false]at hqq))<;>(try simp only[results108,ntmps108,wks,grC,hq,hy,hz,z0,z1,z2,z3,y0,y1,y2,y3,w0,w1,w2,w3,n1,n2,n3,n4,n5,n6,Bool.and_self,Bool.false_and,plainLL_append,plain_nd,plain_no,Lm,giv,vcs,seval,tys])<;>(try simp only[injs])<;>(try omega)))
 ·obtain⟨k,hk⟩:=last_some h0
  obtain⟨_,hk2,hk3⟩:=last_get hk
  have hkv:=hg.in_ k (List.mem_of_getElem? hk2)
  obtain⟨x0,hx0⟩:∃ x0,g.v[k]? = some x0:=⟨_,List.getElem?_eq_getElem hkv⟩
  have hm:=hg.many x0 (List.mem_of_getElem? hx0)
  have hinc:=incG_last (v:=g.v) hk
  have hd:decide ((0:Int)<(g.opn.length:Int))=true:=decide_eq_true (by omega)
  have hwl:IntKind.i64.wrap ((g.opn.length:Int)-1)=((g.opn.length-1:Nat):Int):=by rw[wrap_in (by omega) (by omega)];omega
  have hlt:g.opn.length-1<g.opn.length:=by omega
  have hno:=no_at (m:=junk) hk2
  have hnd:=nd_at hx0
  have hwm:IntKind.i64.wrap (x0.many+1)=x0.many+1:=wrap_in (by omega) (by omega)
  have hset:=nd_set hx0 (x0.many+1) rfl
  have hml:((g.v.modify k Nd.inc).map ndC).take g.v.length=(g.v.modify k Nd.inc).map ndC:=List.take_of_length_le (by simp)
  have hmn:(g.v.modify k Nd.inc).length=g.v.length:=by simp
  rw[hinc]
  repeat' first|simp only[fins,mems,results108,ntmps108,wks,grC,hd,hq,hy,hz,hwl,hlt,hno,noC,hnd,ndC,hkv,hwm,hset,hml,hmn,z0,z1,z2,z3,y0,y1,y2,y3,w0,w1,w2,w3,n1,n2,n3,n4,n5,n6,tak_nd,plain_nd,plain_at,Lm,vcs,seval,tys]|exact rfl|refine call_off (v:=.any) ?_|refine draw_end' (ps:=[(4,6)]) (by decide +kernel) (by simp only[List.forall_mem_cons,List.getD_cons_zero,List.getD_cons_succ,results108,ntmps108,wks,grC,hd,hq,hy,hz,hwl,hlt,hno,noC,hnd,ndC,hkv,hwm,hset,hml,hmn,z0,z1,z2,z3,y0,y1,y2,y3,w0,w1,w2,w3,n1,n2,n3,n4,n5,n6,tak_nd,plain_nd,plain_at,Lm,vcs,seval,tys]<;>(try simp)<;>(try omega)) ?_|refine draw_end (by decide +kernel) ?_|((first|apply Ca|apply Cb)<;>intro hb)|refine Ai (by omega) ?_|(apply Ai<;>intro hb)
  all_goals ((refine Fin.give [(q,none),(z,none),(b0+560,some 0)] [y] ?_ ?_ ?_ ?_ ?_ (fun q hq=>by have hqq:=ho q hq;first|(simp only[gives,tgt,Lc,Lo,Lk,Ln,or_false]at hqq ⊢;omega)|(simp only[gives,tgt,Lc,Lo,Lk,Ln,or_false]at hqq))<;>(try simp only[results108,ntmps108,wks,grC,hq,hy,hz,z0,z1,z2,z3,y0,y1,y2,y3,w0,w1,w2,w3,n1,n2,n3,n4,n5,n6,hml,hmn,Bool.and_self,Bool.false_and,plainLL_append,plain_nd,plain_no,Lm,giv,vcs,seval,tys])<;>(try simp only[injs])<;>(try omega)))
theorem addA_ev (g:Gr)(n:Nat)(hg:g.Ok n)(hn:n≤1000)(junk:List Nat)(last q y z:Nat)(x:Nd)(a:Nat)(ats:List At)(M:Mem)(nm:Nat)(hqy:q≠y)(hqz:q≠z)(hyz:y≠z)(hqa:q≠a)(hya:y≠a)(hza:z≠a)(ha:M a=some ⟨3,ats.map atC⟩)(hq:M q=some ⟨3,[grC y z g last]⟩)(hy:M y=some ⟨6,g.v.map ndC⟩)(hz:M z=some ⟨1,(g.opn++junk).map noC⟩)(ho:∀ w,(M w).isSome=true→w∈[q,y,z,a])(hqn:q<nm)(hyn:y<nm)(hzn:z<nm)(han:a<nm) :
  Ev cx 108 nm [.ptr q 0 0,.agg [.int .u8 x.kind,.str x.space,.str x.name,.own a 0 ats.length,.str x.text,.int .i64 x.many]] M (.tup []) [(y,none),(q,some ⟨3,[[.own nm 0 (g.v.length+1),.own z 0 g.opn.length,.int .u8 last]]⟩),(z,some ⟨1,(g.opn++junk).map noC⟩),(a,some ⟨3,ats.map atC⟩),(nm,some ⟨6,(incG g.v g.opn).map ndC++[[.int .u8 x.kind,.str x.space,.str x.name,.own a 0 ats.length,.str x.text,.int .i64 x.many]]⟩)]:=by
 have hvl:=hg.len
 have hl12:=hg.deep
 refine ev_go rfl (fun cargs w=>call108 cargs w) func108 rfl mixed (by kernel_rfl) rfl ?_;intro b0 hb0
 have lq:q<b0:=below_of hb0 (by rw[hq];rfl)
 have z0:=lt_ne lq;have z1:=lt_ne_add lq;have z2:=lt_ne' lq;have z3:=lt_ne_add' lq
 have ly:y<b0:=below_of hb0 (by rw[hy];rfl)
 have y0:=lt_ne ly;have y1:=lt_ne_add ly;have y2:=lt_ne' ly;have y3:=lt_ne_add' ly
 have lz:z<b0:=below_of hb0 (by rw[hz];rfl)
 have w0:=lt_ne lz;have w1:=lt_ne_add lz;have w2:=lt_ne' lz;have w3:=lt_ne_add' lz
 have la:a<b0:=below_of hb0 (by rw[ha];rfl)
 have a0:=lt_ne la;have a1:=lt_ne_add la;have a2:=lt_ne' la;have a3:=lt_ne_add' la
 have m1:=eq_false hqa;have m2:=eq_false hya;have m3:=eq_false hza
 have m4:=eq_false (Ne.symm hqa);have m5:=eq_false (Ne.symm hya);have m6:=eq_false (Ne.symm hza)
 have hpn:plainLL (g.opn.map noC++junk.map noC)=true:=by rw[← List.map_append];exact plain_no _
 have n1:=eq_false hqy;have n2:=eq_false hqz;have n3:=eq_false hyz
 have n4:=eq_false (Ne.symm hqy);have n5:=eq_false (Ne.symm hqz);have n6:=eq_false (Ne.symm hyz)
 by_cases h0:g.opn=[]
 ·have hl0:g.opn.length=0:=by rw[h0];rfl
  have hinc:incG g.v g.opn=g.v:=by rw[h0];rfl
  rw[hinc]
  have hd:decide ((0:Int)<(g.opn.length:Int))=false:=decide_eq_false (by omega)
  repeat' first|simp only[fins,mems,results108,ntmps108,wks,grC,hd,hq,hy,hz,z0,z1,z2,z3,y0,y1,y2,y3,w0,w1,w2,w3,n1,n2,n3,n4,n5,n6,ha,a0,a1,a2,a3,m1,m2,m3,m4,m5,m6,plain_at,tak_nd,plain_nd,plain_at,Lm,vcs,seval,tys]|exact rfl|refine call_off (v:=.any) ?_|refine draw_end' (ps:=[(4,6)]) (by decide +kernel) (by simp only[List.forall_mem_cons,List.getD_cons_zero,List.getD_cons_succ,results108,ntmps108,wks,grC,hd,hq,hy,hz,z0,z1,z2,z3,y0,y1,y2,y3,w0,w1,w2,w3,n1,n2,n3,n4,n5,n6,ha,a0,a1,a2,a3,m1,m2,m3,m4,m5,m6,plain_at,tak_nd,plain_nd,plain_at,Lm,vcs,seval,tys]<;>(try simp)<;>(try omega)) ?_|refine draw_end (by decide +kernel) ?_|((first|apply Ca|apply Cb)<;>intro hb)|refine Ai (by omega) ?_|(apply Ai<;>intro hb)
  all_goals ((refine Fin.give [(q,none),(z,none),(a,none),(b0+256,some 0)] [y] ?_ ?_ ?_ ?_ ?_ (fun q hq=>by have hqq:=ho q hq;first|(simp only[gives,tgt,Lc,Lo,Lk,Ln,or_false]at hqq ⊢;omega)|(simp only[gives,tgt,Lc,Lo,Lk,Ln,or_false]at hqq))<;>(try simp only[results108,ntmps108,wks,grC,hq,hy,hz,z0,z1,z2,z3,y0,y1,y2,y3,w0,w1,w2,w3,n1,n2,n3,n4,n5,n6,ha,a0,a1,a2,a3,m1,m2,m3,m4,m5,m6,plain_at,ren_nds,renOk_nds,List.map_append,List.all_append,Bool.and_self,Bool.false_and,plainLL_append,plain_nd,hpn,Lm,giv,vcs,seval,tys])<;>(try simp only[injs])<;>(try omega)))
 ·obtain⟨k,hk⟩:=last_some h0
  obtain⟨_,hk2,hk3⟩:=last_get hk
  have hkv:=hg.in_ k (List.mem_of_getElem? hk2)
  obtain⟨x0,hx0⟩:∃ x0,g.v[k]? = some x0:=⟨_,List.getElem?_eq_getElem hkv⟩
  have hm:=hg.many x0 (List.mem_of_getElem? hx0)
  have hinc:=incG_last (v:=g.v) hk
  have hd:decide ((0:Int)<(g.opn.length:Int))=true:=decide_eq_true (by omega)
  have hwl:IntKind.i64.wrap ((g.opn.length:Int)-1)=((g.opn.length-1:Nat):Int):=by rw[wrap_in (by omega) (by omega)];omega
  have hlt:g.opn.length-1<g.opn.length:=by omega
  have hno:=no_at (m:=junk) hk2
  have hnd:=nd_at hx0
  have hwm:IntKind.i64.wrap (x0.many+1)=x0.many+1:=wrap_in (by omega) (by omega)
  have hset:=nd_set hx0 (x0.many+1) rfl
  have hml:((g.v.modify k Nd.inc).map ndC).take g.v.length=(g.v.modify k Nd.inc).map ndC:=List.take_of_length_le (by simp)
  have hmn:(g.v.modify k Nd.inc).length=g.v.length:=by simp
  rw[hinc]
  repeat' first|simp only[fins,mems,results108,ntmps108,wks,grC,hd,hq,hy,hz,hwl,hlt,hno,noC,hnd,ndC,hkv,hwm,hset,hml,hmn,z0,z1,z2,z3,y0,y1,y2,y3,w0,w1,w2,w3,n1,n2,n3,n4,n5,n6,ha,a0,a1,a2,a3,m1,m2,m3,m4,m5,m6,plain_at,tak_nd,plain_nd,plain_at,Lm,vcs,seval,tys]|exact rfl|refine call_off (v:=.any) ?_|refine draw_end' (ps:=[(4,6)]) (by decide +kernel) (by simp only[List.forall_mem_cons,List.getD_cons_zero,List.getD_cons_succ,results108,ntmps108,wks,grC,hd,hq,hy,hz,hwl,hlt,hno,noC,hnd,ndC,hkv,hwm,hset,hml,hmn,z0,z1,z2,z3,y0,y1,y2,y3,w0,w1,w2,w3,n1,n2,n3,n4,n5,n6,ha,a0,a1,a2,a3,m1,m2,m3,m4,m5,m6,plain_at,tak_nd,plain_nd,plain_at,Lm,vcs,seval,tys]<;>(try simp)<;>(try omega)) ?_|refine draw_end (by decide +kernel) ?_|((first|apply Ca|apply Cb)<;>intro hb)|refine Ai (by omega) ?_|(apply Ai<;>intro hb)
  all_goals ((refine Fin.give [(q,none),(z,none),(a,none),(b0+560,some 0)] [y] ?_ ?_ ?_ ?_ ?_ (fun q hq=>by have hqq:=ho q hq;first|(simp only[gives,tgt,Lc,Lo,Lk,Ln,or_false]at hqq ⊢;omega)|(simp only[gives,tgt,Lc,Lo,Lk,Ln,or_false]at hqq))<;>(try simp only[results108,ntmps108,wks,grC,hq,hy,hz,z0,z1,z2,z3,y0,y1,y2,y3,w0,w1,w2,w3,n1,n2,n3,n4,n5,n6,ha,a0,a1,a2,a3,m1,m2,m3,m4,m5,m6,plain_at,hml,hmn,ren_nds,renOk_nds,List.map_append,List.all_append,Bool.and_self,Bool.false_and,plainLL_append,plain_nd,hpn,Lm,giv,vcs,seval,tys])<;>(try simp only[injs])<;>(try omega)))
theorem blank_in (s:List UInt8):(s.all fun c=>inB [32,9,10,13] c.toNat)=blankL s:=by
 unfold blankL
 congr 1
 funext c
 have h:∀ d:UInt8,(d.toNat==c.toNat)=(c==d):=fun d=>by
  rw[Bool.eq_iff_iff,beq_iff_eq,beq_iff_eq]
  exact⟨fun h=>(UInt8.toNat_inj.1 h).symm,fun h=>by rw[h]⟩
 simp only[inB,blankB,List.any_cons,List.any_nil,h,Bool.or_false,Bool.or_assoc]
theorem trim_blank (s:List UInt8):(trimL [32,9,10,13] (trimR [32,9,10,13] s)==[])=blankL s:=by
 rw[← blank_in,Bool.eq_iff_iff,beq_iff_eq,trim_nil]
theorem len_opn (o:List Nat):((o.length:Int)==0)=o.isEmpty:=len_zero o
theorem addG_map (g:Gr)(n:Nd):(addG g n).map ndC=(incG g.v g.opn).map ndC++[ndC n]:=by simp[addG]
theorem leLL_snoc (a:List (List V))(r s:List V):leLL (a++[r]) (a++[s])=leL r s:=by
 apply propext
 induction a with
 | nil=>simp[leLL]
 | cons x a ih =>
  simp only[List.cons_append,leLL,ih]
  exact⟨fun h=>h.2,fun h=>⟨leL_refl x,h⟩⟩
theorem fresh_selfU (n:Nat):Fresh n n=True:=eq_true ⟨Nat.le_refl _,by omega⟩
def wordsBad (g:Gr)(t:Tk)(last:Nat):Bool:=(last==4)||(g.opn.isEmpty && !blankL t.text)
theorem words_no (g:Gr)(n:Nat)(hg:g.Ok n)(hn:n≤1000)(junk:List Nat)(last q y z:Nat)(t:Tk)(ht:t.text.length≤lim)(e:Int)(he:(wordsBad g t last=true∧e=80)∨(wordsBad g t last=false∧g.opn=[]∧e=0))(M:Mem)(nm:Nat)(hqy:q≠y)(hqz:q≠z)(hyz:y≠z)(hq:M q=some ⟨3,[grC y z g last]⟩)(hy:M y=some ⟨6,g.v.map ndC⟩)(hz:M z=some ⟨1,(g.opn++junk).map noC⟩)(ho:∀ w,(M w).isSome=true→w∈[q,y,z]) :
  Ev cx 70 nm [.ptr q 0 0,.agg (tkC t)] M (.int .i64 e) [(q,some ⟨3,[grC y z g last]⟩),(y,some ⟨6,g.v.map ndC⟩),(z,some ⟨1,(g.opn++junk).map noC⟩)]:=by
 have htr:=trim_ev [32,9,10,13] t.text (by decide) (by decide) (by decide) ht
 have htb:=trim_blank t.text
 generalize trimL [32,9,10,13] (trimR [32,9,10,13] t.text)=tr at htr htb
 have ho0:=len_opn g.opn
 have hlt4:((last:Int)==4)=(last==4):=by rw[Bool.eq_iff_iff];simp;omega
 have hop:g.opn=[]→g.opn.isEmpty=true:=fun h=>by rw[h];rfl
 unfold wordsBad at he
 generalize hA:(last==4)=bA at he hlt4
 generalize hB:g.opn.isEmpty=bB at he ho0 hop
 generalize hC:blankL t.text=bC at he htb
 have hcs:(bA=true∧e=80)∨(bA=false∧bB=true∧bC=false∧e=80)∨(bA=false∧bB=true∧bC=true∧e=0):=by
  rcases he with ⟨h1,h2⟩|⟨h1,h2,h3⟩
  ·cases bA<;>cases bB<;>cases bC<;>simp at h1 ⊢<;>exact h2
  ·have:=hop h2
   subst this
   cases bA<;>cases bC<;>simp at h1 ⊢<;>exact h3
 clear he
 rcases hcs with ⟨rfl,rfl⟩|⟨rfl,rfl,rfl,rfl⟩|⟨rfl,rfl,rfl,rfl⟩<;>(try cases bB)<;>(
  refine ev_go rfl (fun cargs w=>call70 cargs w) func70 rfl mixed (by kernel_rfl) rfl ?_;intro b0 hb0
  have lq:q<b0:=below_of hb0 (by rw[hq];rfl)
  have z0:=lt_ne lq;have z1:=lt_ne_add lq;have z2:=lt_ne' lq;have z3:=lt_ne_add' lq
  have ly:y<b0:=below_of hb0 (by rw[hy];rfl)
  have y0:=lt_ne ly;have y1:=lt_ne_add ly;have y2:=lt_ne' ly;have y3:=lt_ne_add' ly
  have lz:z<b0:=below_of hb0 (by rw[hz];rfl)
  have w0:=lt_ne lz;have w1:=lt_ne_add lz;have w2:=lt_ne' lz;have w3:=lt_ne_add' lz
  have n1:=eq_false hqy;have n2:=eq_false hqz;have n3:=eq_false hyz
  have n4:=eq_false (Ne.symm hqy);have n5:=eq_false (Ne.symm hqz);have n6:=eq_false (Ne.symm hyz)
  repeat' first|simp only[fins,mems,results70,ntmps70,wks,tkC,grC,ho0,hlt4,htb,hq,hy,hz,z0,z1,z2,z3,y0,y1,y2,y3,w0,w1,w2,w3,n1,n2,n3,n4,n5,n6,Bt,Bf,Lm,vcs,seval,tys]|exact rfl|refine call_off (v:=.any) ?_|(first|(refine call_fn ?_ (htr _) ?_)|(refine call_fn_g ?_ (fun _=>htr _) ?_))|(refine call_off (v:=.any) ?_)|((first|apply Ca|apply Cb)<;>intro hb)|refine Ai (by omega) ?_|(apply Ai<;>intro hb)
  all_goals ((refine Fin.give [(q,none),(y,none),(z,none)] [] ?_ ?_ ?_ ?_ ?_ (fun q hq=>by have hqq:=ho q hq;first|(simp only[gives,tgt,Lc,Lo,Lk,Ln,or_false]at hqq ⊢;omega)|(simp only[gives,tgt,Lc,Lo,Lk,Ln,or_false]at hqq))<;>(try simp only[results70,ntmps70,wks,tkC,grC,hq,hy,hz,z0,z1,z2,z3,y0,y1,y2,y3,w0,w1,w2,w3,n1,n2,n3,n4,n5,n6,Bool.and_self,Bool.false_and,plain_nd,plain_no,Lm,giv,vcs,seval,tys])<;>(try simp only[injs])<;>(try omega))))
theorem words_add (g:Gr)(n:Nat)(hg:g.Ok n)(hn:n≤1000)(junk:List Nat)(last q y z:Nat)(t:Tk)(hl4:(last==4)=false)(hop:g.opn.isEmpty=false)(M:Mem)(nm:Nat)(hqy:q≠y)(hqz:q≠z)(hyz:y≠z)(hq:M q=some ⟨3,[grC y z g last]⟩)(hy:M y=some ⟨6,g.v.map ndC⟩)(hz:M z=some ⟨1,(g.opn++junk).map noC⟩)(ho:∀ w,(M w).isSome=true→w∈[q,y,z])(hqn:q<nm)(hyn:y<nm)(hzn:z<nm) :
  Ev cx 70 nm [.ptr q 0 0,.agg (tkC t)] M (.int .i64 0) [(y,none),(q,some ⟨3,[[.own nm 0 (g.v.length+1),.own z 0 g.opn.length,.int .u8 last]]⟩),(z,some ⟨1,(g.opn++junk).map noC⟩),(nm,some ⟨6,(incG g.v g.opn).map ndC++[[.int .u8 2,.str [],.str [],.nils,.str t.text,.int .i64 0]]⟩)]:=by
 have ho0:=len_opn g.opn
 rw[hop]at ho0
 have hlt4:((last:Int)==4)=false:=by rw[← hl4,Bool.eq_iff_iff];simp;omega
 refine ev_go rfl (fun cargs w=>call70 cargs w) func70 rfl mixed (by kernel_rfl) rfl ?_;intro b0 hb0
 have lq:q<b0:=below_of hb0 (by rw[hq];rfl)
 have z0:=lt_ne lq;have z1:=lt_ne_add lq;have z2:=lt_ne' lq;have z3:=lt_ne_add' lq
 have ly:y<b0:=below_of hb0 (by rw[hy];rfl)
 have y0:=lt_ne ly;have y1:=lt_ne_add ly;have y2:=lt_ne' ly;have y3:=lt_ne_add' ly
 have lz:z<b0:=below_of hb0 (by rw[hz];rfl)
 have w0:=lt_ne lz;have w1:=lt_ne_add lz;have w2:=lt_ne' lz;have w3:=lt_ne_add' lz
 have n1:=eq_false hqy;have n2:=eq_false hqz;have n3:=eq_false hyz
 have n4:=eq_false (Ne.symm hqy);have n5:=eq_false (Ne.symm hqz);have n6:=eq_false (Ne.symm hyz)
 have e1:=hq;have e2:=hy;have e3:=hz
 have hadd:=fun (M':Mem) (a:M' q=some ⟨3,[grC y z g last]⟩) (b:M' y=some ⟨6,g.v.map ndC⟩) (c:M' z=some ⟨1,(g.opn++junk).map noC⟩) (d:∀ w,(M' w).isSome=true→w∈[q,y,z]) (m:Nat) (h1:q<m) (h2:y<m) (h3:z<m)=>addP_ev g n hg hn junk last q y z (textN t.text) M' m hqy hqz hyz a b c d h1 h2 h3
 repeat' first|simp only[fins,mems,results70,ntmps70,wks,tkC,grC,textN,ho0,hlt4,hq,hy,hz,fresh_selfU,z0,z1,z2,z3,y0,y1,y2,y3,w0,w1,w2,w3,n1,n2,n3,n4,n5,n6,Bt,Bf,Lm,vcs,seval,tys]|exact rfl|refine call_off (v:=.any) ?_|(refine call_fn_full ?_ [q,y,z] (hadd _ ?_ ?_ ?_ only_mem _ (by omega) (by omega) (by omega)) ?_ ?_)|(refine call_off (v:=.any) ?_)|((first|apply Ca|apply Cb)<;>intro hb)|refine Ai (by omega) ?_|(apply Ai<;>intro hb)
 all_goals ((refine Fin.give [(q,none),(z,none),(b0+464,some 0)] [y] ?_ ?_ ?_ ?_ ?_ (fun q hq=>by have hqq:=ho q hq;first|(simp only[gives,tgt,Lc,Lo,Lk,Ln,or_false]at hqq ⊢;omega)|(simp only[gives,tgt,Lc,Lo,Lk,Ln,or_false]at hqq))<;>(try simp only[results70,ntmps70,wks,tkC,grC,hq,hy,hz,z0,z1,z2,z3,y0,y1,y2,y3,w0,w1,w2,w3,n1,n2,n3,n4,n5,n6,Bool.and_self,Bool.false_and,plainLL_append,plain_nd,plain_no,Lm,giv,vcs,seval,tys])<;>(try simp only[injs])<;>(try omega)))
theorem shut_no (g:Gr)(n:Nat)(hg:g.Ok n)(hn:n≤1000)(junk:List Nat)(last q y z:Nat)(t:Tk)(hlast:lastName g≠some t.name)(M:Mem)(nm:Nat)(hqy:q≠y)(hqz:q≠z)(hyz:y≠z)(hq:M q=some ⟨3,[grC y z g last]⟩)(hy:M y=some ⟨6,g.v.map ndC⟩)(hz:M z=some ⟨1,(g.opn++junk).map noC⟩)(ho:∀ w,(M w).isSome=true→w∈[q,y,z]) :
  Ev cx 69 nm [.ptr q 0 0,.agg (tkC t)] M (.int .i64 80) [(q,some ⟨3,[grC y z g last]⟩),(y,some ⟨6,g.v.map ndC⟩),(z,some ⟨1,(g.opn++junk).map noC⟩)]:=by
 have hvl:=hg.len
 have hl12:=hg.deep
 have ho0:=len_opn g.opn
 by_cases h0:g.opn=[]
 ·have hop:g.opn.isEmpty=true:=by rw[h0];rfl
  rw[hop]at ho0
  refine ev_go rfl (fun cargs w=>call69 cargs w) func69 rfl mixed (by kernel_rfl) rfl ?_;intro b0 hb0
  have lq:q<b0:=below_of hb0 (by rw[hq];rfl)
  have z0:=lt_ne lq;have z1:=lt_ne_add lq;have z2:=lt_ne' lq;have z3:=lt_ne_add' lq
  have ly:y<b0:=below_of hb0 (by rw[hy];rfl)
  have y0:=lt_ne ly;have y1:=lt_ne_add ly;have y2:=lt_ne' ly;have y3:=lt_ne_add' ly
  have lz:z<b0:=below_of hb0 (by rw[hz];rfl)
  have w0:=lt_ne lz;have w1:=lt_ne_add lz;have w2:=lt_ne' lz;have w3:=lt_ne_add' lz
  have n1:=eq_false hqy;have n2:=eq_false hqz;have n3:=eq_false hyz
  have n4:=eq_false (Ne.symm hqy);have n5:=eq_false (Ne.symm hqz);have n6:=eq_false (Ne.symm hyz)
  repeat' first|simp only[fins,mems,results69,ntmps69,wks,tkC,grC,ho0,hq,hy,hz,z0,z1,z2,z3,y0,y1,y2,y3,w0,w1,w2,w3,n1,n2,n3,n4,n5,n6,Bt,Bf,Lm,vcs,seval,tys]|exact rfl|refine call_off (v:=.any) ?_|refine draw_end (by decide +kernel) ?_|((first|apply Ca|apply Cb)<;>intro hb)|refine Ai (by omega) ?_|(apply Ai<;>intro hb)
  all_goals ((refine Fin.give [(q,none),(y,none),(z,none)] [] ?_ ?_ ?_ ?_ ?_ (fun q hq=>by have hqq:=ho q hq;first|(simp only[gives,tgt,Lc,Lo,Lk,Ln,or_false]at hqq ⊢;omega)|(simp only[gives,tgt,Lc,Lo,Lk,Ln,or_false]at hqq))<;>(try simp only[results69,ntmps69,wks,tkC,grC,hq,hy,hz,z0,z1,z2,z3,y0,y1,y2,y3,w0,w1,w2,w3,n1,n2,n3,n4,n5,n6,Bool.and_self,Bool.false_and,plain_nd,plain_no,Lm,giv,vcs,seval,tys])<;>(try simp only[injs])<;>(try omega)))
 ·obtain⟨k,hk⟩:=last_some h0
  obtain⟨_,hk2,hk3⟩:=last_get hk
  have hop:g.opn.isEmpty=false:=by simpa using h0
  rw[hop]at ho0
  have hkv:=hg.in_ k (List.mem_of_getElem? hk2)
  obtain⟨x0,hx0⟩:∃ x0,g.v[k]? = some x0:=⟨_,List.getElem?_eq_getElem hkv⟩
  have hwl:IntKind.i64.wrap ((g.opn.length:Int)-1)=((g.opn.length-1:Nat):Int):=by rw[wrap_in (by omega) (by omega)];omega
  have hlt:g.opn.length-1<g.opn.length:=by omega
  have hno:=no_at (m:=junk) hk2
  have hnd:=nd_at hx0
  have hne:(x0.name==t.name)=false:=beq_false_of_ne (fun e=>hlast (by unfold lastName;rw[hk];simp[hx0,e]))
  refine ev_go rfl (fun cargs w=>call69 cargs w) func69 rfl mixed (by kernel_rfl) rfl ?_;intro b0 hb0
  have lq:q<b0:=below_of hb0 (by rw[hq];rfl)
  have z0:=lt_ne lq;have z1:=lt_ne_add lq;have z2:=lt_ne' lq;have z3:=lt_ne_add' lq
  have ly:y<b0:=below_of hb0 (by rw[hy];rfl)
  have y0:=lt_ne ly;have y1:=lt_ne_add ly;have y2:=lt_ne' ly;have y3:=lt_ne_add' ly
  have lz:z<b0:=below_of hb0 (by rw[hz];rfl)
  have w0:=lt_ne lz;have w1:=lt_ne_add lz;have w2:=lt_ne' lz;have w3:=lt_ne_add' lz
  have n1:=eq_false hqy;have n2:=eq_false hqz;have n3:=eq_false hyz
  have n4:=eq_false (Ne.symm hqy);have n5:=eq_false (Ne.symm hqz);have n6:=eq_false (Ne.symm hyz)
  repeat' first|simp only[fins,mems,results69,ntmps69,wks,tkC,grC,ho0,hwl,hlt,hno,noC,hnd,ndC,hkv,hne,hq,hy,hz,z0,z1,z2,z3,y0,y1,y2,y3,w0,w1,w2,w3,n1,n2,n3,n4,n5,n6,Bt,Bf,Lm,vcs,seval,tys]|exact rfl|refine call_off (v:=.any) ?_|refine draw_end (by decide +kernel) ?_|((first|apply Ca|apply Cb)<;>intro hb)|refine Ai (by omega) ?_|(apply Ai<;>intro hb)
  all_goals ((refine Fin.give [(q,none),(y,none),(z,none)] [] ?_ ?_ ?_ ?_ ?_ (fun q hq=>by have hqq:=ho q hq;first|(simp only[gives,tgt,Lc,Lo,Lk,Ln,or_false]at hqq ⊢;omega)|(simp only[gives,tgt,Lc,Lo,Lk,Ln,or_false]at hqq))<;>(try simp only[results69,ntmps69,wks,tkC,grC,hq,hy,hz,z0,z1,z2,z3,y0,y1,y2,y3,w0,w1,w2,w3,n1,n2,n3,n4,n5,n6,Bool.and_self,Bool.false_and,plain_nd,plain_no,Lm,giv,vcs,seval,tys])<;>(try simp only[injs])<;>(try omega)))
theorem shut_yes (g:Gr)(n:Nat)(hg:g.Ok n)(hn:n≤1000)(junk:List Nat)(last q y z:Nat)(t:Tk)(hlast:lastName g=some t.name)(M:Mem)(nm:Nat)(hqy:q≠y)(hqz:q≠z)(hyz:y≠z)(hq:M q=some ⟨3,[grC y z g last]⟩)(hy:M y=some ⟨6,g.v.map ndC⟩)(hz:M z=some ⟨1,(g.opn++junk).map noC⟩)(ho:∀ w,(M w).isSome=true→w∈[q,y,z]) :
  Ev cx 69 nm [.ptr q 0 0,.agg (tkC t)] M (.int .i64 0) [(q,some ⟨3,[[.own y 0 g.v.length,.own z 0 (g.opn.length-1),.int .u8 last]]⟩),(y,some ⟨6,g.v.map ndC⟩),(z,some ⟨1,(g.opn++junk).map noC⟩)]:=by
 have hvl:=hg.len
 have hl12:=hg.deep
 have ho0:=len_opn g.opn
 obtain⟨k,hk,hkn⟩:=Option.bind_eq_some_iff.1 hlast
 obtain⟨x0,hx0,hxn⟩:=Option.map_eq_some_iff.1 hkn
 obtain⟨h0,hk2,hk3⟩:=last_get hk
 have hop:g.opn.isEmpty=false:=by simpa using h0
 rw[hop]at ho0
 have hkv:=hg.in_ k (List.mem_of_getElem? hk2)
 have hwl:IntKind.i64.wrap ((g.opn.length:Int)-1)=((g.opn.length-1:Nat):Int):=by rw[wrap_in (by omega) (by omega)];omega
 have hlt:g.opn.length-1<g.opn.length:=by omega
 have hle:g.opn.length-1≤g.opn.length:=by omega
 have hle2:((g.opn.length-1:Nat):Int)≤(g.opn.length:Int):=by omega
 have hno:=no_at (m:=junk) hk2
 have hnd:=nd_at hx0
 have hne:(x0.name==t.name)=true:=by rw[hxn];simp
 refine ev_go rfl (fun cargs w=>call69 cargs w) func69 rfl mixed (by kernel_rfl) rfl ?_;intro b0 hb0
 have lq:q<b0:=below_of hb0 (by rw[hq];rfl)
 have z0:=lt_ne lq;have z1:=lt_ne_add lq;have z2:=lt_ne' lq;have z3:=lt_ne_add' lq
 have ly:y<b0:=below_of hb0 (by rw[hy];rfl)
 have y0:=lt_ne ly;have y1:=lt_ne_add ly;have y2:=lt_ne' ly;have y3:=lt_ne_add' ly
 have lz:z<b0:=below_of hb0 (by rw[hz];rfl)
 have w0:=lt_ne lz;have w1:=lt_ne_add lz;have w2:=lt_ne' lz;have w3:=lt_ne_add' lz
 have n1:=eq_false hqy;have n2:=eq_false hqz;have n3:=eq_false hyz
 have n4:=eq_false (Ne.symm hqy);have n5:=eq_false (Ne.symm hqz);have n6:=eq_false (Ne.symm hyz)
 repeat' first|simp only[fins,mems,results69,ntmps69,wks,tkC,grC,ho0,hwl,hlt,hle,hle2,hno,noC,hnd,ndC,hkv,hne,hq,hy,hz,z0,z1,z2,z3,y0,y1,y2,y3,w0,w1,w2,w3,n1,n2,n3,n4,n5,n6,Bt,Bf,Lm,vcs,seval,tys]|exact rfl|refine call_off (v:=.any) ?_|refine draw_end (by decide +kernel) ?_|((first|apply Ca|apply Cb)<;>intro hb)|refine Ai (by omega) ?_|(apply Ai<;>intro hb)
 all_goals ((refine Fin.give [(q,none),(y,none),(z,none)] [] ?_ ?_ ?_ ?_ ?_ (fun q hq=>by have hqq:=ho q hq;first|(simp only[gives,tgt,Lc,Lo,Lk,Ln,or_false]at hqq ⊢;omega)|(simp only[gives,tgt,Lc,Lo,Lk,Ln,or_false]at hqq))<;>(try simp only[results69,ntmps69,wks,tkC,grC,hq,hy,hz,z0,z1,z2,z3,y0,y1,y2,y3,w0,w1,w2,w3,n1,n2,n3,n4,n5,n6,Bool.and_self,Bool.false_and,plain_nd,plain_no,Lm,giv,vcs,seval,tys])<;>(try simp only[injs])<;>(try omega)))
theorem given_take {l:List Pr}{k:Nat}{a:Pr}(h:l[k]? = some a):givenL (l.take (k+1))=givenL (l.take k)++[⟨[],a.name,a.value⟩]:=by
 obtain⟨hk,rfl⟩:=List.getElem?_eq_some_iff.1 h
 unfold givenL
 rw[List.take_succ_eq_append_getElem hk,List.map_append];rfl
theorem given_length (l:List Pr):(givenL l).length=l.length:=by simp[givenL]
theorem given_snoc {l:List Pr}{k:Nat}{a:Pr}(h:l[k]? = some a):(givenL (l.take k)).map atC++[[.str [],.str a.name,.str a.value]]=(givenL (l.take (k+1))).map atC:=by
 rw[given_take h,List.map_append];rfl
theorem given_zero:givenL []=[]:=rfl
theorem elem_no (g:Gr)(n:Nat)(hg:g.Ok n)(hn:n≤1000)(junk:List Nat)(last q y z:Nat)(t:Tk)(e:Int)(he:((g.opn.isEmpty && !g.v.isEmpty)=true∧e=80)∨((g.opn.isEmpty && !g.v.isEmpty)=false∧12≤g.opn.length∧e=100))(M:Mem)(nm:Nat)(hqy:q≠y)(hqz:q≠z)(hyz:y≠z)(hq:M q=some ⟨3,[grC y z g last]⟩)(hy:M y=some ⟨6,g.v.map ndC⟩)(hz:M z=some ⟨1,(g.opn++junk).map noC⟩)(ho:∀ w,(M w).isSome=true→w∈[q,y,z]) :
  Ev cx 68 nm [.ptr q 0 0,.agg (tkC t)] M (.int .i64 e) [(q,some ⟨3,[grC y z g last]⟩),(y,some ⟨6,g.v.map ndC⟩),(z,some ⟨1,(g.opn++junk).map noC⟩)]:=by
 have hvl:=hg.len
 have hl12:=hg.deep
 have ho0:=len_opn g.opn
 have hv0:decide ((0:Int)<(g.v.length:Int)) = !g.v.isEmpty:=by
  cases h:g.v with
  | nil=>rfl
  | cons a b=>simp
 have h12:12≤g.opn.length→decide ((12:Int)≤(g.opn.length:Int))=true:=fun h=>decide_eq_true (by omega)
 have hop:g.opn.isEmpty=true→g.opn.length=0:=fun h=>by rw[List.isEmpty_iff.1 h];rfl
 generalize hA:g.opn.isEmpty=bA at he ho0 hop
 generalize hB:g.v.isEmpty=bB at he hv0
 have hcs:(bA=true∧bB=false∧e=80)∨(bA=false∧12≤g.opn.length∧e=100):=by
  rcases he with ⟨h1,h2⟩|⟨h1,h2,h3⟩
  ·cases bA<;>cases bB<;>simp at h1 ⊢;exact h2
  ·cases bA with
   | true=>have:=hop rfl;omega
   | false=>right;exact⟨rfl,h2,h3⟩
 clear he
 rcases hcs with ⟨rfl,rfl,rfl⟩|⟨rfl,h12',rfl⟩
 ·refine ev_go rfl (fun cargs w=>call68 cargs w) func68 rfl mixed (by kernel_rfl) rfl ?_;intro b0 hb0
  have lq:q<b0:=below_of hb0 (by rw[hq];rfl)
  have z0:=lt_ne lq;have z1:=lt_ne_add lq;have z2:=lt_ne' lq;have z3:=lt_ne_add' lq
  have ly:y<b0:=below_of hb0 (by rw[hy];rfl)
  have y0:=lt_ne ly;have y1:=lt_ne_add ly;have y2:=lt_ne' ly;have y3:=lt_ne_add' ly
  have lz:z<b0:=below_of hb0 (by rw[hz];rfl)
  have w0:=lt_ne lz;have w1:=lt_ne_add lz;have w2:=lt_ne' lz;have w3:=lt_ne_add' lz
  have n1:=eq_false hqy;have n2:=eq_false hqz;have n3:=eq_false hyz
  have n4:=eq_false (Ne.symm hqy);have n5:=eq_false (Ne.symm hqz);have n6:=eq_false (Ne.symm hyz)
  repeat' first|simp only[fins,mems,results68,ntmps68,wks,tkC,grC,ho0,hv0,hq,hy,hz,z0,z1,z2,z3,y0,y1,y2,y3,w0,w1,w2,w3,n1,n2,n3,n4,n5,n6,Bt,Bf,Lm,vcs,seval,tys]|exact rfl|refine call_off (v:=.any) ?_|refine draw_end' (ps:=[(4,11)]) (by decide +kernel) (by simp only[List.forall_mem_cons,List.getD_cons_zero,List.getD_cons_succ,results68,ntmps68,wks,tkC,grC,ho0,hv0,hq,hy,hz,z0,z1,z2,z3,y0,y1,y2,y3,w0,w1,w2,w3,n1,n2,n3,n4,n5,n6,Bt,Bf,Lm,vcs,seval,tys]<;>(try simp)<;>(try omega)) ?_|refine draw_end (by decide +kernel) ?_|((first|apply Ca|apply Cb)<;>intro hb)|refine Ai (by omega) ?_|(apply Ai<;>intro hb)
  all_goals ((refine Fin.give [(q,none),(y,none),(z,none)] [] ?_ ?_ ?_ ?_ ?_ (fun q hq=>by have hqq:=ho q hq;first|(simp only[gives,tgt,Lc,Lo,Lk,Ln,or_false]at hqq ⊢;omega)|(simp only[gives,tgt,Lc,Lo,Lk,Ln,or_false]at hqq))<;>(try simp only[results68,ntmps68,wks,tkC,grC,hq,hy,hz,z0,z1,z2,z3,y0,y1,y2,y3,w0,w1,w2,w3,n1,n2,n3,n4,n5,n6,Bool.and_self,Bool.false_and,plain_nd,plain_no,Lm,giv,vcs,seval,tys])<;>(try simp only[injs])<;>(try omega)))
 ·have hd12:=h12 h12'
  refine ev_go rfl (fun cargs w=>call68 cargs w) func68 rfl mixed (by kernel_rfl) rfl ?_;intro b0 hb0
  have lq:q<b0:=below_of hb0 (by rw[hq];rfl)
  have z0:=lt_ne lq;have z1:=lt_ne_add lq;have z2:=lt_ne' lq;have z3:=lt_ne_add' lq
  have ly:y<b0:=below_of hb0 (by rw[hy];rfl)
  have y0:=lt_ne ly;have y1:=lt_ne_add ly;have y2:=lt_ne' ly;have y3:=lt_ne_add' ly
  have lz:z<b0:=below_of hb0 (by rw[hz];rfl)
  have w0:=lt_ne lz;have w1:=lt_ne_add lz;have w2:=lt_ne' lz;have w3:=lt_ne_add' lz
  have n1:=eq_false hqy;have n2:=eq_false hqz;have n3:=eq_false hyz
  have n4:=eq_false (Ne.symm hqy);have n5:=eq_false (Ne.symm hqz);have n6:=eq_false (Ne.symm hyz)
  repeat' first|simp only[fins,mems,results68,ntmps68,wks,tkC,grC,ho0,hd12,hq,hy,hz,z0,z1,z2,z3,y0,y1,y2,y3,w0,w1,w2,w3,n1,n2,n3,n4,n5,n6,Bt,Bf,Lm,vcs,seval,tys]|exact rfl|refine call_off (v:=.any) ?_|refine draw_end' (ps:=[(4,11)]) (by decide +kernel) (by simp only[List.forall_mem_cons,List.getD_cons_zero,List.getD_cons_succ,results68,ntmps68,wks,tkC,grC,ho0,hd12,hq,hy,hz,z0,z1,z2,z3,y0,y1,y2,y3,w0,w1,w2,w3,n1,n2,n3,n4,n5,n6,Bt,Bf,Lm,vcs,seval,tys]<;>(try simp)<;>(try omega)) ?_|refine draw_end (by decide +kernel) ?_|((first|apply Ca|apply Cb)<;>intro hb)|refine Ai (by omega) ?_|(apply Ai<;>intro hb)
  all_goals ((refine Fin.give [(q,none),(y,none),(z,none)] [] ?_ ?_ ?_ ?_ ?_ (fun q hq=>by have hqq:=ho q hq;first|(simp only[gives,tgt,Lc,Lo,Lk,Ln,or_false]at hqq ⊢;omega)|(simp only[gives,tgt,Lc,Lo,Lk,Ln,or_false]at hqq))<;>(try simp only[results68,ntmps68,wks,tkC,grC,hq,hy,hz,z0,z1,z2,z3,y0,y1,y2,y3,w0,w1,w2,w3,n1,n2,n3,n4,n5,n6,Bool.and_self,Bool.false_and,plain_nd,plain_no,Lm,giv,vcs,seval,tys])<;>(try simp only[injs])<;>(try omega)))
def elC (a:Nat)(t:Tk):List V:=[.int .u8 1,.str [],.str t.name,.own a 0 t.attrs.length,.str [],.int .i64 0]
def elemE (g:Gr)(junk:List Nat)(last q y z nm:Nat)(t:Tk):List (Nat×Option Blk) :=
 if t.kind=1 then [(y,none),(z,none),(q,some ⟨3,[[.own nm 0 (g.v.length+1),.own (nm+2) 0 (g.opn.length+1),.int .u8 last]]⟩),(nm,some ⟨6,(incG g.v g.opn).map ndC++[elC (nm+1) t]⟩),(nm+1,some ⟨3,(givenL t.attrs).map atC⟩),(nm+2,some ⟨1,g.opn.map noC++[noC g.v.length]⟩)]
 else [(y,none),(q,some ⟨3,[[.own nm 0 (g.v.length+1),.own z 0 g.opn.length,.int .u8 last]]⟩),(z,some ⟨1,(g.opn++junk).map noC⟩),(nm,some ⟨6,(incG g.v g.opn).map ndC++[elC (nm+1) t]⟩),(nm+1,some ⟨3,(givenL t.attrs).map atC⟩)]
theorem elem_yes (g:Gr)(n:Nat)(hg:g.Ok n)(hn:n≤1000)(junk:List Nat)(last q y z:Nat)(t:Tk)(ht:t.attrs.length≤1000)(h1:(g.opn.isEmpty && !g.v.isEmpty)=false)(h2:g.opn.length<12)(M:Mem)(nm:Nat)(hqy:q≠y)(hqz:q≠z)(hyz:y≠z)(hq:M q=some ⟨3,[grC y z g last]⟩)(hy:M y=some ⟨6,g.v.map ndC⟩)(hz:M z=some ⟨1,(g.opn++junk).map noC⟩)(ho:∀ w,(M w).isSome=true→w∈[q,y,z])(hqn:q<nm)(hyn:y<nm)(hzn:z<nm) :
  Ev cx 68 nm [.ptr q 0 0,.agg (tkC t)] M (.int .i64 0) (elemE g junk last q y z nm t):=by
 have hvl:=hg.len
 have hl12:=hg.deep
 have ho0:=len_opn g.opn
 have hv0:decide ((0:Int)<(g.v.length:Int)) = !g.v.isEmpty:=by
  cases h:g.v with
  | nil=>rfl
  | cons a b=>simp
 have hd12:decide ((12:Int)≤(g.opn.length:Int))=false:=decide_eq_false (by omega)
 have hlj:g.opn.length≤(g.opn++junk).length:=by simp
 have htk:((g.opn++junk).map noC).take g.opn.length=g.opn.map noC:=by rw[← List.map_take,List.take_left]
 generalize hA:g.opn.isEmpty=bA at h1 ho0
 generalize hB:g.v.isEmpty=bB at h1 hv0
 have hcs:bA=false∨(bA=true∧bB=true):=by cases bA<;>cases bB<;>simp at h1 ⊢
 clear h1
 have hpn0:plainLL (g.opn.map noC++junk.map noC)=true:=by rw[← List.map_append];exact plain_no _
 unfold elemE
 refine ev_go rfl (fun cargs w=>call68 cargs w) func68 rfl mixed (by kernel_rfl) rfl ?_;intro b0 hb0
 have lq:q<b0:=below_of hb0 (by rw[hq];rfl)
 have z0:=lt_ne lq;have z1:=lt_ne_add lq;have z2:=lt_ne' lq;have z3:=lt_ne_add' lq
 have ly:y<b0:=below_of hb0 (by rw[hy];rfl)
 have y0:=lt_ne ly;have y1:=lt_ne_add ly;have y2:=lt_ne' ly;have y3:=lt_ne_add' ly
 have lz:z<b0:=below_of hb0 (by rw[hz];rfl)
 have w0:=lt_ne lz;have w1:=lt_ne_add lz;have w2:=lt_ne' lz;have w3:=lt_ne_add' lz
 have n1:=eq_false hqy;have n2:=eq_false hqz;have n3:=eq_false hyz
 have n4:=eq_false (Ne.symm hqy);have n5:=eq_false (Ne.symm hqz);have n6:=eq_false (Ne.symm hyz)
 rcases hcs with rfl|⟨rfl,rfl⟩
 all_goals (
  repeat' first|simp only[fins,mems,results68,ntmps68,wks,tkC,grC,ho0,hv0,hd12,hq,hy,hz,z0,z1,z2,z3,y0,y1,y2,y3,w0,w1,w2,w3,n1,n2,n3,n4,n5,n6,Bt,Bf,Lm,vcs,seval,tys]|exact rfl|refine call_off (v:=.any) ?_|refine draw_end' (ps:=[(4,11)]) (by decide +kernel) (by simp only[List.forall_mem_cons,List.getD_cons_zero,List.getD_cons_succ,results68,ntmps68,wks,tkC,grC,ho0,hv0,hd12,hq,hy,hz,z0,z1,z2,z3,y0,y1,y2,y3,w0,w1,w2,w3,n1,n2,n3,n4,n5,n6,Bt,Bf,Lm,vcs,seval,tys]<;>(try simp)<;>(try omega)) ?_|refine draw_end (by decide +kernel) ?_|((first|apply Ca|apply Cb)<;>intro hb)|refine Ai (by omega) ?_|(apply Ai<;>intro hb)
  (refine loop_can2 cxG (fun x:Nat=>t.attrs.length-x) (fun x=>x≤t.attrs.length) (b0+16) (fun x=>[(0,.ptr q 0 0),(3,.ptr b0 0 0),(6,.ptr (b0+1) 0 0),(32,.sl false 2 (t.attrs.map prC)),(33,.int .i64 t.attrs.length),(34,.int .i64 x)]) (fun x=>[(b0,⟨4,[tkC t]⟩),(b0+1,⟨6,[[.int .u8 1,.str [],.str t.name,.own (b0+2) 0 x,.str [],.int .i64 0]]⟩),(b0+2,⟨3,(givenL (t.attrs.take x)).map atC⟩),(q,⟨3,[grC y z g last]⟩),(y,⟨6,g.v.map ndC⟩),(z,⟨1,(g.opn++junk).map noC⟩)]) (0) [some b0,some (b0+400),none,some q,some y,some z] ?_ ?_ ?_ ?_;rotate_left 1;(focus (show b0≤_;omega));(focus (refine⟨?_,?_⟩<;>(try simp only[cans,plain_pr,plain_tkR,tkC,grC,hq,hy,hz,Bool.and_self,Bool.false_and,plain_nd,plain_no,isRow_inst,given_zero,List.take_zero,Lo,z0,z1,z2,z3,y0,y1,y2,y3,w0,w1,w2,w3,n1,n2,n3,n4,n5,n6,Lm,vcs,seval,tys,injs])<;>(try omega)));rotate_left 1)
  ·exact Nat.zero_le _
  ·intro k hk
   by_cases hlt:k<t.attrs.length
   ·obtain⟨a,ha⟩:∃ a,t.attrs[k]? = some a:=⟨_,List.getElem?_eq_getElem hlt⟩
    have hat:=pr_at ha
    have hd:decide (k<t.attrs.length)=true:=decide_eq_true hlt
    have hwk:IntKind.i64.wrap ((k:Int)+1)=((k+1:Nat):Int):=wrap_in (by omega) (by omega)
    have hgl:(givenL (t.attrs.take k)).length=k:=by rw[given_length,List.length_take];omega
    have htl:((givenL (t.attrs.take k)).map atC).take k=(givenL (t.attrs.take k)).map atC:=List.take_of_length_le (by rw[Lm,hgl];omega)
    have hgs:=given_snoc ha
    repeat' first|simp only[fins,mems,results68,ntmps68,wks,plain_pr,tkC,grC,hat,prC,hd,hlt,hgl,htl,hgs,z0,z1,z2,z3,y0,y1,y2,y3,w0,w1,w2,w3,n1,n2,n3,n4,n5,n6,Lm,vcs,seval,tys]|exact rfl|refine call_off (v:=.any) ?_|refine draw_end' (ps:=[(4,11)]) (by decide +kernel) (by simp only[List.forall_mem_cons,List.getD_cons_zero,List.getD_cons_succ,results68,ntmps68,wks,plain_pr,tkC,grC,hat,prC,hd,hlt,hgl,htl,hgs,z0,z1,z2,z3,y0,y1,y2,y3,w0,w1,w2,w3,n1,n2,n3,n4,n5,n6,Lm,vcs,seval,tys]<;>(try simp)<;>(try omega)) ?_|refine draw_end (by decide +kernel) ?_|((first|apply Ca|apply Cb)<;>intro hb)|refine Ai (by omega) ?_|(apply Ai<;>intro hb)
    all_goals ((refine again_can2 cxG (k+1) [some b0,some (b0+1),some (b0+224),some q,some y,some z] ?_ ?_ ?_ ?_;rotate_left 2;(focus (show b0≤_;omega));(focus (refine⟨?_,?_⟩<;>(try simp only[cans,plain_pr,plain_tkR,tkC,grC,hwk,Bool.and_self,Bool.false_and,plain_nd,plain_no,plain_at,isRow_inst,z0,z1,z2,z3,y0,y1,y2,y3,w0,w1,w2,w3,n1,n2,n3,n4,n5,n6,Lm,vcs,seval,tys,injs])<;>(try omega)))))
    all_goals (first|(show t.attrs.length-(k+1)<t.attrs.length-k;omega)|(show k+1≤t.attrs.length;omega)|skip)
   ·have hke:k=t.attrs.length:=by omega
    subst hke
    have hd:decide (t.attrs.length<t.attrs.length)=false:=decide_eq_false (by omega)
    have hadd:=fun (M':Mem) (a:M' q=some ⟨3,[grC y z g last]⟩) (b:M' y=some ⟨6,g.v.map ndC⟩) (c:M' z=some ⟨1,(g.opn++junk).map noC⟩) (e:M' (b0+2)=some ⟨3,(givenL t.attrs).map atC⟩) (d:∀ w,(M' w).isSome=true→w∈[q,y,z,b0+2]) (m:Nat) (h1:q<m) (h2:y<m) (h3:z<m) (h4:b0+2<m)=>addA_ev g n hg hn junk last q y z ⟨1,[],t.name,[],[],0⟩ (b0+2) (givenL t.attrs) M' m hqy hqz hyz (by omega) (by omega) (by omega) e a b c d h1 h2 h3 h4
    simp only[given_length]at hadd
    have hwv:IntKind.i64.wrap (((g.v.length+1:Nat):Int)-1)=(g.v.length:Int):=by rw[wrap_in (by omega) (by omega)];omega
    have hwv2:IntKind.i64.wrap ((g.v.length:Int)+1-1)=(g.v.length:Int):=by rw[wrap_in (by omega) (by omega)];omega
    by_cases hk1:t.kind=1
    ·have hkb:((t.kind:Int)==1)=true:=by rw[hk1];rfl
     rw[if_pos hk1]
     repeat' first|simp only[fins,mems,results68,ntmps68,wks,plain_pr,tkC,grC,hd,hkb,hwv,hwv2,htk,hlj,fresh_selfU,z0,z1,z2,z3,y0,y1,y2,y3,w0,w1,w2,w3,n1,n2,n3,n4,n5,n6,List.take_length,Lm,vcs,seval,tys]|exact rfl|refine call_off (v:=.any) ?_|(refine call_fn_full ?_ [q,y,z,b0+2] (hadd _ ?_ ?_ ?_ ?_ only_mem _ (by omega) (by omega) (by omega) (by omega)) ?_ ?_)|refine draw_end' (ps:=[(4,11)]) (by decide +kernel) (by simp only[List.forall_mem_cons,List.getD_cons_zero,List.getD_cons_succ,results68,ntmps68,wks,plain_pr,tkC,grC,hd,hkb,hwv,hwv2,htk,hlj,fresh_selfU,z0,z1,z2,z3,y0,y1,y2,y3,w0,w1,w2,w3,n1,n2,n3,n4,n5,n6,List.take_length,Lm,vcs,seval,tys]<;>(try simp)<;>(try omega)) ?_|refine draw_end (by decide +kernel) ?_|((first|apply Ca|apply Cb)<;>intro hb)|refine Ai (by omega) ?_|(apply Ai<;>intro hb)
     all_goals ((refine Fin.give [(q,none),(b0+64,some 0),(b0+2,some 1),(b0+320,some 2)] [y,z] ?_ ?_ ?_ ?_ ?_ (fun q hq=>by have hqq:=ho q hq;first|(simp only[gives,tgt,Lc,Lo,Lk,Ln,or_false]at hqq ⊢;omega)|(simp only[gives,tgt,Lc,Lo,Lk,Ln,or_false]at hqq))<;>(try simp only[results68,ntmps68,wks,tkC,grC,hq,hy,hz,elC,noC,z0,z1,z2,z3,y0,y1,y2,y3,w0,w1,w2,w3,n1,n2,n3,n4,n5,n6,ren_nds,renOk_nds,hpn0,List.map_append,List.all_append,Bool.and_self,Bool.false_and,plainLL_append,plain_at,plain_nd,plain_no,Lm,giv,vcs,seval,tys])<;>(try simp only[injs])<;>(try omega)))
    ·have hkb:((t.kind:Int)==1)=false:=beq_false_of_ne (by omega)
     rw[if_neg hk1]
     repeat' first|simp only[fins,mems,results68,ntmps68,wks,plain_pr,tkC,grC,hd,hkb,fresh_selfU,z0,z1,z2,z3,y0,y1,y2,y3,w0,w1,w2,w3,n1,n2,n3,n4,n5,n6,List.take_length,Lm,vcs,seval,tys]|exact rfl|refine call_off (v:=.any) ?_|(refine call_fn_full ?_ [q,y,z,b0+2] (hadd _ ?_ ?_ ?_ ?_ only_mem _ (by omega) (by omega) (by omega) (by omega)) ?_ ?_)|refine draw_end' (ps:=[(4,11)]) (by decide +kernel) (by simp only[List.forall_mem_cons,List.getD_cons_zero,List.getD_cons_succ,results68,ntmps68,wks,plain_pr,tkC,grC,hd,hkb,fresh_selfU,z0,z1,z2,z3,y0,y1,y2,y3,w0,w1,w2,w3,n1,n2,n3,n4,n5,n6,List.take_length,Lm,vcs,seval,tys]<;>(try simp)<;>(try omega)) ?_|refine draw_end (by decide +kernel) ?_|((first|apply Ca|apply Cb)<;>intro hb)|refine Ai (by omega) ?_|(apply Ai<;>intro hb)
     all_goals ((refine Fin.give [(q,none),(z,none),(b0+64,some 0),(b0+2,some 1)] [y] ?_ ?_ ?_ ?_ ?_ (fun q hq=>by have hqq:=ho q hq;first|(simp only[gives,tgt,Lc,Lo,Lk,Ln,or_false]at hqq ⊢;omega)|(simp only[gives,tgt,Lc,Lo,Lk,Ln,or_false]at hqq))<;>(try simp only[results68,ntmps68,wks,tkC,grC,hq,hy,hz,elC,noC,z0,z1,z2,z3,y0,y1,y2,y3,w0,w1,w2,w3,n1,n2,n3,n4,n5,n6,ren_nds,renOk_nds,hpn0,List.map_append,List.all_append,Bool.and_self,Bool.false_and,plainLL_append,plain_at,plain_nd,plain_no,Lm,giv,vcs,seval,tys])<;>(try simp only[injs])<;>(try omega))))
end Go.Proofs.YtjdjclecdfhciaaGreatDoor
