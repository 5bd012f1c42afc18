/-
 Texts joined: XUb,XUc,XUd.
-/
import Derived.Test.YtcllbjanalhjgaaGreatDoorQo
import Derived.Test.YtcllbjanalhjgaaGreatDoorQf
import Derived.Test.YtcllbjanalhjgaaGreatDoorQi
namespace Go.Proofs.YtcllbjanalhjgaaGreatDoor
set_option maxRecDepth 100000
set_option maxHeartbeats 32000000
set_option linter.unusedSimpArgs false
set_option linter.unusedVariables false
open Go Go.RowKit Vm Go.Lib Tryz
open Vm renaming be→Ca,bo→Cb
open And renaming intro→Ai
open List renaming length_map→Lm,not_mem_nil→Ln,map_nil→Lo,map_cons→Lc,mem_cons→Lk
open Bool renaming not_false→Bf,not_true→Bt
def bG (a:At):List V:=[.str a.space,.str a.name,.str a.value]
def bc (n:Nd):List V:=[.int .u8 n.kind,.str n.space,.str n.name,.sl false 3 (n.attrs.map bG),.str n.text,.int .i64 n.many]
def eT (k:Nat):List V:=[.int .i64 k]
theorem iI {l:List Nd}{k:Nat}{a:Nd}(h:l[k]? = some a):(l.map bc)[k]? = some (bc a):=by rw[List.getElem?_map,h];rfl
theorem pE {l:List At}{k:Nat}{a:At}(h:l[k]? = some a):(l.map bG)[k]? = some (bG a):=by rw[List.getElem?_map,h];rfl
theorem BM {l m:List Nat}{k:Nat}{a:Nat}(h:l[k]? = some a):((l++m).map eT)[k]? = some (eT a):=by
 have hk:=(List.getElem?_eq_some_iff.1 h).1
 rw[List.getElem?_map,List.getElem?_append_left hk,h];rfl
theorem aw (l:List At):plainLL (l.map bG)=true:=cn _ (fun _=>rfl) l
theorem ai (l:List Nd):plainLL (l.map bc)=true:=cn _ (fun t=>by simp[bc,plainL,V.plain,aw]) l
theorem aY (l:List Nat):plainLL (l.map eT)=true:=cn _ (fun _=>rfl) l
theorem Gi {v:List Nd}{k:Nat}{x:Nd}(h:v[k]? = some x)(m:Int)(hm:m=x.many+1):(v.map bc).set k [.int .u8 x.kind,.str x.space,.str x.name,.sl false 3 (x.attrs.map bG),.str x.text,.int .i64 m]=(v.modify k Nd.inc).map bc:=by
 subst hm
 rw[AX h,List.map_set];rfl
theorem qH (σ:List (Nat×Nat))(l:List Nd):(l.map bc).map (renL σ)=l.map bc:=by
 rw[List.map_map]
 exact List.map_congr_left (fun n _=>by simp[bc,renL,V.ren])
theorem me (σ:List (Nat×Nat))(l:List Nd):(l.map bc).all (renOkL σ)=true:=by
 rw[List.all_eq_true]
 intro r hr
 obtain⟨n,_,rfl⟩:=List.mem_map.1 hr
 simp[bc,renOkL,V.renOk,aw]
def dI (y z:Nat)(g:Gr)(last:Nat):List V:=[.own y 0 g.v.length,.own z 0 g.opn.length,.int .u8 last]
theorem fb (l:List Nd):(l.map bc).take l.length=l.map bc:=List.take_of_length_le (by simp)
theorem HF (g:Gr)(n:Nat)(hg:g.Ok n)(hn:n≤1000)(junk:List Nat)(last q y z:Nat)(x:Nd)(M:ao)(nm:Nat)(hqy:q≠y)(hqz:q≠z)(hyz:y≠z)(hq:M q=some ⟨3,[dI y z g last]⟩)(hy:M y=some ⟨6,g.v.map bc⟩)(hz:M z=some ⟨1,(g.opn++junk).map eT⟩)(ho:∀ w,(M w).isSome=true→w∈[q,y,z])(hqn:q<nm)(hyn:y<nm)(hzn:z<nm) :
  Ev cx 129 nm [.ptr q 0 0,.agg [.int .u8 x.kind,.str x.space,.str x.name,.nils,.str x.text,.int .i64 x.many]] M (.tup []) [(y,none),(q,some ⟨3,[[.own nm 0 (g.v.length+1),.own z 0 g.opn.length,.int .u8 last]]⟩),(z,some ⟨1,(g.opn++junk).map eT⟩),(nm,some ⟨6,(lp g.v g.opn).map bc++[[.int .u8 x.kind,.str x.space,.str x.name,.nils,.str x.text,.int .i64 x.many]]⟩)]:=by
 have hvl:=hg.len
 have hl12:=hg.deep
 refine ay rfl (fun cargs w=>call129 cargs w) func129 rfl mixed (by kernel_rfl) rfl ?_;intro b0 hb0
 have lq:q<b0:=av hb0 (by rw[hq];rfl)
 have z0:=aS lq;have z1:=aq lq;have z2:=aI lq;have z3:=aj lq
 have ly:y<b0:=av hb0 (by rw[hy];rfl)
 have y0:=aS ly;have y1:=aq ly;have y2:=aI ly;have y3:=aj ly
 have lz:z<b0:=av hb0 (by rw[hz];rfl)
 have w0:=aS lz;have w1:=aq lz;have w2:=aI lz;have w3:=aj lz
 have n1:=eq_false hqy;have n2:=eq_false hqz;have n3:=eq_false hyz
 have n4:=eq_false (Ne.symm hqy);have n5:=eq_false (Ne.symm hqz);have n6:=eq_false (Ne.symm hyz)
 by_cases h0:g.opn=[]
 ·have hl0:g.opn.length=0:=by rw[h0];rfl
  have hinc:lp g.v g.opn=g.v:=by rw[h0];rfl
  rw[hinc]
  have hd:decide ((0:Int)<(g.opn.length:Int))=false:=decide_eq_false (by omega)
  repeat' first|simp only[am,ah,results129,ntmps129,ap,dI,hd,hq,hy,hz,z0,z1,z2,z3,y0,y1,y2,y3,w0,w1,w2,w3,n1,n2,n3,n4,n5,n6,fb,ai,aw,Lm,ag,seval,ae]|exact rfl|refine aa (v:=.any) ?_|refine bg (ps:=[(4,6)]) (by decide +kernel) (by simp only[List.forall_mem_cons,List.getD_cons_zero,List.getD_cons_succ,results129,ntmps129,ap,dI,hd,hq,hy,hz,z0,z1,z2,z3,y0,y1,y2,y3,w0,w1,w2,w3,n1,n2,n3,n4,n5,n6,fb,ai,aw,Lm,ag,seval,ae]<;>(try simp)<;>(try omega)) ?_|refine aG (by decide +kernel) ?_|((first|apply Ca|apply Cb)<;>intro hb)|refine Ai (by omega) ?_|(apply Ai<;>intro hb)
  all_goals ((refine Fin.give [(q,none),(z,none),(b0+256,some 0)] [y] ?_ ?_ ?_ ?_ ?_ (fun q hq=>by have hqq:=ho q hq;first|(simp only[aD,tgt,Lc,Lo,Lk,Ln,or_false]at hqq ⊢;omega)|(simp only[aD,tgt,Lc,Lo,Lk,Ln,or_false]at hqq))<;>(try simp only[results129,ntmps129,ap,dI,hq,hy,hz,z0,z1,z2,z3,y0,y1,y2,y3,w0,w1,w2,w3,n1,n2,n3,n4,n5,n6,Bool.and_self,Bool.false_and,bW,ai,aY,Lm,ec,ag,seval,ae])<;>(try simp only[au])<;>(try omega)))
 ·obtain⟨k,hk⟩:=o6 h0
  obtain⟨_,hk2,hk3⟩:=ls hk
  have hkv:=hg.in_ k (List.mem_of_getElem? hk2)
  obtain⟨x0,hx0⟩:∃ x0,g.v[k]? = some x0:=⟨_,List.getElem?_eq_getElem hkv⟩
  have hm:=hg.many x0 (List.mem_of_getElem? hx0)
  have hinc:=uq (v:=g.v) hk
  have hd:decide ((0:Int)<(g.opn.length:Int))=true:=decide_eq_true (by omega)
  have hwl:IntKind.i64.wrap ((g.opn.length:Int)-1)=((g.opn.length-1:Nat):Int):=by rw[aR (by omega) (by omega)];omega
  have hlt:g.opn.length-1<g.opn.length:=by omega
  have hno:=BM (m:=junk) hk2
  have hnd:=iI hx0
  have hwm:IntKind.i64.wrap (x0.many+1)=x0.many+1:=aR (by omega) (by omega)
  have hset:=Gi hx0 (x0.many+1) rfl
  have hml:((g.v.modify k Nd.inc).map bc).take g.v.length=(g.v.modify k Nd.inc).map bc:=List.take_of_length_le (by simp)
  have hmn:(g.v.modify k Nd.inc).length=g.v.length:=by simp
  rw[hinc]
  repeat' first|simp only[am,ah,results129,ntmps129,ap,dI,hd,hq,hy,hz,hwl,hlt,hno,eT,hnd,bc,hkv,hwm,hset,hml,hmn,z0,z1,z2,z3,y0,y1,y2,y3,w0,w1,w2,w3,n1,n2,n3,n4,n5,n6,fb,ai,aw,Lm,ag,seval,ae]|exact rfl|refine aa (v:=.any) ?_|refine bg (ps:=[(4,6)]) (by decide +kernel) (by simp only[List.forall_mem_cons,List.getD_cons_zero,List.getD_cons_succ,results129,ntmps129,ap,dI,hd,hq,hy,hz,hwl,hlt,hno,eT,hnd,bc,hkv,hwm,hset,hml,hmn,z0,z1,z2,z3,y0,y1,y2,y3,w0,w1,w2,w3,n1,n2,n3,n4,n5,n6,fb,ai,aw,Lm,ag,seval,ae]<;>(try simp)<;>(try omega)) ?_|refine aG (by decide +kernel) ?_|((first|apply Ca|apply Cb)<;>intro hb)|refine Ai (by omega) ?_|(apply Ai<;>intro hb)
  all_goals ((refine Fin.give [(q,none),(z,none),(b0+560,some 0)] [y] ?_ ?_ ?_ ?_ ?_ (fun q hq=>by have hqq:=ho q hq;first|(simp only[aD,tgt,Lc,Lo,Lk,Ln,or_false]at hqq ⊢;omega)|(simp only[aD,tgt,Lc,Lo,Lk,Ln,or_false]at hqq))<;>(try simp only[results129,ntmps129,ap,dI,hq,hy,hz,z0,z1,z2,z3,y0,y1,y2,y3,w0,w1,w2,w3,n1,n2,n3,n4,n5,n6,hml,hmn,Bool.and_self,Bool.false_and,bW,ai,aY,Lm,ec,ag,seval,ae])<;>(try simp only[au])<;>(try omega)))
theorem HE (g:Gr)(n:Nat)(hg:g.Ok n)(hn:n≤1000)(junk:List Nat)(last q y z:Nat)(x:Nd)(a:Nat)(ats:List At)(M:ao)(nm:Nat)(hqy:q≠y)(hqz:q≠z)(hyz:y≠z)(hqa:q≠a)(hya:y≠a)(hza:z≠a)(ha:M a=some ⟨3,ats.map bG⟩)(hq:M q=some ⟨3,[dI y z g last]⟩)(hy:M y=some ⟨6,g.v.map bc⟩)(hz:M z=some ⟨1,(g.opn++junk).map eT⟩)(ho:∀ w,(M w).isSome=true→w∈[q,y,z,a])(hqn:q<nm)(hyn:y<nm)(hzn:z<nm)(han:a<nm) :
  Ev cx 129 nm [.ptr q 0 0,.agg [.int .u8 x.kind,.str x.space,.str x.name,.own a 0 ats.length,.str x.text,.int .i64 x.many]] M (.tup []) [(y,none),(q,some ⟨3,[[.own nm 0 (g.v.length+1),.own z 0 g.opn.length,.int .u8 last]]⟩),(z,some ⟨1,(g.opn++junk).map eT⟩),(a,some ⟨3,ats.map bG⟩),(nm,some ⟨6,(lp g.v g.opn).map bc++[[.int .u8 x.kind,.str x.space,.str x.name,.own a 0 ats.length,.str x.text,.int .i64 x.many]]⟩)]:=by
 have hvl:=hg.len
 have hl12:=hg.deep
 refine ay rfl (fun cargs w=>call129 cargs w) func129 rfl mixed (by kernel_rfl) rfl ?_;intro b0 hb0
 have lq:q<b0:=av hb0 (by rw[hq];rfl)
 have z0:=aS lq;have z1:=aq lq;have z2:=aI lq;have z3:=aj lq
 have ly:y<b0:=av hb0 (by rw[hy];rfl)
 have y0:=aS ly;have y1:=aq ly;have y2:=aI ly;have y3:=aj ly
 have lz:z<b0:=av hb0 (by rw[hz];rfl)
 have w0:=aS lz;have w1:=aq lz;have w2:=aI lz;have w3:=aj lz
 have la:a<b0:=av hb0 (by rw[ha];rfl)
 have a0:=aS la;have a1:=aq la;have a2:=aI la;have a3:=aj la
 have m1:=eq_false hqa;have m2:=eq_false hya;have m3:=eq_false hza
 have m4:=eq_false (Ne.symm hqa);have m5:=eq_false (Ne.symm hya);have m6:=eq_false (Ne.symm hza)
 have hpn:plainLL (g.opn.map eT++junk.map eT)=true:=by rw[← List.map_append];exact aY _
 have n1:=eq_false hqy;have n2:=eq_false hqz;have n3:=eq_false hyz
 have n4:=eq_false (Ne.symm hqy);have n5:=eq_false (Ne.symm hqz);have n6:=eq_false (Ne.symm hyz)
 by_cases h0:g.opn=[]
 ·have hl0:g.opn.length=0:=by rw[h0];rfl
  have hinc:lp g.v g.opn=g.v:=by rw[h0];rfl
  rw[hinc]
  have hd:decide ((0:Int)<(g.opn.length:Int))=false:=decide_eq_false (by omega)
  repeat' first|simp only[am,ah,results129,ntmps129,ap,dI,hd,hq,hy,hz,z0,z1,z2,z3,y0,y1,y2,y3,w0,w1,w2,w3,n1,n2,n3,n4,n5,n6,ha,a0,a1,a2,a3,m1,m2,m3,m4,m5,m6,aw,fb,ai,aw,Lm,ag,seval,ae]|exact rfl|refine aa (v:=.any) ?_|refine bg (ps:=[(4,6)]) (by decide +kernel) (by simp only[List.forall_mem_cons,List.getD_cons_zero,List.getD_cons_succ,results129,ntmps129,ap,dI,hd,hq,hy,hz,z0,z1,z2,z3,y0,y1,y2,y3,w0,w1,w2,w3,n1,n2,n3,n4,n5,n6,ha,a0,a1,a2,a3,m1,m2,m3,m4,m5,m6,aw,fb,ai,aw,Lm,ag,seval,ae]<;>(try simp)<;>(try omega)) ?_|refine aG (by decide +kernel) ?_|((first|apply Ca|apply Cb)<;>intro hb)|refine Ai (by omega) ?_|(apply Ai<;>intro hb)
  all_goals ((refine Fin.give [(q,none),(z,none),(a,none),(b0+256,some 0)] [y] ?_ ?_ ?_ ?_ ?_ (fun q hq=>by have hqq:=ho q hq;first|(simp only[aD,tgt,Lc,Lo,Lk,Ln,or_false]at hqq ⊢;omega)|(simp only[aD,tgt,Lc,Lo,Lk,Ln,or_false]at hqq))<;>(try simp only[results129,ntmps129,ap,dI,hq,hy,hz,z0,z1,z2,z3,y0,y1,y2,y3,w0,w1,w2,w3,n1,n2,n3,n4,n5,n6,ha,a0,a1,a2,a3,m1,m2,m3,m4,m5,m6,aw,qH,me,List.map_append,List.all_append,Bool.and_self,Bool.false_and,bW,ai,hpn,Lm,ec,ag,seval,ae])<;>(try simp only[au])<;>(try omega)))
 ·obtain⟨k,hk⟩:=o6 h0
  obtain⟨_,hk2,hk3⟩:=ls hk
  have hkv:=hg.in_ k (List.mem_of_getElem? hk2)
  obtain⟨x0,hx0⟩:∃ x0,g.v[k]? = some x0:=⟨_,List.getElem?_eq_getElem hkv⟩
  have hm:=hg.many x0 (List.mem_of_getElem? hx0)
  have hinc:=uq (v:=g.v) hk
  have hd:decide ((0:Int)<(g.opn.length:Int))=true:=decide_eq_true (by omega)
  have hwl:IntKind.i64.wrap ((g.opn.length:Int)-1)=((g.opn.length-1:Nat):Int):=by rw[aR (by omega) (by omega)];omega
  have hlt:g.opn.length-1<g.opn.length:=by omega
  have hno:=BM (m:=junk) hk2
  have hnd:=iI hx0
  have hwm:IntKind.i64.wrap (x0.many+1)=x0.many+1:=aR (by omega) (by omega)
  have hset:=Gi hx0 (x0.many+1) rfl
  have hml:((g.v.modify k Nd.inc).map bc).take g.v.length=(g.v.modify k Nd.inc).map bc:=List.take_of_length_le (by simp)
  have hmn:(g.v.modify k Nd.inc).length=g.v.length:=by simp
  rw[hinc]
  repeat' first|simp only[am,ah,results129,ntmps129,ap,dI,hd,hq,hy,hz,hwl,hlt,hno,eT,hnd,bc,hkv,hwm,hset,hml,hmn,z0,z1,z2,z3,y0,y1,y2,y3,w0,w1,w2,w3,n1,n2,n3,n4,n5,n6,ha,a0,a1,a2,a3,m1,m2,m3,m4,m5,m6,aw,fb,ai,aw,Lm,ag,seval,ae]|exact rfl|refine aa (v:=.any) ?_|refine bg (ps:=[(4,6)]) (by decide +kernel) (by simp only[List.forall_mem_cons,List.getD_cons_zero,List.getD_cons_succ,results129,ntmps129,ap,dI,hd,hq,hy,hz,hwl,hlt,hno,eT,hnd,bc,hkv,hwm,hset,hml,hmn,z0,z1,z2,z3,y0,y1,y2,y3,w0,w1,w2,w3,n1,n2,n3,n4,n5,n6,ha,a0,a1,a2,a3,m1,m2,m3,m4,m5,m6,aw,fb,ai,aw,Lm,ag,seval,ae]<;>(try simp)<;>(try omega)) ?_|refine aG (by decide +kernel) ?_|((first|apply Ca|apply Cb)<;>intro hb)|refine Ai (by omega) ?_|(apply Ai<;>intro hb)
  all_goals ((refine Fin.give [(q,none),(z,none),(a,none),(b0+560,some 0)] [y] ?_ ?_ ?_ ?_ ?_ (fun q hq=>by have hqq:=ho q hq;first|(simp only[aD,tgt,Lc,Lo,Lk,Ln,or_false]at hqq ⊢;omega)|(simp only[aD,tgt,Lc,Lo,Lk,Ln,or_false]at hqq))<;>(try simp only[results129,ntmps129,ap,dI,hq,hy,hz,z0,z1,z2,z3,y0,y1,y2,y3,w0,w1,w2,w3,n1,n2,n3,n4,n5,n6,ha,a0,a1,a2,a3,m1,m2,m3,m4,m5,m6,aw,hml,hmn,qH,me,List.map_append,List.all_append,Bool.and_self,Bool.false_and,bW,ai,hpn,Lm,ec,ag,seval,ae])<;>(try simp only[au])<;>(try omega)))
theorem E6 (s:List UInt8):(s.all fun c=>oZ [32,9,10,13] c.toNat)=mJ s:=by
 unfold mJ
 congr 1
 funext c
 have h:∀ d:UInt8,(d.toNat==c.toNat)=(c==d):=fun d=>by
  rw[Bool.eq_iff_iff,beq_iff_eq,beq_iff_eq]
  exact⟨fun h=>(UInt8.toNat_inj.1 h).symm,fun h=>by rw[h]⟩
 simp only[oZ,gX,List.any_cons,List.any_nil,h,Bool.or_false,Bool.or_assoc]
theorem A6 (s:List UInt8):(dv [32,9,10,13] (eg [32,9,10,13] s)==[])=mJ s:=by
 rw[← E6,Bool.eq_iff_iff,beq_iff_eq,sN]
theorem l9 (o:List Nat):((o.length:Int)==0)=o.isEmpty:=lv o
theorem qO (g:Gr)(n:Nd):(jW g n).map bc=(lp g.v g.opn).map bc++[bc n]:=by simp[jW]
theorem o9 (a:List (List V))(r s:List V):iX (a++[r]) (a++[s])=leL r s:=by
 apply propext
 induction a with
 | nil=>simp[iX]
 | cons x a ih =>
  simp only[List.cons_append,iX,ih]
  exact⟨fun h=>h.2,fun h=>⟨leL_refl x,h⟩⟩
theorem gM (n:Nat):bV n n=True:=eq_true ⟨Nat.le_refl _,by omega⟩
def jV (g:Gr)(t:Tk)(last:Nat):Bool:=(last==4)||(g.opn.isEmpty && !mJ t.text)
theorem yW (g:Gr)(n:Nat)(hg:g.Ok n)(hn:n≤1000)(junk:List Nat)(last q y z:Nat)(t:Tk)(ht:t.text.length≤bk)(e:Int)(he:(jV g t last=true∧e=80)∨(jV g t last=false∧g.opn=[]∧e=0))(M:ao)(nm:Nat)(hqy:q≠y)(hqz:q≠z)(hyz:y≠z)(hq:M q=some ⟨3,[dI y z g last]⟩)(hy:M y=some ⟨6,g.v.map bc⟩)(hz:M z=some ⟨1,(g.opn++junk).map eT⟩)(ho:∀ w,(M w).isSome=true→w∈[q,y,z]) :
  Ev cx 107 nm [.ptr q 0 0,.agg (cZ t)] M (.int .i64 e) [(q,some ⟨3,[dI y z g last]⟩),(y,some ⟨6,g.v.map bc⟩),(z,some ⟨1,(g.opn++junk).map eT⟩)]:=by
 have htr:=B5 [32,9,10,13] t.text (by decide) (by decide) (by decide) ht
 have htb:=A6 t.text
 generalize dv [32,9,10,13] (eg [32,9,10,13] t.text)=tr at htr htb
 have ho0:=l9 g.opn
 have hlt4:((last:Int)==4)=(last==4):=by rw[Bool.eq_iff_iff];simp;omega
 have hop:g.opn=[]→g.opn.isEmpty=true:=fun h=>by rw[h];rfl
 unfold jV at he
 generalize hA:(last==4)=bA at he hlt4
 generalize hB:g.opn.isEmpty=bB at he ho0 hop
 generalize hC:mJ t.text=bC at he htb
 have hcs:(bA=true∧e=80)∨(bA=false∧bB=true∧bC=false∧e=80)∨(bA=false∧bB=true∧bC=true∧e=0):=by
  rcases he with ⟨h1,h2⟩|⟨h1,h2,h3⟩
  ·cases bA<;>cases bB<;>cases bC<;>simp at h1 ⊢<;>exact h2
  ·have:=hop h2
   subst this
   cases bA<;>cases bC<;>simp at h1 ⊢<;>exact h3
 clear he
 rcases hcs with ⟨rfl,rfl⟩|⟨rfl,rfl,rfl,rfl⟩|⟨rfl,rfl,rfl,rfl⟩<;>(try cases bB)<;>(
  refine ay rfl (fun cargs w=>call107 cargs w) func107 rfl mixed (by kernel_rfl) rfl ?_;intro b0 hb0
  have lq:q<b0:=av hb0 (by rw[hq];rfl)
  have z0:=aS lq;have z1:=aq lq;have z2:=aI lq;have z3:=aj lq
  have ly:y<b0:=av hb0 (by rw[hy];rfl)
  have y0:=aS ly;have y1:=aq ly;have y2:=aI ly;have y3:=aj ly
  have lz:z<b0:=av hb0 (by rw[hz];rfl)
  have w0:=aS lz;have w1:=aq lz;have w2:=aI lz;have w3:=aj lz
  have n1:=eq_false hqy;have n2:=eq_false hqz;have n3:=eq_false hyz
  have n4:=eq_false (Ne.symm hqy);have n5:=eq_false (Ne.symm hqz);have n6:=eq_false (Ne.symm hyz)
  repeat' first|simp only[am,ah,results107,ntmps107,ap,cZ,dI,ho0,hlt4,htb,hq,hy,hz,z0,z1,z2,z3,y0,y1,y2,y3,w0,w1,w2,w3,n1,n2,n3,n4,n5,n6,Bt,Bf,Lm,ag,seval,ae]|exact rfl|refine aa (v:=.any) ?_|(first|(refine ac ?_ (htr _) ?_)|(refine ab ?_ (fun _=>htr _) ?_))|(refine aa (v:=.any) ?_)|((first|apply Ca|apply Cb)<;>intro hb)|refine Ai (by omega) ?_|(apply Ai<;>intro hb)
  all_goals ((refine Fin.give [(q,none),(y,none),(z,none)] [] ?_ ?_ ?_ ?_ ?_ (fun q hq=>by have hqq:=ho q hq;first|(simp only[aD,tgt,Lc,Lo,Lk,Ln,or_false]at hqq ⊢;omega)|(simp only[aD,tgt,Lc,Lo,Lk,Ln,or_false]at hqq))<;>(try simp only[results107,ntmps107,ap,cZ,dI,hq,hy,hz,z0,z1,z2,z3,y0,y1,y2,y3,w0,w1,w2,w3,n1,n2,n3,n4,n5,n6,Bool.and_self,Bool.false_and,ai,aY,Lm,ec,ag,seval,ae])<;>(try simp only[au])<;>(try omega))))
theorem EI (g:Gr)(n:Nat)(hg:g.Ok n)(hn:n≤1000)(junk:List Nat)(last q y z:Nat)(t:Tk)(hl4:(last==4)=false)(hop:g.opn.isEmpty=false)(M:ao)(nm:Nat)(hqy:q≠y)(hqz:q≠z)(hyz:y≠z)(hq:M q=some ⟨3,[dI y z g last]⟩)(hy:M y=some ⟨6,g.v.map bc⟩)(hz:M z=some ⟨1,(g.opn++junk).map eT⟩)(ho:∀ w,(M w).isSome=true→w∈[q,y,z])(hqn:q<nm)(hyn:y<nm)(hzn:z<nm) :
  Ev cx 107 nm [.ptr q 0 0,.agg (cZ t)] M (.int .i64 0) [(y,none),(q,some ⟨3,[[.own nm 0 (g.v.length+1),.own z 0 g.opn.length,.int .u8 last]]⟩),(z,some ⟨1,(g.opn++junk).map eT⟩),(nm,some ⟨6,(lp g.v g.opn).map bc++[[.int .u8 2,.str [],.str [],.nils,.str t.text,.int .i64 0]]⟩)]:=by
 have ho0:=l9 g.opn
 rw[hop]at ho0
 have hlt4:((last:Int)==4)=false:=by rw[← hl4,Bool.eq_iff_iff];simp;omega
 refine ay rfl (fun cargs w=>call107 cargs w) func107 rfl mixed (by kernel_rfl) rfl ?_;intro b0 hb0
 have lq:q<b0:=av hb0 (by rw[hq];rfl)
 have z0:=aS lq;have z1:=aq lq;have z2:=aI lq;have z3:=aj lq
 have ly:y<b0:=av hb0 (by rw[hy];rfl)
 have y0:=aS ly;have y1:=aq ly;have y2:=aI ly;have y3:=aj ly
 have lz:z<b0:=av hb0 (by rw[hz];rfl)
 have w0:=aS lz;have w1:=aq lz;have w2:=aI lz;have w3:=aj lz
 have n1:=eq_false hqy;have n2:=eq_false hqz;have n3:=eq_false hyz
 have n4:=eq_false (Ne.symm hqy);have n5:=eq_false (Ne.symm hqz);have n6:=eq_false (Ne.symm hyz)
 have e1:=hq;have e2:=hy;have e3:=hz
 have hadd:=fun (M':ao) (a:M' q=some ⟨3,[dI y z g last]⟩) (b:M' y=some ⟨6,g.v.map bc⟩) (c:M' z=some ⟨1,(g.opn++junk).map eT⟩) (d:∀ w,(M' w).isSome=true→w∈[q,y,z]) (m:Nat) (h1:q<m) (h2:y<m) (h3:z<m)=>HF g n hg hn junk last q y z (iS t.text) M' m hqy hqz hyz a b c d h1 h2 h3
 repeat' first|simp only[am,ah,results107,ntmps107,ap,cZ,dI,iS,ho0,hlt4,hq,hy,hz,gM,z0,z1,z2,z3,y0,y1,y2,y3,w0,w1,w2,w3,n1,n2,n3,n4,n5,n6,Bt,Bf,Lm,ag,seval,ae]|exact rfl|refine aa (v:=.any) ?_|(refine ad ?_ [q,y,z] (hadd _ ?_ ?_ ?_ ak _ (by omega) (by omega) (by omega)) ?_ ?_)|(refine aa (v:=.any) ?_)|((first|apply Ca|apply Cb)<;>intro hb)|refine Ai (by omega) ?_|(apply Ai<;>intro hb)
 all_goals ((refine Fin.give [(q,none),(z,none),(b0+464,some 0)] [y] ?_ ?_ ?_ ?_ ?_ (fun q hq=>by have hqq:=ho q hq;first|(simp only[aD,tgt,Lc,Lo,Lk,Ln,or_false]at hqq ⊢;omega)|(simp only[aD,tgt,Lc,Lo,Lk,Ln,or_false]at hqq))<;>(try simp only[results107,ntmps107,ap,cZ,dI,hq,hy,hz,z0,z1,z2,z3,y0,y1,y2,y3,w0,w1,w2,w3,n1,n2,n3,n4,n5,n6,Bool.and_self,Bool.false_and,bW,ai,aY,Lm,ec,ag,seval,ae])<;>(try simp only[au])<;>(try omega)))
theorem Jq (g:Gr)(n:Nat)(hg:g.Ok n)(hn:n≤1000)(junk:List Nat)(last q y z:Nat)(t:Tk)(hlast:lr g≠some t.name)(M:ao)(nm:Nat)(hqy:q≠y)(hqz:q≠z)(hyz:y≠z)(hq:M q=some ⟨3,[dI y z g last]⟩)(hy:M y=some ⟨6,g.v.map bc⟩)(hz:M z=some ⟨1,(g.opn++junk).map eT⟩)(ho:∀ w,(M w).isSome=true→w∈[q,y,z]) :
  Ev cx 106 nm [.ptr q 0 0,.agg (cZ t)] M (.int .i64 80) [(q,some ⟨3,[dI y z g last]⟩),(y,some ⟨6,g.v.map bc⟩),(z,some ⟨1,(g.opn++junk).map eT⟩)]:=by
 have hvl:=hg.len
 have hl12:=hg.deep
 have ho0:=l9 g.opn
 by_cases h0:g.opn=[]
 ·have hop:g.opn.isEmpty=true:=by rw[h0];rfl
  rw[hop]at ho0
  refine ay rfl (fun cargs w=>call106 cargs w) func106 rfl mixed (by kernel_rfl) rfl ?_;intro b0 hb0
  have lq:q<b0:=av hb0 (by rw[hq];rfl)
  have z0:=aS lq;have z1:=aq lq;have z2:=aI lq;have z3:=aj lq
  have ly:y<b0:=av hb0 (by rw[hy];rfl)
  have y0:=aS ly;have y1:=aq ly;have y2:=aI ly;have y3:=aj ly
  have lz:z<b0:=av hb0 (by rw[hz];rfl)
  have w0:=aS lz;have w1:=aq lz;have w2:=aI lz;have w3:=aj lz
  have n1:=eq_false hqy;have n2:=eq_false hqz;have n3:=eq_false hyz
  have n4:=eq_false (Ne.symm hqy);have n5:=eq_false (Ne.symm hqz);have n6:=eq_false (Ne.symm hyz)
  repeat' first|simp only[am,ah,results106,ntmps106,ap,cZ,dI,ho0,hq,hy,hz,z0,z1,z2,z3,y0,y1,y2,y3,w0,w1,w2,w3,n1,n2,n3,n4,n5,n6,Bt,Bf,Lm,ag,seval,ae]|exact rfl|refine aa (v:=.any) ?_|refine aG (by decide +kernel) ?_|((first|apply Ca|apply Cb)<;>intro hb)|refine Ai (by omega) ?_|(apply Ai<;>intro hb)
  all_goals ((refine Fin.give [(q,none),(y,none),(z,none)] [] ?_ ?_ ?_ ?_ ?_ (fun q hq=>by have hqq:=ho q hq;first|(simp only[aD,tgt,Lc,Lo,Lk,Ln,or_false]at hqq ⊢;omega)|(simp only[aD,tgt,Lc,Lo,Lk,Ln,or_false]at hqq))<;>(try simp only[results106,ntmps106,ap,cZ,dI,hq,hy,hz,z0,z1,z2,z3,y0,y1,y2,y3,w0,w1,w2,w3,n1,n2,n3,n4,n5,n6,Bool.and_self,Bool.false_and,ai,aY,Lm,ec,ag,seval,ae])<;>(try simp only[au])<;>(try omega)))
 ·obtain⟨k,hk⟩:=o6 h0
  obtain⟨_,hk2,hk3⟩:=ls hk
  have hop:g.opn.isEmpty=false:=by simpa using h0
  rw[hop]at ho0
  have hkv:=hg.in_ k (List.mem_of_getElem? hk2)
  obtain⟨x0,hx0⟩:∃ x0,g.v[k]? = some x0:=⟨_,List.getElem?_eq_getElem hkv⟩
  have hwl:IntKind.i64.wrap ((g.opn.length:Int)-1)=((g.opn.length-1:Nat):Int):=by rw[aR (by omega) (by omega)];omega
  have hlt:g.opn.length-1<g.opn.length:=by omega
  have hno:=BM (m:=junk) hk2
  have hnd:=iI hx0
  have hne:(x0.name==t.name)=false:=beq_false_of_ne (fun e=>hlast (by unfold lr;rw[hk];simp[hx0,e]))
  refine ay rfl (fun cargs w=>call106 cargs w) func106 rfl mixed (by kernel_rfl) rfl ?_;intro b0 hb0
  have lq:q<b0:=av hb0 (by rw[hq];rfl)
  have z0:=aS lq;have z1:=aq lq;have z2:=aI lq;have z3:=aj lq
  have ly:y<b0:=av hb0 (by rw[hy];rfl)
  have y0:=aS ly;have y1:=aq ly;have y2:=aI ly;have y3:=aj ly
  have lz:z<b0:=av hb0 (by rw[hz];rfl)
  have w0:=aS lz;have w1:=aq lz;have w2:=aI lz;have w3:=aj lz
  have n1:=eq_false hqy;have n2:=eq_false hqz;have n3:=eq_false hyz
  have n4:=eq_false (Ne.symm hqy);have n5:=eq_false (Ne.symm hqz);have n6:=eq_false (Ne.symm hyz)
  repeat' first|simp only[am,ah,results106,ntmps106,ap,cZ,dI,ho0,hwl,hlt,hno,eT,hnd,bc,hkv,hne,hq,hy,hz,z0,z1,z2,z3,y0,y1,y2,y3,w0,w1,w2,w3,n1,n2,n3,n4,n5,n6,Bt,Bf,Lm,ag,seval,ae]|exact rfl|refine aa (v:=.any) ?_|refine aG (by decide +kernel) ?_|((first|apply Ca|apply Cb)<;>intro hb)|refine Ai (by omega) ?_|(apply Ai<;>intro hb)
  all_goals ((refine Fin.give [(q,none),(y,none),(z,none)] [] ?_ ?_ ?_ ?_ ?_ (fun q hq=>by have hqq:=ho q hq;first|(simp only[aD,tgt,Lc,Lo,Lk,Ln,or_false]at hqq ⊢;omega)|(simp only[aD,tgt,Lc,Lo,Lk,Ln,or_false]at hqq))<;>(try simp only[results106,ntmps106,ap,cZ,dI,hq,hy,hz,z0,z1,z2,z3,y0,y1,y2,y3,w0,w1,w2,w3,n1,n2,n3,n4,n5,n6,Bool.and_self,Bool.false_and,ai,aY,Lm,ec,ag,seval,ae])<;>(try simp only[au])<;>(try omega)))
theorem G2 (g:Gr)(n:Nat)(hg:g.Ok n)(hn:n≤1000)(junk:List Nat)(last q y z:Nat)(t:Tk)(hlast:lr g=some t.name)(M:ao)(nm:Nat)(hqy:q≠y)(hqz:q≠z)(hyz:y≠z)(hq:M q=some ⟨3,[dI y z g last]⟩)(hy:M y=some ⟨6,g.v.map bc⟩)(hz:M z=some ⟨1,(g.opn++junk).map eT⟩)(ho:∀ w,(M w).isSome=true→w∈[q,y,z]) :
  Ev cx 106 nm [.ptr q 0 0,.agg (cZ t)] M (.int .i64 0) [(q,some ⟨3,[[.own y 0 g.v.length,.own z 0 (g.opn.length-1),.int .u8 last]]⟩),(y,some ⟨6,g.v.map bc⟩),(z,some ⟨1,(g.opn++junk).map eT⟩)]:=by
 have hvl:=hg.len
 have hl12:=hg.deep
 have ho0:=l9 g.opn
 obtain⟨k,hk,hkn⟩:=Option.bind_eq_some_iff.1 hlast
 obtain⟨x0,hx0,hxn⟩:=Option.map_eq_some_iff.1 hkn
 obtain⟨h0,hk2,hk3⟩:=ls hk
 have hop:g.opn.isEmpty=false:=by simpa using h0
 rw[hop]at ho0
 have hkv:=hg.in_ k (List.mem_of_getElem? hk2)
 have hwl:IntKind.i64.wrap ((g.opn.length:Int)-1)=((g.opn.length-1:Nat):Int):=by rw[aR (by omega) (by omega)];omega
 have hlt:g.opn.length-1<g.opn.length:=by omega
 have hle:g.opn.length-1≤g.opn.length:=by omega
 have hle2:((g.opn.length-1:Nat):Int)≤(g.opn.length:Int):=by omega
 have hno:=BM (m:=junk) hk2
 have hnd:=iI hx0
 have hne:(x0.name==t.name)=true:=by rw[hxn];simp
 refine ay rfl (fun cargs w=>call106 cargs w) func106 rfl mixed (by kernel_rfl) rfl ?_;intro b0 hb0
 have lq:q<b0:=av hb0 (by rw[hq];rfl)
 have z0:=aS lq;have z1:=aq lq;have z2:=aI lq;have z3:=aj lq
 have ly:y<b0:=av hb0 (by rw[hy];rfl)
 have y0:=aS ly;have y1:=aq ly;have y2:=aI ly;have y3:=aj ly
 have lz:z<b0:=av hb0 (by rw[hz];rfl)
 have w0:=aS lz;have w1:=aq lz;have w2:=aI lz;have w3:=aj lz
 have n1:=eq_false hqy;have n2:=eq_false hqz;have n3:=eq_false hyz
 have n4:=eq_false (Ne.symm hqy);have n5:=eq_false (Ne.symm hqz);have n6:=eq_false (Ne.symm hyz)
 repeat' first|simp only[am,ah,results106,ntmps106,ap,cZ,dI,ho0,hwl,hlt,hle,hle2,hno,eT,hnd,bc,hkv,hne,hq,hy,hz,z0,z1,z2,z3,y0,y1,y2,y3,w0,w1,w2,w3,n1,n2,n3,n4,n5,n6,Bt,Bf,Lm,ag,seval,ae]|exact rfl|refine aa (v:=.any) ?_|refine aG (by decide +kernel) ?_|((first|apply Ca|apply Cb)<;>intro hb)|refine Ai (by omega) ?_|(apply Ai<;>intro hb)
 all_goals ((refine Fin.give [(q,none),(y,none),(z,none)] [] ?_ ?_ ?_ ?_ ?_ (fun q hq=>by have hqq:=ho q hq;first|(simp only[aD,tgt,Lc,Lo,Lk,Ln,or_false]at hqq ⊢;omega)|(simp only[aD,tgt,Lc,Lo,Lk,Ln,or_false]at hqq))<;>(try simp only[results106,ntmps106,ap,cZ,dI,hq,hy,hz,z0,z1,z2,z3,y0,y1,y2,y3,w0,w1,w2,w3,n1,n2,n3,n4,n5,n6,Bool.and_self,Bool.false_and,ai,aY,Lm,ec,ag,seval,ae])<;>(try simp only[au])<;>(try omega)))
theorem zR {l:List Pr}{k:Nat}{a:Pr}(h:l[k]? = some a):cK (l.take (k+1))=cK (l.take k)++[⟨[],a.name,a.value⟩]:=by
 obtain⟨hk,rfl⟩:=List.getElem?_eq_some_iff.1 h
 unfold cK
 rw[List.take_succ_eq_append_getElem hk,List.map_append];rfl
theorem ib (l:List Pr):(cK l).length=l.length:=by simp[cK]
theorem zQ {l:List Pr}{k:Nat}{a:Pr}(h:l[k]? = some a):(cK (l.take k)).map bG++[[.str [],.str a.name,.str a.value]]=(cK (l.take (k+1))).map bG:=by
 rw[zR h,List.map_append];rfl
theorem zS:cK []=[]:=rfl
theorem qu (g:Gr)(n:Nat)(hg:g.Ok n)(hn:n≤1000)(junk:List Nat)(last q y z:Nat)(t:Tk)(e:Int)(he:((g.opn.isEmpty && !g.v.isEmpty)=true∧e=80)∨((g.opn.isEmpty && !g.v.isEmpty)=false∧12≤g.opn.length∧e=100))(M:ao)(nm:Nat)(hqy:q≠y)(hqz:q≠z)(hyz:y≠z)(hq:M q=some ⟨3,[dI y z g last]⟩)(hy:M y=some ⟨6,g.v.map bc⟩)(hz:M z=some ⟨1,(g.opn++junk).map eT⟩)(ho:∀ w,(M w).isSome=true→w∈[q,y,z]) :
  Ev cx 105 nm [.ptr q 0 0,.agg (cZ t)] M (.int .i64 e) [(q,some ⟨3,[dI y z g last]⟩),(y,some ⟨6,g.v.map bc⟩),(z,some ⟨1,(g.opn++junk).map eT⟩)]:=by
 have hvl:=hg.len
 have hl12:=hg.deep
 have ho0:=l9 g.opn
 have hv0:decide ((0:Int)<(g.v.length:Int)) = !g.v.isEmpty:=by
  cases h:g.v with
  | nil=>rfl
  | cons a b=>simp
 have h12:12≤g.opn.length→decide ((12:Int)≤(g.opn.length:Int))=true:=fun h=>decide_eq_true (by omega)
 have hop:g.opn.isEmpty=true→g.opn.length=0:=fun h=>by rw[List.isEmpty_iff.1 h];rfl
 generalize hA:g.opn.isEmpty=bA at he ho0 hop
 generalize hB:g.v.isEmpty=bB at he hv0
 have hcs:(bA=true∧bB=false∧e=80)∨(bA=false∧12≤g.opn.length∧e=100):=by
  rcases he with ⟨h1,h2⟩|⟨h1,h2,h3⟩
  ·cases bA<;>cases bB<;>simp at h1 ⊢;exact h2
  ·cases bA with
   | true=>have:=hop rfl;omega
   | false=>right;exact⟨rfl,h2,h3⟩
 clear he
 rcases hcs with ⟨rfl,rfl,rfl⟩|⟨rfl,h12',rfl⟩
 ·refine ay rfl (fun cargs w=>call105 cargs w) func105 rfl mixed (by kernel_rfl) rfl ?_;intro b0 hb0
  have lq:q<b0:=av hb0 (by rw[hq];rfl)
  have z0:=aS lq;have z1:=aq lq;have z2:=aI lq;have z3:=aj lq
  have ly:y<b0:=av hb0 (by rw[hy];rfl)
  have y0:=aS ly;have y1:=aq ly;have y2:=aI ly;have y3:=aj ly
  have lz:z<b0:=av hb0 (by rw[hz];rfl)
  have w0:=aS lz;have w1:=aq lz;have w2:=aI lz;have w3:=aj lz
  have n1:=eq_false hqy;have n2:=eq_false hqz;have n3:=eq_false hyz
  have n4:=eq_false (Ne.symm hqy);have n5:=eq_false (Ne.symm hqz);have n6:=eq_false (Ne.symm hyz)
  repeat' first|simp only[am,ah,results105,ntmps105,ap,cZ,dI,ho0,hv0,hq,hy,hz,z0,z1,z2,z3,y0,y1,y2,y3,w0,w1,w2,w3,n1,n2,n3,n4,n5,n6,Bt,Bf,Lm,ag,seval,ae]|exact rfl|refine aa (v:=.any) ?_|refine bg (ps:=[(4,11)]) (by decide +kernel) (by simp only[List.forall_mem_cons,List.getD_cons_zero,List.getD_cons_succ,results105,ntmps105,ap,cZ,dI,ho0,hv0,hq,hy,hz,z0,z1,z2,z3,y0,y1,y2,y3,w0,w1,w2,w3,n1,n2,n3,n4,n5,n6,Bt,Bf,Lm,ag,seval,ae]<;>(try simp)<;>(try omega)) ?_|refine aG (by decide +kernel) ?_|((first|apply Ca|apply Cb)<;>intro hb)|refine Ai (by omega) ?_|(apply Ai<;>intro hb)
  all_goals ((refine Fin.give [(q,none),(y,none),(z,none)] [] ?_ ?_ ?_ ?_ ?_ (fun q hq=>by have hqq:=ho q hq;first|(simp only[aD,tgt,Lc,Lo,Lk,Ln,or_false]at hqq ⊢;omega)|(simp only[aD,tgt,Lc,Lo,Lk,Ln,or_false]at hqq))<;>(try simp only[results105,ntmps105,ap,cZ,dI,hq,hy,hz,z0,z1,z2,z3,y0,y1,y2,y3,w0,w1,w2,w3,n1,n2,n3,n4,n5,n6,Bool.and_self,Bool.false_and,ai,aY,Lm,ec,ag,seval,ae])<;>(try simp only[au])<;>(try omega)))
 ·have hd12:=h12 h12'
  refine ay rfl (fun cargs w=>call105 cargs w) func105 rfl mixed (by kernel_rfl) rfl ?_;intro b0 hb0
  have lq:q<b0:=av hb0 (by rw[hq];rfl)
  have z0:=aS lq;have z1:=aq lq;have z2:=aI lq;have z3:=aj lq
  have ly:y<b0:=av hb0 (by rw[hy];rfl)
  have y0:=aS ly;have y1:=aq ly;have y2:=aI ly;have y3:=aj ly
  have lz:z<b0:=av hb0 (by rw[hz];rfl)
  have w0:=aS lz;have w1:=aq lz;have w2:=aI lz;have w3:=aj lz
  have n1:=eq_false hqy;have n2:=eq_false hqz;have n3:=eq_false hyz
  have n4:=eq_false (Ne.symm hqy);have n5:=eq_false (Ne.symm hqz);have n6:=eq_false (Ne.symm hyz)
  repeat' first|simp only[am,ah,results105,ntmps105,ap,cZ,dI,ho0,hd12,hq,hy,hz,z0,z1,z2,z3,y0,y1,y2,y3,w0,w1,w2,w3,n1,n2,n3,n4,n5,n6,Bt,Bf,Lm,ag,seval,ae]|exact rfl|refine aa (v:=.any) ?_|refine bg (ps:=[(4,11)]) (by decide +kernel) (by simp only[List.forall_mem_cons,List.getD_cons_zero,List.getD_cons_succ,results105,ntmps105,ap,cZ,dI,ho0,hd12,hq,hy,hz,z0,z1,z2,z3,y0,y1,y2,y3,w0,w1,w2,w3,n1,n2,n3,n4,n5,n6,Bt,Bf,Lm,ag,seval,ae]<;>(try simp)<;>(try omega)) ?_|refine aG (by decide +kernel) ?_|((first|apply Ca|apply Cb)<;>intro hb)|refine Ai (by omega) ?_|(apply Ai<;>intro hb)
  all_goals ((refine Fin.give [(q,none),(y,none),(z,none)] [] ?_ ?_ ?_ ?_ ?_ (fun q hq=>by have hqq:=ho q hq;first|(simp only[aD,tgt,Lc,Lo,Lk,Ln,or_false]at hqq ⊢;omega)|(simp only[aD,tgt,Lc,Lo,Lk,Ln,or_false]at hqq))<;>(try simp only[results105,ntmps105,ap,cZ,dI,hq,hy,hz,z0,z1,z2,z3,y0,y1,y2,y3,w0,w1,w2,w3,n1,n2,n3,n4,n5,n6,Bool.and_self,Bool.false_and,ai,aY,Lm,ec,ag,seval,ae])<;>(try simp only[au])<;>(try omega)))
def Me (a:Nat)(t:Tk):List V:=[.int .u8 1,.str [],.str t.name,.own a 0 t.attrs.length,.str [],.int .i64 0]
def Bn (g:Gr)(junk:List Nat)(last q y z nm:Nat)(t:Tk):List (Nat×Option Blk) :=
 if t.kind=1 then [(y,none),(z,none),(q,some ⟨3,[[.own nm 0 (g.v.length+1),.own (nm+2) 0 (g.opn.length+1),.int .u8 last]]⟩),(nm,some ⟨6,(lp g.v g.opn).map bc++[Me (nm+1) t]⟩),(nm+1,some ⟨3,(cK t.attrs).map bG⟩),(nm+2,some ⟨1,g.opn.map eT++[eT g.v.length]⟩)]
 else [(y,none),(q,some ⟨3,[[.own nm 0 (g.v.length+1),.own z 0 g.opn.length,.int .u8 last]]⟩),(z,some ⟨1,(g.opn++junk).map eT⟩),(nm,some ⟨6,(lp g.v g.opn).map bc++[Me (nm+1) t]⟩),(nm+1,some ⟨3,(cK t.attrs).map bG⟩)]
theorem w7 (g:Gr)(n:Nat)(hg:g.Ok n)(hn:n≤1000)(junk:List Nat)(last q y z:Nat)(t:Tk)(ht:t.attrs.length≤1000)(h1:(g.opn.isEmpty && !g.v.isEmpty)=false)(h2:g.opn.length<12)(M:ao)(nm:Nat)(hqy:q≠y)(hqz:q≠z)(hyz:y≠z)(hq:M q=some ⟨3,[dI y z g last]⟩)(hy:M y=some ⟨6,g.v.map bc⟩)(hz:M z=some ⟨1,(g.opn++junk).map eT⟩)(ho:∀ w,(M w).isSome=true→w∈[q,y,z])(hqn:q<nm)(hyn:y<nm)(hzn:z<nm) :
  Ev cx 105 nm [.ptr q 0 0,.agg (cZ t)] M (.int .i64 0) (Bn g junk last q y z nm t):=by
 have hvl:=hg.len
 have hl12:=hg.deep
 have ho0:=l9 g.opn
 have hv0:decide ((0:Int)<(g.v.length:Int)) = !g.v.isEmpty:=by
  cases h:g.v with
  | nil=>rfl
  | cons a b=>simp
 have hd12:decide ((12:Int)≤(g.opn.length:Int))=false:=decide_eq_false (by omega)
 have hlj:g.opn.length≤(g.opn++junk).length:=by simp
 have htk:((g.opn++junk).map eT).take g.opn.length=g.opn.map eT:=by rw[← List.map_take,List.take_left]
 generalize hA:g.opn.isEmpty=bA at h1 ho0
 generalize hB:g.v.isEmpty=bB at h1 hv0
 have hcs:bA=false∨(bA=true∧bB=true):=by cases bA<;>cases bB<;>simp at h1 ⊢
 clear h1
 have hpn0:plainLL (g.opn.map eT++junk.map eT)=true:=by rw[← List.map_append];exact aY _
 unfold Bn
 refine ay rfl (fun cargs w=>call105 cargs w) func105 rfl mixed (by kernel_rfl) rfl ?_;intro b0 hb0
 have lq:q<b0:=av hb0 (by rw[hq];rfl)
 have z0:=aS lq;have z1:=aq lq;have z2:=aI lq;have z3:=aj lq
 have ly:y<b0:=av hb0 (by rw[hy];rfl)
 have y0:=aS ly;have y1:=aq ly;have y2:=aI ly;have y3:=aj ly
 have lz:z<b0:=av hb0 (by rw[hz];rfl)
 have w0:=aS lz;have w1:=aq lz;have w2:=aI lz;have w3:=aj lz
 have n1:=eq_false hqy;have n2:=eq_false hqz;have n3:=eq_false hyz
 have n4:=eq_false (Ne.symm hqy);have n5:=eq_false (Ne.symm hqz);have n6:=eq_false (Ne.symm hyz)
 rcases hcs with rfl|⟨rfl,rfl⟩
 all_goals (
  repeat' first|simp only[am,ah,results105,ntmps105,ap,cZ,dI,ho0,hv0,hd12,hq,hy,hz,z0,z1,z2,z3,y0,y1,y2,y3,w0,w1,w2,w3,n1,n2,n3,n4,n5,n6,Bt,Bf,Lm,ag,seval,ae]|exact rfl|refine aa (v:=.any) ?_|refine bg (ps:=[(4,11)]) (by decide +kernel) (by simp only[List.forall_mem_cons,List.getD_cons_zero,List.getD_cons_succ,results105,ntmps105,ap,cZ,dI,ho0,hv0,hd12,hq,hy,hz,z0,z1,z2,z3,y0,y1,y2,y3,w0,w1,w2,w3,n1,n2,n3,n4,n5,n6,Bt,Bf,Lm,ag,seval,ae]<;>(try simp)<;>(try omega)) ?_|refine aG (by decide +kernel) ?_|((first|apply Ca|apply Cb)<;>intro hb)|refine Ai (by omega) ?_|(apply Ai<;>intro hb)
  (refine aV cm (fun x:Nat=>t.attrs.length-x) (fun x=>x≤t.attrs.length) (b0+16) (fun x=>[(0,.ptr q 0 0),(3,.ptr b0 0 0),(6,.ptr (b0+1) 0 0),(32,.sl false 2 (t.attrs.map da)),(33,.int .i64 t.attrs.length),(34,.int .i64 x)]) (fun x=>[(b0,⟨4,[cZ t]⟩),(b0+1,⟨6,[[.int .u8 1,.str [],.str t.name,.own (b0+2) 0 x,.str [],.int .i64 0]]⟩),(b0+2,⟨3,(cK (t.attrs.take x)).map bG⟩),(q,⟨3,[dI y z g last]⟩),(y,⟨6,g.v.map bc⟩),(z,⟨1,(g.opn++junk).map eT⟩)]) (0) [some b0,some (b0+400),none,some q,some y,some z] ?_ ?_ ?_ ?_;rotate_left 1;(focus (show b0≤_;omega));(focus (refine⟨?_,?_⟩<;>(try simp only[bj,aK,mc,cZ,dI,hq,hy,hz,Bool.and_self,Bool.false_and,ai,aY,aU,zS,List.take_zero,Lo,z0,z1,z2,z3,y0,y1,y2,y3,w0,w1,w2,w3,n1,n2,n3,n4,n5,n6,Lm,ag,seval,ae,au])<;>(try omega)));rotate_left 1)
  ·exact Nat.zero_le _
  ·intro k hk
   by_cases hlt:k<t.attrs.length
   ·obtain⟨a,ha⟩:∃ a,t.attrs[k]? = some a:=⟨_,List.getElem?_eq_getElem hlt⟩
    have hat:=J3 ha
    have hd:decide (k<t.attrs.length)=true:=decide_eq_true hlt
    have hwk:IntKind.i64.wrap ((k:Int)+1)=((k+1:Nat):Int):=aR (by omega) (by omega)
    have hgl:(cK (t.attrs.take k)).length=k:=by rw[ib,List.length_take];omega
    have htl:((cK (t.attrs.take k)).map bG).take k=(cK (t.attrs.take k)).map bG:=List.take_of_length_le (by rw[Lm,hgl];omega)
    have hgs:=zQ ha
    repeat' first|simp only[am,ah,results105,ntmps105,ap,aK,cZ,dI,hat,da,hd,hlt,hgl,htl,hgs,z0,z1,z2,z3,y0,y1,y2,y3,w0,w1,w2,w3,n1,n2,n3,n4,n5,n6,Lm,ag,seval,ae]|exact rfl|refine aa (v:=.any) ?_|refine bg (ps:=[(4,11)]) (by decide +kernel) (by simp only[List.forall_mem_cons,List.getD_cons_zero,List.getD_cons_succ,results105,ntmps105,ap,aK,cZ,dI,hat,da,hd,hlt,hgl,htl,hgs,z0,z1,z2,z3,y0,y1,y2,y3,w0,w1,w2,w3,n1,n2,n3,n4,n5,n6,Lm,ag,seval,ae]<;>(try simp)<;>(try omega)) ?_|refine aG (by decide +kernel) ?_|((first|apply Ca|apply Cb)<;>intro hb)|refine Ai (by omega) ?_|(apply Ai<;>intro hb)
    all_goals ((refine aJ cm (k+1) [some b0,some (b0+1),some (b0+224),some q,some y,some z] ?_ ?_ ?_ ?_;rotate_left 2;(focus (show b0≤_;omega));(focus (refine⟨?_,?_⟩<;>(try simp only[bj,aK,mc,cZ,dI,hwk,Bool.and_self,Bool.false_and,ai,aY,aw,aU,z0,z1,z2,z3,y0,y1,y2,y3,w0,w1,w2,w3,n1,n2,n3,n4,n5,n6,Lm,ag,seval,ae,au])<;>(try omega)))))
    all_goals (first|(show t.attrs.length-(k+1)<t.attrs.length-k;omega)|(show k+1≤t.attrs.length;omega)|skip)
   ·have hke:k=t.attrs.length:=by omega
    subst hke
    have hd:decide (t.attrs.length<t.attrs.length)=false:=decide_eq_false (by omega)
    have hadd:=fun (M':ao) (a:M' q=some ⟨3,[dI y z g last]⟩) (b:M' y=some ⟨6,g.v.map bc⟩) (c:M' z=some ⟨1,(g.opn++junk).map eT⟩) (e:M' (b0+2)=some ⟨3,(cK t.attrs).map bG⟩) (d:∀ w,(M' w).isSome=true→w∈[q,y,z,b0+2]) (m:Nat) (h1:q<m) (h2:y<m) (h3:z<m) (h4:b0+2<m)=>HE g n hg hn junk last q y z ⟨1,[],t.name,[],[],0⟩ (b0+2) (cK t.attrs) M' m hqy hqz hyz (by omega) (by omega) (by omega) e a b c d h1 h2 h3 h4
    simp only[ib]at hadd
    have hwv:IntKind.i64.wrap (((g.v.length+1:Nat):Int)-1)=(g.v.length:Int):=by rw[aR (by omega) (by omega)];omega
    have hwv2:IntKind.i64.wrap ((g.v.length:Int)+1-1)=(g.v.length:Int):=by rw[aR (by omega) (by omega)];omega
    by_cases hk1:t.kind=1
    ·have hkb:((t.kind:Int)==1)=true:=by rw[hk1];rfl
     rw[if_pos hk1]
     repeat' first|simp only[am,ah,results105,ntmps105,ap,aK,cZ,dI,hd,hkb,hwv,hwv2,htk,hlj,gM,z0,z1,z2,z3,y0,y1,y2,y3,w0,w1,w2,w3,n1,n2,n3,n4,n5,n6,List.take_length,Lm,ag,seval,ae]|exact rfl|refine aa (v:=.any) ?_|(refine ad ?_ [q,y,z,b0+2] (hadd _ ?_ ?_ ?_ ?_ ak _ (by omega) (by omega) (by omega) (by omega)) ?_ ?_)|refine bg (ps:=[(4,11)]) (by decide +kernel) (by simp only[List.forall_mem_cons,List.getD_cons_zero,List.getD_cons_succ,results105,ntmps105,ap,aK,cZ,dI,hd,hkb,hwv,hwv2,htk,hlj,gM,z0,z1,z2,z3,y0,y1,y2,y3,w0,w1,w2,w3,n1,n2,n3,n4,n5,n6,List.take_length,Lm,ag,seval,ae]<;>(try simp)<;>(try omega)) ?_|refine aG (by decide +kernel) ?_|((first|apply Ca|apply Cb)<;>intro hb)|refine Ai (by omega) ?_|(apply Ai<;>intro hb)
     all_goals ((refine Fin.give [(q,none),(b0+64,some 0),(b0+2,some 1),(b0+320,some 2)] [y,z] ?_ ?_ ?_ ?_ ?_ (fun q hq=>by have hqq:=ho q hq;first|(simp only[aD,tgt,Lc,Lo,Lk,Ln,or_false]at hqq ⊢;omega)|(simp only[aD,tgt,Lc,Lo,Lk,Ln,or_false]at hqq))<;>(try simp only[results105,ntmps105,ap,cZ,dI,hq,hy,hz,Me,eT,z0,z1,z2,z3,y0,y1,y2,y3,w0,w1,w2,w3,n1,n2,n3,n4,n5,n6,qH,me,hpn0,List.map_append,List.all_append,Bool.and_self,Bool.false_and,bW,aw,ai,aY,Lm,ec,ag,seval,ae])<;>(try simp only[au])<;>(try omega)))
    ·have hkb:((t.kind:Int)==1)=false:=beq_false_of_ne (by omega)
     rw[if_neg hk1]
     repeat' first|simp only[am,ah,results105,ntmps105,ap,aK,cZ,dI,hd,hkb,gM,z0,z1,z2,z3,y0,y1,y2,y3,w0,w1,w2,w3,n1,n2,n3,n4,n5,n6,List.take_length,Lm,ag,seval,ae]|exact rfl|refine aa (v:=.any) ?_|(refine ad ?_ [q,y,z,b0+2] (hadd _ ?_ ?_ ?_ ?_ ak _ (by omega) (by omega) (by omega) (by omega)) ?_ ?_)|refine bg (ps:=[(4,11)]) (by decide +kernel) (by simp only[List.forall_mem_cons,List.getD_cons_zero,List.getD_cons_succ,results105,ntmps105,ap,aK,cZ,dI,hd,hkb,gM,z0,z1,z2,z3,y0,y1,y2,y3,w0,w1,w2,w3,n1,n2,n3,n4,n5,n6,List.take_length,Lm,ag,seval,ae]<;>(try simp)<;>(try omega)) ?_|refine aG (by decide +kernel) ?_|((first|apply Ca|apply Cb)<;>intro hb)|refine Ai (by omega) ?_|(apply Ai<;>intro hb)
     all_goals ((refine Fin.give [(q,none),(z,none),(b0+64,some 0),(b0+2,some 1)] [y] ?_ ?_ ?_ ?_ ?_ (fun q hq=>by have hqq:=ho q hq;first|(simp only[aD,tgt,Lc,Lo,Lk,Ln,or_false]at hqq ⊢;omega)|(simp only[aD,tgt,Lc,Lo,Lk,Ln,or_false]at hqq))<;>(try simp only[results105,ntmps105,ap,cZ,dI,hq,hy,hz,Me,eT,z0,z1,z2,z3,y0,y1,y2,y3,w0,w1,w2,w3,n1,n2,n3,n4,n5,n6,qH,me,hpn0,List.map_append,List.all_append,Bool.and_self,Bool.false_and,bW,aw,ai,aY,Lm,ec,ag,seval,ae])<;>(try simp only[au])<;>(try omega))))
end Go.Proofs.YtcllbjanalhjgaaGreatDoor
