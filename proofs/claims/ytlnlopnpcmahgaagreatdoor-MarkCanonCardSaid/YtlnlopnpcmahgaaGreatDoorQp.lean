/-
 Texts joined: XUb,XUc,XUd.
-/
import Derived.Test.YtlnlopnpcmahgaaGreatDoorQo
import Derived.Test.YtlnlopnpcmahgaaGreatDoorQf
import Derived.Test.YtlnlopnpcmahgaaGreatDoorQi
set_option linter.all false
namespace Go.Proofs.YtlnlopnpcmahgaaGreatDoor
set_option maxRecDepth 100000
set_option maxHeartbeats 32000000
open Go Go.RowKit Vm Go.Lib Tryz
open Vm renaming ba->Ca,bh->Cb
open And renaming intro->Ai
open List renaming length_map->Lm,not_mem_nil->Ln,map_nil->Lo,map_cons->Lc,mem_cons->Lk
open Bool renaming not_false->Bf,not_true->Bt
def bN (a:At):List V:=[.str a.space,.str a.name,.str a.value]
def aZ (n:Nd):List V:=[.int .u8 n.kind,.str n.space,.str n.name,.sl false 3 (n.attrs.map bN),.str n.text,.int .i64 n.many]
def ed (k:Nat):List V:=[.int .i64 k]
def jg {l:List Nd}{k:Nat}{a:Nd}(h:l[k]? = some a):(l.map aZ)[k]? = some (aZ a):=by rw[List.getElem?_map,h];rfl
def rO {l:List At}{k:Nat}{a:At}(h:l[k]? = some a):(l.map bN)[k]? = some (bN a):=by rw[List.getElem?_map,h];rfl
def EX {l m:List Nat}{k:Nat}{a:Nat}(h:l[k]? = some a):((l++m).map ed)[k]? = some (ed a):=by
 have hk:=(List.getElem?_eq_some_iff.1 h).1
 rw[List.getElem?_map,List.getElem?_append_left hk,h];rfl
def aq (l:List At):plainLL (l.map bN)=true:=cI _ (fun _=>rfl) l
def ae (l:List Nd):plainLL (l.map aZ)=true:=cI _ (fun t=>by simp[aZ,plainL,V.plain,aq]) l
def aQ (l:List Nat):plainLL (l.map ed)=true:=cI _ (fun _=>rfl) l
def Kw {v:List Nd}{k:Nat}{x:Nd}(h:v[k]? = some x)(m:Int)(hm:m=x.many+1):(v.map aZ).set k [.int .u8 x.kind,.str x.space,.str x.name,.sl false 3 (x.attrs.map bN),.str x.text,.int .i64 m]=(v.modify k Nd.inc).map aZ:=by
 subst hm
 rw[uQ h,List.map_set];rfl
def sP (O:List (Nat×Nat))(l:List Nd):(l.map aZ).map (renL O)=l.map aZ:=by
 rw[List.map_map]
 exact List.map_congr_left (fun n _=>by simp[aZ,renL,V.ren])
def nO (O:List (Nat×Nat))(l:List Nd):(l.map aZ).all (renOkL O)=true:=by
 rw[List.all_eq_true]
 intro r hr
 obtain⟨n,_,rfl⟩:=List.mem_map.1 hr
 simp[aZ,renOkL,V.renOk,aq]
def eu (y z:Nat)(g:Gr)(last:Nat):List V:=[.own y 0 g.v.length,.own z 0 g.opn.length,.int .u8 last]
def fV (l:List Nd):(l.map aZ).take l.length=l.map aZ:=List.take_of_length_le (by simp)
def Mw (g:Gr)(n:Nat)(hg:g.Ok n)(hn:n<=1000)(junk:List Nat)(last q y z:Nat)(x:Nd)(M:ap)(nm:Nat)(hqy:q≠y)(hqz:q≠z)(hyz:y≠z)(hq:M q=some ⟨3,[eu y z g last]⟩)(hy:M y=some ⟨6,g.v.map aZ⟩)(hz:M z=some ⟨1,(g.opn++junk).map ed⟩)(ho:∀ w,(M w).isSome=true->w∈[q,y,z])(hqn:q<nm)(hyn:y<nm)(hzn:z<nm) :
  Ev cx 150 nm [.ptr q 0 0,.agg [.int .u8 x.kind,.str x.space,.str x.name,.nils,.str x.text,.int .i64 x.many]] M (.tup []) [(y,none),(q,some ⟨3,[[.own nm 0 (g.v.length+1),.own z 0 g.opn.length,.int .u8 last]]⟩),(z,some ⟨1,(g.opn++junk).map ed⟩),(nm,some ⟨6,(lF g.v g.opn).map aZ++[[.int .u8 x.kind,.str x.space,.str x.name,.nils,.str x.text,.int .i64 x.many]]⟩)]:=by
 have hvl:=hg.len
 have hl12:=hg.deep
 refine bi call150 func150 rfl (by kernel_rfl) rfl ?_;intro b0 hb0;have zF:=Ai results150 ntmps150
 have lq:=aC hb0 hq
 have z0:=aE lq
 have ly:=aC hb0 hy
 have y0:=aE ly
 have lz:=aC hb0 hz
 have w0:=aE lz
 have n1:=eq_false hqy;have n2:=eq_false hqz;have n3:=eq_false hyz
 have n4:=eq_false (Ne.symm hqy);have n5:=eq_false (Ne.symm hqz);have n6:=eq_false (Ne.symm hyz)
 by_cases h0:g.opn=[]
 ·have hl0:g.opn.length=0:=by rw[h0];rfl
  have hinc:lF g.v g.opn=g.v:=by rw[h0];rfl
  rw[hinc]
  have hd:decide ((0:Int)<(g.opn.length:Int))=false:=bo
  repeat' first|simp only[ak,aj,zF,al,eu,hd,hq,hy,hz,z0,y0,w0,n1,n2,n3,n4,n5,n6,fV,ae,aq,Lm,ai,seval,ah]|exact rfl|refine aa (v:=.any) ?_|refine bc (ps:=[(4,6)]) (by decide +kernel) (by simp only[List.forall_mem_cons,List.getD_cons_zero,List.getD_cons_succ,zF,al,eu,hd,hq,hy,hz,z0,y0,w0,n1,n2,n3,n4,n5,n6,fV,ae,aq,Lm,ai,seval,ah]<;>(try simp)<;>(try omega)) ?_|refine aA (by decide +kernel) ?_|((first|apply Ca|apply Cb)<;>intro hb)|refine Ai (by omega) ?_|(apply Ai<;>intro hb)
  all_goals ((refine Fin.give [(q,none),(z,none),(b0+256,some 0)] [y] ?_ ?_ ?_ ?_ ?_ (aO ho (by simp[aS,tgt]))<;>(try simp only[zF,al,eu,hq,hy,hz,z0,y0,w0,n1,n2,n3,n4,n5,n6,Bool.and_self,Bool.false_and,bz,ae,aQ,Lm,dM,ai,seval,ah])<;>(try simp only[ao])<;>(try omega)))
 ·obtain⟨k,hk⟩:=re h0
  obtain⟨_,hk2,hk3⟩:=mX hk
  have hkv:=hg.in_ k (List.mem_of_getElem? hk2)
  obtain⟨x0,hx0⟩:∃ x0,g.v[k]? = some x0:=⟨_,List.getElem?_eq_getElem hkv⟩
  have hm:=hg.many x0 (List.mem_of_getElem? hx0)
  have hinc:=ra (v:=g.v) hk
  have hd:decide ((0:Int)<(g.opn.length:Int))=true:=cn
  have hwl:IntKind.i64.wrap ((g.opn.length:Int)-1)=((g.opn.length-1:Nat):Int):=by rw[bf];omega
  have hlt:g.opn.length-1<g.opn.length:=by omega
  have hno:=EX (m:=junk) hk2
  have hnd:=jg hx0
  have hwm:IntKind.i64.wrap (x0.many+1)=x0.many+1:=bf
  have hset:=Kw hx0 (x0.many+1) rfl
  have hml:((g.v.modify k Nd.inc).map aZ).take g.v.length=(g.v.modify k Nd.inc).map aZ:=List.take_of_length_le (by simp)
  have hmn:(g.v.modify k Nd.inc).length=g.v.length:=by simp
  rw[hinc]
  repeat' first|simp only[ak,aj,zF,al,eu,hd,hq,hy,hz,hwl,hlt,hno,ed,hnd,aZ,hkv,hwm,hset,hml,hmn,z0,y0,w0,n1,n2,n3,n4,n5,n6,fV,ae,aq,Lm,ai,seval,ah]|exact rfl|refine aa (v:=.any) ?_|refine bc (ps:=[(4,6)]) (by decide +kernel) (by simp only[List.forall_mem_cons,List.getD_cons_zero,List.getD_cons_succ,zF,al,eu,hd,hq,hy,hz,hwl,hlt,hno,ed,hnd,aZ,hkv,hwm,hset,hml,hmn,z0,y0,w0,n1,n2,n3,n4,n5,n6,fV,ae,aq,Lm,ai,seval,ah]<;>(try simp)<;>(try omega)) ?_|refine aA (by decide +kernel) ?_|((first|apply Ca|apply Cb)<;>intro hb)|refine Ai (by omega) ?_|(apply Ai<;>intro hb)
  all_goals ((refine Fin.give [(q,none),(z,none),(b0+560,some 0)] [y] ?_ ?_ ?_ ?_ ?_ (aO ho (by simp[aS,tgt]))<;>(try simp only[zF,al,eu,hq,hy,hz,z0,y0,w0,n1,n2,n3,n4,n5,n6,hml,hmn,Bool.and_self,Bool.false_and,bz,ae,aQ,Lm,dM,ai,seval,ah])<;>(try simp only[ao])<;>(try omega)))
def Mv (g:Gr)(n:Nat)(hg:g.Ok n)(hn:n<=1000)(junk:List Nat)(last q y z:Nat)(x:Nd)(a:Nat)(ats:List At)(M:ap)(nm:Nat)(hqy:q≠y)(hqz:q≠z)(hyz:y≠z)(hqa:q≠a)(hya:y≠a)(hza:z≠a)(ha:M a=some ⟨3,ats.map bN⟩)(hq:M q=some ⟨3,[eu y z g last]⟩)(hy:M y=some ⟨6,g.v.map aZ⟩)(hz:M z=some ⟨1,(g.opn++junk).map ed⟩)(ho:∀ w,(M w).isSome=true->w∈[q,y,z,a])(hqn:q<nm)(hyn:y<nm)(hzn:z<nm)(han:a<nm) :
  Ev cx 150 nm [.ptr q 0 0,.agg [.int .u8 x.kind,.str x.space,.str x.name,.own a 0 ats.length,.str x.text,.int .i64 x.many]] M (.tup []) [(y,none),(q,some ⟨3,[[.own nm 0 (g.v.length+1),.own z 0 g.opn.length,.int .u8 last]]⟩),(z,some ⟨1,(g.opn++junk).map ed⟩),(a,some ⟨3,ats.map bN⟩),(nm,some ⟨6,(lF g.v g.opn).map aZ++[[.int .u8 x.kind,.str x.space,.str x.name,.own a 0 ats.length,.str x.text,.int .i64 x.many]]⟩)]:=by
 have hvl:=hg.len
 have hl12:=hg.deep
 refine bi call150 func150 rfl (by kernel_rfl) rfl ?_;intro b0 hb0;have zF:=Ai results150 ntmps150
 have lq:=aC hb0 hq
 have z0:=aE lq
 have ly:=aC hb0 hy
 have y0:=aE ly
 have lz:=aC hb0 hz
 have w0:=aE lz
 have la:=aC hb0 ha
 have a0:=aE la
 have m1:=eq_false hqa;have m2:=eq_false hya;have m3:=eq_false hza
 have m4:=eq_false (Ne.symm hqa);have m5:=eq_false (Ne.symm hya);have m6:=eq_false (Ne.symm hza)
 have hpn:plainLL (g.opn.map ed++junk.map ed)=true:=by rw[<- List.map_append];exact aQ _
 have n1:=eq_false hqy;have n2:=eq_false hqz;have n3:=eq_false hyz
 have n4:=eq_false (Ne.symm hqy);have n5:=eq_false (Ne.symm hqz);have n6:=eq_false (Ne.symm hyz)
 by_cases h0:g.opn=[]
 ·have hl0:g.opn.length=0:=by rw[h0];rfl
  have hinc:lF g.v g.opn=g.v:=by rw[h0];rfl
  rw[hinc]
  have hd:decide ((0:Int)<(g.opn.length:Int))=false:=bo
  repeat' first|simp only[ak,aj,zF,al,eu,hd,hq,hy,hz,z0,y0,w0,n1,n2,n3,n4,n5,n6,ha,a0,m1,m2,m3,m4,m5,m6,aq,fV,ae,aq,Lm,ai,seval,ah]|exact rfl|refine aa (v:=.any) ?_|refine bc (ps:=[(4,6)]) (by decide +kernel) (by simp only[List.forall_mem_cons,List.getD_cons_zero,List.getD_cons_succ,zF,al,eu,hd,hq,hy,hz,z0,y0,w0,n1,n2,n3,n4,n5,n6,ha,a0,m1,m2,m3,m4,m5,m6,aq,fV,ae,aq,Lm,ai,seval,ah]<;>(try simp)<;>(try omega)) ?_|refine aA (by decide +kernel) ?_|((first|apply Ca|apply Cb)<;>intro hb)|refine Ai (by omega) ?_|(apply Ai<;>intro hb)
  all_goals ((refine Fin.give [(q,none),(z,none),(a,none),(b0+256,some 0)] [y] ?_ ?_ ?_ ?_ ?_ (aO ho (by simp[aS,tgt]))<;>(try simp only[zF,al,eu,hq,hy,hz,z0,y0,w0,n1,n2,n3,n4,n5,n6,ha,a0,m1,m2,m3,m4,m5,m6,aq,sP,nO,List.map_append,List.all_append,Bool.and_self,Bool.false_and,bz,ae,hpn,Lm,dM,ai,seval,ah])<;>(try simp only[ao])<;>(try omega)))
 ·obtain⟨k,hk⟩:=re h0
  obtain⟨_,hk2,hk3⟩:=mX hk
  have hkv:=hg.in_ k (List.mem_of_getElem? hk2)
  obtain⟨x0,hx0⟩:∃ x0,g.v[k]? = some x0:=⟨_,List.getElem?_eq_getElem hkv⟩
  have hm:=hg.many x0 (List.mem_of_getElem? hx0)
  have hinc:=ra (v:=g.v) hk
  have hd:decide ((0:Int)<(g.opn.length:Int))=true:=cn
  have hwl:IntKind.i64.wrap ((g.opn.length:Int)-1)=((g.opn.length-1:Nat):Int):=by rw[bf];omega
  have hlt:g.opn.length-1<g.opn.length:=by omega
  have hno:=EX (m:=junk) hk2
  have hnd:=jg hx0
  have hwm:IntKind.i64.wrap (x0.many+1)=x0.many+1:=bf
  have hset:=Kw hx0 (x0.many+1) rfl
  have hml:((g.v.modify k Nd.inc).map aZ).take g.v.length=(g.v.modify k Nd.inc).map aZ:=List.take_of_length_le (by simp)
  have hmn:(g.v.modify k Nd.inc).length=g.v.length:=by simp
  rw[hinc]
  repeat' first|simp only[ak,aj,zF,al,eu,hd,hq,hy,hz,hwl,hlt,hno,ed,hnd,aZ,hkv,hwm,hset,hml,hmn,z0,y0,w0,n1,n2,n3,n4,n5,n6,ha,a0,m1,m2,m3,m4,m5,m6,aq,fV,ae,aq,Lm,ai,seval,ah]|exact rfl|refine aa (v:=.any) ?_|refine bc (ps:=[(4,6)]) (by decide +kernel) (by simp only[List.forall_mem_cons,List.getD_cons_zero,List.getD_cons_succ,zF,al,eu,hd,hq,hy,hz,hwl,hlt,hno,ed,hnd,aZ,hkv,hwm,hset,hml,hmn,z0,y0,w0,n1,n2,n3,n4,n5,n6,ha,a0,m1,m2,m3,m4,m5,m6,aq,fV,ae,aq,Lm,ai,seval,ah]<;>(try simp)<;>(try omega)) ?_|refine aA (by decide +kernel) ?_|((first|apply Ca|apply Cb)<;>intro hb)|refine Ai (by omega) ?_|(apply Ai<;>intro hb)
  all_goals ((refine Fin.give [(q,none),(z,none),(a,none),(b0+560,some 0)] [y] ?_ ?_ ?_ ?_ ?_ (aO ho (by simp[aS,tgt]))<;>(try simp only[zF,al,eu,hq,hy,hz,z0,y0,w0,n1,n2,n3,n4,n5,n6,ha,a0,m1,m2,m3,m4,m5,m6,aq,hml,hmn,sP,nO,List.map_append,List.all_append,Bool.and_self,Bool.false_and,bz,ae,hpn,Lm,dM,ai,seval,ah])<;>(try simp only[ao])<;>(try omega)))
def IP (s:List UInt8):(s.all fun c=>qZ [32,9,10,13] c.toNat)=oz s:=by
 unfold oz
 congr 1
 funext c
 have h:∀ d:UInt8,(d.toNat==c.toNat)=(c==d):=fun d=>by
  rw[Bool.eq_iff_iff,beq_iff_eq,beq_iff_eq]
  exact⟨fun h=>(UInt8.toNat_inj.1 h).symm,fun h=>by rw[h]⟩
 simp only[qZ,fS,List.any_cons,List.any_nil,h,Bool.or_false,Bool.or_assoc]
def D4 (s:List UInt8):(dX [32,9,10,13] (fc [32,9,10,13] s)==[])=oz s:=by
 rw[<- IP,Bool.eq_iff_iff,beq_iff_eq,u9]
def nL (o:List Nat):((o.length:Int)==0)=o.isEmpty:=m7 o
def sW (g:Gr)(n:Nd):(jj g n).map aZ=(lF g.v g.opn).map aZ++[aZ n]:=by simp[jj]
def rf (a:List (List V))(r s:List V):jP (a++[r]) (a++[s])=leL r s:=by
 apply propext
 induction a with
 | nil=>simp[jP]
 | cons x a ih =>
  simp only[List.cons_append,jP,ih]
  exact⟨fun h=>h.2,fun h=>⟨leL_refl x,h⟩⟩
def iM (n:Nat):cg n n=True:=eq_true ⟨Nat.le_refl _,by omega⟩
def lm (g:Gr)(t:Tk)(last:Nat):Bool:=(last==4)||(g.opn.isEmpty && !oz t.text)
def BI (g:Gr)(n:Nat)(hg:g.Ok n)(hn:n<=1000)(junk:List Nat)(last q y z:Nat)(t:Tk)(ht:t.text.length<=be)(e:Int)(he:(lm g t last=true/\e=80)\/(lm g t last=false/\g.opn=[]/\e=0))(M:ap)(nm:Nat)(hqy:q≠y)(hqz:q≠z)(hyz:y≠z)(hq:M q=some ⟨3,[eu y z g last]⟩)(hy:M y=some ⟨6,g.v.map aZ⟩)(hz:M z=some ⟨1,(g.opn++junk).map ed⟩)(ho:∀ w,(M w).isSome=true->w∈[q,y,z]) :
  Ev cx 103 nm [.ptr q 0 0,.agg (bE t)] M (.int .i64 e) [(q,some ⟨3,[eu y z g last]⟩),(y,some ⟨6,g.v.map aZ⟩),(z,some ⟨1,(g.opn++junk).map ed⟩)]:=by
 have htr:=Fk [32,9,10,13] t.text (by decide) (by decide) (by decide) ht
 have htb:=D4 t.text
 generalize dX [32,9,10,13] (fc [32,9,10,13] t.text)=tr at htr htb
 have ho0:=nL g.opn
 have hlt4:((last:Int)==4)=(last==4):=by rw[Bool.eq_iff_iff];simp;omega
 have hop:g.opn=[]->g.opn.isEmpty=true:=fun h=>by rw[h];rfl
 unfold lm at he
 generalize hA:(last==4)=bA at he hlt4
 generalize hB:g.opn.isEmpty=bB at he ho0 hop
 generalize hC:oz t.text=bC at he htb
 have hcs:(bA=true/\e=80)\/(bA=false/\bB=true/\bC=false/\e=80)\/(bA=false/\bB=true/\bC=true/\e=0):=by
  rcases he with ⟨h1,h2⟩|⟨h1,h2,h3⟩
  ·cases bA<;>cases bB<;>cases bC<;>simp at h1 ⊢<;>exact h2
  ·have:=hop h2
   subst this
   cases bA<;>cases bC<;>simp at h1 ⊢<;>exact h3
 clear he
 rcases hcs with ⟨rfl,rfl⟩|⟨rfl,rfl,rfl,rfl⟩|⟨rfl,rfl,rfl,rfl⟩<;>(try cases bB)<;>(
  refine bi call103 func103 rfl (by kernel_rfl) rfl ?_;intro b0 hb0
  have lq:=aC hb0 hq
  have z0:=aE lq
  have ly:=aC hb0 hy
  have y0:=aE ly
  have lz:=aC hb0 hz
  have w0:=aE lz
  have n1:=eq_false hqy;have n2:=eq_false hqz;have n3:=eq_false hyz
  have n4:=eq_false (Ne.symm hqy);have n5:=eq_false (Ne.symm hqz);have n6:=eq_false (Ne.symm hyz)
  repeat' first|simp only[ak,aj,results103,ntmps103,al,bE,eu,ho0,hlt4,htb,hq,hy,hz,z0,y0,w0,n1,n2,n3,n4,n5,n6,Bt,Bf,Lm,ai,seval,ah]|exact rfl|refine aa (v:=.any) ?_|(first|(refine ad ?_ (htr _) ?_)|(refine ab ?_ (fun _=>htr _) ?_))|(refine aa (v:=.any) ?_)|((first|apply Ca|apply Cb)<;>intro hb)|refine Ai (by omega) ?_|(apply Ai<;>intro hb)
  all_goals ((refine Fin.give [(q,none),(y,none),(z,none)] [] ?_ ?_ ?_ ?_ ?_ (aO ho (by simp[aS,tgt]))<;>(try simp only[results103,ntmps103,al,bE,eu,hq,hy,hz,z0,y0,w0,n1,n2,n3,n4,n5,n6,Bool.and_self,Bool.false_and,ae,aQ,Lm,dM,ai,seval,ah])<;>(try simp only[ao])<;>(try omega))))
def Ib (g:Gr)(n:Nat)(hg:g.Ok n)(hn:n<=1000)(junk:List Nat)(last q y z:Nat)(t:Tk)(hl4:(last==4)=false)(hop:g.opn.isEmpty=false)(M:ap)(nm:Nat)(hqy:q≠y)(hqz:q≠z)(hyz:y≠z)(hq:M q=some ⟨3,[eu y z g last]⟩)(hy:M y=some ⟨6,g.v.map aZ⟩)(hz:M z=some ⟨1,(g.opn++junk).map ed⟩)(ho:∀ w,(M w).isSome=true->w∈[q,y,z])(hqn:q<nm)(hyn:y<nm)(hzn:z<nm) :
  Ev cx 103 nm [.ptr q 0 0,.agg (bE t)] M (.int .i64 0) [(y,none),(q,some ⟨3,[[.own nm 0 (g.v.length+1),.own z 0 g.opn.length,.int .u8 last]]⟩),(z,some ⟨1,(g.opn++junk).map ed⟩),(nm,some ⟨6,(lF g.v g.opn).map aZ++[[.int .u8 2,.str [],.str [],.nils,.str t.text,.int .i64 0]]⟩)]:=by
 have ho0:=nL g.opn
 rw[hop]at ho0
 have hlt4:((last:Int)==4)=false:=by rw[<- hl4,Bool.eq_iff_iff];simp;omega
 refine bi call103 func103 rfl (by kernel_rfl) rfl ?_;intro b0 hb0
 have lq:=aC hb0 hq
 have z0:=aE lq
 have ly:=aC hb0 hy
 have y0:=aE ly
 have lz:=aC hb0 hz
 have w0:=aE lz
 have n1:=eq_false hqy;have n2:=eq_false hqz;have n3:=eq_false hyz
 have n4:=eq_false (Ne.symm hqy);have n5:=eq_false (Ne.symm hqz);have n6:=eq_false (Ne.symm hyz)
 have e1:=hq;have e2:=hy;have e3:=hz
 have hadd:=fun (M':ap) (a:M' q=some ⟨3,[eu y z g last]⟩) (b:M' y=some ⟨6,g.v.map aZ⟩) (c:M' z=some ⟨1,(g.opn++junk).map ed⟩) (d:∀ w,(M' w).isSome=true->w∈[q,y,z]) (m:Nat) (h1:q<m) (h2:y<m) (h3:z<m)=>Mw g n hg hn junk last q y z (iY t.text) M' m hqy hqz hyz a b c d h1 h2 h3
 repeat' first|simp only[ak,aj,results103,ntmps103,al,bE,eu,iY,ho0,hlt4,hq,hy,hz,iM,z0,y0,w0,n1,n2,n3,n4,n5,n6,Bt,Bf,Lm,ai,seval,ah]|exact rfl|refine aa (v:=.any) ?_|(refine ac ?_ [q,y,z] (hadd _ ?_ ?_ ?_ ag _ (by omega) (by omega) (by omega)) ?_ ?_)|(refine aa (v:=.any) ?_)|((first|apply Ca|apply Cb)<;>intro hb)|refine Ai (by omega) ?_|(apply Ai<;>intro hb)
 all_goals ((refine Fin.give [(q,none),(z,none),(b0+464,some 0)] [y] ?_ ?_ ?_ ?_ ?_ (aO ho (by simp[aS,tgt]))<;>(try simp only[results103,ntmps103,al,bE,eu,hq,hy,hz,z0,y0,w0,n1,n2,n3,n4,n5,n6,Bool.and_self,Bool.false_and,bz,ae,aQ,Lm,dM,ai,seval,ah])<;>(try simp only[ao])<;>(try omega)))
def Oz (g:Gr)(n:Nat)(hg:g.Ok n)(hn:n<=1000)(junk:List Nat)(last q y z:Nat)(t:Tk)(hlast:iS g≠some t.name)(M:ap)(nm:Nat)(hqy:q≠y)(hqz:q≠z)(hyz:y≠z)(hq:M q=some ⟨3,[eu y z g last]⟩)(hy:M y=some ⟨6,g.v.map aZ⟩)(hz:M z=some ⟨1,(g.opn++junk).map ed⟩)(ho:∀ w,(M w).isSome=true->w∈[q,y,z]) :
  Ev cx 102 nm [.ptr q 0 0,.agg (bE t)] M (.int .i64 80) [(q,some ⟨3,[eu y z g last]⟩),(y,some ⟨6,g.v.map aZ⟩),(z,some ⟨1,(g.opn++junk).map ed⟩)]:=by
 have hvl:=hg.len
 have hl12:=hg.deep
 have ho0:=nL g.opn
 by_cases h0:g.opn=[]
 ·have hop:g.opn.isEmpty=true:=by rw[h0];rfl
  rw[hop]at ho0
  refine bi call102 func102 rfl (by kernel_rfl) rfl ?_;intro b0 hb0
  have lq:=aC hb0 hq
  have z0:=aE lq
  have ly:=aC hb0 hy
  have y0:=aE ly
  have lz:=aC hb0 hz
  have w0:=aE lz
  have n1:=eq_false hqy;have n2:=eq_false hqz;have n3:=eq_false hyz
  have n4:=eq_false (Ne.symm hqy);have n5:=eq_false (Ne.symm hqz);have n6:=eq_false (Ne.symm hyz)
  repeat' first|simp only[ak,aj,results102,ntmps102,al,bE,eu,ho0,hq,hy,hz,z0,y0,w0,n1,n2,n3,n4,n5,n6,Bt,Bf,Lm,ai,seval,ah]|exact rfl|refine aa (v:=.any) ?_|refine aA (by decide +kernel) ?_|((first|apply Ca|apply Cb)<;>intro hb)|refine Ai (by omega) ?_|(apply Ai<;>intro hb)
  all_goals ((refine Fin.give [(q,none),(y,none),(z,none)] [] ?_ ?_ ?_ ?_ ?_ (aO ho (by simp[aS,tgt]))<;>(try simp only[results102,ntmps102,al,bE,eu,hq,hy,hz,z0,y0,w0,n1,n2,n3,n4,n5,n6,Bool.and_self,Bool.false_and,ae,aQ,Lm,dM,ai,seval,ah])<;>(try simp only[ao])<;>(try omega)))
 ·obtain⟨k,hk⟩:=re h0
  obtain⟨_,hk2,hk3⟩:=mX hk
  have hop:g.opn.isEmpty=false:=by simpa using h0
  rw[hop]at ho0
  have hkv:=hg.in_ k (List.mem_of_getElem? hk2)
  obtain⟨x0,hx0⟩:∃ x0,g.v[k]? = some x0:=⟨_,List.getElem?_eq_getElem hkv⟩
  have hwl:IntKind.i64.wrap ((g.opn.length:Int)-1)=((g.opn.length-1:Nat):Int):=by rw[bf];omega
  have hlt:g.opn.length-1<g.opn.length:=by omega
  have hno:=EX (m:=junk) hk2
  have hnd:=jg hx0
  have hne:(x0.name==t.name)=false:=beq_false_of_ne (fun e=>hlast (by unfold iS;rw[hk];simp[hx0,e]))
  refine bi call102 func102 rfl (by kernel_rfl) rfl ?_;intro b0 hb0
  have lq:=aC hb0 hq
  have z0:=aE lq
  have ly:=aC hb0 hy
  have y0:=aE ly
  have lz:=aC hb0 hz
  have w0:=aE lz
  have n1:=eq_false hqy;have n2:=eq_false hqz;have n3:=eq_false hyz
  have n4:=eq_false (Ne.symm hqy);have n5:=eq_false (Ne.symm hqz);have n6:=eq_false (Ne.symm hyz)
  repeat' first|simp only[ak,aj,results102,ntmps102,al,bE,eu,ho0,hwl,hlt,hno,ed,hnd,aZ,hkv,hne,hq,hy,hz,z0,y0,w0,n1,n2,n3,n4,n5,n6,Bt,Bf,Lm,ai,seval,ah]|exact rfl|refine aa (v:=.any) ?_|refine aA (by decide +kernel) ?_|((first|apply Ca|apply Cb)<;>intro hb)|refine Ai (by omega) ?_|(apply Ai<;>intro hb)
  all_goals ((refine Fin.give [(q,none),(y,none),(z,none)] [] ?_ ?_ ?_ ?_ ?_ (aO ho (by simp[aS,tgt]))<;>(try simp only[results102,ntmps102,al,bE,eu,hq,hy,hz,z0,y0,w0,n1,n2,n3,n4,n5,n6,Bool.and_self,Bool.false_and,ae,aQ,Lm,dM,ai,seval,ah])<;>(try simp only[ao])<;>(try omega)))
def Ly (g:Gr)(n:Nat)(hg:g.Ok n)(hn:n<=1000)(junk:List Nat)(last q y z:Nat)(t:Tk)(hlast:iS g=some t.name)(M:ap)(nm:Nat)(hqy:q≠y)(hqz:q≠z)(hyz:y≠z)(hq:M q=some ⟨3,[eu y z g last]⟩)(hy:M y=some ⟨6,g.v.map aZ⟩)(hz:M z=some ⟨1,(g.opn++junk).map ed⟩)(ho:∀ w,(M w).isSome=true->w∈[q,y,z]) :
  Ev cx 102 nm [.ptr q 0 0,.agg (bE t)] M (.int .i64 0) [(q,some ⟨3,[[.own y 0 g.v.length,.own z 0 (g.opn.length-1),.int .u8 last]]⟩),(y,some ⟨6,g.v.map aZ⟩),(z,some ⟨1,(g.opn++junk).map ed⟩)]:=by
 have hvl:=hg.len
 have hl12:=hg.deep
 have ho0:=nL g.opn
 obtain⟨k,hk,hkn⟩:=Option.bind_eq_some_iff.1 hlast
 obtain⟨x0,hx0,hxn⟩:=Option.map_eq_some_iff.1 hkn
 obtain⟨h0,hk2,hk3⟩:=mX hk
 have hop:g.opn.isEmpty=false:=by simpa using h0
 rw[hop]at ho0
 have hkv:=hg.in_ k (List.mem_of_getElem? hk2)
 have hwl:IntKind.i64.wrap ((g.opn.length:Int)-1)=((g.opn.length-1:Nat):Int):=by rw[bf];omega
 have hlt:g.opn.length-1<g.opn.length:=by omega
 have hle:g.opn.length-1<=g.opn.length:=by omega
 have hle2:((g.opn.length-1:Nat):Int)<=(g.opn.length:Int):=by omega
 have hno:=EX (m:=junk) hk2
 have hnd:=jg hx0
 have hne:(x0.name==t.name)=true:=by rw[hxn];simp
 refine bi call102 func102 rfl (by kernel_rfl) rfl ?_;intro b0 hb0
 have lq:=aC hb0 hq
 have z0:=aE lq
 have ly:=aC hb0 hy
 have y0:=aE ly
 have lz:=aC hb0 hz
 have w0:=aE lz
 have n1:=eq_false hqy;have n2:=eq_false hqz;have n3:=eq_false hyz
 have n4:=eq_false (Ne.symm hqy);have n5:=eq_false (Ne.symm hqz);have n6:=eq_false (Ne.symm hyz)
 repeat' first|simp only[ak,aj,results102,ntmps102,al,bE,eu,ho0,hwl,hlt,hle,hle2,hno,ed,hnd,aZ,hkv,hne,hq,hy,hz,z0,y0,w0,n1,n2,n3,n4,n5,n6,Bt,Bf,Lm,ai,seval,ah]|exact rfl|refine aa (v:=.any) ?_|refine aA (by decide +kernel) ?_|((first|apply Ca|apply Cb)<;>intro hb)|refine Ai (by omega) ?_|(apply Ai<;>intro hb)
 all_goals ((refine Fin.give [(q,none),(y,none),(z,none)] [] ?_ ?_ ?_ ?_ ?_ (aO ho (by simp[aS,tgt]))<;>(try simp only[results102,ntmps102,al,bE,eu,hq,hy,hz,z0,y0,w0,n1,n2,n3,n4,n5,n6,Bool.and_self,Bool.false_and,ae,aQ,Lm,dM,ai,seval,ah])<;>(try simp only[ao])<;>(try omega)))
def CI {l:List Pr}{k:Nat}{a:Pr}(h:l[k]? = some a):co (l.take (k+1))=co (l.take k)++[⟨[],a.name,a.value⟩]:=by
 obtain⟨hk,rfl⟩:=List.getElem?_eq_some_iff.1 h
 unfold co
 rw[List.take_succ_eq_append_getElem hk,List.map_append];rfl
def jp (l:List Pr):(co l).length=l.length:=by simp[co]
def CH {l:List Pr}{k:Nat}{a:Pr}(h:l[k]? = some a):(co (l.take k)).map bN++[[.str [],.str a.name,.str a.value]]=(co (l.take (k+1))).map bN:=by
 rw[CI h,List.map_append];rfl
def CJ:co []=[]:=rfl
def sH (g:Gr)(n:Nat)(hg:g.Ok n)(hn:n<=1000)(junk:List Nat)(last q y z:Nat)(t:Tk)(e:Int)(he:((g.opn.isEmpty && !g.v.isEmpty)=true/\e=80)\/((g.opn.isEmpty && !g.v.isEmpty)=false/\12<=g.opn.length/\e=100))(M:ap)(nm:Nat)(hqy:q≠y)(hqz:q≠z)(hyz:y≠z)(hq:M q=some ⟨3,[eu y z g last]⟩)(hy:M y=some ⟨6,g.v.map aZ⟩)(hz:M z=some ⟨1,(g.opn++junk).map ed⟩)(ho:∀ w,(M w).isSome=true->w∈[q,y,z]) :
  Ev cx 101 nm [.ptr q 0 0,.agg (bE t)] M (.int .i64 e) [(q,some ⟨3,[eu y z g last]⟩),(y,some ⟨6,g.v.map aZ⟩),(z,some ⟨1,(g.opn++junk).map ed⟩)]:=by
 have hvl:=hg.len
 have hl12:=hg.deep
 have ho0:=nL g.opn
 have hv0:decide ((0:Int)<(g.v.length:Int)) = !g.v.isEmpty:=by
  cases h:g.v with
  | nil=>rfl
  | cons a b=>simp
 have h12:12<=g.opn.length->decide ((12:Int)<=(g.opn.length:Int))=true:=fun h=>cn
 have hop:g.opn.isEmpty=true->g.opn.length=0:=fun h=>by rw[List.isEmpty_iff.1 h];rfl
 generalize hA:g.opn.isEmpty=bA at he ho0 hop
 generalize hB:g.v.isEmpty=bB at he hv0
 have hcs:(bA=true/\bB=false/\e=80)\/(bA=false/\12<=g.opn.length/\e=100):=by
  rcases he with ⟨h1,h2⟩|⟨h1,h2,h3⟩
  ·cases bA<;>cases bB<;>simp at h1 ⊢;exact h2
  ·cases bA with
   | true=>have:=hop rfl;omega
   | false=>right;exact⟨rfl,h2,h3⟩
 clear he
 rcases hcs with ⟨rfl,rfl,rfl⟩|⟨rfl,h12',rfl⟩
 ·refine bi call101 func101 rfl (by kernel_rfl) rfl ?_;intro b0 hb0;have zF:=Ai results101 ntmps101
  have lq:=aC hb0 hq
  have z0:=aE lq
  have ly:=aC hb0 hy
  have y0:=aE ly
  have lz:=aC hb0 hz
  have w0:=aE lz
  have n1:=eq_false hqy;have n2:=eq_false hqz;have n3:=eq_false hyz
  have n4:=eq_false (Ne.symm hqy);have n5:=eq_false (Ne.symm hqz);have n6:=eq_false (Ne.symm hyz)
  repeat' first|simp only[ak,aj,zF,al,bE,eu,ho0,hv0,hq,hy,hz,z0,y0,w0,n1,n2,n3,n4,n5,n6,Bt,Bf,Lm,ai,seval,ah]|exact rfl|refine aa (v:=.any) ?_|refine bc (ps:=[(4,11)]) (by decide +kernel) (by simp only[List.forall_mem_cons,List.getD_cons_zero,List.getD_cons_succ,zF,al,bE,eu,ho0,hv0,hq,hy,hz,z0,y0,w0,n1,n2,n3,n4,n5,n6,Bt,Bf,Lm,ai,seval,ah]<;>(try simp)<;>(try omega)) ?_|refine aA (by decide +kernel) ?_|((first|apply Ca|apply Cb)<;>intro hb)|refine Ai (by omega) ?_|(apply Ai<;>intro hb)
  all_goals ((refine Fin.give [(q,none),(y,none),(z,none)] [] ?_ ?_ ?_ ?_ ?_ (aO ho (by simp[aS,tgt]))<;>(try simp only[zF,al,bE,eu,hq,hy,hz,z0,y0,w0,n1,n2,n3,n4,n5,n6,Bool.and_self,Bool.false_and,ae,aQ,Lm,dM,ai,seval,ah])<;>(try simp only[ao])<;>(try omega)))
 ·have hd12:=h12 h12'
  refine bi call101 func101 rfl (by kernel_rfl) rfl ?_;intro b0 hb0;have zF:=Ai results101 ntmps101
  have lq:=aC hb0 hq
  have z0:=aE lq
  have ly:=aC hb0 hy
  have y0:=aE ly
  have lz:=aC hb0 hz
  have w0:=aE lz
  have n1:=eq_false hqy;have n2:=eq_false hqz;have n3:=eq_false hyz
  have n4:=eq_false (Ne.symm hqy);have n5:=eq_false (Ne.symm hqz);have n6:=eq_false (Ne.symm hyz)
  repeat' first|simp only[ak,aj,zF,al,bE,eu,ho0,hd12,hq,hy,hz,z0,y0,w0,n1,n2,n3,n4,n5,n6,Bt,Bf,Lm,ai,seval,ah]|exact rfl|refine aa (v:=.any) ?_|refine bc (ps:=[(4,11)]) (by decide +kernel) (by simp only[List.forall_mem_cons,List.getD_cons_zero,List.getD_cons_succ,zF,al,bE,eu,ho0,hd12,hq,hy,hz,z0,y0,w0,n1,n2,n3,n4,n5,n6,Bt,Bf,Lm,ai,seval,ah]<;>(try simp)<;>(try omega)) ?_|refine aA (by decide +kernel) ?_|((first|apply Ca|apply Cb)<;>intro hb)|refine Ai (by omega) ?_|(apply Ai<;>intro hb)
  all_goals ((refine Fin.give [(q,none),(y,none),(z,none)] [] ?_ ?_ ?_ ?_ ?_ (aO ho (by simp[aS,tgt]))<;>(try simp only[zF,al,bE,eu,hq,hy,hz,z0,y0,w0,n1,n2,n3,n4,n5,n6,Bool.and_self,Bool.false_and,ae,aQ,Lm,dM,ai,seval,ah])<;>(try simp only[ao])<;>(try omega)))
def Q8 (a:Nat)(t:Tk):List V:=[.int .u8 1,.str [],.str t.name,.own a 0 t.attrs.length,.str [],.int .i64 0]
def Et (g:Gr)(junk:List Nat)(last q y z nm:Nat)(t:Tk):List (Nat×Option Blk) :=
 if t.kind=1 then [(y,none),(z,none),(q,some ⟨3,[[.own nm 0 (g.v.length+1),.own (nm+2) 0 (g.opn.length+1),.int .u8 last]]⟩),(nm,some ⟨6,(lF g.v g.opn).map aZ++[Q8 (nm+1) t]⟩),(nm+1,some ⟨3,(co t.attrs).map bN⟩),(nm+2,some ⟨1,g.opn.map ed++[ed g.v.length]⟩)]
 else [(y,none),(q,some ⟨3,[[.own nm 0 (g.v.length+1),.own z 0 g.opn.length,.int .u8 last]]⟩),(z,some ⟨1,(g.opn++junk).map ed⟩),(nm,some ⟨6,(lF g.v g.opn).map aZ++[Q8 (nm+1) t]⟩),(nm+1,some ⟨3,(co t.attrs).map bN⟩)]
def zR (g:Gr)(n:Nat)(hg:g.Ok n)(hn:n<=1000)(junk:List Nat)(last q y z:Nat)(t:Tk)(ht:t.attrs.length<=1000)(h1:(g.opn.isEmpty && !g.v.isEmpty)=false)(h2:g.opn.length<12)(M:ap)(nm:Nat)(hqy:q≠y)(hqz:q≠z)(hyz:y≠z)(hq:M q=some ⟨3,[eu y z g last]⟩)(hy:M y=some ⟨6,g.v.map aZ⟩)(hz:M z=some ⟨1,(g.opn++junk).map ed⟩)(ho:∀ w,(M w).isSome=true->w∈[q,y,z])(hqn:q<nm)(hyn:y<nm)(hzn:z<nm) :
  Ev cx 101 nm [.ptr q 0 0,.agg (bE t)] M (.int .i64 0) (Et g junk last q y z nm t):=by
 have hvl:=hg.len
 have hl12:=hg.deep
 have ho0:=nL g.opn
 have hv0:decide ((0:Int)<(g.v.length:Int)) = !g.v.isEmpty:=by
  cases h:g.v with
  | nil=>rfl
  | cons a b=>simp
 have hd12:decide ((12:Int)<=(g.opn.length:Int))=false:=bo
 have hlj:g.opn.length<=(g.opn++junk).length:=by simp
 have htk:((g.opn++junk).map ed).take g.opn.length=g.opn.map ed:=by rw[<- List.map_take,List.take_left]
 generalize hA:g.opn.isEmpty=bA at h1 ho0
 generalize hB:g.v.isEmpty=bB at h1 hv0
 have hcs:bA=false\/(bA=true/\bB=true):=by cases bA<;>cases bB<;>simp at h1 ⊢
 clear h1
 have hpn0:plainLL (g.opn.map ed++junk.map ed)=true:=by rw[<- List.map_append];exact aQ _
 unfold Et
 refine bi call101 func101 rfl (by kernel_rfl) rfl ?_;intro b0 hb0;have zF:=Ai results101 ntmps101
 have lq:=aC hb0 hq
 have z0:=aE lq
 have ly:=aC hb0 hy
 have y0:=aE ly
 have lz:=aC hb0 hz
 have w0:=aE lz
 have n1:=eq_false hqy;have n2:=eq_false hqz;have n3:=eq_false hyz
 have n4:=eq_false (Ne.symm hqy);have n5:=eq_false (Ne.symm hqz);have n6:=eq_false (Ne.symm hyz)
 rcases hcs with rfl|⟨rfl,rfl⟩
 all_goals (
  repeat' first|simp only[ak,aj,zF,al,bE,eu,ho0,hv0,hd12,hq,hy,hz,z0,y0,w0,n1,n2,n3,n4,n5,n6,Bt,Bf,Lm,ai,seval,ah]|exact rfl|refine aa (v:=.any) ?_|refine bc (ps:=[(4,11)]) (by decide +kernel) (by simp only[List.forall_mem_cons,List.getD_cons_zero,List.getD_cons_succ,zF,al,bE,eu,ho0,hv0,hd12,hq,hy,hz,z0,y0,w0,n1,n2,n3,n4,n5,n6,Bt,Bf,Lm,ai,seval,ah]<;>(try simp)<;>(try omega)) ?_|refine aA (by decide +kernel) ?_|((first|apply Ca|apply Cb)<;>intro hb)|refine Ai (by omega) ?_|(apply Ai<;>intro hb)
  (refine aR bR (fun x:Nat=>t.attrs.length-x) (fun x=>x<=t.attrs.length) (b0+16) (fun x=>[(0,.ptr q 0 0),(3,.ptr b0 0 0),(6,.ptr (b0+1) 0 0),(32,.sl false 2 (t.attrs.map c9)),(33,.int .i64 t.attrs.length),(34,.int .i64 x)]) (fun x=>[(b0,⟨4,[bE t]⟩),(b0+1,⟨6,[[.int .u8 1,.str [],.str t.name,.own (b0+2) 0 x,.str [],.int .i64 0]]⟩),(b0+2,⟨3,(co (t.attrs.take x)).map bN⟩),(q,⟨3,[eu y z g last]⟩),(y,⟨6,g.v.map aZ⟩),(z,⟨1,(g.opn++junk).map ed⟩)]) (0) [some b0,some (b0+400),none,some q,some y,some z] ?_ ?_ ?_ ?_;rotate_left 1;(focus (show b0<=_;omega));(focus (refine⟨?_,?_⟩<;>(try simp only[aX,ay,jA,bE,eu,hq,hy,hz,Bool.and_self,Bool.false_and,ae,aQ,aL,CJ,List.take_zero,Lo,z0,y0,w0,n1,n2,n3,n4,n5,n6,Lm,ai,seval,ah,ao])<;>(try omega)));rotate_left 1)
  ·exact Nat.zero_le _
  ·intro k hk
   by_cases hlt:k<t.attrs.length
   ·obtain⟨a,ha⟩:∃ a,t.attrs[k]? = some a:=⟨_,List.getElem?_eq_getElem hlt⟩
    have hat:=K5 ha
    have hd:decide (k<t.attrs.length)=true:=decide_eq_true hlt
    have hwk:IntKind.i64.wrap ((k:Int)+1)=((k+1:Nat):Int):=bf
    have hgl:(co (t.attrs.take k)).length=k:=by rw[jp,List.length_take];omega
    have htl:((co (t.attrs.take k)).map bN).take k=(co (t.attrs.take k)).map bN:=List.take_of_length_le (by rw[Lm,hgl];omega)
    have hgs:=CH ha
    repeat' first|simp only[ak,aj,zF,al,ay,bE,eu,hat,c9,hd,hlt,hgl,htl,hgs,z0,y0,w0,n1,n2,n3,n4,n5,n6,Lm,ai,seval,ah]|exact rfl|refine aa (v:=.any) ?_|refine bc (ps:=[(4,11)]) (by decide +kernel) (by simp only[List.forall_mem_cons,List.getD_cons_zero,List.getD_cons_succ,zF,al,ay,bE,eu,hat,c9,hd,hlt,hgl,htl,hgs,z0,y0,w0,n1,n2,n3,n4,n5,n6,Lm,ai,seval,ah]<;>(try simp)<;>(try omega)) ?_|refine aA (by decide +kernel) ?_|((first|apply Ca|apply Cb)<;>intro hb)|refine Ai (by omega) ?_|(apply Ai<;>intro hb)
    all_goals ((refine aD bR (k+1) [some b0,some (b0+1),some (b0+224),some q,some y,some z] ?_ ?_ ?_ ?_;rotate_left 2;(focus (show b0<=_;omega));(focus (refine⟨?_,?_⟩<;>(try simp only[aX,ay,jA,bE,eu,hwk,Bool.and_self,Bool.false_and,ae,aQ,aq,aL,z0,y0,w0,n1,n2,n3,n4,n5,n6,Lm,ai,seval,ah,ao])<;>(try omega)))))
    all_goals (first|(show t.attrs.length-(k+1)<t.attrs.length-k;omega)|(show k+1<=t.attrs.length;omega)|skip)
   ·have hke:k=t.attrs.length:=by omega
    subst hke
    have hd:decide (t.attrs.length<t.attrs.length)=false:=bo
    have hadd:=fun (M':ap) (a:M' q=some ⟨3,[eu y z g last]⟩) (b:M' y=some ⟨6,g.v.map aZ⟩) (c:M' z=some ⟨1,(g.opn++junk).map ed⟩) (e:M' (b0+2)=some ⟨3,(co t.attrs).map bN⟩) (d:∀ w,(M' w).isSome=true->w∈[q,y,z,b0+2]) (m:Nat) (h1:q<m) (h2:y<m) (h3:z<m) (h4:b0+2<m)=>Mv g n hg hn junk last q y z ⟨1,[],t.name,[],[],0⟩ (b0+2) (co t.attrs) M' m hqy hqz hyz (by omega) (by omega) (by omega) e a b c d h1 h2 h3 h4
    simp only[jp]at hadd
    have hwv:IntKind.i64.wrap (((g.v.length+1:Nat):Int)-1)=(g.v.length:Int):=by rw[bf];omega
    have hwv2:IntKind.i64.wrap ((g.v.length:Int)+1-1)=(g.v.length:Int):=by rw[bf];omega
    by_cases hk1:t.kind=1
    ·have hkb:((t.kind:Int)==1)=true:=by rw[hk1];rfl
     rw[if_pos hk1]
     repeat' first|simp only[ak,aj,zF,al,ay,bE,eu,hd,hkb,hwv,hwv2,htk,hlj,iM,z0,y0,w0,n1,n2,n3,n4,n5,n6,List.take_length,Lm,ai,seval,ah]|exact rfl|refine aa (v:=.any) ?_|(refine ac ?_ [q,y,z,b0+2] (hadd _ ?_ ?_ ?_ ?_ ag _ (by omega) (by omega) (by omega) (by omega)) ?_ ?_)|refine bc (ps:=[(4,11)]) (by decide +kernel) (by simp only[List.forall_mem_cons,List.getD_cons_zero,List.getD_cons_succ,zF,al,ay,bE,eu,hd,hkb,hwv,hwv2,htk,hlj,iM,z0,y0,w0,n1,n2,n3,n4,n5,n6,List.take_length,Lm,ai,seval,ah]<;>(try simp)<;>(try omega)) ?_|refine aA (by decide +kernel) ?_|((first|apply Ca|apply Cb)<;>intro hb)|refine Ai (by omega) ?_|(apply Ai<;>intro hb)
     all_goals ((refine Fin.give [(q,none),(b0+64,some 0),(b0+2,some 1),(b0+320,some 2)] [y,z] ?_ ?_ ?_ ?_ ?_ (aO ho (by simp[aS,tgt]))<;>(try simp only[zF,al,bE,eu,hq,hy,hz,Q8,ed,z0,y0,w0,n1,n2,n3,n4,n5,n6,sP,nO,hpn0,List.map_append,List.all_append,Bool.and_self,Bool.false_and,bz,aq,ae,aQ,Lm,dM,ai,seval,ah])<;>(try simp only[ao])<;>(try omega)))
    ·have hkb:((t.kind:Int)==1)=false:=beq_false_of_ne (by omega)
     rw[if_neg hk1]
     repeat' first|simp only[ak,aj,zF,al,ay,bE,eu,hd,hkb,iM,z0,y0,w0,n1,n2,n3,n4,n5,n6,List.take_length,Lm,ai,seval,ah]|exact rfl|refine aa (v:=.any) ?_|(refine ac ?_ [q,y,z,b0+2] (hadd _ ?_ ?_ ?_ ?_ ag _ (by omega) (by omega) (by omega) (by omega)) ?_ ?_)|refine bc (ps:=[(4,11)]) (by decide +kernel) (by simp only[List.forall_mem_cons,List.getD_cons_zero,List.getD_cons_succ,zF,al,ay,bE,eu,hd,hkb,iM,z0,y0,w0,n1,n2,n3,n4,n5,n6,List.take_length,Lm,ai,seval,ah]<;>(try simp)<;>(try omega)) ?_|refine aA (by decide +kernel) ?_|((first|apply Ca|apply Cb)<;>intro hb)|refine Ai (by omega) ?_|(apply Ai<;>intro hb)
     all_goals ((refine Fin.give [(q,none),(z,none),(b0+64,some 0),(b0+2,some 1)] [y] ?_ ?_ ?_ ?_ ?_ (aO ho (by simp[aS,tgt]))<;>(try simp only[zF,al,bE,eu,hq,hy,hz,Q8,ed,z0,y0,w0,n1,n2,n3,n4,n5,n6,sP,nO,hpn0,List.map_append,List.all_append,Bool.and_self,Bool.false_and,bz,aq,ae,aQ,Lm,dM,ai,seval,ah])<;>(try simp only[ao])<;>(try omega))))
end Go.Proofs.YtlnlopnpcmahgaaGreatDoor
