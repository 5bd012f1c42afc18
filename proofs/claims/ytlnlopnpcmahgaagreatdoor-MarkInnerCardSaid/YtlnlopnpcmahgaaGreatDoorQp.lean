/-
 Texts joined: XUb,XUc,XUd.
-/
import Derived.Test.YtlnlopnpcmahgaaGreatDoorQo
import Derived.Test.YtlnlopnpcmahgaaGreatDoorQf
import Derived.Test.YtlnlopnpcmahgaaGreatDoorQi
set_option linter.all false
namespace Go.Proofs.YtlnlopnpcmahgaaGreatDoor
set_option maxRecDepth 100000
set_option maxHeartbeats 32000000
open Go Go.RowKit Vm Go.Lib Tryz
open Vm renaming aW->Ca,bf->Cb
open And renaming intro->Ai
open List renaming length_map->Lm,not_mem_nil->Ln,map_nil->Lo,map_cons->Lc,mem_cons->Lk
open Bool renaming not_false->Bf,not_true->Bt
def b9 (a:At):List V:=[.str a.space,.str a.name,.str a.value]
def aV (n:Nd):List V:=[.int .u8 n.kind,.str n.space,.str n.name,.sl false 3 (n.attrs.map b9),.str n.text,.int .i64 n.many]
def cQ (k:Nat):List V:=[.int .i64 k]
def iL {l:List Nd}{k:Nat}{a:Nd}(h:l[k]? = some a):(l.map aV)[k]? = some (aV a):=by rw[List.getElem?_map,h];rfl
def vS {l:List At}{k:Nat}{a:At}(h:l[k]? = some a):(l.map b9)[k]? = some (b9 a):=by rw[List.getElem?_map,h];rfl
def EH {l m:List Nat}{k:Nat}{a:Nat}(h:l[k]? = some a):((l++m).map cQ)[k]? = some (cQ a):=by
 have hk:=(List.getElem?_eq_some_iff.1 h).1
 rw[List.getElem?_map,List.getElem?_append_left hk,h];rfl
def aq (l:List At):plainLL (l.map b9)=true:=cA _ (fun _=>rfl) l
def ad (l:List Nd):plainLL (l.map aV)=true:=cA _ (fun t=>by simp[aV,plainL,V.plain,aq]) l
def aH (l:List Nat):plainLL (l.map cQ)=true:=cA _ (fun _=>rfl) l
def JX {v:List Nd}{k:Nat}{x:Nd}(h:v[k]? = some x)(m:Int)(hm:m=x.many+1):(v.map aV).set k [.int .u8 x.kind,.str x.space,.str x.name,.sl false 3 (x.attrs.map b9),.str x.text,.int .i64 m]=(v.modify k Nd.inc).map aV:=by
 subst hm
 rw[DC h,List.map_set];rfl
def sM (O:List (Nat×Nat))(l:List Nd):(l.map aV).map (renL O)=l.map aV:=by
 rw[List.map_map]
 exact List.map_congr_left (fun n _=>by simp[aV,renL,V.ren])
def k9 (O:List (Nat×Nat))(l:List Nd):(l.map aV).all (renOkL O)=true:=by
 rw[List.all_eq_true]
 intro r hr
 obtain⟨n,_,rfl⟩:=List.mem_map.1 hr
 simp[aV,renOkL,V.renOk,aq]
def eu (y z:Nat)(g:Gr)(last:Nat):List V:=[.own y 0 g.v.length,.own z 0 g.opn.length,.int .u8 last]
def fM (l:List Nd):(l.map aV).take l.length=l.map aV:=List.take_of_length_le (by simp)
def Mg (g:Gr)(n:Nat)(hg:g.Ok n)(hn:n<=1000)(junk:List Nat)(last q y z:Nat)(x:Nd)(M:am)(nm:Nat)(hqy:q≠y)(hqz:q≠z)(hyz:y≠z)(hq:M q=some ⟨3,[eu y z g last]⟩)(hy:M y=some ⟨6,g.v.map aV⟩)(hz:M z=some ⟨1,(g.opn++junk).map cQ⟩)(ho:∀ w,(M w).isSome=true->w∈[q,y,z])(hqn:q<nm)(hyn:y<nm)(hzn:z<nm) :
  Ev cx 150 nm [.ptr q 0 0,.agg [.int .u8 x.kind,.str x.space,.str x.name,.nils,.str x.text,.int .i64 x.many]] M (.tup []) [(y,none),(q,some ⟨3,[[.own nm 0 (g.v.length+1),.own z 0 g.opn.length,.int .u8 last]]⟩),(z,some ⟨1,(g.opn++junk).map cQ⟩),(nm,some ⟨6,(mY g.v g.opn).map aV++[[.int .u8 x.kind,.str x.space,.str x.name,.nils,.str x.text,.int .i64 x.many]]⟩)]:=by
 have hvl:=hg.len
 have hl12:=hg.deep
 refine bh call150 func150 rfl (by kernel_rfl) rfl ?_;intro b0 hb0;have zF:=Ai results150 ntmps150
 have lq:=aB hb0 hq
 have z0:=aD lq
 have ly:=aB hb0 hy
 have y0:=aD ly
 have lz:=aB hb0 hz
 have w0:=aD lz
 have n1:=eq_false hqy;have n2:=eq_false hqz;have n3:=eq_false hyz
 have n4:=eq_false (Ne.symm hqy);have n5:=eq_false (Ne.symm hqz);have n6:=eq_false (Ne.symm hyz)
 by_cases h0:g.opn=[]
 ·have hl0:g.opn.length=0:=by rw[h0];rfl
  have hinc:mY g.v g.opn=g.v:=by rw[h0];rfl
  rw[hinc]
  have hd:decide ((0:Int)<(g.opn.length:Int))=false:=bm
  repeat' first|simp only[ak,ag,zF,al,eu,hd,hq,hy,hz,z0,y0,w0,n1,n2,n3,n4,n5,n6,fM,ad,aq,Lm,ai,seval,ah]|exact rfl|refine aa (v:=.any) ?_|refine aZ (ps:=[(4,6)]) (by decide +kernel) (by simp only[List.forall_mem_cons,List.getD_cons_zero,List.getD_cons_succ,zF,al,eu,hd,hq,hy,hz,z0,y0,w0,n1,n2,n3,n4,n5,n6,fM,ad,aq,Lm,ai,seval,ah]<;>(try simp)<;>(try omega)) ?_|refine az (by decide +kernel) ?_|((first|apply Ca|apply Cb)<;>intro hb)|refine Ai (by omega) ?_|(apply Ai<;>intro hb)
  all_goals ((refine Fin.give [(q,none),(z,none),(b0+256,some 0)] [y] ?_ ?_ ?_ ?_ ?_ (aL ho (by simp[aP,tgt]))<;>(try simp only[zF,al,eu,hq,hy,hz,z0,y0,w0,n1,n2,n3,n4,n5,n6,Bool.and_self,Bool.false_and,bD,ad,aH,Lm,dx,ai,seval,ah])<;>(try simp only[ap])<;>(try omega)))
 ·obtain⟨k,hk⟩:=ra h0
  obtain⟨_,hk2,hk3⟩:=m7 hk
  have hkv:=hg.in_ k (List.mem_of_getElem? hk2)
  obtain⟨x0,hx0⟩:∃ x0,g.v[k]? = some x0:=⟨_,List.getElem?_eq_getElem hkv⟩
  have hm:=hg.many x0 (List.mem_of_getElem? hx0)
  have hinc:=wn (v:=g.v) hk
  have hd:decide ((0:Int)<(g.opn.length:Int))=true:=bR
  have hwl:IntKind.i64.wrap ((g.opn.length:Int)-1)=((g.opn.length-1:Nat):Int):=by rw[bd];omega
  have hlt:g.opn.length-1<g.opn.length:=by omega
  have hno:=EH (m:=junk) hk2
  have hnd:=iL hx0
  have hwm:IntKind.i64.wrap (x0.many+1)=x0.many+1:=bd
  have hset:=JX hx0 (x0.many+1) rfl
  have hml:((g.v.modify k Nd.inc).map aV).take g.v.length=(g.v.modify k Nd.inc).map aV:=List.take_of_length_le (by simp)
  have hmn:(g.v.modify k Nd.inc).length=g.v.length:=by simp
  rw[hinc]
  repeat' first|simp only[ak,ag,zF,al,eu,hd,hq,hy,hz,hwl,hlt,hno,cQ,hnd,aV,hkv,hwm,hset,hml,hmn,z0,y0,w0,n1,n2,n3,n4,n5,n6,fM,ad,aq,Lm,ai,seval,ah]|exact rfl|refine aa (v:=.any) ?_|refine aZ (ps:=[(4,6)]) (by decide +kernel) (by simp only[List.forall_mem_cons,List.getD_cons_zero,List.getD_cons_succ,zF,al,eu,hd,hq,hy,hz,hwl,hlt,hno,cQ,hnd,aV,hkv,hwm,hset,hml,hmn,z0,y0,w0,n1,n2,n3,n4,n5,n6,fM,ad,aq,Lm,ai,seval,ah]<;>(try simp)<;>(try omega)) ?_|refine az (by decide +kernel) ?_|((first|apply Ca|apply Cb)<;>intro hb)|refine Ai (by omega) ?_|(apply Ai<;>intro hb)
  all_goals ((refine Fin.give [(q,none),(z,none),(b0+560,some 0)] [y] ?_ ?_ ?_ ?_ ?_ (aL ho (by simp[aP,tgt]))<;>(try simp only[zF,al,eu,hq,hy,hz,z0,y0,w0,n1,n2,n3,n4,n5,n6,hml,hmn,Bool.and_self,Bool.false_and,bD,ad,aH,Lm,dx,ai,seval,ah])<;>(try simp only[ap])<;>(try omega)))
def Me (g:Gr)(n:Nat)(hg:g.Ok n)(hn:n<=1000)(junk:List Nat)(last q y z:Nat)(x:Nd)(a:Nat)(ats:List At)(M:am)(nm:Nat)(hqy:q≠y)(hqz:q≠z)(hyz:y≠z)(hqa:q≠a)(hya:y≠a)(hza:z≠a)(ha:M a=some ⟨3,ats.map b9⟩)(hq:M q=some ⟨3,[eu y z g last]⟩)(hy:M y=some ⟨6,g.v.map aV⟩)(hz:M z=some ⟨1,(g.opn++junk).map cQ⟩)(ho:∀ w,(M w).isSome=true->w∈[q,y,z,a])(hqn:q<nm)(hyn:y<nm)(hzn:z<nm)(han:a<nm) :
  Ev cx 150 nm [.ptr q 0 0,.agg [.int .u8 x.kind,.str x.space,.str x.name,.own a 0 ats.length,.str x.text,.int .i64 x.many]] M (.tup []) [(y,none),(q,some ⟨3,[[.own nm 0 (g.v.length+1),.own z 0 g.opn.length,.int .u8 last]]⟩),(z,some ⟨1,(g.opn++junk).map cQ⟩),(a,some ⟨3,ats.map b9⟩),(nm,some ⟨6,(mY g.v g.opn).map aV++[[.int .u8 x.kind,.str x.space,.str x.name,.own a 0 ats.length,.str x.text,.int .i64 x.many]]⟩)]:=by
 have hvl:=hg.len
 have hl12:=hg.deep
 refine bh call150 func150 rfl (by kernel_rfl) rfl ?_;intro b0 hb0;have zF:=Ai results150 ntmps150
 have lq:=aB hb0 hq
 have z0:=aD lq
 have ly:=aB hb0 hy
 have y0:=aD ly
 have lz:=aB hb0 hz
 have w0:=aD lz
 have la:=aB hb0 ha
 have a0:=aD la
 have m1:=eq_false hqa;have m2:=eq_false hya;have m3:=eq_false hza
 have m4:=eq_false (Ne.symm hqa);have m5:=eq_false (Ne.symm hya);have m6:=eq_false (Ne.symm hza)
 have hpn:plainLL (g.opn.map cQ++junk.map cQ)=true:=by rw[<- List.map_append];exact aH _
 have n1:=eq_false hqy;have n2:=eq_false hqz;have n3:=eq_false hyz
 have n4:=eq_false (Ne.symm hqy);have n5:=eq_false (Ne.symm hqz);have n6:=eq_false (Ne.symm hyz)
 by_cases h0:g.opn=[]
 ·have hl0:g.opn.length=0:=by rw[h0];rfl
  have hinc:mY g.v g.opn=g.v:=by rw[h0];rfl
  rw[hinc]
  have hd:decide ((0:Int)<(g.opn.length:Int))=false:=bm
  repeat' first|simp only[ak,ag,zF,al,eu,hd,hq,hy,hz,z0,y0,w0,n1,n2,n3,n4,n5,n6,ha,a0,m1,m2,m3,m4,m5,m6,aq,fM,ad,aq,Lm,ai,seval,ah]|exact rfl|refine aa (v:=.any) ?_|refine aZ (ps:=[(4,6)]) (by decide +kernel) (by simp only[List.forall_mem_cons,List.getD_cons_zero,List.getD_cons_succ,zF,al,eu,hd,hq,hy,hz,z0,y0,w0,n1,n2,n3,n4,n5,n6,ha,a0,m1,m2,m3,m4,m5,m6,aq,fM,ad,aq,Lm,ai,seval,ah]<;>(try simp)<;>(try omega)) ?_|refine az (by decide +kernel) ?_|((first|apply Ca|apply Cb)<;>intro hb)|refine Ai (by omega) ?_|(apply Ai<;>intro hb)
  all_goals ((refine Fin.give [(q,none),(z,none),(a,none),(b0+256,some 0)] [y] ?_ ?_ ?_ ?_ ?_ (aL ho (by simp[aP,tgt]))<;>(try simp only[zF,al,eu,hq,hy,hz,z0,y0,w0,n1,n2,n3,n4,n5,n6,ha,a0,m1,m2,m3,m4,m5,m6,aq,sM,k9,List.map_append,List.all_append,Bool.and_self,Bool.false_and,bD,ad,hpn,Lm,dx,ai,seval,ah])<;>(try simp only[ap])<;>(try omega)))
 ·obtain⟨k,hk⟩:=ra h0
  obtain⟨_,hk2,hk3⟩:=m7 hk
  have hkv:=hg.in_ k (List.mem_of_getElem? hk2)
  obtain⟨x0,hx0⟩:∃ x0,g.v[k]? = some x0:=⟨_,List.getElem?_eq_getElem hkv⟩
  have hm:=hg.many x0 (List.mem_of_getElem? hx0)
  have hinc:=wn (v:=g.v) hk
  have hd:decide ((0:Int)<(g.opn.length:Int))=true:=bR
  have hwl:IntKind.i64.wrap ((g.opn.length:Int)-1)=((g.opn.length-1:Nat):Int):=by rw[bd];omega
  have hlt:g.opn.length-1<g.opn.length:=by omega
  have hno:=EH (m:=junk) hk2
  have hnd:=iL hx0
  have hwm:IntKind.i64.wrap (x0.many+1)=x0.many+1:=bd
  have hset:=JX hx0 (x0.many+1) rfl
  have hml:((g.v.modify k Nd.inc).map aV).take g.v.length=(g.v.modify k Nd.inc).map aV:=List.take_of_length_le (by simp)
  have hmn:(g.v.modify k Nd.inc).length=g.v.length:=by simp
  rw[hinc]
  repeat' first|simp only[ak,ag,zF,al,eu,hd,hq,hy,hz,hwl,hlt,hno,cQ,hnd,aV,hkv,hwm,hset,hml,hmn,z0,y0,w0,n1,n2,n3,n4,n5,n6,ha,a0,m1,m2,m3,m4,m5,m6,aq,fM,ad,aq,Lm,ai,seval,ah]|exact rfl|refine aa (v:=.any) ?_|refine aZ (ps:=[(4,6)]) (by decide +kernel) (by simp only[List.forall_mem_cons,List.getD_cons_zero,List.getD_cons_succ,zF,al,eu,hd,hq,hy,hz,hwl,hlt,hno,cQ,hnd,aV,hkv,hwm,hset,hml,hmn,z0,y0,w0,n1,n2,n3,n4,n5,n6,ha,a0,m1,m2,m3,m4,m5,m6,aq,fM,ad,aq,Lm,ai,seval,ah]<;>(try simp)<;>(try omega)) ?_|refine az (by decide +kernel) ?_|((first|apply Ca|apply Cb)<;>intro hb)|refine Ai (by omega) ?_|(apply Ai<;>intro hb)
  all_goals ((refine Fin.give [(q,none),(z,none),(a,none),(b0+560,some 0)] [y] ?_ ?_ ?_ ?_ ?_ (aL ho (by simp[aP,tgt]))<;>(try simp only[zF,al,eu,hq,hy,hz,z0,y0,w0,n1,n2,n3,n4,n5,n6,ha,a0,m1,m2,m3,m4,m5,m6,aq,hml,hmn,sM,k9,List.map_append,List.all_append,Bool.and_self,Bool.false_and,bD,ad,hpn,Lm,dx,ai,seval,ah])<;>(try simp only[ap])<;>(try omega)))
def Iv (s:List UInt8):(s.all fun c=>qX [32,9,10,13] c.toNat)=oH s:=by
 unfold oH
 congr 1
 funext c
 have h:∀ d:UInt8,(d.toNat==c.toNat)=(c==d):=fun d=>by
  rw[Bool.eq_iff_iff,beq_iff_eq,beq_iff_eq]
  exact⟨fun h=>(UInt8.toNat_inj.1 h).symm,fun h=>by rw[h]⟩
 simp only[qX,iR,List.any_cons,List.any_nil,h,Bool.or_false,Bool.or_assoc]
def DO (s:List UInt8):(dU [32,9,10,13] (e8 [32,9,10,13] s)==[])=oH s:=by
 rw[<- Iv,Bool.eq_iff_iff,beq_iff_eq,uW]
def nR (o:List Nat):((o.length:Int)==0)=o.isEmpty:=na o
def sT (g:Gr)(n:Nd):(ll g n).map aV=(mY g.v g.opn).map aV++[aV n]:=by simp[ll]
def rc (a:List (List V))(r s:List V):gR (a++[r]) (a++[s])=leL r s:=by
 apply propext
 induction a with
 | nil=>simp[gR]
 | cons x a ih =>
  simp only[List.cons_append,gR,ih]
  exact⟨fun h=>h.2,fun h=>⟨leL_refl x,h⟩⟩
def iD (n:Nat):b7 n n=True:=eq_true ⟨Nat.le_refl _,by omega⟩
def li (g:Gr)(t:Tk)(last:Nat):Bool:=(last==4)||(g.opn.isEmpty && !oH t.text)
def Bm (g:Gr)(n:Nat)(hg:g.Ok n)(hn:n<=1000)(junk:List Nat)(last q y z:Nat)(t:Tk)(ht:t.text.length<=bc)(e:Int)(he:(li g t last=true/\e=80)\/(li g t last=false/\g.opn=[]/\e=0))(M:am)(nm:Nat)(hqy:q≠y)(hqz:q≠z)(hyz:y≠z)(hq:M q=some ⟨3,[eu y z g last]⟩)(hy:M y=some ⟨6,g.v.map aV⟩)(hz:M z=some ⟨1,(g.opn++junk).map cQ⟩)(ho:∀ w,(M w).isSome=true->w∈[q,y,z]) :
  Ev cx 103 nm [.ptr q 0 0,.agg (bE t)] M (.int .i64 e) [(q,some ⟨3,[eu y z g last]⟩),(y,some ⟨6,g.v.map aV⟩),(z,some ⟨1,(g.opn++junk).map cQ⟩)]:=by
 have htr:=E3 [32,9,10,13] t.text (by decide) (by decide) (by decide) ht
 have htb:=DO t.text
 generalize dU [32,9,10,13] (e8 [32,9,10,13] t.text)=tr at htr htb
 have ho0:=nR g.opn
 have hlt4:((last:Int)==4)=(last==4):=by rw[Bool.eq_iff_iff];simp;omega
 have hop:g.opn=[]->g.opn.isEmpty=true:=fun h=>by rw[h];rfl
 unfold li at he
 generalize hA:(last==4)=bA at he hlt4
 generalize hB:g.opn.isEmpty=bB at he ho0 hop
 generalize hC:oH t.text=bC at he htb
 have hcs:(bA=true/\e=80)\/(bA=false/\bB=true/\bC=false/\e=80)\/(bA=false/\bB=true/\bC=true/\e=0):=by
  rcases he with ⟨h1,h2⟩|⟨h1,h2,h3⟩
  ·cases bA<;>cases bB<;>cases bC<;>simp at h1 ⊢<;>exact h2
  ·have:=hop h2
   subst this
   cases bA<;>cases bC<;>simp at h1 ⊢<;>exact h3
 clear he
 rcases hcs with ⟨rfl,rfl⟩|⟨rfl,rfl,rfl,rfl⟩|⟨rfl,rfl,rfl,rfl⟩<;>(try cases bB)<;>(
  refine bh call103 func103 rfl (by kernel_rfl) rfl ?_;intro b0 hb0
  have lq:=aB hb0 hq
  have z0:=aD lq
  have ly:=aB hb0 hy
  have y0:=aD ly
  have lz:=aB hb0 hz
  have w0:=aD lz
  have n1:=eq_false hqy;have n2:=eq_false hqz;have n3:=eq_false hyz
  have n4:=eq_false (Ne.symm hqy);have n5:=eq_false (Ne.symm hqz);have n6:=eq_false (Ne.symm hyz)
  repeat' first|simp only[ak,ag,results103,ntmps103,al,bE,eu,ho0,hlt4,htb,hq,hy,hz,z0,y0,w0,n1,n2,n3,n4,n5,n6,Bt,Bf,Lm,ai,seval,ah]|exact rfl|refine aa (v:=.any) ?_|(first|(refine ae ?_ (htr _) ?_)|(refine ab ?_ (fun _=>htr _) ?_))|(refine aa (v:=.any) ?_)|((first|apply Ca|apply Cb)<;>intro hb)|refine Ai (by omega) ?_|(apply Ai<;>intro hb)
  all_goals ((refine Fin.give [(q,none),(y,none),(z,none)] [] ?_ ?_ ?_ ?_ ?_ (aL ho (by simp[aP,tgt]))<;>(try simp only[results103,ntmps103,al,bE,eu,hq,hy,hz,z0,y0,w0,n1,n2,n3,n4,n5,n6,Bool.and_self,Bool.false_and,ad,aH,Lm,dx,ai,seval,ah])<;>(try simp only[ap])<;>(try omega))))
def HT (g:Gr)(n:Nat)(hg:g.Ok n)(hn:n<=1000)(junk:List Nat)(last q y z:Nat)(t:Tk)(hl4:(last==4)=false)(hop:g.opn.isEmpty=false)(M:am)(nm:Nat)(hqy:q≠y)(hqz:q≠z)(hyz:y≠z)(hq:M q=some ⟨3,[eu y z g last]⟩)(hy:M y=some ⟨6,g.v.map aV⟩)(hz:M z=some ⟨1,(g.opn++junk).map cQ⟩)(ho:∀ w,(M w).isSome=true->w∈[q,y,z])(hqn:q<nm)(hyn:y<nm)(hzn:z<nm) :
  Ev cx 103 nm [.ptr q 0 0,.agg (bE t)] M (.int .i64 0) [(y,none),(q,some ⟨3,[[.own nm 0 (g.v.length+1),.own z 0 g.opn.length,.int .u8 last]]⟩),(z,some ⟨1,(g.opn++junk).map cQ⟩),(nm,some ⟨6,(mY g.v g.opn).map aV++[[.int .u8 2,.str [],.str [],.nils,.str t.text,.int .i64 0]]⟩)]:=by
 have ho0:=nR g.opn
 rw[hop]at ho0
 have hlt4:((last:Int)==4)=false:=by rw[<- hl4,Bool.eq_iff_iff];simp;omega
 refine bh call103 func103 rfl (by kernel_rfl) rfl ?_;intro b0 hb0
 have lq:=aB hb0 hq
 have z0:=aD lq
 have ly:=aB hb0 hy
 have y0:=aD ly
 have lz:=aB hb0 hz
 have w0:=aD lz
 have n1:=eq_false hqy;have n2:=eq_false hqz;have n3:=eq_false hyz
 have n4:=eq_false (Ne.symm hqy);have n5:=eq_false (Ne.symm hqz);have n6:=eq_false (Ne.symm hyz)
 have e1:=hq;have e2:=hy;have e3:=hz
 have hadd:=fun (M':am) (a:M' q=some ⟨3,[eu y z g last]⟩) (b:M' y=some ⟨6,g.v.map aV⟩) (c:M' z=some ⟨1,(g.opn++junk).map cQ⟩) (d:∀ w,(M' w).isSome=true->w∈[q,y,z]) (m:Nat) (h1:q<m) (h2:y<m) (h3:z<m)=>Mg g n hg hn junk last q y z (jU t.text) M' m hqy hqz hyz a b c d h1 h2 h3
 repeat' first|simp only[ak,ag,results103,ntmps103,al,bE,eu,jU,ho0,hlt4,hq,hy,hz,iD,z0,y0,w0,n1,n2,n3,n4,n5,n6,Bt,Bf,Lm,ai,seval,ah]|exact rfl|refine aa (v:=.any) ?_|(refine ac ?_ [q,y,z] (hadd _ ?_ ?_ ?_ aj _ (by omega) (by omega) (by omega)) ?_ ?_)|(refine aa (v:=.any) ?_)|((first|apply Ca|apply Cb)<;>intro hb)|refine Ai (by omega) ?_|(apply Ai<;>intro hb)
 all_goals ((refine Fin.give [(q,none),(z,none),(b0+464,some 0)] [y] ?_ ?_ ?_ ?_ ?_ (aL ho (by simp[aP,tgt]))<;>(try simp only[results103,ntmps103,al,bE,eu,hq,hy,hz,z0,y0,w0,n1,n2,n3,n4,n5,n6,Bool.and_self,Bool.false_and,bD,ad,aH,Lm,dx,ai,seval,ah])<;>(try simp only[ap])<;>(try omega)))
def Oj (g:Gr)(n:Nat)(hg:g.Ok n)(hn:n<=1000)(junk:List Nat)(last q y z:Nat)(t:Tk)(hlast:mZ g≠some t.name)(M:am)(nm:Nat)(hqy:q≠y)(hqz:q≠z)(hyz:y≠z)(hq:M q=some ⟨3,[eu y z g last]⟩)(hy:M y=some ⟨6,g.v.map aV⟩)(hz:M z=some ⟨1,(g.opn++junk).map cQ⟩)(ho:∀ w,(M w).isSome=true->w∈[q,y,z]) :
  Ev cx 102 nm [.ptr q 0 0,.agg (bE t)] M (.int .i64 80) [(q,some ⟨3,[eu y z g last]⟩),(y,some ⟨6,g.v.map aV⟩),(z,some ⟨1,(g.opn++junk).map cQ⟩)]:=by
 have hvl:=hg.len
 have hl12:=hg.deep
 have ho0:=nR g.opn
 by_cases h0:g.opn=[]
 ·have hop:g.opn.isEmpty=true:=by rw[h0];rfl
  rw[hop]at ho0
  refine bh call102 func102 rfl (by kernel_rfl) rfl ?_;intro b0 hb0
  have lq:=aB hb0 hq
  have z0:=aD lq
  have ly:=aB hb0 hy
  have y0:=aD ly
  have lz:=aB hb0 hz
  have w0:=aD lz
  have n1:=eq_false hqy;have n2:=eq_false hqz;have n3:=eq_false hyz
  have n4:=eq_false (Ne.symm hqy);have n5:=eq_false (Ne.symm hqz);have n6:=eq_false (Ne.symm hyz)
  repeat' first|simp only[ak,ag,results102,ntmps102,al,bE,eu,ho0,hq,hy,hz,z0,y0,w0,n1,n2,n3,n4,n5,n6,Bt,Bf,Lm,ai,seval,ah]|exact rfl|refine aa (v:=.any) ?_|refine az (by decide +kernel) ?_|((first|apply Ca|apply Cb)<;>intro hb)|refine Ai (by omega) ?_|(apply Ai<;>intro hb)
  all_goals ((refine Fin.give [(q,none),(y,none),(z,none)] [] ?_ ?_ ?_ ?_ ?_ (aL ho (by simp[aP,tgt]))<;>(try simp only[results102,ntmps102,al,bE,eu,hq,hy,hz,z0,y0,w0,n1,n2,n3,n4,n5,n6,Bool.and_self,Bool.false_and,ad,aH,Lm,dx,ai,seval,ah])<;>(try simp only[ap])<;>(try omega)))
 ·obtain⟨k,hk⟩:=ra h0
  obtain⟨_,hk2,hk3⟩:=m7 hk
  have hop:g.opn.isEmpty=false:=by simpa using h0
  rw[hop]at ho0
  have hkv:=hg.in_ k (List.mem_of_getElem? hk2)
  obtain⟨x0,hx0⟩:∃ x0,g.v[k]? = some x0:=⟨_,List.getElem?_eq_getElem hkv⟩
  have hwl:IntKind.i64.wrap ((g.opn.length:Int)-1)=((g.opn.length-1:Nat):Int):=by rw[bd];omega
  have hlt:g.opn.length-1<g.opn.length:=by omega
  have hno:=EH (m:=junk) hk2
  have hnd:=iL hx0
  have hne:(x0.name==t.name)=false:=beq_false_of_ne (fun e=>hlast (by unfold mZ;rw[hk];simp[hx0,e]))
  refine bh call102 func102 rfl (by kernel_rfl) rfl ?_;intro b0 hb0
  have lq:=aB hb0 hq
  have z0:=aD lq
  have ly:=aB hb0 hy
  have y0:=aD ly
  have lz:=aB hb0 hz
  have w0:=aD lz
  have n1:=eq_false hqy;have n2:=eq_false hqz;have n3:=eq_false hyz
  have n4:=eq_false (Ne.symm hqy);have n5:=eq_false (Ne.symm hqz);have n6:=eq_false (Ne.symm hyz)
  repeat' first|simp only[ak,ag,results102,ntmps102,al,bE,eu,ho0,hwl,hlt,hno,cQ,hnd,aV,hkv,hne,hq,hy,hz,z0,y0,w0,n1,n2,n3,n4,n5,n6,Bt,Bf,Lm,ai,seval,ah]|exact rfl|refine aa (v:=.any) ?_|refine az (by decide +kernel) ?_|((first|apply Ca|apply Cb)<;>intro hb)|refine Ai (by omega) ?_|(apply Ai<;>intro hb)
  all_goals ((refine Fin.give [(q,none),(y,none),(z,none)] [] ?_ ?_ ?_ ?_ ?_ (aL ho (by simp[aP,tgt]))<;>(try simp only[results102,ntmps102,al,bE,eu,hq,hy,hz,z0,y0,w0,n1,n2,n3,n4,n5,n6,Bool.and_self,Bool.false_and,ad,aH,Lm,dx,ai,seval,ah])<;>(try simp only[ap])<;>(try omega)))
def Ld (g:Gr)(n:Nat)(hg:g.Ok n)(hn:n<=1000)(junk:List Nat)(last q y z:Nat)(t:Tk)(hlast:mZ g=some t.name)(M:am)(nm:Nat)(hqy:q≠y)(hqz:q≠z)(hyz:y≠z)(hq:M q=some ⟨3,[eu y z g last]⟩)(hy:M y=some ⟨6,g.v.map aV⟩)(hz:M z=some ⟨1,(g.opn++junk).map cQ⟩)(ho:∀ w,(M w).isSome=true->w∈[q,y,z]) :
  Ev cx 102 nm [.ptr q 0 0,.agg (bE t)] M (.int .i64 0) [(q,some ⟨3,[[.own y 0 g.v.length,.own z 0 (g.opn.length-1),.int .u8 last]]⟩),(y,some ⟨6,g.v.map aV⟩),(z,some ⟨1,(g.opn++junk).map cQ⟩)]:=by
 have hvl:=hg.len
 have hl12:=hg.deep
 have ho0:=nR g.opn
 obtain⟨k,hk,hkn⟩:=Option.bind_eq_some_iff.1 hlast
 obtain⟨x0,hx0,hxn⟩:=Option.map_eq_some_iff.1 hkn
 obtain⟨h0,hk2,hk3⟩:=m7 hk
 have hop:g.opn.isEmpty=false:=by simpa using h0
 rw[hop]at ho0
 have hkv:=hg.in_ k (List.mem_of_getElem? hk2)
 have hwl:IntKind.i64.wrap ((g.opn.length:Int)-1)=((g.opn.length-1:Nat):Int):=by rw[bd];omega
 have hlt:g.opn.length-1<g.opn.length:=by omega
 have hle:g.opn.length-1<=g.opn.length:=by omega
 have hle2:((g.opn.length-1:Nat):Int)<=(g.opn.length:Int):=by omega
 have hno:=EH (m:=junk) hk2
 have hnd:=iL hx0
 have hne:(x0.name==t.name)=true:=by rw[hxn];simp
 refine bh call102 func102 rfl (by kernel_rfl) rfl ?_;intro b0 hb0
 have lq:=aB hb0 hq
 have z0:=aD lq
 have ly:=aB hb0 hy
 have y0:=aD ly
 have lz:=aB hb0 hz
 have w0:=aD lz
 have n1:=eq_false hqy;have n2:=eq_false hqz;have n3:=eq_false hyz
 have n4:=eq_false (Ne.symm hqy);have n5:=eq_false (Ne.symm hqz);have n6:=eq_false (Ne.symm hyz)
 repeat' first|simp only[ak,ag,results102,ntmps102,al,bE,eu,ho0,hwl,hlt,hle,hle2,hno,cQ,hnd,aV,hkv,hne,hq,hy,hz,z0,y0,w0,n1,n2,n3,n4,n5,n6,Bt,Bf,Lm,ai,seval,ah]|exact rfl|refine aa (v:=.any) ?_|refine az (by decide +kernel) ?_|((first|apply Ca|apply Cb)<;>intro hb)|refine Ai (by omega) ?_|(apply Ai<;>intro hb)
 all_goals ((refine Fin.give [(q,none),(y,none),(z,none)] [] ?_ ?_ ?_ ?_ ?_ (aL ho (by simp[aP,tgt]))<;>(try simp only[results102,ntmps102,al,bE,eu,hq,hy,hz,z0,y0,w0,n1,n2,n3,n4,n5,n6,Bool.and_self,Bool.false_and,ad,aH,Lm,dx,ai,seval,ah])<;>(try simp only[ap])<;>(try omega)))
def Cu {l:List Pr}{k:Nat}{a:Pr}(h:l[k]? = some a):dh (l.take (k+1))=dh (l.take k)++[⟨[],a.name,a.value⟩]:=by
 obtain⟨hk,rfl⟩:=List.getElem?_eq_some_iff.1 h
 unfold dh
 rw[List.take_succ_eq_append_getElem hk,List.map_append];rfl
def jg (l:List Pr):(dh l).length=l.length:=by simp[dh]
def Ct {l:List Pr}{k:Nat}{a:Pr}(h:l[k]? = some a):(dh (l.take k)).map b9++[[.str [],.str a.name,.str a.value]]=(dh (l.take (k+1))).map b9:=by
 rw[Cu h,List.map_append];rfl
def Cv:dh []=[]:=rfl
def sD (g:Gr)(n:Nat)(hg:g.Ok n)(hn:n<=1000)(junk:List Nat)(last q y z:Nat)(t:Tk)(e:Int)(he:((g.opn.isEmpty && !g.v.isEmpty)=true/\e=80)\/((g.opn.isEmpty && !g.v.isEmpty)=false/\12<=g.opn.length/\e=100))(M:am)(nm:Nat)(hqy:q≠y)(hqz:q≠z)(hyz:y≠z)(hq:M q=some ⟨3,[eu y z g last]⟩)(hy:M y=some ⟨6,g.v.map aV⟩)(hz:M z=some ⟨1,(g.opn++junk).map cQ⟩)(ho:∀ w,(M w).isSome=true->w∈[q,y,z]) :
  Ev cx 101 nm [.ptr q 0 0,.agg (bE t)] M (.int .i64 e) [(q,some ⟨3,[eu y z g last]⟩),(y,some ⟨6,g.v.map aV⟩),(z,some ⟨1,(g.opn++junk).map cQ⟩)]:=by
 have hvl:=hg.len
 have hl12:=hg.deep
 have ho0:=nR g.opn
 have hv0:decide ((0:Int)<(g.v.length:Int)) = !g.v.isEmpty:=by
  cases h:g.v with
  | nil=>rfl
  | cons a b=>simp
 have h12:12<=g.opn.length->decide ((12:Int)<=(g.opn.length:Int))=true:=fun h=>bR
 have hop:g.opn.isEmpty=true->g.opn.length=0:=fun h=>by rw[List.isEmpty_iff.1 h];rfl
 generalize hA:g.opn.isEmpty=bA at he ho0 hop
 generalize hB:g.v.isEmpty=bB at he hv0
 have hcs:(bA=true/\bB=false/\e=80)\/(bA=false/\12<=g.opn.length/\e=100):=by
  rcases he with ⟨h1,h2⟩|⟨h1,h2,h3⟩
  ·cases bA<;>cases bB<;>simp at h1 ⊢;exact h2
  ·cases bA with
   | true=>have:=hop rfl;omega
   | false=>right;exact⟨rfl,h2,h3⟩
 clear he
 rcases hcs with ⟨rfl,rfl,rfl⟩|⟨rfl,h12',rfl⟩
 ·refine bh call101 func101 rfl (by kernel_rfl) rfl ?_;intro b0 hb0;have zF:=Ai results101 ntmps101
  have lq:=aB hb0 hq
  have z0:=aD lq
  have ly:=aB hb0 hy
  have y0:=aD ly
  have lz:=aB hb0 hz
  have w0:=aD lz
  have n1:=eq_false hqy;have n2:=eq_false hqz;have n3:=eq_false hyz
  have n4:=eq_false (Ne.symm hqy);have n5:=eq_false (Ne.symm hqz);have n6:=eq_false (Ne.symm hyz)
  repeat' first|simp only[ak,ag,zF,al,bE,eu,ho0,hv0,hq,hy,hz,z0,y0,w0,n1,n2,n3,n4,n5,n6,Bt,Bf,Lm,ai,seval,ah]|exact rfl|refine aa (v:=.any) ?_|refine aZ (ps:=[(4,11)]) (by decide +kernel) (by simp only[List.forall_mem_cons,List.getD_cons_zero,List.getD_cons_succ,zF,al,bE,eu,ho0,hv0,hq,hy,hz,z0,y0,w0,n1,n2,n3,n4,n5,n6,Bt,Bf,Lm,ai,seval,ah]<;>(try simp)<;>(try omega)) ?_|refine az (by decide +kernel) ?_|((first|apply Ca|apply Cb)<;>intro hb)|refine Ai (by omega) ?_|(apply Ai<;>intro hb)
  all_goals ((refine Fin.give [(q,none),(y,none),(z,none)] [] ?_ ?_ ?_ ?_ ?_ (aL ho (by simp[aP,tgt]))<;>(try simp only[zF,al,bE,eu,hq,hy,hz,z0,y0,w0,n1,n2,n3,n4,n5,n6,Bool.and_self,Bool.false_and,ad,aH,Lm,dx,ai,seval,ah])<;>(try simp only[ap])<;>(try omega)))
 ·have hd12:=h12 h12'
  refine bh call101 func101 rfl (by kernel_rfl) rfl ?_;intro b0 hb0;have zF:=Ai results101 ntmps101
  have lq:=aB hb0 hq
  have z0:=aD lq
  have ly:=aB hb0 hy
  have y0:=aD ly
  have lz:=aB hb0 hz
  have w0:=aD lz
  have n1:=eq_false hqy;have n2:=eq_false hqz;have n3:=eq_false hyz
  have n4:=eq_false (Ne.symm hqy);have n5:=eq_false (Ne.symm hqz);have n6:=eq_false (Ne.symm hyz)
  repeat' first|simp only[ak,ag,zF,al,bE,eu,ho0,hd12,hq,hy,hz,z0,y0,w0,n1,n2,n3,n4,n5,n6,Bt,Bf,Lm,ai,seval,ah]|exact rfl|refine aa (v:=.any) ?_|refine aZ (ps:=[(4,11)]) (by decide +kernel) (by simp only[List.forall_mem_cons,List.getD_cons_zero,List.getD_cons_succ,zF,al,bE,eu,ho0,hd12,hq,hy,hz,z0,y0,w0,n1,n2,n3,n4,n5,n6,Bt,Bf,Lm,ai,seval,ah]<;>(try simp)<;>(try omega)) ?_|refine az (by decide +kernel) ?_|((first|apply Ca|apply Cb)<;>intro hb)|refine Ai (by omega) ?_|(apply Ai<;>intro hb)
  all_goals ((refine Fin.give [(q,none),(y,none),(z,none)] [] ?_ ?_ ?_ ?_ ?_ (aL ho (by simp[aP,tgt]))<;>(try simp only[zF,al,bE,eu,hq,hy,hz,z0,y0,w0,n1,n2,n3,n4,n5,n6,Bool.and_self,Bool.false_and,ad,aH,Lm,dx,ai,seval,ah])<;>(try simp only[ap])<;>(try omega)))
def Q4 (a:Nat)(t:Tk):List V:=[.int .u8 1,.str [],.str t.name,.own a 0 t.attrs.length,.str [],.int .i64 0]
def Ec (g:Gr)(junk:List Nat)(last q y z nm:Nat)(t:Tk):List (Nat×Option Blk) :=
 if t.kind=1 then [(y,none),(z,none),(q,some ⟨3,[[.own nm 0 (g.v.length+1),.own (nm+2) 0 (g.opn.length+1),.int .u8 last]]⟩),(nm,some ⟨6,(mY g.v g.opn).map aV++[Q4 (nm+1) t]⟩),(nm+1,some ⟨3,(dh t.attrs).map b9⟩),(nm+2,some ⟨1,g.opn.map cQ++[cQ g.v.length]⟩)]
 else [(y,none),(q,some ⟨3,[[.own nm 0 (g.v.length+1),.own z 0 g.opn.length,.int .u8 last]]⟩),(z,some ⟨1,(g.opn++junk).map cQ⟩),(nm,some ⟨6,(mY g.v g.opn).map aV++[Q4 (nm+1) t]⟩),(nm+1,some ⟨3,(dh t.attrs).map b9⟩)]
def zA (g:Gr)(n:Nat)(hg:g.Ok n)(hn:n<=1000)(junk:List Nat)(last q y z:Nat)(t:Tk)(ht:t.attrs.length<=1000)(h1:(g.opn.isEmpty && !g.v.isEmpty)=false)(h2:g.opn.length<12)(M:am)(nm:Nat)(hqy:q≠y)(hqz:q≠z)(hyz:y≠z)(hq:M q=some ⟨3,[eu y z g last]⟩)(hy:M y=some ⟨6,g.v.map aV⟩)(hz:M z=some ⟨1,(g.opn++junk).map cQ⟩)(ho:∀ w,(M w).isSome=true->w∈[q,y,z])(hqn:q<nm)(hyn:y<nm)(hzn:z<nm) :
  Ev cx 101 nm [.ptr q 0 0,.agg (bE t)] M (.int .i64 0) (Ec g junk last q y z nm t):=by
 have hvl:=hg.len
 have hl12:=hg.deep
 have ho0:=nR g.opn
 have hv0:decide ((0:Int)<(g.v.length:Int)) = !g.v.isEmpty:=by
  cases h:g.v with
  | nil=>rfl
  | cons a b=>simp
 have hd12:decide ((12:Int)<=(g.opn.length:Int))=false:=bm
 have hlj:g.opn.length<=(g.opn++junk).length:=by simp
 have htk:((g.opn++junk).map cQ).take g.opn.length=g.opn.map cQ:=by rw[<- List.map_take,List.take_left]
 generalize hA:g.opn.isEmpty=bA at h1 ho0
 generalize hB:g.v.isEmpty=bB at h1 hv0
 have hcs:bA=false\/(bA=true/\bB=true):=by cases bA<;>cases bB<;>simp at h1 ⊢
 clear h1
 have hpn0:plainLL (g.opn.map cQ++junk.map cQ)=true:=by rw[<- List.map_append];exact aH _
 unfold Ec
 refine bh call101 func101 rfl (by kernel_rfl) rfl ?_;intro b0 hb0;have zF:=Ai results101 ntmps101
 have lq:=aB hb0 hq
 have z0:=aD lq
 have ly:=aB hb0 hy
 have y0:=aD ly
 have lz:=aB hb0 hz
 have w0:=aD lz
 have n1:=eq_false hqy;have n2:=eq_false hqz;have n3:=eq_false hyz
 have n4:=eq_false (Ne.symm hqy);have n5:=eq_false (Ne.symm hqz);have n6:=eq_false (Ne.symm hyz)
 rcases hcs with rfl|⟨rfl,rfl⟩
 all_goals (
  repeat' first|simp only[ak,ag,zF,al,bE,eu,ho0,hv0,hd12,hq,hy,hz,z0,y0,w0,n1,n2,n3,n4,n5,n6,Bt,Bf,Lm,ai,seval,ah]|exact rfl|refine aa (v:=.any) ?_|refine aZ (ps:=[(4,11)]) (by decide +kernel) (by simp only[List.forall_mem_cons,List.getD_cons_zero,List.getD_cons_succ,zF,al,bE,eu,ho0,hv0,hd12,hq,hy,hz,z0,y0,w0,n1,n2,n3,n4,n5,n6,Bt,Bf,Lm,ai,seval,ah]<;>(try simp)<;>(try omega)) ?_|refine az (by decide +kernel) ?_|((first|apply Ca|apply Cb)<;>intro hb)|refine Ai (by omega) ?_|(apply Ai<;>intro hb)
  (refine aQ bM (fun x:Nat=>t.attrs.length-x) (fun x=>x<=t.attrs.length) (b0+16) (fun x=>[(0,.ptr q 0 0),(3,.ptr b0 0 0),(6,.ptr (b0+1) 0 0),(32,.sl false 2 (t.attrs.map c7)),(33,.int .i64 t.attrs.length),(34,.int .i64 x)]) (fun x=>[(b0,⟨4,[bE t]⟩),(b0+1,⟨6,[[.int .u8 1,.str [],.str t.name,.own (b0+2) 0 x,.str [],.int .i64 0]]⟩),(b0+2,⟨3,(dh (t.attrs.take x)).map b9⟩),(q,⟨3,[eu y z g last]⟩),(y,⟨6,g.v.map aV⟩),(z,⟨1,(g.opn++junk).map cQ⟩)]) (0) [some b0,some (b0+400),none,some q,some y,some z] ?_ ?_ ?_ ?_;rotate_left 1;(focus (show b0<=_;omega));(focus (refine⟨?_,?_⟩<;>(try simp only[aX,ay,jr,bE,eu,hq,hy,hz,Bool.and_self,Bool.false_and,ad,aH,aJ,Cv,List.take_zero,Lo,z0,y0,w0,n1,n2,n3,n4,n5,n6,Lm,ai,seval,ah,ap])<;>(try omega)));rotate_left 1)
  ·exact Nat.zero_le _
  ·intro k hk
   by_cases hlt:k<t.attrs.length
   ·obtain⟨a,ha⟩:∃ a,t.attrs[k]? = some a:=⟨_,List.getElem?_eq_getElem hlt⟩
    have hat:=KQ ha
    have hd:decide (k<t.attrs.length)=true:=decide_eq_true hlt
    have hwk:IntKind.i64.wrap ((k:Int)+1)=((k+1:Nat):Int):=bd
    have hgl:(dh (t.attrs.take k)).length=k:=by rw[jg,List.length_take];omega
    have htl:((dh (t.attrs.take k)).map b9).take k=(dh (t.attrs.take k)).map b9:=List.take_of_length_le (by rw[Lm,hgl];omega)
    have hgs:=Ct ha
    repeat' first|simp only[ak,ag,zF,al,ay,bE,eu,hat,c7,hd,hlt,hgl,htl,hgs,z0,y0,w0,n1,n2,n3,n4,n5,n6,Lm,ai,seval,ah]|exact rfl|refine aa (v:=.any) ?_|refine aZ (ps:=[(4,11)]) (by decide +kernel) (by simp only[List.forall_mem_cons,List.getD_cons_zero,List.getD_cons_succ,zF,al,ay,bE,eu,hat,c7,hd,hlt,hgl,htl,hgs,z0,y0,w0,n1,n2,n3,n4,n5,n6,Lm,ai,seval,ah]<;>(try simp)<;>(try omega)) ?_|refine az (by decide +kernel) ?_|((first|apply Ca|apply Cb)<;>intro hb)|refine Ai (by omega) ?_|(apply Ai<;>intro hb)
    all_goals ((refine aC bM (k+1) [some b0,some (b0+1),some (b0+224),some q,some y,some z] ?_ ?_ ?_ ?_;rotate_left 2;(focus (show b0<=_;omega));(focus (refine⟨?_,?_⟩<;>(try simp only[aX,ay,jr,bE,eu,hwk,Bool.and_self,Bool.false_and,ad,aH,aq,aJ,z0,y0,w0,n1,n2,n3,n4,n5,n6,Lm,ai,seval,ah,ap])<;>(try omega)))))
    all_goals (first|(show t.attrs.length-(k+1)<t.attrs.length-k;omega)|(show k+1<=t.attrs.length;omega)|skip)
   ·have hke:k=t.attrs.length:=by omega
    subst hke
    have hd:decide (t.attrs.length<t.attrs.length)=false:=bm
    have hadd:=fun (M':am) (a:M' q=some ⟨3,[eu y z g last]⟩) (b:M' y=some ⟨6,g.v.map aV⟩) (c:M' z=some ⟨1,(g.opn++junk).map cQ⟩) (e:M' (b0+2)=some ⟨3,(dh t.attrs).map b9⟩) (d:∀ w,(M' w).isSome=true->w∈[q,y,z,b0+2]) (m:Nat) (h1:q<m) (h2:y<m) (h3:z<m) (h4:b0+2<m)=>Me g n hg hn junk last q y z ⟨1,[],t.name,[],[],0⟩ (b0+2) (dh t.attrs) M' m hqy hqz hyz (by omega) (by omega) (by omega) e a b c d h1 h2 h3 h4
    simp only[jg]at hadd
    have hwv:IntKind.i64.wrap (((g.v.length+1:Nat):Int)-1)=(g.v.length:Int):=by rw[bd];omega
    have hwv2:IntKind.i64.wrap ((g.v.length:Int)+1-1)=(g.v.length:Int):=by rw[bd];omega
    by_cases hk1:t.kind=1
    ·have hkb:((t.kind:Int)==1)=true:=by rw[hk1];rfl
     rw[if_pos hk1]
     repeat' first|simp only[ak,ag,zF,al,ay,bE,eu,hd,hkb,hwv,hwv2,htk,hlj,iD,z0,y0,w0,n1,n2,n3,n4,n5,n6,List.take_length,Lm,ai,seval,ah]|exact rfl|refine aa (v:=.any) ?_|(refine ac ?_ [q,y,z,b0+2] (hadd _ ?_ ?_ ?_ ?_ aj _ (by omega) (by omega) (by omega) (by omega)) ?_ ?_)|refine aZ (ps:=[(4,11)]) (by decide +kernel) (by simp only[List.forall_mem_cons,List.getD_cons_zero,List.getD_cons_succ,zF,al,ay,bE,eu,hd,hkb,hwv,hwv2,htk,hlj,iD,z0,y0,w0,n1,n2,n3,n4,n5,n6,List.take_length,Lm,ai,seval,ah]<;>(try simp)<;>(try omega)) ?_|refine az (by decide +kernel) ?_|((first|apply Ca|apply Cb)<;>intro hb)|refine Ai (by omega) ?_|(apply Ai<;>intro hb)
     all_goals ((refine Fin.give [(q,none),(b0+64,some 0),(b0+2,some 1),(b0+320,some 2)] [y,z] ?_ ?_ ?_ ?_ ?_ (aL ho (by simp[aP,tgt]))<;>(try simp only[zF,al,bE,eu,hq,hy,hz,Q4,cQ,z0,y0,w0,n1,n2,n3,n4,n5,n6,sM,k9,hpn0,List.map_append,List.all_append,Bool.and_self,Bool.false_and,bD,aq,ad,aH,Lm,dx,ai,seval,ah])<;>(try simp only[ap])<;>(try omega)))
    ·have hkb:((t.kind:Int)==1)=false:=beq_false_of_ne (by omega)
     rw[if_neg hk1]
     repeat' first|simp only[ak,ag,zF,al,ay,bE,eu,hd,hkb,iD,z0,y0,w0,n1,n2,n3,n4,n5,n6,List.take_length,Lm,ai,seval,ah]|exact rfl|refine aa (v:=.any) ?_|(refine ac ?_ [q,y,z,b0+2] (hadd _ ?_ ?_ ?_ ?_ aj _ (by omega) (by omega) (by omega) (by omega)) ?_ ?_)|refine aZ (ps:=[(4,11)]) (by decide +kernel) (by simp only[List.forall_mem_cons,List.getD_cons_zero,List.getD_cons_succ,zF,al,ay,bE,eu,hd,hkb,iD,z0,y0,w0,n1,n2,n3,n4,n5,n6,List.take_length,Lm,ai,seval,ah]<;>(try simp)<;>(try omega)) ?_|refine az (by decide +kernel) ?_|((first|apply Ca|apply Cb)<;>intro hb)|refine Ai (by omega) ?_|(apply Ai<;>intro hb)
     all_goals ((refine Fin.give [(q,none),(z,none),(b0+64,some 0),(b0+2,some 1)] [y] ?_ ?_ ?_ ?_ ?_ (aL ho (by simp[aP,tgt]))<;>(try simp only[zF,al,bE,eu,hq,hy,hz,Q4,cQ,z0,y0,w0,n1,n2,n3,n4,n5,n6,sM,k9,hpn0,List.map_append,List.all_append,Bool.and_self,Bool.false_and,bD,aq,ad,aH,Lm,dx,ai,seval,ah])<;>(try simp only[ap])<;>(try omega))))
end Go.Proofs.YtlnlopnpcmahgaaGreatDoor
