/-
 Texts joined: XOg,XOj.
-/
import Derived.Test.YtjonibipieofcaaGreatDoorR2
import Derived.Test.YtjonibipieofcaaGreatDoorR4
set_option linter.all false
namespace Go.Proofs.YtjonibipieofcaaGreatDoor
set_option maxRecDepth 100000
set_option maxHeartbeats 32000000
open Go Go.RowKit Vm Go.Lib Tryz
open Vm renaming aI->Ca,aP->Cb
open And renaming intro->Ai
open List renaming length_map->Lm,not_mem_nil->Ln,map_nil->Lo,map_cons->Lc,mem_cons->Lk
open Bool renaming not_false->Bf,not_true->Bt
def IB (P:Nd->Fo->Prop):Fo->Prop
 | .nil=>True
 | .cons n k r=>P n k/\IB P r
def Cc (l:List Nd)(n:Nd):l.map aD++[[.int .u8 n.kind,.str n.space,.str n.name,.sl false 3 (n.attrs.map bf),.str n.text,.int .i64 n.many]]=(l++[n]).map aD:=by simp[aD]
def NA (v:List Nd)(ob pb:Nat):V:=.fn 126 [.rp [.sl false 6 (v.map aD)],.ptr ob 0 0,.ptr pb 0 0]
def rq (v:List Nd)(ob pb:Nat)(n:Nd)(k:Fo):Prop :=
  ∀(p:Nat) (sp:List UInt8) (r:List Nd) (L:List Nd) (lk:Nat) (M:ao) (nm:Nat),v.drop p=n::(k.flat++r)->L.length+k.size+1<=600 ->
    ob≠lk->pb≠lk->M ob=some ⟨1,[[.own lk 0 L.length]]⟩->M lk=some ⟨6,L.map aD⟩->M pb=some ⟨1,[[NA v ob pb]]⟩->(∀ z,(M z).isSome=true->z∈[ob,lk,pb])->ob<nm->lk<nm->pb<nm ->
    Ev cx 126 nm [.int .i64 p,.str sp,.rp [.sl false 6 (v.map aD)],.ptr ob 0 0,.ptr pb 0 0] M (.int .i64 ((p+1+k.size:Nat):Int))
      [(lk,none),(ob,some ⟨1,[[.own nm 0 (L++(Fo.cons n k .nil).bare sp).length]]⟩),(pb,some ⟨1,[[NA v ob pb]]⟩),(nm,some ⟨6,(L++(Fo.cons n k .nil).bare sp).map aD⟩)]
def CJ (v:List Nd)(hv:v.length<=512)(ob pb:Nat)(d1:ob≠pb)(n:Nd)(hk:n.kind=2):rq v ob pb n .nil:=by
 intro p sp r L lk M nm hvd hL e1 e2 hob hlk hpb ho l1 l2 l3
 obtain⟨hx,_,hp⟩:=eT hvd
 have hat:=dS hx
 have hpi:=jB p v.length
 have hkb:((n.kind:Int)==2)=true:=by rw[hk];rfl
 have hres:(Fo.cons n .nil .nil).bare sp=[n]:=by simp[Fo.bare,hk]
 have hw1:=eD p
 rw[hres]
 simp only[Fo.size,Nat.add_zero]at hL ⊢
 have hsn:=Cc L n
 have hll:(L++[n]).length=L.length+1:=by simp
 rw[hll]
 have g1:(nm=ob)=False:=eq_false (by omega);have g2:(nm=pb)=False:=eq_false (by omega)
 unfold NA at hpb ⊢
 have n1:=eq_false d1;have n2:=eq_false e1;have n3:=eq_false e2;have n4:=eq_false (Ne.symm d1);have n5:=eq_false (Ne.symm e1);have n6:=eq_false (Ne.symm e2)
 refine aX call126 func126 ?_;intro b0 hb0
 have k1:=bp hb0 hob
 have k2:=bp hb0 hlk
 have k3:=bp hb0 hpb
 have z0:=bB k1
 have y0:=bB k2
 have x0:=bB k3
 repeat' first|simp only[au,ap,results126,ntmps126,am,hat,aD,hkb,hp,hpi,hob,hlk,hpb,hw1,hsn,w7,ae,ab,n1,n2,n3,n4,n5,n6,z0,y0,x0,Lm,aj,ai,seval]|exact rfl|refine aa (v:=.any) ?_|refine ag (ps:=[(0,3),(0,4)]) (by decide +kernel) (by simp only[List.forall_mem_cons,List.getD_cons_zero,List.getD_cons_succ,results126,ntmps126,am,hat,aD,hkb,hp,hpi,hob,hlk,hpb,hw1,hsn,w7,ae,ab,n1,n2,n3,n4,n5,n6,z0,y0,x0,Lm,aj,ai,seval]<;>(try simp)<;>(try omega)) ?_|refine av (by decide +kernel) ?_|((first|apply Ca|apply Cb)<;>intro hb)|refine Ai (by omega) ?_|(apply Ai<;>intro hb)
 all_goals ((refine Fin.give [(ob,none),(pb,none),(b0+208,some 0)] [lk] ?_ ?_ ?_ ?_ ?_ (bA ho (by simp[bt,tgt]))<;>(try simp only[results126,ntmps126,am,hob,hlk,hpb,g1,g2,ae,n1,n2,n3,n4,n5,n6,z0,y0,x0,Bool.and_self,Bool.and_false,Bool.false_and,Lm,jK,aj,ai,seval])<;>(try simp only[aq])<;>(try omega)))
def Fo.cnt_size:∀(F:Fo),F.count<=F.size
 | .nil=>Nat.le_refl _
 | .cons _ k r=>by have:=r.cnt_size;simp only[Fo.count,Fo.size];omega
def Fo.bare_len:∀(F:Fo) (sp:List UInt8),(F.bare sp).length<=F.size
 | .nil,_=>Nat.le_refl _
 | .cons n k r,sp=>by
  have h1:=k.bare_len n.space;have h2:=r.bare_len sp
  simp only[Fo.bare,Fo.size,List.length_append]
  split
  ·simp only[List.length_cons,List.length_nil];omega
  ·simp only[List.length_cons];omega
structure BrSt where
 R:Fo
 c:Nat
 q:Nat
 L:List Nd
def CH (v:List Nd)(hv:v.length<=512)(ob pb:Nat)(d1:ob≠pb)(n:Nd)(k:Fo)(hn:n.okTo 1000000)(ha16:n.attrs.length<=16)(hk:n.kind≠2)(hm:n.many=(k.count:Int))(ih:IB (rq v ob pb) k):rq v ob pb n k:=by
 intro p sp r L lk M nm hvd hL e1 e2 hob hlk hpb ho l1 l2 l3
 obtain⟨hx,hvd1,hp⟩:=eT hvd
 have hat:=dS hx
 have hpi:=jB p v.length
 have hkb:((n.kind:Int)==2)=false:=beq_false_of_ne (by omega)
 have hres:(Fo.cons n k .nil).bare sp=dn n sp::k.bare n.space:=by simp[Fo.bare,hk]
 have hw1:=eD p
 have htd:=fun nm=>KM n sp ha16 (fun a ha=>(hn.2.2.2.2 a ha).2.1) nm
 rw[hres]
 have hsn:=Cc L (dn n sp)
 have hll:(L++[dn n sp]).length=L.length+1:=by simp
 unfold NA at hpb ⊢
 have n1:=eq_false d1;have n2:=eq_false e1;have n3:=eq_false e2;have n4:=eq_false (Ne.symm d1);have n5:=eq_false (Ne.symm e1);have n6:=eq_false (Ne.symm e2)
 unfold aD at htd
 refine aX call126 func126 ?_;intro b0 hb0;have zF:=Ai results126 ntmps126
 have k1:=bp hb0 hob
 have k2:=bp hb0 hlk
 have k3:=bp hb0 hpb
 have z0:=bB k1
 have y0:=bB k2
 have x0:=bB k3
 repeat' first|simp only[au,ap,zF,am,hat,aD,hkb,hp,hpi,hob,hlk,hpb,hw1,hsn,w7,ae,ab,n1,n2,n3,n4,n5,n6,z0,y0,x0,Lm,aj,ai,seval]|exact rfl|refine aa (v:=.any) ?_|(first|(refine ah ?_ (htd _) ?_)|(refine ac ?_ (fun _=>htd _) ?_))|refine ag (ps:=[(0,3),(0,4)]) (by decide +kernel) (by simp only[List.forall_mem_cons,List.getD_cons_zero,List.getD_cons_succ,zF,am,hat,aD,hkb,hp,hpi,hob,hlk,hpb,hw1,hsn,w7,ae,ab,n1,n2,n3,n4,n5,n6,z0,y0,x0,Lm,aj,ai,seval]<;>(try simp)<;>(try omega)) ?_|refine av (by decide +kernel) ?_|((first|apply Ca|apply Cb)<;>intro hb)|refine Ai (by omega) ?_|(apply Ai<;>intro hb)
 have g1:(nm=ob)=False:=eq_false (by omega);have g2:(nm=pb)=False:=eq_false (by omega)
 (refine ew (fun x:BrSt=>x.R.size) (fun x=>IB (rq v ob pb) x.R/\x.c+x.R.count=k.count/\(∃ r',v.drop x.q=x.R.flat++r')/\x.q+x.R.size=p+1+k.size/\x.L++x.R.bare n.space=L++dn n sp::k.bare n.space/\x.L.length+x.R.size<=600) (b0+16) (fun x=>[(4,.ptr pb 0 0),(8,.ptr b0 0 0),(9,.int .i64 x.q),(32,.int .i64 k.count),(33,.int .i64 x.c)]) (fun x=>[(b0,⟨6,[aD n]⟩),(ob,⟨1,[[.own (b0+1) 0 x.L.length]]⟩),(b0+1,⟨6,x.L.map aD⟩),(pb,⟨1,[[.fn 126 [.rp [.sl false 6 (v.map aD)],.ptr ob 0 0,.ptr pb 0 0]]]⟩)]) (⟨k,0,p+1,L++[dn n sp]⟩) [some (b0+80),some ob,some (b0+240),some pb] ?_ ?_ ?_;(focus (refine⟨?_,?_⟩<;>(try simp only[aE,hll,hm,aD,hob,hlk,hpb,ae,ab,al,n1,n2,n3,n4,n5,n6,z0,y0,x0,Bool.and_self,Bool.and_false,Bool.false_and,Lm,aj,ai,aq,seval])<;>(try omega))))
 ·exact⟨ih,Nat.zero_add _,⟨r,hvd1⟩,rfl,by simp,by simp only[hll];omega⟩
 ·rintro ⟨R,c,q,Lx⟩ ⟨i1,i2,⟨r',i3⟩,i4,i5,i6⟩
  dsimp only at i1 i2 i3 i4 i5 i6 ⊢
  cases R with
  | nil =>
   simp only[Fo.size,Fo.count,Nat.add_zero]at i4 i2
   subst i4;subst i2
   simp only[Fo.bare,List.append_nil]at i5
   rw[<- i5]
   have q1:=nu k.count k.count
   have q2:decide (k.count<k.count)=false:=bi
   repeat' first|simp only[au,ap,zF,am,q1,q2,ae,ab,n1,n2,n3,n4,n5,n6,z0,y0,x0,Lm,aj,ai,seval]|exact rfl|refine aa (v:=.any) ?_|refine ag (ps:=[(0,3),(0,4)]) (by decide +kernel) (by simp only[List.forall_mem_cons,List.getD_cons_zero,List.getD_cons_succ,zF,am,q1,q2,ae,ab,n1,n2,n3,n4,n5,n6,z0,y0,x0,Lm,aj,ai,seval]<;>(try simp)<;>(try omega)) ?_|refine av (by decide +kernel) ?_|((first|apply Ca|apply Cb)<;>intro hb)|refine Ai (by omega) ?_|(apply Ai<;>intro hb)
   all_goals ((refine Fin.give [(ob,none),(pb,none),(b0+1,some 0)] [lk] ?_ ?_ ?_ ?_ ?_ (bA ho (by simp[bt,tgt]))<;>(try simp only[zF,am,hob,hlk,hpb,g1,g2,ae,n1,n2,n3,n4,n5,n6,z0,y0,x0,Bool.and_self,Bool.and_false,Bool.false_and,Lm,jK,aj,ai,seval])<;>(try simp only[aq])<;>(try omega)))
  | cons u2 j2 R2 =>
   obtain⟨hp2,hr2⟩:=i1
   have hd2:v.drop q=u2::(j2.flat++(R2.flat++r')):=by rw[i3];simp[Fo.flat]
   have hb2:(Fo.cons u2 j2 R2).bare n.space=(Fo.cons u2 j2 .nil).bare n.space++R2.bare n.space:=by simp[Fo.bare]
   rw[hb2,<- List.append_assoc]at i5
   simp only[Fo.size,Fo.count]at i4 i2 i6
   have q1:=sC c k.count
   have q2:decide (c<k.count)=true:=dh
   have hcs:=k.cnt_size
   have hwc:=eD c
   have hcall:=fun (M':ao) a1 a2 a3 a4 (m:Nat) l1 l2 l3=>hp2 q n.space (R2.flat++r') Lx (b0+1) M' m hd2 (by omega) (by omega) (by omega) a1 a2 a3 a4 l1 l2 l3
   unfold NA at hcall
   have hd3:v.drop (q+1+j2.size)=R2.flat++r':=by
    have:=pr (v:=v) (p:=q) (a:=u2::j2.flat) (r:=R2.flat++r') (by rw[hd2];simp)
    rw[List.length_cons,Fo.flat_length]at this
    rw[show q+1+j2.size=q+(j2.size+1) by omega];exact this
   have hTl:(Lx++(Fo.cons u2 j2 .nil).bare n.space).length+R2.size<=600:=by
    have:=Fo.bare_len (.cons u2 j2 .nil) n.space
    simp only[Fo.size]at this
    rw[List.length_append];omega
   generalize hT:Lx++(Fo.cons u2 j2 .nil).bare n.space=T at hcall i5 hTl
   repeat' first|simp only[au,ap,zF,am,q1,q2,aD,ae,ab,aA,n1,n2,n3,n4,n5,n6,z0,y0,x0,Lm,aj,ai,seval]|exact rfl|refine aa (v:=.any) ?_|((refine dv (caps:=?_) ?_ ?_ [ob,b0+1,pb] (hcall _ ?_ ?_ ?_ aN _ (by omega) (by omega) (by omega)) ?_ ?_);rotate_left 1)|refine ag (ps:=[(0,3),(0,4)]) (by decide +kernel) (by simp only[List.forall_mem_cons,List.getD_cons_zero,List.getD_cons_succ,zF,am,q1,q2,aD,ae,ab,aA,n1,n2,n3,n4,n5,n6,z0,y0,x0,Lm,aj,ai,seval]<;>(try simp)<;>(try omega)) ?_|refine av (by decide +kernel) ?_|((first|apply Ca|apply Cb)<;>intro hb)|refine Ai (by omega) ?_|(apply Ai<;>intro hb)
   all_goals ((refine de (BrSt.mk R2 (c+1) (q+1+j2.size) T) [some b0,some ob,some (b0+96),some pb] ?_ ?_ ?_;(focus (refine⟨?_,?_⟩<;>(try simp only[aE,hwc,aD,ae,ab,n1,n2,n3,n4,n5,n6,z0,y0,x0,Bool.and_self,Bool.and_false,Bool.false_and,Lm,aj,ai,aq,seval])<;>(try omega)))))
   all_goals (first|(show R2.size<j2.size+R2.size+1;omega)|exact⟨hr2,by show c+1+R2.count=_;omega,⟨r',hd3⟩,by show q+1+j2.size+R2.size=_;omega,i5,hTl⟩|skip)
def rI (v:List Nd)(hv:v.length<=512)(hok:∀ n∈v,n.okTo 1000000/\n.i64)(ob pb:Nat)(d1:ob≠pb):∀(F:Fo) (d last:Nat),F.good d last=true->(∀ n∈F.flat,n∈v)->IB (rq v ob pb) F
 | .nil,_,_,_,_=>trivial
 | .cons n k r,d,last,h,hin=>by
  obtain⟨h1,h2,h3,h4,h5,h6⟩:=Fo.good_cons.1 h
  have hno:=hok n (hin n (by simp[Fo.flat]))
  refine⟨?_,rI v hv hok ob pb d1 r d n.kind h6 (fun x hx=>hin x (by simp[Fo.flat,hx]))⟩
  by_cases hk:n.kind=2
  ·have:=Fo.text_leaf h hk
   subst this
   exact CJ v hv ob pb d1 n hk
  ·exact CH v hv ob pb d1 n k hno.1 (fD h1).1 hk h2 (rI v hv hok ob pb d1 k (d-1) 1 h5 (fun x hx=>hin x (by simp[Fo.flat,hx])))
def under {a b0:Nat}(h:a<b0):((a=b0)=False)/\(∀ c,(a=b0+c)=False)/\((b0=a)=False)/\(∀ c,(b0+c=a)=False):=⟨qt h,fM h,lR h,eK h⟩
end Go.Proofs.YtjonibipieofcaaGreatDoor
