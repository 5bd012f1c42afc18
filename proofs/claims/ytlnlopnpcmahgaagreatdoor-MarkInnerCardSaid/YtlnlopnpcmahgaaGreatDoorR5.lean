/-
 Texts joined: XOg,XOj.
-/
import Derived.Test.YtlnlopnpcmahgaaGreatDoorR3
import Derived.Test.YtlnlopnpcmahgaaGreatDoorR2
import Derived.Test.YtlnlopnpcmahgaaGreatDoorR4
set_option linter.all false
namespace Go.Proofs.YtlnlopnpcmahgaaGreatDoor
set_option maxRecDepth 100000
set_option maxHeartbeats 32000000
open Go Go.RowKit Vm Go.Lib Tryz
open Vm renaming aW->Ca,bf->Cb
open And renaming intro->Ai
open List renaming length_map->Lm,not_mem_nil->Ln,map_nil->Lo,map_cons->Lc,mem_cons->Lk
open Bool renaming not_false->Bf,not_true->Bt
def Bu (P:Nd->Fo->Prop):Fo->Prop
 | .nil=>True
 | .cons n k r=>P n k/\Bu P r
def sJ (l:List Nd)(n:Nd):l.map aV++[[.int .u8 n.kind,.str n.space,.str n.name,.sl false 3 (n.attrs.map b9),.str n.text,.int .i64 n.many]]=(l++[n]).map aV:=by simp[aV]
def Q3 (v:List Nd)(ob pb:Nat):V:=.fn 76 [.rp [.sl false 6 (v.map aV)],.ptr ob 0 0,.ptr pb 0 0]
def sR (v:List Nd)(ob pb:Nat)(n:Nd)(k:Fo):Prop :=
  ∀(p:Nat) (sp:List UInt8) (r:List Nd) (L:List Nd) (lk:Nat) (M:am) (nm:Nat),v.drop p=n::(k.flat++r)->L.length+k.size+1<=600 ->
    ob≠lk->pb≠lk->M ob=some ⟨1,[[.own lk 0 L.length]]⟩->M lk=some ⟨6,L.map aV⟩->M pb=some ⟨1,[[Q3 v ob pb]]⟩->(∀ z,(M z).isSome=true->z∈[ob,lk,pb])->ob<nm->lk<nm->pb<nm ->
    Ev cx 76 nm [.int .i64 p,.str sp,.rp [.sl false 6 (v.map aV)],.ptr ob 0 0,.ptr pb 0 0] M (.int .i64 ((p+1+k.size:Nat):Int))
      [(lk,none),(ob,some ⟨1,[[.own nm 0 (L++(Fo.cons n k .nil).bare sp).length]]⟩),(pb,some ⟨1,[[Q3 v ob pb]]⟩),(nm,some ⟨6,(L++(Fo.cons n k .nil).bare sp).map aV⟩)]
def Fp (v:List Nd)(hv:v.length<=512)(ob pb:Nat)(d1:ob≠pb)(n:Nd)(hk:n.kind=2):sR v ob pb n .nil:=by
 intro p sp r L lk M nm hvd hL e1 e2 hob hlk hpb ho l1 l2 l3
 obtain⟨hx,_,hp⟩:=eS hvd
 have hat:=iL hx
 have hpi:(p:Int)<(v.length:Int):=by omega
 have hkb:((n.kind:Int)==2)=true:=by rw[hk];rfl
 have hres:(Fo.cons n .nil .nil).bare sp=[n]:=by simp[Fo.bare,hk]
 have hw1:IntKind.i64.wrap ((p:Int)+1)=((p+1:Nat):Int):=bd
 rw[hres]
 simp only[Fo.size,Nat.add_zero]at hL ⊢
 have hsn:=sJ L n
 have hll:(L++[n]).length=L.length+1:=by simp
 rw[hll]
 have g1:(nm=ob)=False:=eq_false (by omega);have g2:(nm=pb)=False:=eq_false (by omega)
 unfold Q3 at hpb ⊢
 have n1:=eq_false d1;have n2:=eq_false e1;have n3:=eq_false e2;have n4:=eq_false (Ne.symm d1);have n5:=eq_false (Ne.symm e1);have n6:=eq_false (Ne.symm e2)
 refine bh call76 func76 rfl (by kernel_rfl) rfl ?_;intro b0 hb0
 have k1:=aB hb0 hob
 have k2:=aB hb0 hlk
 have k3:=aB hb0 hpb
 have z0:=aD k1
 have y0:=aD k2
 have x0:=aD k3
 repeat' first|simp only[ak,ag,results76,ntmps76,al,hat,aV,hkb,hp,hpi,hob,hlk,hpb,hw1,hsn,fM,ad,aq,n1,n2,n3,n4,n5,n6,z0,y0,x0,Lm,ai,seval,ah]|exact rfl|refine aa (v:=.any) ?_|refine aZ (ps:=[(0,3),(0,4)]) (by decide +kernel) (by simp only[List.forall_mem_cons,List.getD_cons_zero,List.getD_cons_succ,results76,ntmps76,al,hat,aV,hkb,hp,hpi,hob,hlk,hpb,hw1,hsn,fM,ad,aq,n1,n2,n3,n4,n5,n6,z0,y0,x0,Lm,ai,seval,ah]<;>(try simp)<;>(try omega)) ?_|refine az (by decide +kernel) ?_|((first|apply Ca|apply Cb)<;>intro hb)|refine Ai (by omega) ?_|(apply Ai<;>intro hb)
 all_goals ((refine Fin.give [(ob,none),(pb,none),(b0+208,some 0)] [lk] ?_ ?_ ?_ ?_ ?_ (aL ho (by simp[aP,tgt]))<;>(try simp only[results76,ntmps76,al,hob,hlk,hpb,g1,g2,ad,n1,n2,n3,n4,n5,n6,z0,y0,x0,Bool.and_self,Bool.and_false,Bool.false_and,Lm,dx,ai,seval,ah])<;>(try simp only[ap])<;>(try omega)))
def Fo.cnt_size:∀(F:Fo),F.count<=F.size
 | .nil=>Nat.le_refl _
 | .cons _ k r=>by have:=r.cnt_size;simp only[Fo.count,Fo.size];omega
def Fo.bare_len:∀(F:Fo) (sp:List UInt8),(F.bare sp).length<=F.size
 | .nil,_=>Nat.le_refl _
 | .cons n k r,sp=>by
  have h1:=k.bare_len n.space;have h2:=r.bare_len sp
  simp only[Fo.bare,Fo.size,List.length_append]
  split
  ·simp only[List.length_cons,List.length_nil];omega
  ·simp only[List.length_cons];omega
structure BrSt where
 R:Fo
 c:Nat
 q:Nat
 L:List Nd
def Fl (v:List Nd)(hv:v.length<=512)(ob pb:Nat)(d1:ob≠pb)(n:Nd)(k:Fo)(hn:n.okTo 1000000)(ha16:n.attrs.length<=16)(hk:n.kind≠2)(hm:n.many=(k.count:Int))(ih:Bu (sR v ob pb) k):sR v ob pb n k:=by
 intro p sp r L lk M nm hvd hL e1 e2 hob hlk hpb ho l1 l2 l3
 obtain⟨hx,hvd1,hp⟩:=eS hvd
 have hat:=iL hx
 have hpi:(p:Int)<(v.length:Int):=by omega
 have hkb:((n.kind:Int)==2)=false:=beq_false_of_ne (by omega)
 have hres:(Fo.cons n k .nil).bare sp=bp n sp::k.bare n.space:=by simp[Fo.bare,hk]
 have hw1:IntKind.i64.wrap ((p:Int)+1)=((p+1:Nat):Int):=bd
 have htd:=fun nm=>Ow n sp ha16 (fun a ha=>(hn.2.2.2.2 a ha).2.1) nm
 rw[hres]
 have hsn:=sJ L (bp n sp)
 have hll:(L++[bp n sp]).length=L.length+1:=by simp
 unfold Q3 at hpb ⊢
 have n1:=eq_false d1;have n2:=eq_false e1;have n3:=eq_false e2;have n4:=eq_false (Ne.symm d1);have n5:=eq_false (Ne.symm e1);have n6:=eq_false (Ne.symm e2)
 unfold aV at htd
 refine bh call76 func76 rfl (by kernel_rfl) rfl ?_;intro b0 hb0;have zF:=Ai results76 ntmps76
 have k1:=aB hb0 hob
 have k2:=aB hb0 hlk
 have k3:=aB hb0 hpb
 have z0:=aD k1
 have y0:=aD k2
 have x0:=aD k3
 repeat' first|simp only[ak,ag,zF,al,hat,aV,hkb,hp,hpi,hob,hlk,hpb,hw1,hsn,fM,ad,aq,n1,n2,n3,n4,n5,n6,z0,y0,x0,Lm,ai,seval,ah]|exact rfl|refine aa (v:=.any) ?_|(first|(refine ae ?_ (htd _) ?_)|(refine ab ?_ (fun _=>htd _) ?_))|refine aZ (ps:=[(0,3),(0,4)]) (by decide +kernel) (by simp only[List.forall_mem_cons,List.getD_cons_zero,List.getD_cons_succ,zF,al,hat,aV,hkb,hp,hpi,hob,hlk,hpb,hw1,hsn,fM,ad,aq,n1,n2,n3,n4,n5,n6,z0,y0,x0,Lm,ai,seval,ah]<;>(try simp)<;>(try omega)) ?_|refine az (by decide +kernel) ?_|((first|apply Ca|apply Cb)<;>intro hb)|refine Ai (by omega) ?_|(apply Ai<;>intro hb)
 have g1:(nm=ob)=False:=eq_false (by omega);have g2:(nm=pb)=False:=eq_false (by omega)
 (refine aQ bM (fun x:BrSt=>x.R.size) (fun x=>Bu (sR v ob pb) x.R/\x.c+x.R.count=k.count/\(∃ r',v.drop x.q=x.R.flat++r')/\x.q+x.R.size=p+1+k.size/\x.L++x.R.bare n.space=L++bp n sp::k.bare n.space/\x.L.length+x.R.size<=600) (b0+16) (fun x=>[(4,.ptr pb 0 0),(8,.ptr b0 0 0),(9,.int .i64 x.q),(32,.int .i64 k.count),(33,.int .i64 x.c)]) (fun x=>[(b0,⟨6,[aV n]⟩),(ob,⟨1,[[.own (b0+1) 0 x.L.length]]⟩),(b0+1,⟨6,x.L.map aV⟩),(pb,⟨1,[[.fn 76 [.rp [.sl false 6 (v.map aV)],.ptr ob 0 0,.ptr pb 0 0]]]⟩)]) (⟨k,0,p+1,L++[bp n sp]⟩) [some (b0+80),some ob,some (b0+240),some pb] ?_ ?_ ?_ ?_;rotate_left 1;(focus (show b0<=_;omega));(focus (refine⟨?_,?_⟩<;>(try simp only[aX,hll,hm,aV,hob,hlk,hpb,ad,aq,aJ,n1,n2,n3,n4,n5,n6,z0,y0,x0,Bool.and_self,Bool.and_false,Bool.false_and,Lm,ai,seval,ah,ap])<;>(try omega)));rotate_left 1)
 ·exact⟨ih,Nat.zero_add _,⟨r,hvd1⟩,rfl,by simp,by simp only[hll];omega⟩
 ·rintro ⟨R,c,q,Lx⟩ ⟨i1,i2,⟨r',i3⟩,i4,i5,i6⟩
  dsimp only at i1 i2 i3 i4 i5 i6 ⊢
  cases R with
  | nil =>
   simp only[Fo.size,Fo.count,Nat.add_zero]at i4 i2
   subst i4;subst i2
   simp only[Fo.bare,List.append_nil]at i5
   rw[<- i5]
   have q1:decide ((k.count:Int)<(k.count:Int))=false:=bm
   have q2:decide (k.count<k.count)=false:=bm
   repeat' first|simp only[ak,ag,zF,al,q1,q2,ad,aq,n1,n2,n3,n4,n5,n6,z0,y0,x0,Lm,ai,seval,ah]|exact rfl|refine aa (v:=.any) ?_|refine aZ (ps:=[(0,3),(0,4)]) (by decide +kernel) (by simp only[List.forall_mem_cons,List.getD_cons_zero,List.getD_cons_succ,zF,al,q1,q2,ad,aq,n1,n2,n3,n4,n5,n6,z0,y0,x0,Lm,ai,seval,ah]<;>(try simp)<;>(try omega)) ?_|refine az (by decide +kernel) ?_|((first|apply Ca|apply Cb)<;>intro hb)|refine Ai (by omega) ?_|(apply Ai<;>intro hb)
   all_goals ((refine Fin.give [(ob,none),(pb,none),(b0+1,some 0)] [lk] ?_ ?_ ?_ ?_ ?_ (aL ho (by simp[aP,tgt]))<;>(try simp only[zF,al,hob,hlk,hpb,g1,g2,ad,n1,n2,n3,n4,n5,n6,z0,y0,x0,Bool.and_self,Bool.and_false,Bool.false_and,Lm,dx,ai,seval,ah])<;>(try simp only[ap])<;>(try omega)))
  | cons u2 j2 R2 =>
   obtain⟨hp2,hr2⟩:=i1
   have hd2:v.drop q=u2::(j2.flat++(R2.flat++r')):=by rw[i3];simp[Fo.flat]
   have hb2:(Fo.cons u2 j2 R2).bare n.space=(Fo.cons u2 j2 .nil).bare n.space++R2.bare n.space:=by simp[Fo.bare]
   rw[hb2,<- List.append_assoc]at i5
   simp only[Fo.size,Fo.count]at i4 i2 i6
   have q1:decide ((c:Int)<(k.count:Int))=true:=bR
   have q2:decide (c<k.count)=true:=bR
   have hcs:=k.cnt_size
   have hwc:IntKind.i64.wrap ((c:Int)+1)=((c+1:Nat):Int):=bd
   have hcall:=fun (M':am) a1 a2 a3 a4 (m:Nat) l1 l2 l3=>hp2 q n.space (R2.flat++r') Lx (b0+1) M' m hd2 (by omega) (by omega) (by omega) a1 a2 a3 a4 l1 l2 l3
   unfold Q3 at hcall
   have hd3:v.drop (q+1+j2.size)=R2.flat++r':=by
    have:=nF (v:=v) (p:=q) (a:=u2::j2.flat) (r:=R2.flat++r') (by rw[hd2];simp)
    rw[List.length_cons,Fo.flat_length]at this
    rw[show q+1+j2.size=q+(j2.size+1) by omega];exact this
   have hTl:(Lx++(Fo.cons u2 j2 .nil).bare n.space).length+R2.size<=600:=by
    have:=Fo.bare_len (.cons u2 j2 .nil) n.space
    simp only[Fo.size]at this
    rw[List.length_append];omega
   generalize hT:Lx++(Fo.cons u2 j2 .nil).bare n.space=T at hcall i5 hTl
   repeat' first|simp only[ak,ag,zF,al,q1,q2,aV,ad,aq,au,n1,n2,n3,n4,n5,n6,z0,y0,x0,Lm,ai,seval,ah]|exact rfl|refine aa (v:=.any) ?_|((refine cn (caps:=?_) ?_ ?_ [ob,b0+1,pb] (hcall _ ?_ ?_ ?_ aj _ (by omega) (by omega) (by omega)) ?_ ?_);rotate_left 1)|refine aZ (ps:=[(0,3),(0,4)]) (by decide +kernel) (by simp only[List.forall_mem_cons,List.getD_cons_zero,List.getD_cons_succ,zF,al,q1,q2,aV,ad,aq,au,n1,n2,n3,n4,n5,n6,z0,y0,x0,Lm,ai,seval,ah]<;>(try simp)<;>(try omega)) ?_|refine az (by decide +kernel) ?_|((first|apply Ca|apply Cb)<;>intro hb)|refine Ai (by omega) ?_|(apply Ai<;>intro hb)
   all_goals ((refine aC bM (BrSt.mk R2 (c+1) (q+1+j2.size) T) [some b0,some ob,some (b0+96),some pb] ?_ ?_ ?_ ?_;rotate_left 2;(focus (show b0<=_;omega));(focus (refine⟨?_,?_⟩<;>(try simp only[aX,hwc,aV,ad,aq,n1,n2,n3,n4,n5,n6,z0,y0,x0,Bool.and_self,Bool.and_false,Bool.false_and,Lm,ai,seval,ah,ap])<;>(try omega)))))
   all_goals (first|(show R2.size<j2.size+R2.size+1;omega)|exact⟨hr2,by show c+1+R2.count=_;omega,⟨r',hd3⟩,by show q+1+j2.size+R2.size=_;omega,i5,hTl⟩|skip)
def tl (v:List Nd)(hv:v.length<=512)(hok:∀ n∈v,n.okTo 1000000/\n.i64)(ob pb:Nat)(d1:ob≠pb):∀(F:Fo) (d last:Nat),F.good d last=true->(∀ n∈F.flat,n∈v)->Bu (sR v ob pb) F
 | .nil,_,_,_,_=>trivial
 | .cons n k r,d,last,h,hin=>by
  obtain⟨h1,h2,h3,h4,h5,h6⟩:=Fo.good_cons.1 h
  have hno:=hok n (hin n (by simp[Fo.flat]))
  refine⟨?_,tl v hv hok ob pb d1 r d n.kind h6 (fun x hx=>hin x (by simp[Fo.flat,hx]))⟩
  by_cases hk:n.kind=2
  ·have:=Fo.text_leaf h hk
   subst this
   exact Fp v hv ob pb d1 n hk
  ·exact Fl v hv ob pb d1 n k hno.1 (jK h1).1 hk h2 (tl v hv hok ob pb d1 k (d-1) 1 h5 (fun x hx=>hin x (by simp[Fo.flat,hx])))
def apart {a b:Nat}(h:a≠b):((a=b)=False)/\((b=a)=False):=⟨eq_false h,eq_false (Ne.symm h)⟩
def under {a b0:Nat}(h:a<b0):((a=b0)=False)/\(∀ c,(a=b0+c)=False)/\((b0=a)=False)/\(∀ c,(b0+c=a)=False):=⟨JO h,rh h,CV h,o7 h⟩
def JH {K:kw}{r:Bool}{l:List At}{k:Nat}{a:At}(h:l[k]? = some a):jh K r (l.take (k+1))=CR (jh K r (l.take k)) a:=by
 obtain⟨hk,rfl⟩:=List.getElem?_eq_some_iff.1 h
 unfold jh
 rw[List.take_succ_eq_append_getElem hk,List.foldl_append];rfl
def ug:∀(l:List At) (K:kw) (b r:Bool),l.foldl CR (K,b&&r)=((l.foldl CR (K,r)).1,b&&(l.foldl CR (K,r)).2)
 | [],_,_,_=>rfl
 | a::l,K,b,r=>by
  rw[List.foldl_cons,List.foldl_cons]
  unfold CR
  cases fp a.name with
  | none=>exact ug l K b r
  | some p=>simp only;rw[Bool.and_assoc];exact ug l _ b _
def OY (K:kw)(b:Bool)(l:List At):jh K b l=((jh K true l).1,b&&(jh K true l).2):=by
 have:=ug l K b true
 rwa[Bool.and_true]at this
def Q7 (v:List Nd)(ob rb pb:Nat):V:=.fn 106 [.rp [.sl false 6 (v.map aV)],.ptr ob 0 0,.ptr rb 0 0,.ptr pb 0 0]
def yV (v:List Nd)(ob rb pb:Nat)(n:Nd)(k:Fo):Prop :=
  ∀(p:Nat) (K:kw) (r:List Nd) (L:List Nd) (b:Bool) (lk mk:Nat) (M:am) (nm:Nat),v.drop p=n::(k.flat++r)->L.length+k.size+1<=600 ->
    ob≠lk->rb≠lk->pb≠lk->mk≠lk->mk≠ob->mk≠rb->mk≠pb->M mk=some (eT (rS K))->M rb=some ⟨1,[[.bool b]]⟩->M ob=some ⟨1,[[.own lk 0 L.length]]⟩->M lk=some ⟨6,L.map aV⟩->M pb=some ⟨1,[[Q7 v ob rb pb]]⟩ ->
    (∀ z,(M z).isSome=true->z∈[mk,rb,ob,lk,pb])->mk<nm->rb<nm->ob<nm->lk<nm->pb<nm ->
    Ev cx 106 nm [.int .i64 p,.mp mk,.rp [.sl false 6 (v.map aV)],.ptr ob 0 0,.ptr rb 0 0,.ptr pb 0 0] M (.int .i64 ((p+1+k.size:Nat):Int))
      [(lk,none),(mk,some (eT (rS K))),(rb,some ⟨1,[[.bool (b&&((Fo.cons n k .nil).res K).2)]]⟩),(ob,some ⟨1,[[.own nm 0 (L++((Fo.cons n k .nil).res K).1).length]]⟩),(pb,some ⟨1,[[Q7 v ob rb pb]]⟩),(nm,some ⟨6,(L++((Fo.cons n k .nil).res K).1).map aV⟩)]
def K5 (v:List Nd)(hv:v.length<=512)(ob rb pb:Nat)(d1:ob≠pb)(d2:ob≠rb)(d3:rb≠pb)(n:Nd)(hk:n.kind=2):yV v ob rb pb n .nil:=by
 intro p K r L b lk mk M nm hvd hL e1 e2 e3 e4 e5 e6 e7 hmk hrb hob hlk hpb ho l1 l2 l3 l4 l5
 obtain⟨hx,_,hp⟩:=eS hvd
 have hat:=iL hx
 have hpi:(p:Int)<(v.length:Int):=by omega
 have hkb:((n.kind:Int)==2)=true:=by rw[hk];rfl
 have hres:(Fo.cons n .nil .nil).res K=([n],true):=by simp[Fo.res,hk]
 have hw1:IntKind.i64.wrap ((p:Int)+1)=((p+1:Nat):Int):=bd
 rw[hres]
 simp only[Fo.size,Nat.add_zero,Bool.and_true]at hL ⊢
 have hsn:=sJ L n
 have hll:(L++[n]).length=L.length+1:=by simp
 rw[hll]
 have G:=Ai (apart (show nm≠ob by omega)) (Ai (apart (show nm≠pb by omega)) (Ai (apart (show nm≠rb by omega)) (apart (show nm≠mk by omega))))
 unfold Q7 at hpb ⊢
 have Z:=Ai (apart d1) (Ai (apart d2) (Ai (apart d3) (Ai (apart e1) (Ai (apart e2) (Ai (apart e3) (Ai (apart e4) (Ai (apart e5) (Ai (apart e6) (apart e7)))))))))
 refine bh call106 func106 rfl (by kernel_rfl) rfl ?_;intro b0 hb0
 have U:=Ai (under (fm hb0 (by rw[hob];rfl))) (Ai (under (fm hb0 (by rw[hlk];rfl))) (Ai (under (fm hb0 (by rw[hpb];rfl))) (Ai (under (fm hb0 (by rw[hrb];rfl))) (under (fm hb0 (by rw[hmk];rfl))))))
 repeat' first|simp only[ak,ag,results106,ntmps106,al,hat,aV,hkb,hp,hpi,hob,hlk,hpb,hrb,hmk,hw1,hsn,fM,ad,aq,Z,U,Lm,ai,seval,ah]|exact rfl|refine aa (v:=.any) ?_|((first|apply Ca|apply Cb)<;>intro hb)|refine Ai (by omega) ?_|(apply Ai<;>intro hb)
 all_goals ((refine Fin.give [(mk,none),(rb,none),(ob,none),(pb,none),(b0+208,some 0)] [lk] ?_ ?_ ?_ ?_ ?_ (aL ho (by simp[aP,tgt]))<;>(try simp only[results106,ntmps106,al,hob,hlk,hpb,hrb,hmk,G,Z,U,ad,cC,bv,Bool.and_self,Bool.and_false,Bool.false_and,Lm,dx,ai,seval,ah])<;>(try simp only[ap])<;>(try omega)))
structure ReSt where
 R:Fo
 c:Nat
 q:Nat
 L:List Nd
 b:Bool
def Fo.res_len:∀(F:Fo) (K:kw),(F.res K).1.length<=F.size
 | .nil,_=>Nat.le_refl _
 | .cons n k r,K=>by
  have h1:=k.res_len (jh K true n.attrs).1;have h2:=r.res_len K
  simp only[Fo.res,Fo.size]
  split
  ·simp only[List.length_cons];omega
  ·simp only[List.length_cons,List.length_append];omega
def K3 (v:List Nd)(hv:v.length<=512)(ob rb pb:Nat)(d1:ob≠pb)(d2:ob≠rb)(d3:rb≠pb)(n:Nd)(k:Fo)(hn:n.okTo 1000000)(ha16:n.attrs.length<=16)(hk:n.kind≠2)(hm:n.many=(k.count:Int))(ih:Bu (yV v ob rb pb) k):yV v ob rb pb n k:=by
 intro p K r L b lk mk M nm hvd hL e1 e2 e3 e4 e5 e6 e7 hmk hrb hob hlk hpb ho l1 l2 l3 l4 l5
 obtain⟨hx,hvd1,hp⟩:=eS hvd
 have hat:=iL hx
 have hpi:(p:Int)<(v.length:Int):=by omega
 have hkb:((n.kind:Int)==2)=false:=beq_false_of_ne (by omega)
 have hw1:IntKind.i64.wrap ((p:Int)+1)=((p+1:Nat):Int):=bd
 have hrF:(b&&((Fo.cons n k .nil).res K).2)=(((jh K b n.attrs).2&&(kU (jh K b n.attrs).1 n).2)&&(k.res (jh K b n.attrs).1).2):=by rw[OY];simp[Fo.res,hk,Bool.and_assoc]
 have hrT:((Fo.cons n k .nil).res K).1=(kU (jh K b n.attrs).1 n).1::(k.res (jh K b n.attrs).1).1:=by rw[OY];simp[Fo.res,hk]
 rw[hrF,hrT]
 clear hrF hrT
 have hcs:=k.cnt_size
 have G:=Ai (apart (show nm≠ob by omega)) (Ai (apart (show nm≠pb by omega)) (Ai (apart (show nm≠rb by omega)) (apart (show nm≠mk by omega))))
 unfold Q7 at hpb ⊢
 have Z:=Ai (apart d1) (Ai (apart d2) (Ai (apart d3) (Ai (apart e1) (Ai (apart e2) (Ai (apart e3) (Ai (apart e4) (Ai (apart e5) (Ai (apart e6) (apart e7)))))))))
 refine bh call106 func106 rfl (by kernel_rfl) rfl ?_;intro b0 hb0;have zF:=Ai results106 ntmps106
 have U:=Ai (under (fm hb0 (by rw[hob];rfl))) (Ai (under (fm hb0 (by rw[hlk];rfl))) (Ai (under (fm hb0 (by rw[hpb];rfl))) (Ai (under (fm hb0 (by rw[hrb];rfl))) (under (fm hb0 (by rw[hmk];rfl))))))
 have k5:=aB hb0 hmk
 have k1:=aB hb0 hob
 have k2:=aB hb0 hrb
 have k3:=aB hb0 hpb
 have k4:=aB hb0 hlk
 repeat' first|simp only[ak,ag,zF,al,hat,aV,hkb,hp,hpi,hob,hlk,hpb,hrb,hmk,fM,ad,aq,Z,U,au,Lm,ai,seval,ah]|exact rfl|refine aa (v:=.any) ?_|(refine ac ?_ [mk] (CW _ K _ _ ?_ aj (by omega)) ?_ ?_)|((first|apply Ca|apply Cb)<;>intro hb)|refine Ai (by omega) ?_|(apply Ai<;>intro hb)
 (refine aQ bM (fun x:Nat=>n.attrs.length-x) (fun x=>x<=n.attrs.length) (b0+16) (fun x=>[(0,.int .i64 p),(1,.mp (b0+1)),(3,.ptr ob 0 0),(4,.ptr rb 0 0),(5,.ptr pb 0 0),(9,.ptr b0 0 0),(33,.sl false 3 (n.attrs.map b9)),(34,.int .i64 n.attrs.length),(35,.int .i64 x)]) (fun x=>[(b0,⟨6,[aV n]⟩),(b0+1,eT (rS (jh K b (n.attrs.take x)).1)),(rb,⟨1,[[.bool (jh K b (n.attrs.take x)).2]]⟩),(ob,⟨1,[[.own lk 0 L.length]]⟩),(lk,⟨6,L.map aV⟩),(pb,⟨1,[[.fn 106 [.rp [.sl false 6 (v.map aV)],.ptr ob 0 0,.ptr rb 0 0,.ptr pb 0 0]]]⟩),(mk,eT (rS K))]) (0) [some (b0+80),some (b0+176),some rb,some ob,some lk,some pb,some mk] ?_ ?_ ?_ ?_;rotate_left 1;(focus (show b0<=_;omega));(focus (refine⟨?_,?_⟩<;>(try simp only[aX,aV,hob,hlk,hpb,hrb,hmk,jh,List.foldl_nil,List.take_zero,ad,aq,cC,bv,aJ,Z,U,Bool.and_self,Bool.and_false,Bool.false_and,Lm,ai,seval,ah,ap])<;>(try omega)));rotate_left 1)
 ·exact Nat.zero_le _
 ·intro i hi
  by_cases hlt:i<n.attrs.length
  ·obtain⟨a,ha⟩:∃ a,n.attrs[i]? = some a:=⟨_,List.getElem?_eq_getElem hlt⟩
   have haa:=vS ha
   have hok:=hn.2.2.2.2 a (List.mem_of_getElem? ha)
   have q1:decide ((i:Int)<(n.attrs.length:Int))=true:=bR
   have q2:decide (i<n.attrs.length)=true:=decide_eq_true hlt
   have hwk:IntKind.i64.wrap ((i:Int)+1)=((i+1:Nat):Int):=bd
   have hst:=JH (K:=K) (r:=b) ha
   have hde:=fun nm=>rN a (by have:=hok.2.1;unfold bc;omega) nm
   rw[zw]at hde
   unfold b9 at hde
   generalize hA:jh K b (n.attrs.take i)=acc at hst
   obtain⟨K2,b2⟩:=acc
   unfold CR at hst
   cases hd:fp a.name with
   | none =>
    rw[hd]at hst hde
    repeat' first|simp only[ak,ag,zF,al,haa,b9,hlt,q1,q2,hwk,hA,Z,U,Option.isSome_none,ad,aq,Lm,ai,seval,ah]|exact rfl|refine aa (v:=.any) ?_|(first|(refine ae ?_ (hde _) ?_)|(refine ab ?_ (fun _=>hde _) ?_))|((first|apply Ca|apply Cb)<;>intro hb)|refine Ai (by omega) ?_|(apply Ai<;>intro hb)
    all_goals ((refine aC bM (i+1) [some b0,some (b0+1),some rb,some ob,some lk,some pb,some mk] ?_ ?_ ?_ ?_;rotate_left 2;(focus (show b0<=_;omega));(focus (refine⟨?_,?_⟩<;>(try simp only[aX,hst,hA,hwk,aV,Z,U,ad,aq,cC,bv,aJ,Bool.and_self,Bool.and_false,Bool.false_and,Lm,ai,seval,ah,ap])<;>(try omega)))))
    all_goals (first|(show n.attrs.length-(i+1)<n.attrs.length-i;omega)|exact hlt|skip)
   | some pf =>
    rw[hd]at hst hde
    simp only at hst
    have hmy:=fun nm=>NN pf a.value nm
    generalize AD pf a.value=my at hst hmy
    repeat' first|simp only[ak,ag,zF,al,haa,b9,hlt,q1,q2,hwk,hA,Z,U,Option.isSome_some,Option.getD_some,ad,aq,Lm,ai,seval,ah]|exact rfl|refine aa (v:=.any) ?_|(first|(refine ae ?_ (hde _) ?_)|(refine ab ?_ (fun _=>hde _) ?_)|(refine ae ?_ (hmy _) ?_)|(refine ab ?_ (fun _=>hmy _) ?_))|(refine HO (b0+1) K2 (p:=?_) (v:=?_) ?_ ?_ ?_ ?_ ?_;rotate_left 2;iterate 4 (focus (simp only[zF,al,haa,b9,hlt,q1,q2,hwk,hA,Z,U,Option.isSome_some,Option.getD_some,ad,aq,Lm,ai,seval,ah]<;>exact rfl)))|((first|apply Ca|apply Cb)<;>intro hb)|refine Ai (by omega) ?_|(apply Ai<;>intro hb)
    all_goals ((refine aC bM (i+1) [some b0,some (b0+1),some rb,some ob,some lk,some pb,some mk] ?_ ?_ ?_ ?_;rotate_left 2;(focus (show b0<=_;omega));(focus (refine⟨?_,?_⟩<;>(try simp only[aX,hst,hA,hwk,aV,Z,U,ad,aq,cC,bv,aJ,Bool.and_self,Bool.and_false,Bool.false_and,Lm,ai,seval,ah,ap])<;>(try omega)))))
    all_goals (first|(show n.attrs.length-(i+1)<n.attrs.length-i;omega)|exact hlt|skip)
  ·have hie:i=n.attrs.length:=by omega
   subst hie
   have q1:decide ((n.attrs.length:Int)<(n.attrs.length:Int))=false:=bm
   have q2:decide (n.attrs.length<n.attrs.length)=false:=bm
   simp only[List.take_length]
   generalize jh K b n.attrs=KB
   obtain⟨K2,b1⟩:=KB
   have hnm:=fun (M':am) (m:Nat) h1 h2 h3=>Qw n K2 hn (by omega) (b0+1) M' m h1 h2 h3
   generalize kU K2 n=N at hnm ⊢
   obtain⟨n1,b2⟩:=N
   dsimp only at hnm ⊢
   have hsn:=sJ L n1
   have hll:(L++[n1]).length=L.length+1:=by simp
   unfold aV at hnm
   repeat' first|simp only[ak,ag,zF,al,q1,q2,aV,hw1,hm,hsn,fM,ad,aq,Z,U,Lm,ai,seval,ah]|exact rfl|refine aa (v:=.any) ?_|(refine ac ?_ [b0+1] (hnm _ _ ?_ aj (by omega)) ?_ ?_)|((first|apply Ca|apply Cb)<;>intro hb)|refine Ai (by omega) ?_|(apply Ai<;>intro hb)
   (refine aQ bM (fun x:ReSt=>x.R.size) (fun x=>Bu (yV v ob rb pb) x.R/\x.c+x.R.count=k.count/\(∃ r',v.drop x.q=x.R.flat++r')/\x.q+x.R.size=p+1+k.size/\x.L++(x.R.res K2).1=L++n1::(k.res K2).1/\x.L.length+x.R.size<=600/\(x.b&&(x.R.res K2).2)=((b1&&b2)&&(k.res K2).2)) (b0+16) (fun x=>[(1,.mp b0),(5,.ptr pb 0 0),(16,.int .i64 x.q),(75,.int .i64 k.count),(76,.int .i64 x.c)]) (fun x=>[(b0,eT (rS K2)),(rb,⟨1,[[.bool x.b]]⟩),(ob,⟨1,[[.own (b0+1) 0 x.L.length]]⟩),(b0+1,⟨6,x.L.map aV⟩),(pb,⟨1,[[.fn 106 [.rp [.sl false 6 (v.map aV)],.ptr ob 0 0,.ptr rb 0 0,.ptr pb 0 0]]]⟩),(mk,eT (rS K))]) (⟨k,0,p+1,L++[n1],b1&&b2⟩) [some (b0+1),some rb,some ob,some (b0+288),some pb,some mk] ?_ ?_ ?_ ?_;rotate_left 1;(focus (show b0<=_;omega));(focus (refine⟨?_,?_⟩<;>(try simp only[aX,hll,aV,ad,aq,cC,bv,aJ,Z,U,Bool.and_self,Bool.and_false,Bool.false_and,Lm,ai,seval,ah,ap])<;>(try omega)));rotate_left 1)
   ·exact⟨ih,Nat.zero_add _,⟨r,hvd1⟩,rfl,by simp,by simp only[hll];omega,rfl⟩
   ·rintro ⟨R,c,q,Lx,bx⟩ ⟨i1,i2,⟨r',i3⟩,i4,i5,i6,i7⟩
    dsimp only at i1 i2 i3 i4 i5 i6 i7 ⊢
    cases R with
    | nil =>
     simp only[Fo.size,Fo.count,Nat.add_zero]at i4 i2
     subst i4;subst i2
     simp only[Fo.res,List.append_nil,Bool.and_true]at i5 i7
     rw[<- i5,<- i7]
     have q1:decide ((k.count:Int)<(k.count:Int))=false:=bm
     have q2:decide (k.count<k.count)=false:=bm
     repeat' first|simp only[ak,ag,zF,al,q1,q2,ad,aq,Z,U,Lm,ai,seval,ah]|exact rfl|refine aa (v:=.any) ?_|((first|apply Ca|apply Cb)<;>intro hb)|refine Ai (by omega) ?_|(apply Ai<;>intro hb)
     all_goals ((refine Fin.give [(mk,none),(rb,none),(ob,none),(pb,none),(b0+1,some 0)] [lk] ?_ ?_ ?_ ?_ ?_ (aL ho (by simp[aP,tgt]))<;>(try simp only[zF,al,hob,hlk,hpb,hrb,hmk,G,Z,U,ad,cC,bv,Bool.and_self,Bool.and_false,Bool.false_and,Lm,dx,ai,seval,ah])<;>(try simp only[ap])<;>(try omega)))
    | cons u2 j2 R2 =>
     obtain⟨hp2,hr2⟩:=i1
     have hd2:v.drop q=u2::(j2.flat++(R2.flat++r')):=by rw[i3];simp[Fo.flat]
     have hb2:((Fo.cons u2 j2 R2).res K2).1=((Fo.cons u2 j2 .nil).res K2).1++(R2.res K2).1:=by
      simp only[Fo.res]
      split<;>simp
     have hb3:((Fo.cons u2 j2 R2).res K2).2=(((Fo.cons u2 j2 .nil).res K2).2&&(R2.res K2).2):=by
      simp only[Fo.res]
      split<;>simp
     rw[hb2,<- List.append_assoc]at i5
     rw[hb3,<- Bool.and_assoc]at i7
     simp only[Fo.size,Fo.count]at i4 i2 i6
     have q1:decide ((c:Int)<(k.count:Int))=true:=bR
     have q2:decide (c<k.count)=true:=bR
     have hwc:IntKind.i64.wrap ((c:Int)+1)=((c+1:Nat):Int):=bd
     have hcall:=fun (M':am) a0 a1 a2 a3 a4 a5 (m:Nat) l1 l2 l3 l4 l5=>hp2 q K2 (R2.flat++r') Lx bx (b0+1) b0 M' m hd2 (by omega) (by omega) (by omega) (by omega) (by omega) (by omega) (by omega) (by omega) a0 a1 a2 a3 a4 a5 l1 l2 l3 l4 l5
     unfold Q7 at hcall
     have hd3:v.drop (q+1+j2.size)=R2.flat++r':=by
      have:=nF (v:=v) (p:=q) (a:=u2::j2.flat) (r:=R2.flat++r') (by rw[hd2];simp)
      rw[List.length_cons,Fo.flat_length]at this
      rw[show q+1+j2.size=q+(j2.size+1) by omega];exact this
     have hTl:(Lx++((Fo.cons u2 j2 .nil).res K2).1).length+R2.size<=600:=by
      have:=Fo.res_len (.cons u2 j2 .nil) K2
      simp only[Fo.size]at this
      rw[List.length_append];omega
     generalize hT:Lx++((Fo.cons u2 j2 .nil).res K2).1=T at hcall i5 hTl
     generalize hS:(bx&&((Fo.cons u2 j2 .nil).res K2).2)=S2 at hcall i7
     repeat' first|simp only[ak,ag,zF,al,q1,q2,aV,ad,aq,au,cC,bv,Z,U,Lm,ai,seval,ah]|exact rfl|refine aa (v:=.any) ?_|((refine cn (caps:=?_) ?_ ?_ [b0,rb,ob,b0+1,pb] (hcall _ ?_ ?_ ?_ ?_ ?_ aj _ (by omega) (by omega) (by omega) (by omega) (by omega)) ?_ ?_);rotate_left 1)|((first|apply Ca|apply Cb)<;>intro hb)|refine Ai (by omega) ?_|(apply Ai<;>intro hb)
     all_goals ((refine aC bM (ReSt.mk R2 (c+1) (q+1+j2.size) T S2) [some b0,some rb,some ob,some (b0+80),some pb,some mk] ?_ ?_ ?_ ?_;rotate_left 2;(focus (show b0<=_;omega));(focus (refine⟨?_,?_⟩<;>(try simp only[aX,hwc,aV,Z,U,ad,aq,cC,bv,aJ,Bool.and_self,Bool.and_false,Bool.false_and,Lm,ai,seval,ah,ap])<;>(try omega)))))
     all_goals (first|(show R2.size<j2.size+R2.size+1;omega)|exact⟨hr2,by show c+1+R2.count=_;omega,⟨r',hd3⟩,by show q+1+j2.size+R2.size=_;omega,i5,hTl,i7⟩|skip)
def yC (v:List Nd)(hv:v.length<=512)(hok:∀ n∈v,n.okTo 1000000/\n.i64)(ob rb pb:Nat)(d1:ob≠pb)(d2:ob≠rb)(d3:rb≠pb):∀(F:Fo) (d last:Nat),F.good d last=true->(∀ n∈F.flat,n∈v)->Bu (yV v ob rb pb) F
 | .nil,_,_,_,_=>trivial
 | .cons n k r,d,last,h,hin=>by
  obtain⟨h1,h2,h3,h4,h5,h6⟩:=Fo.good_cons.1 h
  have hno:=hok n (hin n (by simp[Fo.flat]))
  refine⟨?_,yC v hv hok ob rb pb d1 d2 d3 r d n.kind h6 (fun x hx=>hin x (by simp[Fo.flat,hx]))⟩
  by_cases hk:n.kind=2
  ·have:=Fo.text_leaf h hk
   subst this
   exact K5 v hv ob rb pb d1 d2 d3 n hk
  ·exact K3 v hv ob rb pb d1 d2 d3 n k hno.1 (jK h1).1 hk h2 (yC v hv hok ob rb pb d1 d2 d3 k (d-1) 1 h5 (fun x hx=>hin x (by simp[Fo.flat,hx])))
end Go.Proofs.YtlnlopnpcmahgaaGreatDoor
