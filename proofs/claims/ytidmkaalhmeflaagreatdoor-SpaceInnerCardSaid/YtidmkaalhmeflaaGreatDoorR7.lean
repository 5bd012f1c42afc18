/-
 Texts joined: XOl,XOm.
-/
import Derived.Test.YtidmkaalhmeflaaGreatDoorR2
import Derived.Test.YtidmkaalhmeflaaGreatDoorQw
import Derived.Test.YtidmkaalhmeflaaGreatDoorR6
import Derived.Test.YtidmkaalhmeflaaGreatDoorQs
namespace Go.Proofs.YtidmkaalhmeflaaGreatDoor
set_option maxRecDepth 100000
set_option maxHeartbeats 32000000
set_option linter.unusedSimpArgs false
set_option linter.unusedVariables false
open Go Go.RowKit Vm Go.Lib Tryz
open Vm renaming aZ→Ca,bj→Cb
open And renaming intro→Ai
open List renaming length_map→Lm,not_mem_nil→Ln,map_nil→Lo,map_cons→Lc,mem_cons→Lk
open Bool renaming not_false→Bf,not_true→Bt
theorem wn:∀(f c:Nat) (v:List Nd),(∀ x∈(R8 f c v).1.flat,x∈v) ∧ ∀ x∈(R8 f c v).2,x∈v
 | 0,_,v=>⟨fun x hx=>by simp[R8,Fo.flat]at hx,fun x hx=>by simpa [R8] using hx⟩
 | _+1,0,v=>⟨fun x hx=>by simp[R8,Fo.flat]at hx,fun x hx=>by simpa [R8] using hx⟩
 | _+1,_+1,[]=>⟨fun x hx=>by simp[R8,Fo.flat]at hx,fun x hx=>by simp[R8]at hx⟩
 | f+1,c+1,n::v=>by
  obtain⟨a1,a2⟩:=wn f n.many.toNat v
  obtain⟨b1,b2⟩:=wn f c (R8 f n.many.toNat v).2
  simp only[R8,Fo.flat,Lk,List.mem_append]
  refine⟨fun x hx=>?_,fun x hx=>.inr (a2 x (b2 x hx))⟩
  rcases hx with h|h|h
  ·exact .inl h
  ·exact .inr (a1 x h)
  ·exact .inr (a2 x (b1 x h))
theorem SW (v:List Nd):∀ x∈(RT v).flat,x∈v:=(wn _ _ v).1
def In (B:Nat)(K:KnT):Prop:=∀ p v,dS p K=some v→v.length≤B
theorem Qc {B:Nat}(hB:100≤B):In B R4:=fun p v h=>by
 unfold R4 at h
 simp only[dS]at h
 split at h
 ·cases h;simp
 ·split at h
  ·cases h;exact Nat.le_trans (by decide) hB
  ·cases h
theorem SC {B:Nat} : ∀(l:List At) (K:KnT) (r:Bool),In B K→(∀ a∈l,a.value.length≤B)→In B (Ry K r l).1
 | [],_,_,h,_=>h
 | a::l,K,r,h,hl=>by
  unfold Ry
  rw[List.foldl_cons]
  have hK:In B (ug (K,r) a).1:=by
   unfold ug
   cases Rv a.name with
   | none=>exact h
   | some p =>
    intro q v hq
    rw[get_put]at hq
    split at hq
    ·cases hq;exact hl a (List.mem_cons_self ..)
    ·exact h q v hq
  exact SC l _ (ug (K,r) a).2 hK (fun b hb=>hl b (List.mem_cons_of_mem _ hb))
theorem SH (s:List UInt8):(Rs s).2.length≤s.length:=by
 unfold Rs
 cases h:dP 58 s with
 | none=>exact Nat.le_refl _
 | some p=>obtain⟨a,b⟩:=p;have:=(eG h).1;rw[this];simp;omega
theorem SQ {B:Nat}{K:KnT}(h:In B K)(p:List UInt8):((dS p K).getD []).length≤B:=by
 cases hg:dS p K with
 | none=>simp
 | some v=>simpa using h p v hg
theorem QB {B:Nat}{K:KnT}(hK:In B K):∀(l:List At) (s:List At×Bool),(∀ a∈s.1,a.space.length≤B∧a.name.length≤B∧a.value.length≤B)→(∀ a∈l,a.space.length≤B∧a.name.length≤B∧a.value.length≤B) →
  ∀ a∈(l.foldl (Sy K) s).1,a.space.length≤B∧a.name.length≤B∧a.value.length≤B
 | [],_,hs,_=>hs
 | x::l,s,hs,hl=>by
  rw[List.foldl_cons]
  refine QB hK l _ ?_ (fun b hb=>hl b (List.mem_cons_of_mem _ hb))
  unfold Sy
  cases Rv x.name with
  | some p=>exact hs
  | none =>
   intro a ha
   rcases List.mem_append.1 ha with h|h
   ·exact hs a h
   ·have:=List.mem_singleton.1 h;subst this
    obtain⟨q1,q2,q3⟩:=hl x (List.mem_cons_self ..)
    unfold RK
    split
    ·exact⟨SQ hK _,Nat.le_trans (SH _) q2,q3⟩
    ·exact⟨by simp,q2,q3⟩
theorem Fo.res_fit {B:Nat}(hB:100≤B):∀(F:Fo) (K:KnT),In B K→(∀ n∈F.flat,n.okTo B∧n.i64) → ∀ x∈(F.res K).1,x.okTo B∧x.i64
 | .nil,_,_,_=>fun x hx=>by simp[Fo.res]at hx
 | .cons n k r,K,hK,hok=>by
  simp only[Fo.flat,Lk,List.mem_append]at hok
  have hr:=Fo.res_fit hB r K hK (fun x hx=>hok x (.inr (.inr hx)))
  simp only[Fo.res]
  split
  ·intro x hx
   rcases List.mem_cons.1 hx with e|hx
   ·subst e;exact hok _ (.inl rfl)
   ·exact hr x hx
  ·have hn:=hok n (.inl rfl)
   have hK2:=SC n.attrs K true hK (fun a ha=>(hn.1.2.2.2.2 a ha).2.2)
   have hk:=Fo.res_fit hB k _ hK2 (fun x hx=>hok x (.inr (.inl hx)))
   intro x hx
   rcases List.mem_cons.1 hx with e|hx
   ·subst e
    have hlen:=SM (Ry K true n.attrs).1 n.attrs ([],(dS (Rs n.name).1 (Ry K true n.attrs).1).isSome)
    refine⟨⟨?_,SQ hK2 _,Nat.le_trans (SH _) hn.1.2.2.1,by simp[RA],fun a ha=>?_⟩,hn.2⟩
    ·have:=hn.1.1
     unfold RA S0;simp only[List.length_nil]at hlen;simp only;omega
    ·exact QB hK2 n.attrs _ (by simp) (fun a ha=>hn.1.2.2.2.2 a ha) a ha
   ·rcases List.mem_append.1 hx with hx|hx
    ·exact hk x hx
    ·exact hr x hx
theorem res_fit {v:List Nd}{B:Nat}(hB:100≤B)(hok:∀ n∈v,n.okTo B∧n.i64):∀ x∈(Rq v).1,x.okTo B∧x.i64:=by
 unfold Rq
 split
 ·intro x hx;cases hx
 ·split
  ·intro x hx;cases hx
  ·split
   ·exact Fo.res_fit hB _ _ (Qc hB) (fun x hx=>hok x (SW v x hx))
   ·intro x hx;cases hx
theorem yC (n:Nat):(dR n).length≤2:=by unfold dR;split<;>simp
theorem QI {n:Nd}{sp:List UInt8}{B:Nat}(hok:n.okTo B∧n.i64):(bE n sp).space=[]∧(bE n sp).name.length≤B+50∧(bE n sp).text=[]∧(bE n sp).i64 ∧ ∀ a∈(bE n sp).attrs,a.space.length≤B+50∧a.name.length≤B+50∧a.value.length≤B+50:=by
 obtain⟨⟨_,h2,h3,_,h5⟩,h6⟩:=hok
 refine⟨rfl,by show n.name.length≤_;omega,rfl,h6,fun a ha=>?_⟩
 unfold bE at ha
 rcases List.mem_append.1 ha with ha|ha
 ·rcases List.mem_append.1 ha with ha|ha
  ·unfold SI at ha
   split at ha
   ·cases ha
   ·have:=List.mem_singleton.1 ha;subst this;exact⟨by simp,by simp,by show n.space.length≤_;omega⟩
  ·unfold Rx at ha
   obtain⟨i,hi,rfl⟩:=List.mem_mapIdx.1 ha
   have hs:((Rr n.attrs)[i]).length≤B:=by
    rcases P4 _ (List.getElem_mem hi) with h|⟨b,hb,e,_⟩
    ·cases h
    ·rw[← e];exact(h5 b hb).1
   have:=yC (i+1)
   exact⟨by simp[Sd],by simp only[Sd,List.length_append,List.length_cons,List.length_nil];omega,by simp only[Sd];omega⟩
 ·obtain⟨b,hb,rfl⟩:=List.mem_map.1 ha
  obtain⟨q1,q2,q3⟩:=h5 b hb
  refine⟨by simp[RC],?_,by show b.value.length≤_;omega⟩
  unfold RC
  split
  ·exact Nat.le_trans q2 (by omega)
  ·have:(RP (Rr n.attrs) b.space).length≤3:=by
    unfold RP
    split
    ·simp
    ·have:=yC (Q0 (Rr n.attrs) b.space+1);simp only[List.length_cons];omega
   simp only[List.length_append,List.length_cons];omega
theorem Fo.bare_fit {B:Nat} : ∀(F:Fo) (sp:List UInt8),(∀ n∈F.flat,n.okTo B∧n.i64) → ∀ x∈F.bare sp,x.space.length≤B+50∧x.name.length≤B+50∧x.text.length≤B+50∧x.i64 ∧ ∀ a∈x.attrs,a.space.length≤B+50∧a.name.length≤B+50∧a.value.length≤B+50
 | .nil,_,_=>fun x hx=>by simp[Fo.bare]at hx
 | .cons n k r,sp,hok=>by
  simp only[Fo.flat,Lk,List.mem_append]at hok
  have hr:=Fo.bare_fit r sp (fun x hx=>hok x (.inr (.inr hx)))
  have hk:=Fo.bare_fit k n.space (fun x hx=>hok x (.inr (.inl hx)))
  have hn:=hok n (.inl rfl)
  simp only[Fo.bare]
  intro x hx
  rcases List.mem_append.1 hx with hx|hx
  ·split at hx
   ·have:=List.mem_singleton.1 hx;subst this
    obtain⟨⟨_,h2,h3,h4,h5⟩,h6⟩:=hn
    exact⟨by omega,by omega,by omega,h6,fun a ha=>by obtain⟨q1,q2,q3⟩:=h5 a ha;exact⟨by omega,by omega,by omega⟩⟩
   ·rcases List.mem_cons.1 hx with e|hx
    ·subst e
     obtain⟨t1,t2,t3,t4,t5⟩:=QI (sp:=sp) hn
     exact⟨by rw[t1];simp,t2,by rw[t3];simp,t4,t5⟩
    ·exact hk x hx
  ·exact hr x hx
theorem bare_fit {v:List Nd}{sp:List UInt8}{B:Nat}(hok:∀ n∈v,n.okTo B∧n.i64):∀ x∈(Rp v sp).1,x.okTo (B+50)∧x.i64:=by
 unfold Rp
 split
 ·intro x hx;cases hx
 ·split
  ·intro x hx;cases hx
  ·split
   ·intro x hx;cases hx
   ·rename_i h3
    intro x hx
    obtain⟨h4,h5,h6,h7,h8⟩:=Fo.bare_fit (RT v) sp (fun x hx=>hok x (SW v x hx)) x hx
    have h16:=List.any_eq_false.1 (Bool.not_eq_true _ ▸ h3:RZ _=false) x hx
    simp only[decide_eq_true_eq]at h16
    exact⟨⟨by omega,h4,h5,h6,h8⟩,h7⟩
theorem Si:∀(f c:Nat) (v:List Nd),(R8 f c v).1.size+(R8 f c v).2.length≤v.length
 | 0,_,v=>by simp[R8,Fo.size]
 | _+1,0,v=>by simp[R8,Fo.size]
 | _+1,_+1,[]=>by simp[R8,Fo.size]
 | f+1,c+1,n::v=>by
  have a:=Si f n.many.toNat v
  have b:=Si f c (R8 f n.many.toNat v).2
  simp only[R8,Fo.size,List.length_cons]
  omega
theorem So (v:List Nd):(Rq v).1.length≤v.length:=by
 unfold Rq
 split
 ·simp
 ·split
  ·simp
  ·split
   ·have h1:=Fo.res_len (RT v) R4
    have h2:=Si (v.length+1) 1 v
    unfold RT at h1 ⊢
    simp only;omega
   ·simp
theorem RL (v:List Nd)(sp:List UInt8):(Rp v sp).1.length≤v.length:=by
 unfold Rp
 split
 ·simp
 ·split
  ·simp
  ·split
   ·simp
   ·have h1:=Fo.bare_len (RT v) sp
    have h2:=Si (v.length+1) 1 v
    unfold RT at h1 ⊢
    simp only;omega
theorem RV (s:List UInt8)(hs:s.length≤16384)(nm:Nat):Ev cx 71 nm [.str s] aq.nil (.tup [.sl false 6 ((bF s).1.map ba),.bool ((bF s).2==0)]) []:=by
 have hl:=NJ s (by unfold bh;omega)
 unfold LD at hl
 have hfit:=fun h=>zS hs h
 have hbad:=fun h=>((wb s).2 h).1
 have hA:bF s=if (eO s).2.2≠0 then ([],(eO s).2.2) else (dn (eO s).1,cP (eO s).1):=rfl
 rw[hA]
 clear hA
 generalize (eO s).1=L at hl hfit hbad ⊢
 generalize (eO s).2.1=A at hl ⊢
 generalize (eO s).2.2=E at hl hfit hbad ⊢
 by_cases hE:E=0
 ·obtain⟨f1,f2⟩:=hfit hE
  have hp:=yp L f1 f2
  rw[if_neg (by simpa using hE)]
  subst hE
  unfold gw at hp
  have hpl:=ad (dn L)
  refine ay rfl (fun cargs w=>call71 cargs w) func71 rfl mixed (by kernel_rfl) rfl ?_;intro b0 hb0
  (repeat' first|simp only[al,aj,results71,ntmps71,am,hpl,bi,ai,seval,ah]|exact rfl|refine aa (v:=.any) ?_|(first|(refine ac ?_ (hl _) ?_)|(refine ab ?_ (fun _=>hl _) ?_)|(refine ac ?_ (hp _) ?_)|(refine ab ?_ (fun _=>hp _) ?_))|((first|apply Ca|apply Cb)<;>intro hb)|refine Ai (by omega) ?_|(apply Ai<;>intro hb)|refine Fin.pure ?_ ?_ ?_|simp only[au])
 ·rw[if_pos hE]
  have q:(E==0)=false:=by simpa using hE
  have:=hbad hE
  subst this
  have hp:=yp [] (by simp) (fun t ht=>by cases ht)
  have h0:dn []=[]:=by decide
  rw[h0]at hp
  unfold gw at hp
  simp only[q]
  refine ay rfl (fun cargs w=>call71 cargs w) func71 rfl mixed (by kernel_rfl) rfl ?_;intro b0 hb0
  (repeat' first|simp only[al,aj,results71,ntmps71,am,q,bi,ad,Lo,Bt,Bf,ai,seval,ah]|exact rfl|refine aa (v:=.any) ?_|(first|(refine ac ?_ (hl _) ?_)|(refine ab ?_ (fun _=>hl _) ?_)|(refine ac ?_ (hp _) ?_)|(refine ab ?_ (fun _=>hp _) ?_))|((first|apply Ca|apply Cb)<;>intro hb)|refine Ai (by omega) ?_|(apply Ai<;>intro hb)|refine Fin.pure ?_ ?_ ?_|simp only[au])
def R6 (s:List UInt8):Bool:=(((bF s).2==0)&&((Rq (bF s).1).2==110))&&((((Rq (bF s).1).1.length:Nat):Int)==0)
theorem Qw (s:List UInt8)(hs:s.length≤16384)(nm:Nat):Ev cx 26 nm [.str s] aq.nil (.bool (R6 s)) []:=by
 have hp:=RV s hs
 obtain⟨f1,f2⟩:=nw hs
 have hr:=RD (bF s).1 (by unfold bh;omega) f2
 unfold R6
 unfold gw at hr
 generalize (Rq (bF s).1).1=w at hr ⊢
 generalize (Rq (bF s).1).2=e at hr ⊢
 generalize (bF s).1=v at hp hr
 generalize ((bF s).2==0)=b at hp ⊢
 have hpv:=ad v
 have hpw:=ad w
 refine ay rfl (fun cargs w=>call26 cargs w) func26 rfl mixed (by kernel_rfl) rfl ?_;intro b0 hb0
 (repeat' first|simp only[al,aj,results26,ntmps26,am,hpv,hpw,Lm,ai,seval,ah]|exact rfl|refine aa (v:=.any) ?_|(first|(refine ac ?_ (hp _) ?_)|(refine ab ?_ (fun _=>hp _) ?_)|(refine ac ?_ (hr _) ?_)|(refine ab ?_ (fun _=>hr _) ?_))|((first|apply Ca|apply Cb)<;>intro hb)|refine Ai (by omega) ?_|(apply Ai<;>intro hb)|refine Fin.pure ?_ ?_ ?_|simp only[au])
def NW (s back:List UInt8)(want:List Nd):Bool:=(((((((bF s).2==0)&&((bF back).2==0))&&((Rq (bF s).1).2==0))&&((Rp (Rq (bF s).1).1 []).2==0))&&decide ((Rq (bF s).1).1=want))&&decide ((Rp (Rq (bF s).1).1 []).1=(bF back).1))
theorem P5 (s back:List UInt8)(want:List Nd)(hs:s.length≤16384)(hb:back.length≤16384)(hw:want.length≤bh)(hwa:∀ x∈want,x.attrs.length≤bh)(nm:Nat):Ev cx 27 nm [.str s,.str back,.sl false 6 (want.map ba)] aq.nil (.bool (NW s back want)) []:=by
 have hp1:=RV s hs
 have hp2:=RV back hb
 obtain⟨f1,f2⟩:=nw hs
 obtain⟨g1,g2⟩:=nw hb
 have hr:=RD (bF s).1 (by unfold bh;omega) f2
 have hrf:=res_fit (by decide) f2
 have hrl:=So (bF s).1
 have hba:=RI (Rq (bF s).1).1 [] (by unfold bh;omega) hrf (by decide)
 have hbf:=bare_fit (sp:=[]) hrf
 have hbl:=RL (Rq (bF s).1).1 []
 have hs1:=p0 (Rq (bF s).1).1 want (by unfold bh;omega) hw (fun x hx=>by have:=(hrf x hx).1.1;unfold bh;omega) hwa
 have hs2:=p0 (Rp (Rq (bF s).1).1 []).1 (bF back).1 (by unfold bh;omega) (by unfold bh;omega) (fun x hx=>by have:=(hbf x hx).1.1;unfold bh;omega) (fun x hx=>by have:=(g2 x hx).1.1;unfold bh;omega)
 unfold NW
 unfold gw at hr hba
 clear hrf hbf f1 f2 g1 g2 hrl hbl
 generalize (Rp (Rq (bF s).1).1 []).1=x at hba hs2 ⊢
 generalize (Rp (Rq (bF s).1).1 []).2=xe at hba ⊢
 generalize (Rq (bF s).1).1=w at hr hba hs1 ⊢
 generalize (Rq (bF s).1).2=e at hr ⊢
 generalize (bF s).1=v at hp1 hr
 generalize ((bF s).2==0)=b1 at hp1 ⊢
 generalize (bF back).1=y at hp2 hs2 ⊢
 generalize ((bF back).2==0)=b2 at hp2 ⊢
 generalize decide (w=want)=b3 at hs1 ⊢
 generalize decide (x=y)=b4 at hs2 ⊢
 have hpv:=ad v
 have hpw:=ad w
 have hpx:=ad x
 have hpy:=ad y
 have hpz:=ad want
 refine ay rfl (fun cargs w=>call27 cargs w) func27 rfl mixed (by kernel_rfl) rfl ?_;intro b0 hb0
 (repeat' first|simp only[al,aj,results27,ntmps27,am,hpv,hpw,hpx,hpy,hpz,Lm,ai,seval,ah]|exact rfl|refine aa (v:=.any) ?_|((first|(refine ac ?_ (hp1 _) ?_)|(refine ab ?_ (fun _=>hp1 _) ?_)|(refine ac ?_ (hs1 _) ?_)|(refine ab ?_ (fun _=>hs1 _) ?_));(focus (simp only[results27,ntmps27,am,hpv,hpw,hpx,hpy,hpz,Lm,ai,seval,ah]<;>exact rfl)))|((first|(refine ac ?_ (hp2 _) ?_)|(refine ab ?_ (fun _=>hp2 _) ?_)|(refine ac ?_ (hs2 _) ?_)|(refine ab ?_ (fun _=>hs2 _) ?_));(focus (simp only[results27,ntmps27,am,hpv,hpw,hpx,hpy,hpz,Lm,ai,seval,ah]<;>exact rfl)))|(first|(refine ac ?_ (hr _) ?_)|(refine ab ?_ (fun _=>hr _) ?_)|(refine ac ?_ (hba _) ?_)|(refine ab ?_ (fun _=>hba _) ?_))|((first|apply Ca|apply Cb)<;>intro hb)|refine Ai (by omega) ?_|(apply Ai<;>intro hb)|refine Fin.pure ?_ ?_ ?_|simp only[au])
theorem QW (s back:List UInt8)(want:List Nd):NW s back want=(let q:=Hw s;let v:List Nd×Int:=if q.2.2≠0 then ([],q.2.2) else (dn q.1,cP q.1);let q2:=Hw back;let y:List Nd×Int:=if q2.2.2≠0 then ([],q2.2.2) else (dn q2.1,cP q2.1);let w:=Rq v.1;let x:=Rp w.1 [];((((((v.2==0)&&(y.2==0))&&(w.2==0))&&(x.2==0))&&decide (w.1=want))&&decide (x.1=y.1))):=by
 unfold NW bF;rw[wz,wz]
def Q6:List UInt8:=[60,97,32,120,109,108,110,115,61,39,117,39,62,60,112,58,98,32,120,109,108,110,115,58,112,61,39,118,39,32,112,58,99,61,39,49,39,32,100,61,39,50,39,47,62,60,47,97,62]
def Q9:List UInt8:=[60,97,32,120,109,108,110,115,61,39,117,39,62,60,98,32,120,109,108,110,115,61,39,118,39,32,120,109,108,110,115,58,110,49,61,39,118,39,32,110,49,58,99,61,39,49,39,32,100,61,39,50,39,47,62,60,47,97,62]
def QU:List Nd:=[⟨1,[117],[97],[],[],1⟩,⟨1,[118],[98],[⟨[118],[99],[49]⟩,⟨[],[100],[50]⟩],[],0⟩]
theorem Q3:NW Q6 Q9 QU=true:=by rw[QW];decide +kernel
theorem RU (nm:Nat):Ev cx 28 nm [] aq.nil (.bool true) []:=by
 have h1:=P5 Q6 Q9 QU (by decide) (by decide) (by decide) (by decide)
 rw[Q3]at h1
 have hV:QU.map ba=[[.int .u8 1,.str [117],.str [97],.sl false 3 [],.str [],.int .i64 1],[.int .u8 1,.str [118],.str [98],.sl false 3 [[.str [118],.str [99],.str [49]],[.str [],.str [100],.str [50]]],.str [],.int .i64 0]]:=rfl
 unfold Q6 Q9 at h1
 rw[hV]at h1
 refine ay rfl (fun cargs w=>call28 cargs w) func28 rfl mixed (by kernel_rfl) rfl ?_;intro b0 hb0
 repeat' first|simp only[al,aj,results28,ntmps28,am,ai,seval,ah]|exact rfl|refine aa (v:=.any) ?_|((first|apply Ca|apply Cb)<;>intro hb)|refine Ai (by omega) ?_|(apply Ai<;>intro hb)
 refine kB (xs:=?_) [b0+96,b0+64] ?_ (h1 _) ?_ ?_ rfl ?_
 rotate_left 1
 ·simp only[aj,am,ai,seval,ah]<;>exact rfl
 ·simp only[LS,xP,al,aj,am,ei,fh,c8,dK,eB,plainL,V.plain,dA,Lc,Lo,Bool.and_self,Bool.true_and,ai,seval,ah]
 ·simp only[LS,xP,al,aj,am,ei,fh,c8,dK,eB,plainL,V.plain,Lc,Lo,Bool.and_self,Bool.true_and,ai,seval,ah]
 (repeat' first|simp only[al,aj,results28,ntmps28,am,ai,seval,ah]|exact rfl|refine aa (v:=.any) ?_|((first|apply Ca|apply Cb)<;>intro hb)|refine Ai (by omega) ?_|(apply Ai<;>intro hb)|refine Fin.pure ?_ ?_ ?_|simp only[au])
end Go.Proofs.YtidmkaalhmeflaaGreatDoor
