/-
 Texts joined: XOl,XOm.
-/
import Derived.Test.YtcllbjanalhjgaaGreatDoorR2
import Derived.Test.YtcllbjanalhjgaaGreatDoorQw
import Derived.Test.YtcllbjanalhjgaaGreatDoorR6
import Derived.Test.YtcllbjanalhjgaaGreatDoorQs
namespace Go.Proofs.YtcllbjanalhjgaaGreatDoor
set_option maxRecDepth 100000
set_option maxHeartbeats 32000000
set_option linter.unusedSimpArgs false
set_option linter.unusedVariables false
open Go Go.RowKit Vm Go.Lib Tryz
open Vm renaming be→Ca,bo→Cb
open And renaming intro→Ai
open List renaming length_map→Lm,not_mem_nil→Ln,map_nil→Lo,map_cons→Lc,mem_cons→Lk
open Bool renaming not_false→Bf,not_true→Bt
theorem vw:∀(f c:Nat) (v:List Nd),(∀ x∈(pM f c v).1.flat,x∈v) ∧ ∀ x∈(pM f c v).2,x∈v
 | 0,_,v=>⟨fun x hx=>by simp[pM,Fo.flat]at hx,fun x hx=>by simpa [pM] using hx⟩
 | _+1,0,v=>⟨fun x hx=>by simp[pM,Fo.flat]at hx,fun x hx=>by simpa [pM] using hx⟩
 | _+1,_+1,[]=>⟨fun x hx=>by simp[pM,Fo.flat]at hx,fun x hx=>by simp[pM]at hx⟩
 | f+1,c+1,n::v=>by
  obtain⟨a1,a2⟩:=vw f n.many.toNat v
  obtain⟨b1,b2⟩:=vw f c (pM f n.many.toNat v).2
  simp only[pM,Fo.flat,Lk,List.mem_append]
  refine⟨fun x hx=>?_,fun x hx=>.inr (a2 x (b2 x hx))⟩
  rcases hx with h|h|h
  ·exact .inl h
  ·exact .inr (a1 x h)
  ·exact .inr (a2 x (b1 x h))
theorem xq (v:List Nd):∀ x∈(p0 v).flat,x∈v:=(vw _ _ v).1
def yZ (B:Nat)(K:kS):Prop:=∀ p v,fx p K=some v→v.length≤B
theorem Dp {B:Nat}(hB:100≤B):yZ B wC:=fun p v h=>by
 unfold wC at h
 simp only[fx]at h
 split at h
 ·cases h;simp
 ·split at h
  ·cases h;exact Nat.le_trans (by decide) hB
  ·cases h
theorem uu {B:Nat} : ∀(l:List At) (K:kS) (r:Bool),yZ B K→(∀ a∈l,a.value.length≤B)→yZ B (o5 K r l).1
 | [],_,_,h,_=>h
 | a::l,K,r,h,hl=>by
  unfold o5
  rw[List.foldl_cons]
  have hK:yZ B (FY (K,r) a).1:=by
   unfold FY
   cases fV a.name with
   | none=>exact h
   | some p =>
    intro q v hq
    rw[get_put]at hq
    split at hq
    ·cases hq;exact hl a (List.mem_cons_self ..)
    ·exact h q v hq
  exact uu l _ (FY (K,r) a).2 hK (fun b hb=>hl b (List.mem_cons_of_mem _ hb))
theorem uV (s:List UInt8):(dA s).2.length≤s.length:=by
 unfold dA
 cases h:dH 58 s with
 | none=>exact Nat.le_refl _
 | some p=>obtain⟨a,b⟩:=p;have:=(ek h).1;rw[this];simp;omega
theorem xw {B:Nat}{K:kS}(h:yZ B K)(p:List UInt8):((fx p K).getD []).length≤B:=by
 cases hg:fx p K with
 | none=>simp
 | some v=>simpa using h p v hg
theorem Gy {B:Nat}{K:kS}(hK:yZ B K):∀(l:List At) (s:List At×Bool),(∀ a∈s.1,a.space.length≤B∧a.name.length≤B∧a.value.length≤B)→(∀ a∈l,a.space.length≤B∧a.name.length≤B∧a.value.length≤B) →
  ∀ a∈(l.foldl (HC K) s).1,a.space.length≤B∧a.name.length≤B∧a.value.length≤B
 | [],_,hs,_=>hs
 | x::l,s,hs,hl=>by
  rw[List.foldl_cons]
  refine Gy hK l _ ?_ (fun b hb=>hl b (List.mem_cons_of_mem _ hb))
  unfold HC
  cases fV x.name with
  | some p=>exact hs
  | none =>
   intro a ha
   rcases List.mem_append.1 ha with h|h
   ·exact hs a h
   ·have:=List.mem_singleton.1 h;subst this
    obtain⟨q1,q2,q3⟩:=hl x (List.mem_cons_self ..)
    unfold pS
    split
    ·exact⟨xw hK _,Nat.le_trans (uV _) q2,q3⟩
    ·exact⟨by simp,q2,q3⟩
theorem Fo.res_fit {B:Nat}(hB:100≤B):∀(F:Fo) (K:kS),yZ B K→(∀ n∈F.flat,n.okTo B∧n.i64) → ∀ x∈(F.res K).1,x.okTo B∧x.i64
 | .nil,_,_,_=>fun x hx=>by simp[Fo.res]at hx
 | .cons n k r,K,hK,hok=>by
  simp only[Fo.flat,Lk,List.mem_append]at hok
  have hr:=Fo.res_fit hB r K hK (fun x hx=>hok x (.inr (.inr hx)))
  simp only[Fo.res]
  split
  ·intro x hx
   rcases List.mem_cons.1 hx with e|hx
   ·subst e;exact hok _ (.inl rfl)
   ·exact hr x hx
  ·have hn:=hok n (.inl rfl)
   have hK2:=uu n.attrs K true hK (fun a ha=>(hn.1.2.2.2.2 a ha).2.2)
   have hk:=Fo.res_fit hB k _ hK2 (fun x hx=>hok x (.inr (.inl hx)))
   intro x hx
   rcases List.mem_cons.1 hx with e|hx
   ·subst e
    have hlen:=v6 (o5 K true n.attrs).1 n.attrs ([],(fx (dA n.name).1 (o5 K true n.attrs).1).isSome)
    refine⟨⟨?_,xw hK2 _,Nat.le_trans (uV _) hn.1.2.2.1,by simp[ko],fun a ha=>?_⟩,hn.2⟩
    ·have:=hn.1.1
     unfold ko As;simp only[List.length_nil]at hlen;simp only;omega
    ·exact Gy hK2 n.attrs _ (by simp) (fun a ha=>hn.1.2.2.2.2 a ha) a ha
   ·rcases List.mem_append.1 hx with hx|hx
    ·exact hk x hx
    ·exact hr x hx
theorem res_fit {v:List Nd}{B:Nat}(hB:100≤B)(hok:∀ n∈v,n.okTo B∧n.i64):∀ x∈(bq v).1,x.okTo B∧x.i64:=by
 unfold bq
 split
 ·intro x hx;cases hx
 ·split
  ·intro x hx;cases hx
  ·split
   ·exact Fo.res_fit hB _ _ (Dp hB) (fun x hx=>hok x (xq v x hx))
   ·intro x hx;cases hx
theorem xZ (n:Nat):(iE n).length≤2:=by unfold iE;split<;>simp
theorem Hk {n:Nd}{sp:List UInt8}{B:Nat}(hok:n.okTo B∧n.i64):(fl n sp).space=[]∧(fl n sp).name.length≤B+50∧(fl n sp).text=[]∧(fl n sp).i64 ∧ ∀ a∈(fl n sp).attrs,a.space.length≤B+50∧a.name.length≤B+50∧a.value.length≤B+50:=by
 obtain⟨⟨_,h2,h3,_,h5⟩,h6⟩:=hok
 refine⟨rfl,by show n.name.length≤_;omega,rfl,h6,fun a ha=>?_⟩
 unfold fl at ha
 rcases List.mem_append.1 ha with ha|ha
 ·rcases List.mem_append.1 ha with ha|ha
  ·unfold JV at ha
   split at ha
   ·cases ha
   ·have:=List.mem_singleton.1 ha;subst this;exact⟨by simp,by simp,by show n.space.length≤_;omega⟩
  ·unfold lb at ha
   obtain⟨i,hi,rfl⟩:=List.mem_mapIdx.1 ha
   have hs:((bz n.attrs)[i]).length≤B:=by
    rcases Jp _ (List.getElem_mem hi) with h|⟨b,hb,e,_⟩
    ·cases h
    ·rw[← e];exact(h5 b hb).1
   have:=xZ (i+1)
   exact⟨by simp[zp],by simp only[zp,List.length_append,List.length_cons,List.length_nil];omega,by simp only[zp];omega⟩
 ·obtain⟨b,hb,rfl⟩:=List.mem_map.1 ha
  obtain⟨q1,q2,q3⟩:=h5 b hb
  refine⟨by simp[wh],?_,by show b.value.length≤_;omega⟩
  unfold wh
  split
  ·exact Nat.le_trans q2 (by omega)
  ·have:(ym (bz n.attrs) b.space).length≤3:=by
    unfold ym
    split
    ·simp
    ·have:=xZ (Nj (bz n.attrs) b.space+1);simp only[List.length_cons];omega
   simp only[List.length_append,List.length_cons];omega
theorem Fo.bare_fit {B:Nat} : ∀(F:Fo) (sp:List UInt8),(∀ n∈F.flat,n.okTo B∧n.i64) → ∀ x∈F.bare sp,x.space.length≤B+50∧x.name.length≤B+50∧x.text.length≤B+50∧x.i64 ∧ ∀ a∈x.attrs,a.space.length≤B+50∧a.name.length≤B+50∧a.value.length≤B+50
 | .nil,_,_=>fun x hx=>by simp[Fo.bare]at hx
 | .cons n k r,sp,hok=>by
  simp only[Fo.flat,Lk,List.mem_append]at hok
  have hr:=Fo.bare_fit r sp (fun x hx=>hok x (.inr (.inr hx)))
  have hk:=Fo.bare_fit k n.space (fun x hx=>hok x (.inr (.inl hx)))
  have hn:=hok n (.inl rfl)
  simp only[Fo.bare]
  intro x hx
  rcases List.mem_append.1 hx with hx|hx
  ·split at hx
   ·have:=List.mem_singleton.1 hx;subst this
    obtain⟨⟨_,h2,h3,h4,h5⟩,h6⟩:=hn
    exact⟨by omega,by omega,by omega,h6,fun a ha=>by obtain⟨q1,q2,q3⟩:=h5 a ha;exact⟨by omega,by omega,by omega⟩⟩
   ·rcases List.mem_cons.1 hx with e|hx
    ·subst e
     obtain⟨t1,t2,t3,t4,t5⟩:=Hk (sp:=sp) hn
     exact⟨by rw[t1];simp,t2,by rw[t3];simp,t4,t5⟩
    ·exact hk x hx
  ·exact hr x hx
theorem bare_fit {v:List Nd}{sp:List UInt8}{B:Nat}(hok:∀ n∈v,n.okTo B∧n.i64):∀ x∈(g8 v sp).1,x.okTo (B+50)∧x.i64:=by
 unfold g8
 split
 ·intro x hx;cases hx
 ·split
  ·intro x hx;cases hx
  ·split
   ·intro x hx;cases hx
   ·rename_i h3
    intro x hx
    obtain⟨h4,h5,h6,h7,h8⟩:=Fo.bare_fit (p0 v) sp (fun x hx=>hok x (xq v x hx)) x hx
    have h16:=List.any_eq_false.1 (Bool.not_eq_true _ ▸ h3:pV _=false) x hx
    simp only[decide_eq_true_eq]at h16
    exact⟨⟨by omega,h4,h5,h6,h8⟩,h7⟩
theorem qv:∀(f c:Nat) (v:List Nd),(pM f c v).1.size+(pM f c v).2.length≤v.length
 | 0,_,v=>by simp[pM,Fo.size]
 | _+1,0,v=>by simp[pM,Fo.size]
 | _+1,_+1,[]=>by simp[pM,Fo.size]
 | f+1,c+1,n::v=>by
  have a:=qv f n.many.toNat v
  have b:=qv f c (pM f n.many.toNat v).2
  simp only[pM,Fo.size,List.length_cons]
  omega
theorem AO (v:List Nd):(bq v).1.length≤v.length:=by
 unfold bq
 split
 ·simp
 ·split
  ·simp
  ·split
   ·have h1:=Fo.res_len (p0 v) wC
    have h2:=qv (v.length+1) 1 v
    unfold p0 at h1 ⊢
    simp only;omega
   ·simp
theorem wQ (v:List Nd)(sp:List UInt8):(g8 v sp).1.length≤v.length:=by
 unfold g8
 split
 ·simp
 ·split
  ·simp
  ·split
   ·simp
   ·have h1:=Fo.bare_len (p0 v) sp
    have h2:=qv (v.length+1) 1 v
    unfold p0 at h1 ⊢
    simp only;omega
theorem sj (s:List UInt8)(hs:s.length≤16384)(nm:Nat):Ev cx 66 nm [.str s] ao.nil (.tup [.sl false 6 ((cg s).1.map bc),.bool ((cg s).2==0)]) []:=by
 have hl:=Lu s (by unfold bk;omega)
 unfold IR at hl
 have hfit:=fun h=>yN hs h
 have hbad:=fun h=>((vV s).2 h).1
 have hA:cg s=if (eB s).2.2≠0 then ([],(eB s).2.2) else (dy (eB s).1,cS (eB s).1):=rfl
 rw[hA]
 clear hA
 generalize (eB s).1=L at hl hfit hbad ⊢
 generalize (eB s).2.1=A at hl ⊢
 generalize (eB s).2.2=E at hl hfit hbad ⊢
 by_cases hE:E=0
 ·obtain⟨f1,f2⟩:=hfit hE
  have hp:=yk L f1 f2
  rw[if_neg (by simpa using hE)]
  subst hE
  unfold iT at hp
  have hpl:=ai (dy L)
  refine ay rfl (fun cargs w=>call66 cargs w) func66 rfl mixed (by kernel_rfl) rfl ?_;intro b0 hb0
  (repeat' first|simp only[am,ah,results66,ntmps66,ap,hpl,bf,ag,seval,ae]|exact rfl|refine aa (v:=.any) ?_|(first|(refine ac ?_ (hl _) ?_)|(refine ab ?_ (fun _=>hl _) ?_)|(refine ac ?_ (hp _) ?_)|(refine ab ?_ (fun _=>hp _) ?_))|((first|apply Ca|apply Cb)<;>intro hb)|refine Ai (by omega) ?_|(apply Ai<;>intro hb)|refine Fin.pure ?_ ?_ ?_|simp only[au])
 ·rw[if_pos hE]
  have q:(E==0)=false:=by simpa using hE
  have:=hbad hE
  subst this
  have hp:=yk [] (by simp) (fun t ht=>by cases ht)
  have h0:dy []=[]:=by decide
  rw[h0]at hp
  unfold iT at hp
  simp only[q]
  refine ay rfl (fun cargs w=>call66 cargs w) func66 rfl mixed (by kernel_rfl) rfl ?_;intro b0 hb0
  (repeat' first|simp only[am,ah,results66,ntmps66,ap,q,bf,ai,Lo,Bt,Bf,ag,seval,ae]|exact rfl|refine aa (v:=.any) ?_|(first|(refine ac ?_ (hl _) ?_)|(refine ab ?_ (fun _=>hl _) ?_)|(refine ac ?_ (hp _) ?_)|(refine ab ?_ (fun _=>hp _) ?_))|((first|apply Ca|apply Cb)<;>intro hb)|refine Ai (by omega) ?_|(apply Ai<;>intro hb)|refine Fin.pure ?_ ?_ ?_|simp only[au])
def ME (s back:List UInt8)(want:List Nd):Bool:=(((((((cg s).2==0)&&((cg back).2==0))&&((bq (cg s).1).2==0))&&((g8 (bq (cg s).1).1 []).2==0))&&decide ((bq (cg s).1).1=want))&&decide ((g8 (bq (cg s).1).1 []).1=(cg back).1))
theorem IG (s back:List UInt8)(want:List Nd)(hs:s.length≤16384)(hb:back.length≤16384)(hw:want.length≤bk)(hwa:∀ x∈want,x.attrs.length≤bk)(nm:Nat):Ev cx 42 nm [.str s,.str back,.sl false 6 (want.map bc)] ao.nil (.bool (ME s back want)) []:=by
 have hp1:=sj s hs
 have hp2:=sj back hb
 obtain⟨f1,f2⟩:=sk hs
 obtain⟨g1,g2⟩:=sk hb
 have hr:=lG (cg s).1 (by unfold bk;omega) f2
 have hrf:=res_fit (by decide) f2
 have hrl:=AO (cg s).1
 have hba:=E3 (bq (cg s).1).1 [] (by unfold bk;omega) hrf (by decide)
 have hbf:=bare_fit (sp:=[]) hrf
 have hbl:=wQ (bq (cg s).1).1 []
 have hs1:=uR (bq (cg s).1).1 want (by unfold bk;omega) hw (fun x hx=>by have:=(hrf x hx).1.1;unfold bk;omega) hwa
 have hs2:=uR (g8 (bq (cg s).1).1 []).1 (cg back).1 (by unfold bk;omega) (by unfold bk;omega) (fun x hx=>by have:=(hbf x hx).1.1;unfold bk;omega) (fun x hx=>by have:=(g2 x hx).1.1;unfold bk;omega)
 unfold ME
 unfold iT at hr hba
 clear hrf hbf f1 f2 g1 g2 hrl hbl
 generalize (g8 (bq (cg s).1).1 []).1=x at hba hs2 ⊢
 generalize (g8 (bq (cg s).1).1 []).2=xe at hba ⊢
 generalize (bq (cg s).1).1=w at hr hba hs1 ⊢
 generalize (bq (cg s).1).2=e at hr ⊢
 generalize (cg s).1=v at hp1 hr
 generalize ((cg s).2==0)=b1 at hp1 ⊢
 generalize (cg back).1=y at hp2 hs2 ⊢
 generalize ((cg back).2==0)=b2 at hp2 ⊢
 generalize decide (w=want)=b3 at hs1 ⊢
 generalize decide (x=y)=b4 at hs2 ⊢
 have hpv:=ai v
 have hpw:=ai w
 have hpx:=ai x
 have hpy:=ai y
 have hpz:=ai want
 refine ay rfl (fun cargs w=>call42 cargs w) func42 rfl mixed (by kernel_rfl) rfl ?_;intro b0 hb0
 (repeat' first|simp only[am,ah,results42,ntmps42,ap,hpv,hpw,hpx,hpy,hpz,Lm,ag,seval,ae]|exact rfl|refine aa (v:=.any) ?_|((first|(refine ac ?_ (hp1 _) ?_)|(refine ab ?_ (fun _=>hp1 _) ?_)|(refine ac ?_ (hs1 _) ?_)|(refine ab ?_ (fun _=>hs1 _) ?_));(focus (simp only[results42,ntmps42,ap,hpv,hpw,hpx,hpy,hpz,Lm,ag,seval,ae]<;>exact rfl)))|((first|(refine ac ?_ (hp2 _) ?_)|(refine ab ?_ (fun _=>hp2 _) ?_)|(refine ac ?_ (hs2 _) ?_)|(refine ab ?_ (fun _=>hs2 _) ?_));(focus (simp only[results42,ntmps42,ap,hpv,hpw,hpx,hpy,hpz,Lm,ag,seval,ae]<;>exact rfl)))|(first|(refine ac ?_ (hr _) ?_)|(refine ab ?_ (fun _=>hr _) ?_)|(refine ac ?_ (hba _) ?_)|(refine ab ?_ (fun _=>hba _) ?_))|((first|apply Ca|apply Cb)<;>intro hb)|refine Ai (by omega) ?_|(apply Ai<;>intro hb)|refine Fin.pure ?_ ?_ ?_|simp only[au])
theorem MF (s back:List UInt8)(want:List Nd):ME s back want=(let q:=IU s;let v:List Nd×Int:=if q.2.2≠0 then ([],q.2.2) else (dy q.1,cS q.1);let q2:=IU back;let y:List Nd×Int:=if q2.2.2≠0 then ([],q2.2.2) else (dy q2.1,cS q2.1);let w:=bq v.1;let x:=g8 w.1 [];((((((v.2==0)&&(y.2==0))&&(w.2==0))&&(x.2==0))&&decide (w.1=want))&&decide (x.1=y.1))):=by
 unfold ME cg;rw[BF,BF]
def K7:List UInt8:=[60,97,32,120,109,108,110,115,61,39,117,39,62,60,112,58,98,32,120,109,108,110,115,58,112,61,39,118,39,32,112,58,99,61,39,49,39,32,100,61,39,50,39,47,62,60,47,97,62]
def K8:List UInt8:=[60,97,32,120,109,108,110,115,61,39,117,39,62,60,98,32,120,109,108,110,115,61,39,118,39,32,120,109,108,110,115,58,110,49,61,39,118,39,32,110,49,58,99,61,39,49,39,32,100,61,39,50,39,47,62,60,47,97,62]
def K9:List Nd:=[⟨1,[117],[97],[],[],1⟩,⟨1,[118],[98],[⟨[118],[99],[49]⟩,⟨[],[100],[50]⟩],[],0⟩]
theorem La:ME K7 K8 K9=true:=by rw[MF];decide +kernel
theorem y8 (nm:Nat):Ev cx 15 nm [] ao.nil (.bool true) []:=by
 have h1:=IG K7 K8 K9 (by decide) (by decide) (by decide) (by decide)
 rw[La]at h1
 have hV:K9.map bc=[[.int .u8 1,.str [117],.str [97],.sl false 3 [],.str [],.int .i64 1],[.int .u8 1,.str [118],.str [98],.sl false 3 [[.str [118],.str [99],.str [49]],[.str [],.str [100],.str [50]]],.str [],.int .i64 0]]:=rfl
 unfold K7 K8 at h1
 rw[hV]at h1
 refine ay rfl (fun cargs w=>call15 cargs w) func15 rfl mixed (by kernel_rfl) rfl ?_;intro b0 hb0
 repeat' first|simp only[am,ah,results15,ntmps15,ap,ag,seval,ae]|exact rfl|refine aa (v:=.any) ?_|((first|apply Ca|apply Cb)<;>intro hb)|refine Ai (by omega) ?_|(apply Ai<;>intro hb)
 refine zi (xs:=?_) [b0+96,b0+64] ?_ (h1 _) ?_ ?_ rfl ?_
 rotate_left 1
 ·simp only[ah,ap,ag,seval,ae]<;>exact rfl
 ·simp only[NU,Mq,am,ah,ap,mS,oH,j7,lj,o7,plainL,V.plain,fy,Lc,Lo,Bool.and_self,Bool.true_and,ag,seval,ae]
 ·simp only[NU,Mq,am,ah,ap,mS,oH,j7,lj,o7,plainL,V.plain,Lc,Lo,Bool.and_self,Bool.true_and,ag,seval,ae]
 (repeat' first|simp only[am,ah,results15,ntmps15,ap,ag,seval,ae]|exact rfl|refine aa (v:=.any) ?_|((first|apply Ca|apply Cb)<;>intro hb)|refine Ai (by omega) ?_|(apply Ai<;>intro hb)|refine Fin.pure ?_ ?_ ?_|simp only[au])
end Go.Proofs.YtcllbjanalhjgaaGreatDoor
