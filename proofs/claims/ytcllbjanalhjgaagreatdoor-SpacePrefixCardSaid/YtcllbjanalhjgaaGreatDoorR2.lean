/-
 Texts joined: XOb,XOc,XOd.
-/
import Derived.Test.YtcllbjanalhjgaaGreatDoorR1
import Derived.Test.YtcllbjanalhjgaaGreatDoorQt
namespace Go.Proofs.YtcllbjanalhjgaaGreatDoor
set_option maxRecDepth 100000
set_option maxHeartbeats 32000000
set_option linter.unusedSimpArgs false
set_option linter.unusedVariables false
open Go Go.RowKit Vm Go.Lib Tryz
open Vm renaming be→Ca,bo→Cb
open And renaming intro→Ai
open List renaming length_map→Lm,not_mem_nil→Ln,map_nil→Lo,map_cons→Lc,mem_cons→Lk
open Bool renaming not_false→Bf,not_true→Bt
theorem kp {s:List UInt8}(h:cU s=true):(58:UInt8) ∉ s:=by
 have hp:∀ b,iM b 58=false:=by decide
 cases s with
 | nil=>simp
 | cons c r =>
  simp only[cU,Bool.and_eq_true,List.all_eq_true]at h
  intro hm
  rcases List.mem_cons.1 hm with e|e
  ·rw[← e,hp]at h;exact absurd h.1 (by decide)
  ·have:=h.2 _ e;rw[hp]at this;cases this
theorem zl {s:List UInt8}(h:(58:UInt8) ∉ s):s.contains 58=false:=by
 cases hc:s.contains 58 with
 | false=>rfl
 | true=>rw[List.contains_iff_mem]at hc;exact absurd hc h
theorem yG {a b:List UInt8}(h:(58:UInt8) ∉ a):dA (a++58::b)=(a,b):=by
 unfold dA;rw[jc h]
theorem Bv {a b:List UInt8}(h:(58:UInt8) ∉ a):b8 (a++58::b)=(cU a&&cU b):=by
 unfold b8;rw[jc h]
theorem Dc {s:List UInt8}(h:cU s=true):b8 s=true:=by
 unfold b8;rw[il.2 (kp h)];exact h
theorem E9 (s:List UInt8):fV ([120,109,108,110,115,58]++s)=some s:=by
 have h:preB ([120,109,108,110,115,58]++s) [120,109,108,110,115,58]=true:=by unfold preB;simp
 unfold fV
 rw[if_neg (by simp),if_pos h];rfl
theorem tZ {s:List UInt8}(h1:s≠[120,109,108,110,115])(h2:s.take 6≠[120,109,108,110,115,58]):fV s=none:=by
 unfold fV preB
 rw[if_neg (by simpa using h1),if_neg (by simp[h2])]
theorem zq {s:List UInt8}(h:(58:UInt8) ∉ s)(h1:s≠[120,109,108,110,115]):fV s=none :=
 tZ h1 fun e=>h (List.mem_of_mem_take (i:=6) (by rw[e];simp))
theorem Jp {l:List At} : ∀ {S:List (List UInt8)},∀ s∈l.foldl iP S,s∈S ∨ ∃ a∈l,a.space=s∧s≠[]∧s≠sW:=by
 induction l with
 | nil=>intro S s h;exact .inl h
 | cons a l ih =>
  intro S s h
  rw[List.foldl_cons]at h
  rcases ih s h with h|⟨b,hb,h1⟩
  ·unfold iP at h
   split at h
   ·exact .inl h
   ·rename_i h1
    split at h
    ·exact .inl h
    ·rename_i h2
     split at h
     ·exact .inl h
     ·rcases List.mem_append.1 h with h|h
      ·exact .inl h
      ·refine .inr ⟨a,List.mem_cons_self ..,?_⟩
       have:=List.mem_singleton.1 h
       subst this
       exact⟨rfl,by simpa using h1,by simpa using h2⟩
  ·exact .inr ⟨b,List.mem_cons_of_mem _ hb,h1⟩
theorem zd {l:List At} : pX l=true↔l.length≤16∧l.Pairwise (fun b a=>¬(a.space=b.space∧a.name=b.name)) ∧ ∀ a∈l,b8 a.name=true∧aO a.value=0∧aO a.space=0:=by
 rw[qn]
 refine and_congr_right fun _=>?_
 have hok:∀(p:List At) (a:At),J1 p a=true↔(∀ b∈p,¬(a.space=b.space∧a.name=b.name))∧b8 a.name=true∧aO a.value=0∧aO a.space=0:=fun p a=>by
  unfold J1
  simp only[Bool.and_eq_true,Bool.not_eq_true',decide_eq_true_eq,List.any_eq_false,beq_iff_eq,and_assoc]
 unfold tT
 constructor
 ·intro h
  refine⟨List.pairwise_iff_getElem.2 fun i j hi hj hij=>?_,fun a ha=>?_⟩
  ·have:=((hok _ _).1 (h j l[j] hj (List.getElem?_eq_getElem hj))).1 l[i] (by
    rw[List.mem_take_iff_getElem];exact⟨i,by omega,rfl⟩)
   exact this
  ·obtain⟨i,hi,rfl⟩:=List.getElem_of_mem ha
   exact((hok _ _).1 (h i l[i] hi (List.getElem?_eq_getElem hi))).2
 ·rintro ⟨h1,h2⟩ i a hi ha
  obtain⟨hi',rfl⟩:=List.getElem?_eq_some_iff.1 ha
  refine(hok _ _).2 ⟨fun b hb=>?_,h2 _ (List.getElem_mem hi')⟩
  obtain⟨k,hk,rfl⟩:=List.mem_take_iff_getElem.1 hb
  exact List.pairwise_iff_getElem.1 h1 k i (by omega) hi' (by omega)
theorem sL {v:List Nd}(h:eG v=0):∃ n k,n.kind=1∧v=n::k.flat∧(Fo.cons n k .nil).good 12 0=true∧k.size+1≤512:=by
 unfold eG at h
 cases hb:cN v with
 | none=>rw[hb]at h;cases h
 | some en =>
  obtain⟨n,k,h1,h2,h3,h4,_⟩:=mI.1 hb
  exact⟨n,k,h1,h2,h3,by rw[h2]at h4;simpa [Fo.flat_length] using h4⟩
theorem tU {n:Nd}{k:Fo}(hk:n.kind=1)(h:(Fo.cons n k .nil).good 12 0=true)(hl:k.size+1≤512):eG (n::k.flat)=0:=by
 unfold eG;rw[Co (Nat.le_refl _) hk h hl];rfl
theorem CB {v:List Nd}(h:er v=0):(∀ x∈v,qX x=false)∧eG v=0:=by
 unfold er at h
 split at h
 ·cases h
 ·rename_i hb
  refine⟨fun x hx=>?_,h⟩
  cases hx2:qX x with
  | false=>rfl
  | true=>exact absurd (List.any_eq_true.2 ⟨x,hx,hx2⟩) hb
theorem I1 {s:List UInt8}(h:cU s=true):s≠[]:=by rintro rfl;cases h
def df (p s a b:List UInt8):List Nd :=
 [⟨1,[],p++[58]++a,[⟨[],[120,109,108,110,115,58]++p,s⟩],[],1⟩,⟨1,[],p++[58]++b,[⟨[],p++[58]++a,[49]⟩,⟨[],b,[50]⟩],[],0⟩]
def mA (s a b:List UInt8):List Nd :=
 [⟨1,s,a,[],[],1⟩,⟨1,s,b,[⟨s,a,[49]⟩,⟨[],b,[50]⟩],[],0⟩]
def uB (p s a b:List UInt8):Fo:=.cons ⟨1,[],p++[58]++b,[⟨[],p++[58]++a,[49]⟩,⟨[],b,[50]⟩],[],0⟩ .nil .nil
theorem yc {p s a b:List UInt8}(hp:cU p=true)(ha:cU a=true)(hb:cU b=true)(hbx:b≠[120,109,108,110,115])(h1:p≠[120,109,108])(h2:p≠[120,109,108,110,115]) :
    bq (df p s a b)=if aO s≠0 then ([],8) else if dO s=true∨s=[] then ([],110) else (mA s a b,0):=by
  have cp:=kp hp;have ca:=kp ha;have cb:=kp hb
  have np:=I1 hp
  have hcons:∀ x:List UInt8,p++[58]++x=p++58::x:=fun x=>by simp
  have hfp:∀ x:List UInt8,cU x=true→b8 (p++[58]++x)=true:=fun x hx=>by rw[hcons,Bv cp,hp,hx];rfl
  have hfx:b8 ([120,109,108,110,115,58]++p)=true:=by
    show b8 ([120,109,108,110,115]++58::p)=true
    rw[Bv (by decide),hp];decide
  have hkids:pX [(⟨[],p++[58]++a,[49]⟩:At),⟨[],b,[50]⟩]=true:=by
    refine zd.2 ⟨by simp,?_,fun x hx=>?_⟩
    · refine List.pairwise_cons.2 ⟨fun x hx=>?_,by simp⟩
      have:=List.mem_singleton.1 hx;subst this
      rintro ⟨_,e⟩
      have e:b=p++[58]++a:=e
      apply cb;rw[e];simp
    · simp only[Lk,Ln,or_false]at hx
      rcases hx with rfl|rfl
      · exact⟨hfp a ha,(show aO [49]=0 by decide),iN⟩
      · exact⟨Dc hb,(show aO [50]=0 by decide),iN⟩
  have hm2:iY ⟨1,[],p++[58]++b,[⟨[],p++[58]++a,[49]⟩,⟨[],b,[50]⟩],[],0⟩=true:=by
    unfold iY
    rw[if_neg (by simp)]
    simp only[hkids,hfp b hb,iN];rfl
  by_cases hs:aO s=0
  · rw [if_neg (by simpa using hs)]
    have hm1:iY ⟨1,[],p++[58]++a,[⟨[],[120,109,108,110,115,58]++p,s⟩],[],1⟩=true:=by
      unfold iY
      rw[if_neg (by simp)]
      have:pX [(⟨[],[120,109,108,110,115,58]++p,s⟩:At)]=true:=by
        refine zd.2 ⟨by simp,by simp,fun x hx=>?_⟩
        have:=List.mem_singleton.1 hx;subst this
        exact⟨hfx,hs,iN⟩
      simp only[this,hfp a ha,iN];rfl
    have hg:(Fo.cons ⟨1,[],p++[58]++a,[⟨[],[120,109,108,110,115,58]++p,s⟩],[],1⟩ (uB p s a b) .nil).good 12 0=true:=by
      refine Fo.good_cons.2 ⟨hm1,rfl,by simp,by simp,?_,rfl⟩
      exact Fo.good_cons.2 ⟨hm2,rfl,by simp,by simp,rfl,rfl⟩
    have hv:df p s a b=(⟨1,[],p++[58]++a,[⟨[],[120,109,108,110,115,58]++p,s⟩],[],1⟩:Nd)::(uB p s a b).flat:=by simp[df,uB,Fo.flat]
    have hspc:(df p s a b).any kN=false:=by simp[df,kN,yE]
    have e1:fV (120::109::108::110::115::58::p)=some p:=E9 p
    have e2:fV (p++[58]++a)=none:=by
      rw[hcons]
      refine tZ (fun e=>?_) (fun e=>?_)
      · have:(58:UInt8)∈p++58::a:=by simp
        rw[e]at this;revert this;decide
      · have hc:=jc (b:=a) cp
        have h3:p++58::a=[120,109,108,110,115]++58::(p++58::a).drop 6:=by
          conv=>lhs;rw[← List.take_append_drop 6 (p++58::a),e]
          rfl
        rw[h3,jc (by decide)]at hc
        exact h2 (Prod.mk.inj (Option.some.inj hc)).1.symm
    have e3:=zq cb hbx
    have e4:fx p (we p s wC)=some s:=by rw[get_put,if_pos rfl]
    have s1:dA (p++[58]++a)=(p,a):=by rw[hcons];exact yG cp
    have s2:dA (p++[58]++b)=(p,b):=by rw[hcons];exact yG cp
    have c1:(p++[58]++a).contains 58=true:=List.contains_iff_mem.2 (by simp)
    have c2:=zl cb
    have hmay:Du p s = !(dO s||(s==[])):=by
      unfold Du
      rw[if_neg (by simpa using h2),if_neg (by simpa using h1)]
      have:(p==[])=false:=by simpa using np
      rw[this]
      cases dO s<;>simp[bne]
    have hab:(s==[])=true→a≠b∨a=b:=fun _=>by by_cases h:a=b;exact .inr h;exact .inl h
    have hres:((Fo.cons ⟨1,[],p++[58]++a,[⟨[],[120,109,108,110,115,58]++p,s⟩],[],1⟩ (uB p s a b) .nil).res wC)=(mA s a b,!(dO s||(s==[]))):=by
      unfold uB
      simp only[Fo.res,show ¬(1:Nat)=2 by decide,if_false,o5,FY,List.foldl_cons,List.foldl_nil,e1,e2,e3,ko,As,HC,s1,s2,e4,hmay,pS,uk,c1,c2,if_true,Option.getD_some,Option.isSome_some,List.any_nil,List.any_cons,List.nil_append,List.append_nil,List.cons_append,Bool.true_and,Bool.and_true,Bf,Bt,Bool.or_false,Bool.false_or,Bool.true_or,Bool.or_true,Bool.false_eq_true,lN]
      unfold mA
      congr 1
      by_cases h0:s=[]
      · subst h0;simp
      · simp[h0]
    unfold bq
    rw[hspc,hv,tU rfl hg (by simp[uB,Fo.size]),if_neg (by decide),if_neg (by decide),vv hg,hres]
    simp only
    cases hgs:dO s
    · by_cases h0:s=[]
      · subst h0;simp
      · simp[h0]
    · simp
  · rw[if_pos hs]
    have:eG (df p s a b)≠0:=fun hc=>by
      obtain⟨n,k,hk,hv,hg,hl⟩:=sL hc
      obtain⟨g1,_⟩:=Fo.good_cons.1 hg
      have e:n=⟨1,[],p++[58]++a,[⟨[],[120,109,108,110,115,58]++p,s⟩],[],1⟩:=by unfold df at hv;exact(List.cons.inj hv).1.symm
      obtain⟨_,_,_,h4⟩:=uD g1 hk
      rw[e]at h4
      exact hs ((zd.1 h4).2.2 _ (List.mem_cons_self ..)).2.1
    unfold bq
    rw[if_pos this]
end Go.Proofs.YtcllbjanalhjgaaGreatDoor
