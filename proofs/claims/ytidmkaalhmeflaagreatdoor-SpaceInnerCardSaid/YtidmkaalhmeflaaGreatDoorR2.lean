/-
 Texts joined: XOb,XOc,XOd.
-/
import Derived.Test.YtidmkaalhmeflaaGreatDoorR1
import Derived.Test.YtidmkaalhmeflaaGreatDoorQt
namespace Go.Proofs.YtidmkaalhmeflaaGreatDoor
set_option maxRecDepth 100000
set_option maxHeartbeats 32000000
set_option linter.unusedSimpArgs false
set_option linter.unusedVariables false
open Go Go.RowKit Vm Go.Lib Tryz
open Vm renaming aZ→Ca,bj→Cb
open And renaming intro→Ai
open List renaming length_map→Lm,not_mem_nil→Ln,map_nil→Lo,map_cons→Lc,mem_cons→Lk
open Bool renaming not_false→Bf,not_true→Bt
theorem kE {s:List UInt8}(h:dc s=true):(58:UInt8) ∉ s:=by
 have hp:∀ b,jb b 58=false:=by decide
 cases s with
 | nil=>simp
 | cons c r =>
  simp only[dc,Bool.and_eq_true,List.all_eq_true]at h
  intro hm
  rcases List.mem_cons.1 hm with e|e
  ·rw[← e,hp]at h;exact absurd h.1 (by decide)
  ·have:=h.2 _ e;rw[hp]at this;cases this
theorem Ss {s:List UInt8}(h:(58:UInt8) ∉ s):s.contains 58=false:=by
 cases hc:s.contains 58 with
 | false=>rfl
 | true=>rw[List.contains_iff_mem]at hc;exact absurd hc h
theorem tY {s:List UInt8}(h:(58:UInt8) ∉ s):Rs s=([],s):=by
 unfold Rs;rw[fQ.2 h]
theorem QK {a b:List UInt8}(h:(58:UInt8) ∉ a):Rs (a++58::b)=(a,b):=by
 unfold Rs;rw[mE h]
theorem P3 {a b:List UInt8}(h:(58:UInt8) ∉ a):b8 (a++58::b)=(dc a&&dc b):=by
 unfold b8;rw[mE h]
theorem RF {s:List UInt8}(h:dc s=true):b8 s=true:=by
 unfold b8;rw[fQ.2 (kE h)];exact h
theorem AS:∀ n,n<99→(58:UInt8) ∉ 110::dR n:=by decide +kernel
theorem SF:∀ n,n<99→dc (110::dR n)=true:=by decide +kernel
theorem SX:∀ a,a<99 → ∀ b,b<99→dR a=dR b→a=b:=by decide +kernel
theorem Qt (s:List UInt8):Rv ([120,109,108,110,115,58]++s)=some s:=by
 have h:preB ([120,109,108,110,115,58]++s) [120,109,108,110,115,58]=true:=by unfold preB;simp
 unfold Rv
 rw[if_neg (by simp),if_pos h];rfl
theorem kZ:Rv [120,109,108,110,115]=some []:=rfl
theorem R0 {s:List UInt8}(h1:s≠[120,109,108,110,115])(h2:s.take 6≠[120,109,108,110,115,58]):Rv s=none:=by
 unfold Rv preB
 rw[if_neg (by simpa using h1),if_neg (by simp[h2])]
theorem IS {s:List UInt8}(h:(58:UInt8) ∉ s)(h1:s≠[120,109,108,110,115]):Rv s=none :=
 R0 h1 fun e=>h (List.mem_of_mem_take (i:=6) (by rw[e];simp))
theorem RN (k:Nat)(s:List UInt8):Rv (Sd k s).name=some (110::dR (k+1)):=Qt (110::dR (k+1))
theorem Qr {K:KnT×Bool}{a:At}(h:Rv a.name=none):ug K a=K:=by unfold ug;rw[h]
theorem SZ:∀ {l:List At} {K:KnT} {r:Bool},(∀ a∈l,Rv a.name=none)→Ry K r l=(K,r)
 | [],_,_,_=>rfl
 | a::l,K,r,h=>by
  have:=SZ (l:=l) (K:=K) (r:=r) (fun b hb=>h b (List.mem_cons_of_mem _ hb))
  unfold Ry at this ⊢
  rw[List.foldl_cons,Qr (h a (List.mem_cons_self ..)),this]
theorem P7 (K:KnT)(r:Bool)(a b:List At):Ry K r (a++b)=Ry (Ry K r a).1 (Ry K r a).2 b:=by unfold Ry;rw[List.foldl_append]
def RO (j:Nat)(S:List (List UInt8)):List At:=S.mapIdx fun i=>Sd (j+i)
theorem IN (S:List (List UInt8)):RO 0 S=Rx S:=by unfold RO Rx;simp
theorem sh (j:Nat)(s:List UInt8)(S:List (List UInt8)):RO j (s::S)=Sd j s::RO (j+1) S:=by
 unfold RO;rw[List.mapIdx_cons]
 simp only[Nat.add_zero,List.cons.injEq,true_and]
 congr 1;funext i;rw[show j+(i+1)=j+1+i by omega]
theorem Ci:∀(S:List (List UInt8)) (j:Nat) (K:KnT),j+S.length≤90→(∀ s∈S,s≠[]∧Rw s=false) →
  (Ry K true (RO j S)).2=true∧(∀ q,(∀ i,i<S.length→q≠110::dR (j+i+1))→dS q (Ry K true (RO j S)).1=dS q K) ∧ ∀ i s,S[i]? = some s→dS (110::dR (j+i+1)) (Ry K true (RO j S)).1=some s
 | [],j,K,_,_=>⟨rfl,fun _ _=>rfl,fun i s h=>by simp at h⟩
 | s::S,j,K,hj,hs=>by
  obtain⟨h0,hg⟩:=hs s (List.mem_cons_self ..)
  have hm:SL (110::dR (j+1)) s=true:=by
   unfold SL
   rw[if_neg (by simp),if_neg (by simp),hg]
   simp[h0]
  have hstep:Ry K true (RO j (s::S))=Ry (qY (110::dR (j+1)) s K) true (RO (j+1) S):=by
   rw[sh]
   have:ug (K,true) (Sd j s)=(qY (110::dR (j+1)) s K,true):=by
    unfold ug;rw[RN];simp only[Sd,hm,Bool.and_self]
   unfold Ry;rw[List.foldl_cons,this]
  rw[hstep]
  simp only[List.length_cons]at hj
  obtain⟨i1,i2,i3⟩:=Ci S (j+1) (qY (110::dR (j+1)) s K) (by omega) (fun x hx=>hs x (List.mem_cons_of_mem _ hx))
  refine⟨i1,fun q hq=>?_,fun i x hx=>?_⟩
  ·rw[i2 q (fun i hi=>by have:=hq (i+1) (by simp;omega);rwa[show j+(i+1)+1=j+1+i+1 by omega]at this),get_put,if_neg (hq 0 (by simp))]
  ·cases i with
   | zero =>
    simp only[List.getElem?_cons_zero,Option.some.injEq]at hx
    subst hx
    rw[i2 _ (fun i hi e=>by
     have:=SX (j+0+1) (by omega) (j+1+i+1) (by omega) (List.cons.inj e).2
     omega),get_put,if_pos rfl]
   | succ i =>
    have:=i3 i x (by simpa using hx)
    rwa[show j+1+i+1=j+(i+1)+1 by omega]at this
def Rn (K:KnT)(sp:List UInt8):Prop:=dS [] K=some sp∧dS [120,109,108] K=some RE
theorem P4 {l:List At} : ∀ {S:List (List UInt8)},∀ s∈l.foldl gr S,s∈S ∨ ∃ a∈l,a.space=s∧s≠[]∧s≠RE:=by
 induction l with
 | nil=>intro S s h;exact .inl h
 | cons a l ih =>
  intro S s h
  rw[List.foldl_cons]at h
  rcases ih s h with h|⟨b,hb,h1⟩
  ·unfold gr at h
   split at h
   ·exact .inl h
   ·rename_i h1
    split at h
    ·exact .inl h
    ·rename_i h2
     split at h
     ·exact .inl h
     ·rcases List.mem_append.1 h with h|h
      ·exact .inl h
      ·refine .inr ⟨a,List.mem_cons_self ..,?_⟩
       have:=List.mem_singleton.1 h
       subst this
       exact⟨rfl,by simpa using h1,by simpa using h2⟩
  ·exact .inr ⟨b,List.mem_cons_of_mem _ hb,h1⟩
theorem QA {l:List At} : ∀ {S:List (List UInt8)} {a:At},a∈l→a.space≠[]→a.space≠RE→a.space∈l.foldl gr S:=by
 induction l with
 | nil=>intro S a h;cases h
 | cons b l ih =>
  intro S a h h1 h2
  rw[List.foldl_cons]
  rcases List.mem_cons.1 h with e|h
  ·subst e
   refine(RM l (gr S a)).subset ?_
   unfold gr
   rw[if_neg (by simpa using h1),if_neg (by simpa using h2)]
   split
   ·rename_i h3;exact List.contains_iff_mem.1 h3
   ·simp
  ·exact ih h h1 h2
theorem Qy {S:List (List UInt8)}{s:List UInt8}(h:s∈S):S[Q0 S s]? = some s∧Q0 S s<S.length:=by
 unfold Q0
 cases hf:S.findIdx? (· == s) with
 | none=>have:=Sw hf;rw[List.contains_iff_mem.2 h]at this;cases this
 | some k =>
  obtain⟨hk,h1,_⟩:=List.findIdx?_eq_some_iff_getElem.1 hf
  have e:S[k]=s:=by simpa using h1
  exact⟨by simp only[Option.getD_some];rw[List.getElem?_eq_getElem hk,e],by simpa using hk⟩
theorem Sj {l:List At} : tn l=true↔l.length≤16∧l.Pairwise (fun b a=>¬(a.space=b.space∧a.name=b.name)) ∧ ∀ a∈l,b8 a.name=true∧aQ a.value=0∧aQ a.space=0:=by
 rw[rn]
 refine and_congr_right fun _=>?_
 have hok:∀(p:List At) (a:At),Ht p a=true↔(∀ b∈p,¬(a.space=b.space∧a.name=b.name))∧b8 a.name=true∧aQ a.value=0∧aQ a.space=0:=fun p a=>by
  unfold Ht
  simp only[Bool.and_eq_true,Bool.not_eq_true',decide_eq_true_eq,List.any_eq_false,beq_iff_eq,and_assoc]
 unfold u7
 constructor
 ·intro h
  refine⟨List.pairwise_iff_getElem.2 fun i j hi hj hij=>?_,fun a ha=>?_⟩
  ·have:=((hok _ _).1 (h j l[j] hj (List.getElem?_eq_getElem hj))).1 l[i] (by
    rw[List.mem_take_iff_getElem];exact⟨i,by omega,rfl⟩)
   exact this
  ·obtain⟨i,hi,rfl⟩:=List.getElem_of_mem ha
   exact((hok _ _).1 (h i l[i] hi (List.getElem?_eq_getElem hi))).2
 ·rintro ⟨h1,h2⟩ i a hi ha
  obtain⟨hi',rfl⟩:=List.getElem?_eq_some_iff.1 ha
  refine(hok _ _).2 ⟨fun b hb=>?_,h2 _ (List.getElem_mem hi')⟩
  obtain⟨k,hk,rfl⟩:=List.mem_take_iff_getElem.1 hb
  exact List.pairwise_iff_getElem.1 h1 k i (by omega) hi' (by omega)
theorem SG {S:List (List UInt8)}{s:List UInt8}(hS:S.length≤16)(h:s=RE∨s∈S):(58:UInt8) ∉ RP S s∧dc (RP S s)=true:=by
 unfold RP
 split
 ·exact⟨by decide,by decide⟩
 ·rename_i hx
  rcases h with e|h
  ·subst e;simp at hx
  ·have:=(Qy h).2
   exact⟨AS _ (by omega),SF _ (by omega)⟩
theorem QJ {n:Nd}{sp:List UInt8}{K:KnT}(hk:n.kind=1)(hm:iI n=true)(hb:RG n=false)(hK:Rn K sp) :
    (Ry K true (bE n sp).attrs).2=true∧Rn (Ry K true (bE n sp).attrs).1 n.space∧RA (Ry K true (bE n sp).attrs).1 (bE n sp)=(n,true)∧((bE n sp).attrs.length≤16→iI (bE n sp)=true):=by
  obtain⟨ht,hfn,hps,hat⟩:=ml hm hk
  obtain⟨ha16,hpw,hall⟩:=Sj.1 hat
  unfold RG at hb
  simp only[Bool.or_eq_false_iff,List.any_eq_false,hk,decide_true,Bool.true_and,Bool.not_eq_false']at hb
  obtain⟨⟨hname,hgiv⟩,hbad⟩:=hb
  have hba:∀ a∈n.attrs,dc a.name=true∧(a.space=[]→a.name≠[120,109,108,110,115])∧a.space≠R1:=fun a ha=>by
    have h:=hbad a ha
    simp only[qq,Bool.or_eq_true,Bool.and_eq_true,Bool.not_eq_true',beq_iff_eq,not_or,not_and,Bool.not_eq_false]at h
    exact⟨h.1.1,h.1.2,h.2⟩
  generalize hSe:Rr n.attrs=S
  have hSl:S.length≤16:=by have:=mF n.attrs;rw[hSe]at this;omega
  have hSin:∀ s∈S,s≠[]∧Rw s=false∧aQ s=0:=fun s hs=>by
    rw[← hSe]at hs
    rcases P4 s hs with h|⟨a,ha,e,h1,h2⟩
    · cases h
    · refine⟨h1,?_,by rw[← e];exact(hall a ha).2.2⟩
      unfold Rw
      have:=(hba a ha).2.2
      rw[e]at this
      simp[h2,this]
  have hin:∀ a∈n.attrs,a.space≠[]→a.space=RE∨a.space∈S:=fun a ha h=>by
    by_cases hx:a.space=RE
    · exact .inl hx
    · right;rw[← hSe];exact QA ha h hx
  -- no attribute of the element's own declares
  have hrn:∀ a∈n.attrs,Rv (RC S a).name=none:=fun a ha=>by
    obtain⟨q1,q2,_⟩:=hba a ha
    unfold RC
    by_cases h0:a.space=[]
    · simp only[h0,beq_self_eq_true,if_true]
      exact IS (kE q1) (q2 h0)
    · have h0':(a.space==[])=false:=by simpa using h0
      simp only[h0',Bool.false_eq_true,if_false]
      unfold RP
      split
      · exact R0 (by simp) (by simp)
      · exact R0 (by simp) (by simp)
  have hta:(bE n sp).attrs=SI n sp++Rx S++n.attrs.map (RC S):=by unfold bE;rw[hSe]
  have hdin:∀ a∈SI n sp++Rx S,∃ p,Rv a.name=some p:=fun a ha=>by
    rcases List.mem_append.1 ha with h|h
    · unfold SI at h
      split at h
      · cases h
      · have:=List.mem_singleton.1 h;subst this;exact⟨_,kZ⟩
    · unfold Rx at h
      obtain⟨i,hi,rfl⟩:=List.mem_mapIdx.1 h
      exact⟨_,RN _ _⟩
  -- what is known behind the declarations
  obtain⟨K1,hK1,hk1,hk2,hk3⟩:∃ K1,Ry K true (SI n sp)=(K1,true)∧dS [] K1=some n.space∧dS [120,109,108] K1=some RE∧True:=by
    unfold SI
    by_cases he:n.space=sp
    · refine⟨K,by simp[he,Ry],?_,hK.2,trivial⟩
      rw[he];exact hK.1
    · have he':(n.space==sp)=false:=by simpa using he
      have hmay:SL [] n.space=true:=by unfold SL;rw[if_neg (by decide),if_neg (by decide),hgiv];rfl
      refine⟨qY [] n.space K,?_,?_,?_,trivial⟩
      · simp[he',Ry,ug,kZ,hmay]
      · rw[get_put,if_pos rfl]
      · rw[get_put,if_neg (by decide)];exact hK.2
  obtain⟨d1,d2,d3⟩:=Ci S 0 K1 (by omega) (fun s hs=>⟨(hSin s hs).1,(hSin s hs).2.1⟩)
  rw[IN]at d1 d2 d3
  have hkn:Ry K true (bE n sp).attrs=Ry K1 true (Rx S):=by
    rw[hta,P7,P7,hK1]
    exact SZ fun a ha=>by
      obtain⟨b,hb,rfl⟩:=List.mem_map.1 ha
      exact hrn b hb
  rw[hkn]
  generalize hK2:(Ry K1 true (Rx S)).1=K2 at d2 d3 ⊢
  have e0:dS [] K2=some n.space:=by rw[d2 [] (fun i _=>by simp),hk1]
  have ex:dS [120,109,108] K2=some RE:=by rw[d2 _ (fun i _=>by simp),hk2]
  -- an attribute told,then resolved
  have hback:∀ a∈n.attrs,RK K2 (RC S a)=a∧RQ K2 (RC S a)=true:=fun a ha=>by
    obtain⟨q1,q2,_⟩:=hba a ha
    have hval:(RC S a).value=a.value:=rfl
    by_cases h0:a.space=[]
    · have hn:(RC S a).name=a.name:=by unfold RC;simp[h0]
      have hc:=Ss (kE q1)
      unfold RK RQ
      rw[hn,hc,hval]
      refine⟨?_,rfl⟩
      simp only[Bool.false_eq_true,if_false]
      cases a;simp only at h0;rw[h0]
    · have h0':(a.space==[])=false:=by simpa using h0
      have hn:(RC S a).name=RP S a.space++58::a.name:=by unfold RC;simp only[h0',Bool.false_eq_true,if_false]
      obtain⟨p1,_⟩:=SG hSl (hin a ha h0)
      have hc:(RP S a.space++58::a.name).contains 58=true:=List.contains_iff_mem.2 (by simp)
      have hg:dS (RP S a.space) K2=some a.space:=by
        unfold RP
        by_cases hx:a.space=RE
        · rw[if_pos (by simpa using hx),ex,hx]
        · rw[if_neg (by simpa using hx)]
          have hi:=Qy ((hin a ha h0).resolve_left hx)
          have:=d3 _ _ hi.1
          rwa[Nat.zero_add]at this
      unfold RK RQ
      rw[hn,hc,QK p1,hval]
      simp only[if_true,hg,Option.getD_some,Option.isSome_some,Bool.or_true,and_true]
  have hnm:S0 K2 true (bE n sp).attrs=(n.attrs,true):=by
    have hskip:∀(l:List At) (s:List At×Bool),(∀ a∈l,∃ p,Rv a.name=some p)→l.foldl (Sy K2) s=s:=by
      intro l
      induction l with
      | nil=>intro s _;rfl
      | cons a l ih =>
        intro s h
        obtain⟨p,hp⟩:=h a (List.mem_cons_self ..)
        rw[List.foldl_cons,show Sy K2 s a=s by unfold Sy;rw[hp]]
        exact ih s (fun b hb=>h b (List.mem_cons_of_mem _ hb))
    have hgo:∀(b a:List At),n.attrs=a++b→(b.map (RC S)).foldl (Sy K2) (a,true)=(n.attrs,true):=by
      intro b
      induction b with
      | nil=>intro a h;simp at h;simp[h]
      | cons x b ih =>
        intro a h
        have hx:x∈n.attrs:=by rw[h];simp
        obtain⟨r1,r2⟩:=hback x hx
        have htw:(a.any fun y=>jN y x)=false:=by
          rw[h]at hpw
          have:=(List.pairwise_append.1 hpw).2.2
          refine List.any_eq_false.2 fun y hy=>?_
          have:=this y hy x (List.mem_cons_self ..)
          simp only[jN,Bool.and_eq_true,beq_iff_eq]
          exact fun e=>this ⟨e.1.symm,e.2.symm⟩
        rw[Lc,List.foldl_cons,show Sy K2 (a,true) (RC S x)=(a++[x],true) by
          unfold Sy;rw[hrn x hx];simp only[r1,r2,htw,Bool.and_self,Bf]]
        exact ih (a++[x]) (by rw[h];simp)
    unfold S0
    rw[hta,List.foldl_append,hskip _ _ hdin]
    exact hgo n.attrs [] rfl
  refine⟨d1,⟨e0,ex⟩,?_,fun hlen=>?_⟩
  · have hsn:Rs (bE n sp).name=([],n.name):=tY (kE hname)
    unfold RA
    rw[hsn]
    simp only[e0,Option.isSome_some,Option.getD_some,hnm]
    show((⟨n.kind,n.space,n.name,n.attrs,[],n.many⟩:Nd),true)=_
    rw[← ht]
  · unfold iI
    rw[if_neg (by show ¬ n.kind=2;omega)]
    have hats:tn (bE n sp).attrs=true:=by
      refine Sj.2 ⟨hlen,?_,fun a ha=>?_⟩
      · rw [hta]
        refine List.pairwise_append.2 ⟨List.pairwise_append.2 ⟨?_,?_,?_⟩,?_,?_⟩
        · unfold SI;split<;>simp
        · unfold Rx
          refine List.pairwise_iff_getElem.2 fun i j hi hj hij=>?_
          simp only[List.length_mapIdx]at hi hj
          simp only[List.getElem_mapIdx]
          rintro ⟨_,e⟩
          have:=RN j S[j]
          rw[e,RN]at this
          have:=SX _ (by omega) _ (by omega) (List.cons.inj (Option.some.inj this)).2
          omega
        · intro a ha b hb
          unfold SI at ha
          split at ha
          · cases ha
          · have:=List.mem_singleton.1 ha;subst this
            unfold Rx at hb
            obtain⟨i,hi,rfl⟩:=List.mem_mapIdx.1 hb
            rintro ⟨_,e⟩
            have:=RN i S[i]
            rw[e,kZ]at this;cases this
        · refine List.pairwise_map.2 (hpw.imp_of_mem fun {a b} ha hb hab=>?_)
          rintro ⟨_,e⟩
          apply hab
          have h1:=(hback a ha).1;have h2:=(hback b hb).1
          unfold RK at h1 h2
          rw[e]at h2
          constructor
          · rw[← h1,← h2];split<;>rfl
          · rw[← h1,← h2];split<;>rfl
        · intro a ha b hb
          obtain⟨p,hp⟩:=hdin a ha
          obtain⟨c,hc,rfl⟩:=List.mem_map.1 hb
          rintro ⟨_,e⟩
          rw[← e,hrn c hc]at hp;cases hp
      · rw [hta]at ha
        rcases List.mem_append.1 ha with ha|ha
        · rcases List.mem_append.1 ha with ha|ha
          · unfold SI at ha
            split at ha
            · cases ha
            · have:=List.mem_singleton.1 ha;subst this
              exact⟨(show b8 [120,109,108,110,115]=true by decide),hps,gH⟩
          · unfold Rx at ha
            obtain⟨i,hi,rfl⟩:=List.mem_mapIdx.1 ha
            refine⟨?_,(hSin _ (List.getElem_mem hi)).2.2,gH⟩
            show b8 ([120,109,108,110,115]++58::(110::dR (i+1)))=true
            rw[P3 (by decide),SF _ (by omega)];decide
        · obtain⟨c,hc,rfl⟩:=List.mem_map.1 ha
          obtain⟨q1,q2,_⟩:=hba c hc
          refine⟨?_,(hall c hc).2.1,gH⟩
          unfold RC
          by_cases h0:c.space=[]
          · simp only[h0,beq_self_eq_true,if_true];exact RF q1
          · have h0':(c.space==[])=false:=by simpa using h0
            simp only[h0',Bool.false_eq_true,if_false]
            obtain⟨p1,p2⟩:=SG hSl (hin c hc h0)
            rw[P3 p1,p2,q1];rfl
    have e1:(bE n sp).text=[]:=rfl
    have e2:(bE n sp).name=n.name:=rfl
    have e3:(bE n sp).space=[]:=rfl
    have e4:(bE n sp).kind=1:=hk
    rw[e1,e2,e3,e4,hats,RF hname,gH];rfl
def Fo.tell:Fo→List UInt8→Fo
 | .nil,_=>.nil
 | .cons n k r,sp=>.cons (if n.kind=2 then n else bE n sp) (k.tell n.space) (r.tell sp)
theorem Fo.tell_count:∀(F:Fo) (sp:List UInt8),(F.tell sp).count=F.count
 | .nil,_=>rfl
 | .cons n k r,sp=>by simp[Fo.tell,Fo.count,r.tell_count]
theorem Fo.tell_size:∀(F:Fo) (sp:List UInt8),(F.tell sp).size=F.size
 | .nil,_=>rfl
 | .cons n k r,sp=>by simp[Fo.tell,Fo.size,k.tell_size,r.tell_size]
theorem Fo.tell_flat:∀ {F:Fo} {d last:Nat} (sp:List UInt8),F.good d last=true→(F.tell sp).flat=F.bare sp
 | .nil,_,_,_,_=>rfl
 | .cons n k r,d,last,sp,h=>by
  obtain⟨h1,h2,h3,h4,h5,h6⟩:=Fo.good_cons.1 h
  simp only[Fo.tell,Fo.flat,Fo.bare,Fo.tell_flat sp h6]
  by_cases hk:n.kind=2
  ·have:=Fo.text_leaf h hk
   subst this
   simp[hk,Fo.tell,Fo.flat]
  ·simp[hk,Fo.tell_flat n.space h5]
theorem Fo.tell_good:∀ {F:Fo} {d last:Nat} (sp:List UInt8) (K:KnT),F.good d last=true→(∀ x∈F.flat,RG x=false)→(∀ x∈(F.tell sp).flat,x.attrs.length≤16)→Rn K sp →
  (F.tell sp).good d last=true∧(F.tell sp).res K=(F.flat,true)
 | .nil,_,_,_,_,_,_,_,_=>⟨rfl,rfl⟩
 | .cons n k r,d,last,sp,K,h,hb,hw,hK=>by
  obtain⟨h1,h2,h3,h4,h5,h6⟩:=Fo.good_cons.1 h
  simp only[Fo.tell,Fo.flat,Lk,List.mem_append]at hb hw
  obtain⟨r1,r2⟩:=Fo.tell_good (F:=r) sp K h6 (fun x hx=>hb x (.inr (.inr hx))) (fun x hx=>hw x (.inr (.inr hx))) hK
  by_cases hk:n.kind=2
  ·have:=Fo.text_leaf h hk
   subst this
   simp only[Fo.tell,if_pos hk,Fo.res,r2,Fo.flat,List.nil_append]
   exact⟨Fo.good_cons.2 ⟨h1,h2,h3,h4,rfl,r1⟩,trivial⟩
  ·have hk1:n.kind=1:=by rcases jY h1 with e|e;exact e;exact absurd e hk
   obtain⟨t1,t2,t3,t4⟩:=QJ (sp:=sp) hk1 h1 (hb n (.inl rfl)) hK
   obtain⟨k1,k2⟩:=Fo.tell_good (F:=k) n.space (Ry K true (bE n sp).attrs).1 h5 (fun x hx=>hb x (.inr (.inl hx))) (fun x hx=>hw x (.inr (.inl hx))) t2
   have hw0:=hw n
   simp only[Fo.tell,if_neg hk]
   have hkt:¬(bE n sp).kind=2:=hk
   refine⟨Fo.good_cons.2 ⟨t4 (hw _ (.inl (by rw[if_neg hk]))),by rw[Fo.tell_count];exact h2,h3,h4,k1,?_⟩,?_⟩
   ·show(r.tell sp).good d n.kind=true
    exact r1
   ·simp only[Fo.res,if_neg hkt,t1,t3,k2,r2,Fo.flat,Bool.and_self]
theorem Sk:∀ {F:Fo} {d last:Nat} (sp:List UInt8),F.good d last=true→((F.bare sp).any RJ)=false
 | .nil,_,_,_,_=>rfl
 | .cons n k r,d,last,sp,h=>by
  obtain⟨h1,h2,h3,h4,h5,h6⟩:=Fo.good_cons.1 h
  simp only[Fo.bare]
  rw[List.any_append,Sk sp h6,Bool.or_false]
  by_cases hk:n.kind=2
  ·obtain⟨_,q1,q2,_⟩:=iN h1 hk
   rw[if_pos hk];simp[RJ,q1,q2]
  ·rw[if_neg hk,List.any_cons,Sk n.space h5,Bool.or_false]
   unfold RJ bE
   simp only[beq_self_eq_true,Bt,Bool.false_or,List.any_append,List.any_map,Bool.or_eq_false_iff,List.any_eq_false]
   refine⟨⟨fun a ha=>?_,fun a ha=>?_⟩,fun a ha=>by simp[Sv,RC]⟩
   ·unfold SI at ha
    split at ha
    ·cases ha
    ·have:=List.mem_singleton.1 ha;subst this;simp[Sv]
   ·unfold Rx at ha
    obtain⟨i,hi,rfl⟩:=List.mem_mapIdx.1 ha
    simp[Sv,Sd]
theorem RR {v:List Nd}(h:fA v=0):∃ n k,n.kind=1∧v=n::k.flat∧(Fo.cons n k .nil).good 12 0=true∧k.size+1≤512:=by
 unfold fA at h
 cases hb:cX v with
 | none=>rw[hb]at h;cases h
 | some en =>
  obtain⟨n,k,h1,h2,h3,h4,_⟩:=np.1 hb
  exact⟨n,k,h1,h2,h3,by rw[h2]at h4;simpa [Fo.flat_length] using h4⟩
theorem R5 {n:Nd}{k:Fo}(hk:n.kind=1)(h:(Fo.cons n k .nil).good 12 0=true)(hl:k.size+1≤512):fA (n::k.flat)=0:=by
 unfold fA;rw[En (Nat.le_refl _) hk h hl];rfl
theorem pP {v:List Nd}(h:cn v=0):(∀ x∈v,RG x=false)∧fA v=0:=by
 unfold cn at h
 split at h
 ·cases h
 ·rename_i hb
  refine⟨fun x hx=>?_,h⟩
  cases hx2:RG x with
  | false=>rfl
  | true=>exact absurd (List.any_eq_true.2 ⟨x,hx,hx2⟩) hb
theorem Sz {v:List Nd}(h:(Rp v []).2=0):Rq (Rp v []).1=(v,0):=by
 unfold Rp at h ⊢
 split at h
 ·rename_i h1;exact absurd h h1
 ·rename_i h1
  rw[if_neg h1]
  split at h
  ·cases h
  ·rename_i h2
   rw[if_neg h2]
   split at h
   ·cases h
   ·rename_i h3
    rw[if_neg h3]
    obtain⟨hbad,hcb⟩:=pP (Decidable.not_not.1 h1)
    obtain⟨n,k,hk,hv,hg,hl⟩:=RR hcb
    have hvf:v=(Fo.cons n k .nil).flat:=by rw[hv];simp[Fo.flat]
    have hf:RT v = .cons n k .nil:=by rw[hv];exact RS hg
    rw[hf]at h3 ⊢
    have hw:∀ x∈((Fo.cons n k .nil).tell []).flat,x.attrs.length≤16:=fun x hx=>by
     rw[Fo.tell_flat [] hg]at hx
     have:=List.any_eq_false.1 (Bool.not_eq_true _ ▸ h3:RZ _=false) x hx
     simpa using this
    obtain⟨g1,g2⟩:=Fo.tell_good [] R4 hg (fun x hx=>hbad x (by rw[hvf];exact hx)) hw ⟨rfl,rfl⟩
    have hfl:=Fo.tell_flat [] hg
    have hsp:=Sk [] hg
    rw[← hfl]at hsp ⊢
    have hk2:¬ n.kind=2:=by omega
    have htl:(Fo.cons n k .nil).tell [] = .cons (bE n []) (k.tell n.space) .nil:=by simp[Fo.tell,hk2]
    rw[htl]at g1 g2 hsp ⊢
    have hflat:(Fo.cons (bE n []) (k.tell n.space) .nil).flat=bE n []::(k.tell n.space).flat:=by simp[Fo.flat]
    unfold Rq
    rw[hflat]at hsp ⊢
    rw[R5 (n:=bE n []) hk g1 (by rw[Fo.tell_size];exact hl),if_neg (by decide),if_neg (by rw[hsp];decide),RS g1,g2,if_pos rfl,← hvf]
def Rz (v:List Nd):Bool:=v.any fun n=>n.space==RE
def R9 (K:KnT):Prop:=∀ p v,dS p K=some v→(p=[120,109,108]→v=RE)∧(p≠[120,109,108]→Rw v=false)∧(p≠[]→v≠[])∧aQ v=0
theorem By:R9 R4:=fun p v h=>by
 unfold R4 at h
 simp only[dS]at h
 split at h
 ·rename_i e;cases h
  have:p=[]:=by simpa using e
  subst this
  exact⟨fun e=>absurd e (by decide),fun _=>by decide,fun e=>absurd rfl e,gH⟩
 ·split at h
  ·rename_i e;cases h
   have:p=[120,109,108]:=by simpa using e
   subst this
   exact⟨fun _=>rfl,fun e=>absurd rfl e,fun _=>by decide,by decide +kernel⟩
  ·cases h
theorem If {K:KnT}{r:Bool}{a:At}(h:R9 K)(hp:aQ a.value=0)(hr:(ug (K,r) a).2=true):R9 (ug (K,r) a).1∧r=true:=by
 unfold ug at hr ⊢
 cases hd:Rv a.name with
 | none=>rw[hd]at hr;exact⟨h,hr⟩
 | some p =>
  rw[hd]at hr
  simp only[Bool.and_eq_true]at hr ⊢
  obtain⟨h1,h2⟩:=hr
  refine⟨fun q v hq=>?_,h1⟩
  rw[get_put]at hq
  split at hq
  ·rename_i e
   cases hq;subst e
   unfold SL at h2
   split at h2
   ·cases h2
   ·rename_i e1
    split at h2
    ·rename_i e2
     have e2:q=[120,109,108]:=by simpa using e2
     have e3:a.value=RE:=by simpa using h2
     exact⟨fun _=>e3,fun e=>absurd e2 e,fun _=>by rw[e3];decide,hp⟩
    ·rename_i e2
     have e2:¬ q=[120,109,108]:=by simpa using e2
     simp only[Bool.and_eq_true,Bool.not_eq_true',Bool.or_eq_true,beq_iff_eq,bne_iff_ne]at h2
     exact⟨fun e=>absurd e e2,fun _=>h2.1,fun e=>h2.2.resolve_left e,hp⟩
  ·exact h q v hq
theorem Sp:∀(l:List At) (K:KnT) (r:Bool),R9 K→(∀ a∈l,aQ a.value=0)→(Ry K r l).2=true→R9 (Ry K r l).1∧r=true
 | [],K,r,h,_,hr=>⟨h,hr⟩
 | a::l,K,r,h,hp,hr=>by
  unfold Ry at hr ⊢
  rw[List.foldl_cons]at hr ⊢
  generalize hx:ug (K,r) a=x at hr ⊢
  have key:x.2=true→R9 x.1∧r=true:=fun e=>by rw[← hx]at e ⊢;exact If h (hp a (List.mem_cons_self ..)) e
  by_cases hx2:x.2=true
  ·obtain⟨k1,k2⟩:=key hx2
   exact⟨(Sp l x.1 x.2 k1 (fun b hb=>hp b (List.mem_cons_of_mem _ hb)) hr).1,k2⟩
  ·exfalso
   have hmono:∀(l:List At) (y:KnT×Bool),y.2=false→(l.foldl ug y).2=false:=by
    intro l
    induction l with
    | nil=>intro y h;exact h
    | cons b l ih =>
     intro y h
     rw[List.foldl_cons]
     refine ih _ ?_
     unfold ug
     cases Rv b.name with
     | none=>exact h
     | some p=>simp[h]
   have:=hmono l x (by simpa using hx2)
   have hr':(l.foldl ug x).2=true:=hr
   rw[this]at hr';cases hr'
theorem Qz {K:KnT} : ∀(l acc:List At) (r:Bool),(l.foldl (Sy K) (acc,r)).2=true→r=true∧(∀ x∈(l.foldl (Sy K) (acc,r)).1,x∈acc ∨ ∃ a∈l,Rv a.name=none∧x=RK K a∧RQ K a=true) ∧
  (acc.Pairwise (fun b a=>¬(a.space=b.space∧a.name=b.name))→(l.foldl (Sy K) (acc,r)).1.Pairwise (fun b a=>¬(a.space=b.space∧a.name=b.name)))∧(l.foldl (Sy K) (acc,r)).1.length≤acc.length+l.length
 | [],acc,r,h=>⟨h,fun x hx=>.inl hx,id,by simp⟩
 | a::l,acc,r,h=>by
  rw[List.foldl_cons]at h ⊢
  unfold Sy at h ⊢
  cases hd:Rv a.name with
  | some p =>
   rw[hd]at h
   simp only at h ⊢
   obtain⟨h1,h2,h3,h4⟩:=Qz l acc r h
   refine⟨h1,fun x hx=>?_,h3,by simp only[List.length_cons];exact Nat.le_succ_of_le h4⟩
   rcases h2 x hx with q|⟨b,hb,q⟩
   ·exact .inl q
   ·exact .inr ⟨b,List.mem_cons_of_mem _ hb,q⟩
  | none =>
   rw[hd]at h
   simp only at h ⊢
   obtain⟨h1,h2,h3,h4⟩:=Qz l (acc++[RK K a]) _ h
   simp only[Bool.and_eq_true,Bool.not_eq_true',List.any_eq_false]at h1
   refine⟨h1.1.1,fun x hx=>?_,fun hp=>h3 ?_,?_⟩
   ·rcases h2 x hx with q|⟨b,hb,q⟩
    ·rcases List.mem_append.1 q with q|q
     ·exact .inl q
     ·exact .inr ⟨a,List.mem_cons_self ..,hd,List.mem_singleton.1 q,h1.1.2⟩
    ·exact .inr ⟨b,List.mem_cons_of_mem _ hb,q⟩
   ·refine List.pairwise_append.2 ⟨hp,by simp,fun b hb c hc=>?_⟩
    have:=List.mem_singleton.1 hc;subst this
    have:=h1.2 b hb
    simp only[jN,Bool.and_eq_true,beq_iff_eq,not_and]at this
    exact fun e=>this e.1.symm e.2.symm
   ·refine Nat.le_trans h4 ?_
    simp only[List.length_append,List.length_cons,List.length_nil];omega
theorem rX {s:List UInt8}(h:b8 s=true):dc (Rs s).2=true∧((58:UInt8)∈s→dc (Rs s).1=true):=by
 unfold b8 at h
 unfold Rs
 cases hc:dP 58 s with
 | none=>rw[hc]at h;exact⟨h,fun hm=>absurd hm (fQ.1 hc)⟩
 | some p=>obtain⟨a,b⟩:=p;rw[hc]at h;simp only[Bool.and_eq_true]at h;exact⟨h.2,fun _=>h.1⟩
theorem QY {s:List UInt8}(h:dc s=true):s≠[]:=by rintro rfl;cases h
theorem Gn {n:Nd}{K:KnT}(hk:n.kind=1)(hm:iI n=true)(hK:R9 K)(hr:(RA K n).2=true)(hx:(RA K n).1.space≠RE):RG (RA K n).1=false∧iI (RA K n).1=true:=by
 obtain⟨ht,hfn,hps,hat⟩:=ml hm hk
 obtain⟨ha16,hpw,hall⟩:=Sj.1 hat
 obtain⟨f1,f2⟩:=rX hfn
 unfold RA at hr hx ⊢
 simp only at hr hx ⊢
 unfold S0 at hr ⊢
 obtain⟨s1,s2,s3,s4⟩:=Qz n.attrs [] _ hr
 obtain⟨v,hv⟩:=Option.isSome_iff_exists.1 s1
 rw[hv,Option.getD_some]at hx
 rw[hv,Option.getD_some]
 rw[hv]at s2 s3 s4
 obtain⟨g1,g2,g3,g4⟩:=hK _ _ hv
 have hgv:Rw v=false:=g2 fun e=>hx (g1 e)
 have hA:∀ x∈(n.attrs.foldl (Sy K) ([],Option.isSome (some v))).1,qq x=false∧b8 x.name=true∧aQ x.value=0∧aQ x.space=0:=fun x hx=>by
  rcases s2 x hx with h|⟨a,ha,hd,e,hh⟩
  ·cases h
  ·obtain⟨q1,q2,_⟩:=hall a ha
   obtain⟨p1,p2⟩:=rX q1
   subst e
   unfold RK
   by_cases hc:(58:UInt8)∈a.name
   ·have hc':a.name.contains 58=true:=List.contains_iff_mem.2 hc
    unfold RQ at hh
    rw[hc']at hh
    simp only[Bt,Bool.false_or]at hh
    obtain⟨u,hu⟩:=Option.isSome_iff_exists.1 hh
    obtain⟨k1,k2,k3,k4⟩:=hK _ _ hu
    rw[if_pos hc']
    simp only[hu,Option.getD_some]
    refine⟨?_,RF p1,q2,k4⟩
    have hne:=QY (p2 hc)
    have hu0:=k3 hne
    have hux:u≠R1:=by
     rintro rfl
     by_cases e:(Rs a.name).1=[120,109,108]
     ·exact absurd (k1 e) (by decide)
     ·exact absurd (k2 e) (by decide)
    unfold qq
    simp[p1,hu0,hux]
   ·have hc':=Ss hc
    rw[if_neg (by rw[hc'];decide)]
    have hnm:dc a.name=true:=by rw[tY hc]at p1;exact p1
    refine⟨?_,RF hnm,q2,gH⟩
    unfold qq
    have h1:a.name≠[120,109,108,110,115]:=fun e=>by rw[e,kZ]at hd;cases hd
    simp only[hnm,Bt,Bool.false_or,Bool.or_eq_false_iff,Bool.and_eq_false_iff,beq_eq_false_iff_ne]
    exact⟨.inr h1,by decide⟩
 constructor
 ·unfold RG
  simp only[Bool.or_eq_false_iff,List.any_eq_false,hgv,f1,Bt,Bool.and_false,true_and]
  exact fun x hx=>by rw[(hA x hx).1];decide
 ·unfold iI
  rw[if_neg (by show ¬ n.kind=2;omega)]
  have hats:=Sj.2 ⟨by simp only[List.length_nil]at s4;omega,s3 (by simp),fun x hx=>(hA x hx).2⟩
  simp only[hats,hk,RF f1,g4,decide_true,List.isEmpty_nil,Bool.and_self]
def Fo.rsv:Fo→KnT→Fo
 | .nil,_=>.nil
 | .cons n k r,K=>.cons (if n.kind=2 then n else (RA (Ry K true n.attrs).1 n).1) (if n.kind=2 then .nil else k.rsv (Ry K true n.attrs).1) (r.rsv K)
theorem Fo.rsv_count:∀(F:Fo) (K:KnT),(F.rsv K).count=F.count
 | .nil,_=>rfl
 | .cons n k r,K=>by simp[Fo.rsv,Fo.count,r.rsv_count]
theorem Fo.rsv_size:∀(F:Fo) (K:KnT),(F.rsv K).size≤F.size
 | .nil,_=>Nat.le_refl _
 | .cons n k r,K=>by
  have h1:=k.rsv_size (Ry K true n.attrs).1
  have h2:=r.rsv_size K
  simp only[Fo.rsv,Fo.size]
  split
  ·simp only[Fo.size];omega
  ·omega
theorem Fo.rsv_flat:∀(F:Fo) (K:KnT),(F.rsv K).flat=(F.res K).1
 | .nil,_=>rfl
 | .cons n k r,K=>by
  simp only[Fo.rsv,Fo.flat,Fo.res,r.rsv_flat K]
  by_cases hk:n.kind=2
  ·simp[hk,Fo.flat]
  ·simp[hk,k.rsv_flat (Ry K true n.attrs).1]
theorem Fo.rsv_good:∀ {F:Fo} {d last:Nat} {K:KnT},F.good d last=true→R9 K→(F.res K).2=true→Rz (F.res K).1=false→(F.rsv K).good d last=true ∧ ∀ x∈(F.rsv K).flat,RG x=false
 | .nil,_,_,_,_,_,_,_=>⟨rfl,fun x hx=>by cases hx⟩
 | .cons n k r,d,last,K,h,hK,hr,hs=>by
  obtain⟨h1,h2,h3,h4,h5,h6⟩:=Fo.good_cons.1 h
  by_cases hk:n.kind=2
  ·have:=Fo.text_leaf h hk
   subst this
   simp only[Fo.res,if_pos hk]at hr hs
   unfold Rz at hs
   rw[List.any_cons,Bool.or_eq_false_iff]at hs
   obtain⟨r1,r2⟩:=Fo.rsv_good (F:=r) h6 hK hr hs.2
   simp only[Fo.rsv,if_pos hk,Fo.flat,List.nil_append]
   refine⟨Fo.good_cons.2 ⟨h1,h2,h3,h4,rfl,r1⟩,fun x hx=>?_⟩
   rcases List.mem_cons.1 hx with e|hx
   ·subst e
    obtain⟨_,q1,q2,_⟩:=iN h1 hk
    unfold RG
    rw[q1,q2]
    simp only[hk,List.any_nil,Bool.or_false]
    show(decide ((2:Nat)=1) && !dc x.name||Rw [])=false
    rw[show decide ((2:Nat)=1)=false from rfl,Bool.false_and];decide
   ·exact r2 x hx
  ·have hk1:n.kind=1:=by rcases jY h1 with e|e;exact e;exact absurd e hk
   simp only[Fo.res,if_neg hk,Bool.and_eq_true]at hr hs
   obtain⟨⟨⟨c1,c2⟩,c3⟩,c4⟩:=hr
   unfold Rz at hs
   rw[List.any_cons,List.any_append,Bool.or_eq_false_iff,Bool.or_eq_false_iff]at hs
   obtain⟨e1,e2,e3⟩:=hs
   obtain⟨_,_,_,hat⟩:=ml h1 hk1
   have hg:=(Sp n.attrs K true hK (fun a ha=>((Sj.1 hat).2.2 a ha).2.1) c1).1
   obtain⟨b1,b2⟩:=Gn hk1 h1 hg c2 (by simpa using e1)
   obtain⟨k1,k2⟩:=Fo.rsv_good (F:=k) h5 hg c3 e2
   obtain⟨r1,r2⟩:=Fo.rsv_good (F:=r) h6 hK c4 e3
   simp only[Fo.rsv,if_neg hk,Fo.flat]
   refine⟨Fo.good_cons.2 ⟨b2,by rw[Fo.rsv_count];exact h2,h3,h4,k1,r1⟩,fun x hx=>?_⟩
   rcases List.mem_cons.1 hx with e|hx
   ·subst e;exact b1
   ·rcases List.mem_append.1 hx with hx|hx
    ·exact k2 x hx
    ·exact r2 x hx
theorem QO {v:List Nd}(h:(Rq v).2=0)(hs:Rz (Rq v).1=false):cn (Rq v).1=0:=by
 unfold Rq at h hs ⊢
 split at h
 ·cases h
 ·rename_i h1
  rw[if_neg h1]at hs ⊢
  split at h
  ·cases h
  ·rename_i h2
   rw[if_neg h2]at hs ⊢
   split at h
   ·rename_i h3
    rw[if_pos h3]at hs ⊢
    obtain⟨n,k,hk,hv,hg,hl⟩:=RR (Decidable.not_not.1 h1)
    have hf:RT v = .cons n k .nil:=by rw[hv];exact RS hg
    rw[hf]at h3 hs ⊢
    obtain⟨g1,g2⟩:=Fo.rsv_good hg By h3 hs
    rw[← Fo.rsv_flat]
    have hk2:¬ n.kind=2:=by omega
    have hcons:(Fo.cons n k .nil).rsv R4 = .cons (RA (Ry R4 true n.attrs).1 n).1 (k.rsv (Ry R4 true n.attrs).1) .nil:=by simp[Fo.rsv,hk2]
    rw[hcons]at g1 g2 ⊢
    have hflat:(Fo.cons (RA (Ry R4 true n.attrs).1 n).1 (k.rsv (Ry R4 true n.attrs).1) .nil).flat=(RA (Ry R4 true n.attrs).1 n).1::(k.rsv (Ry R4 true n.attrs).1).flat:=by simp[Fo.flat]
    rw[hflat]at g2 ⊢
    unfold cn
    rw[if_neg (by
     intro hh
     obtain⟨x,hx,hb⟩:=List.any_eq_true.1 hh
     rw[g2 x hx]at hb;cases hb)]
    have:=Fo.rsv_size k (Ry R4 true n.attrs).1
    exact R5 hk g1 (by omega)
   ·cases h
theorem Ql {v:List Nd}{sp:List UInt8}(h:(Rp v sp).2=0):∃(n:Nd) (w T:List Nd),v=n::w∧n.kind=1∧n.attrs.length≤16 ∧ ∀ sp',(Rp v sp').2=0→(Rp v sp').1=bE n sp'::T:=by
 have h1:cn v=0:=by
  by_cases h1:cn v=0
  ·exact h1
  ·unfold Rp at h;rw[if_pos h1]at h;exact absurd h h1
 obtain⟨n,k,hk,hv,hg,hl⟩:=RR (pP h1).2
 refine⟨n,k.flat,k.bare n.space,hv,hk,(nS (Fo.good_cons.1 hg).1).1,fun sp' h'=>?_⟩
 have hk2:¬ n.kind=2:=by omega
 have hf:(RT v).bare sp'=bE n sp'::k.bare n.space:=by rw[hv,RS hg];simp[Fo.bare,hk2]
 unfold Rp at h' ⊢
 split at h'
 ·rename_i h3;exact absurd h1 h3
 ·rename_i h3
  rw[if_neg h3]
  split at h'
  ·cases h'
  ·rename_i h4
   rw[if_neg h4]
   split at h'
   ·cases h'
   ·rename_i h5
    rw[if_neg h5]
    exact hf
theorem Qa {v:List Nd}{sp:List UInt8}(h:(Rp v sp).2≠0):(Rp v sp).1=[]:=by
 unfold Rp at h ⊢
 split
 ·rfl
 ·rename_i h1
  rw[if_neg h1]at h
  split
  ·rfl
  ·rename_i h2
   rw[if_neg h2]at h
   split
   ·rfl
   ·rename_i h3
    rw[if_neg h3]at h
    exact absurd rfl h
end Go.Proofs.YtidmkaalhmeflaaGreatDoor
