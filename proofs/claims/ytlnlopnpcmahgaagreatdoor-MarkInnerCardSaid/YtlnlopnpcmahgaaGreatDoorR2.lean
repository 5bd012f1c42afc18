/-
 Texts joined: XOb,XOc,XOd.
-/
import Derived.Test.YtlnlopnpcmahgaaGreatDoorR1
import Derived.Test.YtlnlopnpcmahgaaGreatDoorQt
set_option linter.all false
namespace Go.Proofs.YtlnlopnpcmahgaaGreatDoor
set_option maxRecDepth 100000
set_option maxHeartbeats 32000000
open Go Go.RowKit Vm Go.Lib Tryz
open Vm renaming aW->Ca,bf->Cb
open And renaming intro->Ai
open List renaming length_map->Lm,not_mem_nil->Ln,map_nil->Lo,map_cons->Lc,mem_cons->Lk
open Bool renaming not_false->Bf,not_true->Bt
def lK {s:List UInt8}(h:eI s=true):(58:UInt8) ∉ s:=by
 have hp:∀ b,jQ b 58=false:=by decide
 cases s with
 | nil=>simp
 | cons c r =>
  simp only[eI,Bool.and_eq_true,List.all_eq_true]at h
  intro hm
  rcases List.mem_cons.1 hm with e|e
  ·rw[<- e,hp]at h;exact absurd h.1 (by decide)
  ·have:=h.2 _ e;rw[hp]at this;cases this
def BS {s:List UInt8}(h:(58:UInt8) ∉ s):s.contains 58=false:=by
 cases hc:s.contains 58 with
 | false=>rfl
 | true=>rw[List.contains_iff_mem]at hc;exact absurd hc h
def DF {s:List UInt8}(h:(58:UInt8) ∉ s):dO s=([],s):=by
 unfold dO;rw[gY.2 h]
def Li {a b:List UInt8}(h:(58:UInt8) ∉ a):dO (a++58::b)=(a,b):=by
 unfold dO;rw[nD h]
def El {a b:List UInt8}(h:(58:UInt8) ∉ a):cN (a++58::b)=(eI a&&eI b):=by
 unfold cN;rw[nD h]
def we {s:List UInt8}(h:eI s=true):cN s=true:=by
 unfold cN;rw[gY.2 (lK h)];exact h
def CP:∀ n,n<99->(58:UInt8) ∉ 110::eo n:=by decide +kernel
def wq:∀ n,n<99->eI (110::eo n)=true:=by decide +kernel
def Ao:∀ a,a<99 -> ∀ b,b<99->eo a=eo b->a=b:=by decide +kernel
def Iz (s:List UInt8):fp ([120,109,108,110,115,58]++s)=some s:=by
 have h:preB ([120,109,108,110,115,58]++s) [120,109,108,110,115,58]=true:=by unfold preB;simp
 unfold fp
 rw[if_neg (by simp),if_pos h];rfl
def oN:fp [120,109,108,110,115]=some []:=rfl
def qD {s:List UInt8}(h1:s≠[120,109,108,110,115])(h2:s.take 6≠[120,109,108,110,115,58]):fp s=none:=by
 unfold fp preB
 rw[if_neg (by simpa using h1),if_neg (by simp[h2])]
def BW {s:List UInt8}(h:(58:UInt8) ∉ s)(h1:s≠[120,109,108,110,115]):fp s=none :=
 qD h1 fun e=>h (List.mem_of_mem_take (i:=6) (by rw[e];simp))
def mH (k:Nat)(s:List UInt8):fp (sb k s).name=some (110::eo (k+1)):=Iz (110::eo (k+1))
def JG {K:kw×Bool}{a:At}(h:fp a.name=none):CR K a=K:=by unfold CR;rw[h]
def Aq:∀ {l:List At} {K:kw} {r:Bool},(∀ a∈l,fp a.name=none)->jh K r l=(K,r)
 | [],_,_,_=>rfl
 | a::l,K,r,h=>by
  have:=Aq (l:=l) (K:=K) (r:=r) (fun b hb=>h b (List.mem_cons_of_mem _ hb))
  unfold jh at this ⊢
  rw[List.foldl_cons,JG (h a (List.mem_cons_self ..)),this]
def EA (K:kw)(r:Bool)(a b:List At):jh K r (a++b)=jh (jh K r a).1 (jh K r a).2 b:=by unfold jh;rw[List.foldl_append]
def oo (j:Nat)(S:List (List UInt8)):List At:=S.mapIdx fun i=>sb (j+i)
def BZ (S:List (List UInt8)):oo 0 S=fO S:=by unfold oo fO;simp
def BX (j:Nat)(s:List UInt8)(S:List (List UInt8)):oo j (s::S)=sb j s::oo (j+1) S:=by
 unfold oo;rw[List.mapIdx_cons]
 simp only[Nat.add_zero,List.cons.injEq,true_and]
 congr 1;funext i;rw[show j+(i+1)=j+1+i by omega]
def D9:∀(S:List (List UInt8)) (j:Nat) (K:kw),j+S.length<=90->(∀ s∈S,s≠[]/\eG s=false) ->
  (jh K true (oo j S)).2=true/\(∀ q,(∀ i,i<S.length->q≠110::eo (j+i+1))->eL q (jh K true (oo j S)).1=eL q K) /\ ∀ i s,S[i]? = some s->eL (110::eo (j+i+1)) (jh K true (oo j S)).1=some s
 | [],j,K,_,_=>⟨rfl,fun _ _=>rfl,fun i s h=>by simp at h⟩
 | s::S,j,K,hj,hs=>by
  obtain⟨h0,hg⟩:=hs s (List.mem_cons_self ..)
  have hm:AD (110::eo (j+1)) s=true:=by
   unfold AD
   rw[if_neg (by simp),if_neg (by simp),hg]
   simp[h0]
  have hstep:jh K true (oo j (s::S))=jh (so (110::eo (j+1)) s K) true (oo (j+1) S):=by
   rw[BX]
   have:CR (K,true) (sb j s)=(so (110::eo (j+1)) s K,true):=by
    unfold CR;rw[mH];simp only[sb,hm,Bool.and_self]
   unfold jh;rw[List.foldl_cons,this]
  rw[hstep]
  simp only[List.length_cons]at hj
  obtain⟨i1,i2,i3⟩:=D9 S (j+1) (so (110::eo (j+1)) s K) (by omega) (fun x hx=>hs x (List.mem_cons_of_mem _ hx))
  refine⟨i1,fun q hq=>?_,fun i x hx=>?_⟩
  ·rw[i2 q (fun i hi=>by have:=hq (i+1) (by simp;omega);rwa[show j+(i+1)+1=j+1+i+1 by omega]at this),get_put,if_neg (hq 0 (by simp))]
  ·cases i with
   | zero =>
    simp only[List.getElem?_cons_zero,Option.some.injEq]at hx
    subst hx
    rw[i2 _ (fun i hi e=>by
     have:=Ao (j+0+1) (by omega) (j+1+i+1) (by omega) (List.cons.inj e).2
     omega),get_put,if_pos rfl]
   | succ i =>
    have:=i3 i x (by simpa using hx)
    rwa[show j+1+i+1=j+(i+1)+1 by omega]at this
def Sc (K:kw)(sp:List UInt8):Prop:=eL [] K=some sp/\eL [120,109,108] K=some lj
def ET {l:List At} : ∀ {S:List (List UInt8)},∀ s∈l.foldl gX S,s∈S \/ ∃ a∈l,a.space=s/\s≠[]/\s≠lj:=by
 induction l with
 | nil=>intro S s h;exact .inl h
 | cons a l ih =>
  intro S s h
  rw[List.foldl_cons]at h
  rcases ih s h with h|⟨b,hb,h1⟩
  ·unfold gX at h
   split at h
   ·exact .inl h
   ·rename_i h1
    split at h
    ·exact .inl h
    ·rename_i h2
     split at h
     ·exact .inl h
     ·rcases List.mem_append.1 h with h|h
      ·exact .inl h
      ·refine .inr ⟨a,List.mem_cons_self ..,?_⟩
       have:=List.mem_singleton.1 h
       subst this
       exact⟨rfl,by simpa using h1,by simpa using h2⟩
  ·exact .inr ⟨b,List.mem_cons_of_mem _ hb,h1⟩
def K7 {l:List At} : ∀ {S:List (List UInt8)} {a:At},a∈l->a.space≠[]->a.space≠lj->a.space∈l.foldl gX S:=by
 induction l with
 | nil=>intro S a h;cases h
 | cons b l ih =>
  intro S a h h1 h2
  rw[List.foldl_cons]
  rcases List.mem_cons.1 h with e|h
  ·subst e
   refine(lU l (gX S a)).subset ?_
   unfold gX
   rw[if_neg (by simpa using h1),if_neg (by simpa using h2)]
   split
   ·rename_i h3;exact List.contains_iff_mem.1 h3
   ·simp
  ·exact ih h h1 h2
def JA {S:List (List UInt8)}{s:List UInt8}(h:s∈S):S[PY S s]? = some s/\PY S s<S.length:=by
 unfold PY
 cases hf:S.findIdx? (· == s) with
 | none=>have:=vW hf;rw[List.contains_iff_mem.2 h]at this;cases this
 | some k =>
  obtain⟨hk,h1,_⟩:=List.findIdx?_eq_some_iff_getElem.1 hf
  have e:S[k]=s:=by simpa using h1
  exact⟨by simp only[Option.getD_some];rw[List.getElem?_eq_getElem hk,e],by simpa using hk⟩
def Ie {l:List At} : s9 l=true↔l.length<=16/\l.Pairwise (fun b a=>¬(a.space=b.space/\a.name=b.name)) /\ ∀ a∈l,cN a.name=true/\aN a.value=0/\aN a.space=0:=by
 rw[su]
 refine and_congr_right fun _=>?_
 have hok:∀(p:List At) (a:At),O1 p a=true↔(∀ b∈p,¬(a.space=b.space/\a.name=b.name))/\cN a.name=true/\aN a.value=0/\aN a.space=0:=fun p a=>by
  unfold O1
  simp only[Bool.and_eq_true,Bool.not_eq_true',decide_eq_true_eq,List.any_eq_false,beq_iff_eq,and_assoc]
 unfold vT
 constructor
 ·intro h
  refine⟨List.pairwise_iff_getElem.2 fun i j hi hj hij=>?_,fun a ha=>?_⟩
  ·have:=((hok _ _).1 (h j l[j] hj (List.getElem?_eq_getElem hj))).1 l[i] (by
    rw[List.mem_take_iff_getElem];exact⟨i,by omega,rfl⟩)
   exact this
  ·obtain⟨i,hi,rfl⟩:=List.getElem_of_mem ha
   exact((hok _ _).1 (h i l[i] hi (List.getElem?_eq_getElem hi))).2
 ·rintro ⟨h1,h2⟩ i a hi ha
  obtain⟨hi',rfl⟩:=List.getElem?_eq_some_iff.1 ha
  refine(hok _ _).2 ⟨fun b hb=>?_,h2 _ (List.getElem_mem hi')⟩
  obtain⟨k,hk,rfl⟩:=List.mem_take_iff_getElem.1 hb
  exact List.pairwise_iff_getElem.1 h1 k i (by omega) hi' (by omega)
def wK {S:List (List UInt8)}{s:List UInt8}(hS:S.length<=16)(h:s=lj\/s∈S):(58:UInt8) ∉ og S s/\eI (og S s)=true:=by
 unfold og
 split
 ·exact⟨by decide,by decide⟩
 ·rename_i hx
  rcases h with e|h
  ·subst e;simp at hx
  ·have:=(JA h).2
   exact⟨CP _ (by omega),wq _ (by omega)⟩
def LJ {n:Nd}{sp:List UInt8}{K:kw}(hk:n.kind=1)(hm:jJ n=true)(hb:mu n=false)(hK:Sc K sp) :
    (jh K true (bp n sp).attrs).2=true/\Sc (jh K true (bp n sp).attrs).1 n.space/\kU (jh K true (bp n sp).attrs).1 (bp n sp)=(n,true)/\((bp n sp).attrs.length<=16->jJ (bp n sp)=true):=by
  obtain⟨ht,hfn,hps,hat⟩:=rj hm hk
  obtain⟨ha16,hpw,hall⟩:=Ie.1 hat
  unfold mu at hb
  simp only[Bool.or_eq_false_iff,List.any_eq_false,hk,decide_true,Bool.true_and,Bool.not_eq_false']at hb
  obtain⟨⟨hname,hgiv⟩,hbad⟩:=hb
  have hba:∀ a∈n.attrs,eI a.name=true/\(a.space=[]->a.name≠[120,109,108,110,115])/\a.space≠u7:=fun a ha=>by
    have h:=hbad a ha
    simp only[zg,Bool.or_eq_true,Bool.and_eq_true,Bool.not_eq_true',beq_iff_eq,not_or,not_and,Bool.not_eq_false]at h
    exact⟨h.1.1,h.1.2,h.2⟩
  generalize hSe:bF n.attrs=S
  have hSl:S.length<=16:=by have:=rz n.attrs;rw[hSe]at this;omega
  have hSin:∀ s∈S,s≠[]/\eG s=false/\aN s=0:=fun s hs=>by
    rw[<- hSe]at hs
    rcases ET s hs with h|⟨a,ha,e,h1,h2⟩
    · cases h
    · refine⟨h1,?_,by rw[<- e];exact(hall a ha).2.2⟩
      unfold eG
      have:=(hba a ha).2.2
      rw[e]at this
      simp[h2,this]
  have hin:∀ a∈n.attrs,a.space≠[]->a.space=lj\/a.space∈S:=fun a ha h=>by
    by_cases hx:a.space=lj
    · exact .inl hx
    · right;rw[<- hSe];exact K7 ha h hx
  -- no attribute of the element's own declares
  have hrn:∀ a∈n.attrs,fp (jZ S a).name=none:=fun a ha=>by
    obtain⟨q1,q2,_⟩:=hba a ha
    unfold jZ
    by_cases h0:a.space=[]
    · simp only[h0,beq_self_eq_true,if_true]
      exact BW (lK q1) (q2 h0)
    · have h0':(a.space==[])=false:=by simpa using h0
      simp only[h0',Bool.false_eq_true,if_false]
      unfold og
      split
      · exact qD (by simp) (by simp)
      · exact qD (by simp) (by simp)
  have hta:(bp n sp).attrs=Bq n sp++fO S++n.attrs.map (jZ S):=by unfold bp;rw[hSe]
  have hdin:∀ a∈Bq n sp++fO S,∃ p,fp a.name=some p:=fun a ha=>by
    rcases List.mem_append.1 ha with h|h
    · unfold Bq at h
      split at h
      · cases h
      · have:=List.mem_singleton.1 h;subst this;exact⟨_,oN⟩
    · unfold fO at h
      obtain⟨i,hi,rfl⟩:=List.mem_mapIdx.1 h
      exact⟨_,mH _ _⟩
  -- what is known behind the declarations
  obtain⟨K1,hK1,hk1,hk2,hk3⟩:∃ K1,jh K true (Bq n sp)=(K1,true)/\eL [] K1=some n.space/\eL [120,109,108] K1=some lj/\True:=by
    unfold Bq
    by_cases he:n.space=sp
    · refine⟨K,by simp[he,jh],?_,hK.2,trivial⟩
      rw[he];exact hK.1
    · have he':(n.space==sp)=false:=by simpa using he
      have hmay:AD [] n.space=true:=by unfold AD;rw[if_neg (by decide),if_neg (by decide),hgiv];rfl
      refine⟨so [] n.space K,?_,?_,?_,trivial⟩
      · simp[he',jh,CR,oN,hmay]
      · rw[get_put,if_pos rfl]
      · rw[get_put,if_neg (by decide)];exact hK.2
  obtain⟨d1,d2,d3⟩:=D9 S 0 K1 (by omega) (fun s hs=>⟨(hSin s hs).1,(hSin s hs).2.1⟩)
  rw[BZ]at d1 d2 d3
  have hkn:jh K true (bp n sp).attrs=jh K1 true (fO S):=by
    rw[hta,EA,EA,hK1]
    exact Aq fun a ha=>by
      obtain⟨b,hb,rfl⟩:=List.mem_map.1 ha
      exact hrn b hb
  rw[hkn]
  generalize hK2:(jh K1 true (fO S)).1=K2 at d2 d3 ⊢
  have e0:eL [] K2=some n.space:=by rw[d2 [] (fun i _=>by simp),hk1]
  have ex:eL [120,109,108] K2=some lj:=by rw[d2 _ (fun i _=>by simp),hk2]
  -- an attribute told,then resolved
  have hback:∀ a∈n.attrs,nk K2 (jZ S a)=a/\rR K2 (jZ S a)=true:=fun a ha=>by
    obtain⟨q1,q2,_⟩:=hba a ha
    have hval:(jZ S a).value=a.value:=rfl
    by_cases h0:a.space=[]
    · have hn:(jZ S a).name=a.name:=by unfold jZ;simp[h0]
      have hc:=BS (lK q1)
      unfold nk rR
      rw[hn,hc,hval]
      refine⟨?_,rfl⟩
      simp only[Bool.false_eq_true,if_false]
      cases a;simp only at h0;rw[h0]
    · have h0':(a.space==[])=false:=by simpa using h0
      have hn:(jZ S a).name=og S a.space++58::a.name:=by unfold jZ;simp only[h0',Bool.false_eq_true,if_false]
      obtain⟨p1,_⟩:=wK hSl (hin a ha h0)
      have hc:(og S a.space++58::a.name).contains 58=true:=List.contains_iff_mem.2 (by simp)
      have hg:eL (og S a.space) K2=some a.space:=by
        unfold og
        by_cases hx:a.space=lj
        · rw[if_pos (by simpa using hx),ex,hx]
        · rw[if_neg (by simpa using hx)]
          have hi:=JA ((hin a ha h0).resolve_left hx)
          have:=d3 _ _ hi.1
          rwa[Nat.zero_add]at this
      unfold nk rR
      rw[hn,hc,Li p1,hval]
      simp only[if_true,hg,Option.getD_some,Option.isSome_some,Bool.or_true,and_true]
  have hnm:Br K2 true (bp n sp).attrs=(n.attrs,true):=by
    have hskip:∀(l:List At) (s:List At×Bool),(∀ a∈l,∃ p,fp a.name=some p)->l.foldl (C2 K2) s=s:=by
      intro l
      induction l with
      | nil=>intro s _;rfl
      | cons a l ih =>
        intro s h
        obtain⟨p,hp⟩:=h a (List.mem_cons_self ..)
        rw[List.foldl_cons,show C2 K2 s a=s by unfold C2;rw[hp]]
        exact ih s (fun b hb=>h b (List.mem_cons_of_mem _ hb))
    have hgo:∀(b a:List At),n.attrs=a++b->(b.map (jZ S)).foldl (C2 K2) (a,true)=(n.attrs,true):=by
      intro b
      induction b with
      | nil=>intro a h;simp at h;simp[h]
      | cons x b ih =>
        intro a h
        have hx:x∈n.attrs:=by rw[h];simp
        obtain⟨r1,r2⟩:=hback x hx
        have htw:(a.any fun y=>l6 y x)=false:=by
          rw[h]at hpw
          have:=(List.pairwise_append.1 hpw).2.2
          refine List.any_eq_false.2 fun y hy=>?_
          have:=this y hy x (List.mem_cons_self ..)
          simp only[l6,Bool.and_eq_true,beq_iff_eq]
          exact fun e=>this ⟨e.1.symm,e.2.symm⟩
        rw[Lc,List.foldl_cons,show C2 K2 (a,true) (jZ S x)=(a++[x],true) by
          unfold C2;rw[hrn x hx];simp only[r1,r2,htw,Bool.and_self,Bf]]
        exact ih (a++[x]) (by rw[h];simp)
    unfold Br
    rw[hta,List.foldl_append,hskip _ _ hdin]
    exact hgo n.attrs [] rfl
  refine⟨d1,⟨e0,ex⟩,?_,fun hlen=>?_⟩
  · have hsn:dO (bp n sp).name=([],n.name):=DF (lK hname)
    unfold kU
    rw[hsn]
    simp only[e0,Option.isSome_some,Option.getD_some,hnm]
    show((⟨n.kind,n.space,n.name,n.attrs,[],n.many⟩:Nd),true)=_
    rw[<- ht]
  · unfold jJ
    rw[if_neg (by show ¬ n.kind=2;omega)]
    have hats:s9 (bp n sp).attrs=true:=by
      refine Ie.2 ⟨hlen,?_,fun a ha=>?_⟩
      · rw [hta]
        refine List.pairwise_append.2 ⟨List.pairwise_append.2 ⟨?_,?_,?_⟩,?_,?_⟩
        · unfold Bq;split<;>simp
        · unfold fO
          refine List.pairwise_iff_getElem.2 fun i j hi hj hij=>?_
          simp only[List.length_mapIdx]at hi hj
          simp only[List.getElem_mapIdx]
          rintro ⟨_,e⟩
          have:=mH j S[j]
          rw[e,mH]at this
          have:=Ao _ (by omega) _ (by omega) (List.cons.inj (Option.some.inj this)).2
          omega
        · intro a ha b hb
          unfold Bq at ha
          split at ha
          · cases ha
          · have:=List.mem_singleton.1 ha;subst this
            unfold fO at hb
            obtain⟨i,hi,rfl⟩:=List.mem_mapIdx.1 hb
            rintro ⟨_,e⟩
            have:=mH i S[i]
            rw[e,oN]at this;cases this
        · refine List.pairwise_map.2 (hpw.imp_of_mem fun {a b} ha hb hab=>?_)
          rintro ⟨_,e⟩
          apply hab
          have h1:=(hback a ha).1;have h2:=(hback b hb).1
          unfold nk at h1 h2
          rw[e]at h2
          constructor
          · rw[<- h1,<- h2];split<;>rfl
          · rw[<- h1,<- h2];split<;>rfl
        · intro a ha b hb
          obtain⟨p,hp⟩:=hdin a ha
          obtain⟨c,hc,rfl⟩:=List.mem_map.1 hb
          rintro ⟨_,e⟩
          rw[<- e,hrn c hc]at hp;cases hp
      · rw [hta]at ha
        rcases List.mem_append.1 ha with ha|ha
        · rcases List.mem_append.1 ha with ha|ha
          · unfold Bq at ha
            split at ha
            · cases ha
            · have:=List.mem_singleton.1 ha;subst this
              exact⟨(show cN [120,109,108,110,115]=true by decide),hps,lO⟩
          · unfold fO at ha
            obtain⟨i,hi,rfl⟩:=List.mem_mapIdx.1 ha
            refine⟨?_,(hSin _ (List.getElem_mem hi)).2.2,lO⟩
            show cN ([120,109,108,110,115]++58::(110::eo (i+1)))=true
            rw[El (by decide),wq _ (by omega)];decide
        · obtain⟨c,hc,rfl⟩:=List.mem_map.1 ha
          obtain⟨q1,q2,_⟩:=hba c hc
          refine⟨?_,(hall c hc).2.1,lO⟩
          unfold jZ
          by_cases h0:c.space=[]
          · simp only[h0,beq_self_eq_true,if_true];exact we q1
          · have h0':(c.space==[])=false:=by simpa using h0
            simp only[h0',Bool.false_eq_true,if_false]
            obtain⟨p1,p2⟩:=wK hSl (hin c hc h0)
            rw[El p1,p2,q1];rfl
    have e1:(bp n sp).text=[]:=rfl
    have e2:(bp n sp).name=n.name:=rfl
    have e3:(bp n sp).space=[]:=rfl
    have e4:(bp n sp).kind=1:=hk
    rw[e1,e2,e3,e4,hats,we hname,lO];rfl
def Fo.tell:Fo->List UInt8->Fo
 | .nil,_=>.nil
 | .cons n k r,sp=>.cons (if n.kind=2 then n else bp n sp) (k.tell n.space) (r.tell sp)
def Fo.tell_count:∀(F:Fo) (sp:List UInt8),(F.tell sp).count=F.count
 | .nil,_=>rfl
 | .cons n k r,sp=>by simp[Fo.tell,Fo.count,r.tell_count]
def Fo.tell_size:∀(F:Fo) (sp:List UInt8),(F.tell sp).size=F.size
 | .nil,_=>rfl
 | .cons n k r,sp=>by simp[Fo.tell,Fo.size,k.tell_size,r.tell_size]
def Fo.tell_flat:∀ {F:Fo} {d last:Nat} (sp:List UInt8),F.good d last=true->(F.tell sp).flat=F.bare sp
 | .nil,_,_,_,_=>rfl
 | .cons n k r,d,last,sp,h=>by
  obtain⟨h1,h2,h3,h4,h5,h6⟩:=Fo.good_cons.1 h
  simp only[Fo.tell,Fo.flat,Fo.bare,Fo.tell_flat sp h6]
  by_cases hk:n.kind=2
  ·have:=Fo.text_leaf h hk
   subst this
   simp[hk,Fo.tell,Fo.flat]
  ·simp[hk,Fo.tell_flat n.space h5]
def Fo.tell_good:∀ {F:Fo} {d last:Nat} (sp:List UInt8) (K:kw),F.good d last=true->(∀ x∈F.flat,mu x=false)->(∀ x∈(F.tell sp).flat,x.attrs.length<=16)->Sc K sp ->
  (F.tell sp).good d last=true/\(F.tell sp).res K=(F.flat,true)
 | .nil,_,_,_,_,_,_,_,_=>⟨rfl,rfl⟩
 | .cons n k r,d,last,sp,K,h,hb,hw,hK=>by
  obtain⟨h1,h2,h3,h4,h5,h6⟩:=Fo.good_cons.1 h
  simp only[Fo.tell,Fo.flat,Lk,List.mem_append]at hb hw
  obtain⟨r1,r2⟩:=Fo.tell_good (F:=r) sp K h6 (fun x hx=>hb x (.inr (.inr hx))) (fun x hx=>hw x (.inr (.inr hx))) hK
  by_cases hk:n.kind=2
  ·have:=Fo.text_leaf h hk
   subst this
   simp only[Fo.tell,if_pos hk,Fo.res,r2,Fo.flat,List.nil_append]
   exact⟨Fo.good_cons.2 ⟨h1,h2,h3,h4,rfl,r1⟩,trivial⟩
  ·have hk1:n.kind=1:=by rcases kS h1 with e|e;exact e;exact absurd e hk
   obtain⟨t1,t2,t3,t4⟩:=LJ (sp:=sp) hk1 h1 (hb n (.inl rfl)) hK
   obtain⟨k1,k2⟩:=Fo.tell_good (F:=k) n.space (jh K true (bp n sp).attrs).1 h5 (fun x hx=>hb x (.inr (.inl hx))) (fun x hx=>hw x (.inr (.inl hx))) t2
   have hw0:=hw n
   simp only[Fo.tell,if_neg hk]
   have hkt:¬(bp n sp).kind=2:=hk
   refine⟨Fo.good_cons.2 ⟨t4 (hw _ (.inl (by rw[if_neg hk]))),by rw[Fo.tell_count];exact h2,h3,h4,k1,?_⟩,?_⟩
   ·show(r.tell sp).good d n.kind=true
    exact r1
   ·simp only[Fo.res,if_neg hkt,t1,t3,k2,r2,Fo.flat,Bool.and_self]
def qp {v:List Nd}(h:eF v=0):∃ n k,n.kind=1/\v=n::k.flat/\(Fo.cons n k .nil).good 12 0=true/\k.size+1<=512:=by
 unfold eF at h
 cases hb:bu v with
 | none=>rw[hb]at h;cases h
 | some en =>
  obtain⟨n,k,h1,h2,h3,h4,_⟩:=jw.1 hb
  exact⟨n,k,h1,h2,h3,by rw[h2]at h4;simpa [Fo.flat_length] using h4⟩
def qB {n:Nd}{k:Fo}(hk:n.kind=1)(h:(Fo.cons n k .nil).good 12 0=true)(hl:k.size+1<=512):eF (n::k.flat)=0:=by
 unfold eF;rw[qx (Nat.le_refl _) hk h hl];rfl
def vV {v:List Nd}(h:dV v=0):(∀ x∈v,mu x=false)/\eF v=0:=by
 unfold dV at h
 split at h
 ·cases h
 ·rename_i hb
  refine⟨fun x hx=>?_,h⟩
  cases hx2:mu x with
  | false=>rfl
  | true=>exact absurd (List.any_eq_true.2 ⟨x,hx,hx2⟩) hb
end Go.Proofs.YtlnlopnpcmahgaaGreatDoor
