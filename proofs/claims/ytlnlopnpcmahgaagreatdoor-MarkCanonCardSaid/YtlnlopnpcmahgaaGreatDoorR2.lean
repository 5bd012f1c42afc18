/-
 Texts joined: XOb,XOc,XOd.
-/
import Derived.Test.YtlnlopnpcmahgaaGreatDoorR1
import Derived.Test.YtlnlopnpcmahgaaGreatDoorQt
set_option linter.all false
namespace Go.Proofs.YtlnlopnpcmahgaaGreatDoor
set_option maxRecDepth 100000
set_option maxHeartbeats 32000000
open Go Go.RowKit Vm Go.Lib Tryz
open Vm renaming ba->Ca,bh->Cb
open And renaming intro->Ai
open List renaming length_map->Lm,not_mem_nil->Ln,map_nil->Lo,map_cons->Lc,mem_cons->Lk
open Bool renaming not_false->Bf,not_true->Bt
def lK {s:List UInt8}(h:ec s=true):(58:UInt8) ∉ s:=by
 have hp:∀ b,gX b 58=false:=by decide
 cases s with
 | nil=>simp
 | cons c r =>
  simp only[ec,Bool.and_eq_true,List.all_eq_true]at h
  intro hm
  rcases List.mem_cons.1 hm with e|e
  ·rw[<- e,hp]at h;exact absurd h.1 (by decide)
  ·have:=h.2 _ e;rw[hp]at this;cases this
def Cd {s:List UInt8}(h:(58:UInt8) ∉ s):s.contains 58=false:=by
 cases hc:s.contains 58 with
 | false=>rfl
 | true=>rw[List.contains_iff_mem]at hc;exact absurd hc h
def DT {s:List UInt8}(h:(58:UInt8) ∉ s):dS s=([],s):=by
 unfold dS;rw[hH.2 h]
def LD {a b:List UInt8}(h:(58:UInt8) ∉ a):dS (a++58::b)=(a,b):=by
 unfold dS;rw[kg h]
def EF {a b:List UInt8}(h:(58:UInt8) ∉ a):bU (a++58::b)=(ec a&&ec b):=by
 unfold bU;rw[kg h]
def wq {s:List UInt8}(h:ec s=true):bU s=true:=by
 unfold bU;rw[hH.2 (lK h)];exact h
def C2:∀ n,n<99->(58:UInt8) ∉ 110::ep n:=by decide +kernel
def wy:∀ n,n<99->ec (110::ep n)=true:=by decide +kernel
def AF:∀ a,a<99 -> ∀ b,b<99->ep a=ep b->a=b:=by decide +kernel
def IV (s:List UInt8):fB ([120,109,108,110,115,58]++s)=some s:=by
 have h:preB ([120,109,108,110,115,58]++s) [120,109,108,110,115,58]=true:=by unfold preB;simp
 unfold fB
 rw[if_neg (by simp),if_pos h];rfl
def oF:fB [120,109,108,110,115]=some []:=rfl
def qD {s:List UInt8}(h1:s≠[120,109,108,110,115])(h2:s.take 6≠[120,109,108,110,115,58]):fB s=none:=by
 unfold fB preB
 rw[if_neg (by simpa using h1),if_neg (by simp[h2])]
def Ch {s:List UInt8}(h:(58:UInt8) ∉ s)(h1:s≠[120,109,108,110,115]):fB s=none :=
 qD h1 fun e=>h (List.mem_of_mem_take (i:=6) (by rw[e];simp))
def mD (k:Nat)(s:List UInt8):fB (qC k s).name=some (110::ep (k+1)):=IV (110::ep (k+1))
def JU {K:kF×Bool}{a:At}(h:fB a.name=none):C4 K a=K:=by unfold C4;rw[h]
def AH:∀ {l:List At} {K:kF} {r:Bool},(∀ a∈l,fB a.name=none)->jq K r l=(K,r)
 | [],_,_,_=>rfl
 | a::l,K,r,h=>by
  have:=AH (l:=l) (K:=K) (r:=r) (fun b hb=>h b (List.mem_cons_of_mem _ hb))
  unfold jq at this ⊢
  rw[List.foldl_cons,JU (h a (List.mem_cons_self ..)),this]
def EQ (K:kF)(r:Bool)(a b:List At):jq K r (a++b)=jq (jq K r a).1 (jq K r a).2 b:=by unfold jq;rw[List.foldl_append]
def n0 (j:Nat)(S:List (List UInt8)):List At:=S.mapIdx fun i=>qC (j+i)
def Cj (S:List (List UInt8)):n0 0 S=fO S:=by unfold n0 fO;simp
def Ci (j:Nat)(s:List UInt8)(S:List (List UInt8)):n0 j (s::S)=qC j s::n0 (j+1) S:=by
 unfold n0;rw[List.mapIdx_cons]
 simp only[Nat.add_zero,List.cons.injEq,true_and]
 congr 1;funext i;rw[show j+(i+1)=j+1+i by omega]
def Eo:∀(S:List (List UInt8)) (j:Nat) (K:kF),j+S.length<=90->(∀ s∈S,s≠[]/\fD s=false) ->
  (jq K true (n0 j S)).2=true/\(∀ q,(∀ i,i<S.length->q≠110::ep (j+i+1))->eO q (jq K true (n0 j S)).1=eO q K) /\ ∀ i s,S[i]? = some s->eO (110::ep (j+i+1)) (jq K true (n0 j S)).1=some s
 | [],j,K,_,_=>⟨rfl,fun _ _=>rfl,fun i s h=>by simp at h⟩
 | s::S,j,K,hj,hs=>by
  obtain⟨h0,hg⟩:=hs s (List.mem_cons_self ..)
  have hm:AW (110::ep (j+1)) s=true:=by
   unfold AW
   rw[if_neg (by simp),if_neg (by simp),hg]
   simp[h0]
  have hstep:jq K true (n0 j (s::S))=jq (sv (110::ep (j+1)) s K) true (n0 (j+1) S):=by
   rw[Ci]
   have:C4 (K,true) (qC j s)=(sv (110::ep (j+1)) s K,true):=by
    unfold C4;rw[mD];simp only[qC,hm,Bool.and_self]
   unfold jq;rw[List.foldl_cons,this]
  rw[hstep]
  simp only[List.length_cons]at hj
  obtain⟨i1,i2,i3⟩:=Eo S (j+1) (sv (110::ep (j+1)) s K) (by omega) (fun x hx=>hs x (List.mem_cons_of_mem _ hx))
  refine⟨i1,fun q hq=>?_,fun i x hx=>?_⟩
  ·rw[i2 q (fun i hi=>by have:=hq (i+1) (by simp;omega);rwa[show j+(i+1)+1=j+1+i+1 by omega]at this),get_put,if_neg (hq 0 (by simp))]
  ·cases i with
   | zero =>
    simp only[List.getElem?_cons_zero,Option.some.injEq]at hx
    subst hx
    rw[i2 _ (fun i hi e=>by
     have:=AF (j+0+1) (by omega) (j+1+i+1) (by omega) (List.cons.inj e).2
     omega),get_put,if_pos rfl]
   | succ i =>
    have:=i3 i x (by simpa using hx)
    rwa[show j+1+i+1=j+(i+1)+1 by omega]at this
def Se (K:kF)(sp:List UInt8):Prop:=eO [] K=some sp/\eO [120,109,108] K=some l7
def Fa {l:List At} : ∀ {S:List (List UInt8)},∀ s∈l.foldl gZ S,s∈S \/ ∃ a∈l,a.space=s/\s≠[]/\s≠l7:=by
 induction l with
 | nil=>intro S s h;exact .inl h
 | cons a l ih =>
  intro S s h
  rw[List.foldl_cons]at h
  rcases ih s h with h|⟨b,hb,h1⟩
  ·unfold gZ at h
   split at h
   ·exact .inl h
   ·rename_i h1
    split at h
    ·exact .inl h
    ·rename_i h2
     split at h
     ·exact .inl h
     ·rcases List.mem_append.1 h with h|h
      ·exact .inl h
      ·refine .inr ⟨a,List.mem_cons_self ..,?_⟩
       have:=List.mem_singleton.1 h
       subst this
       exact⟨rfl,by simpa using h1,by simpa using h2⟩
  ·exact .inr ⟨b,List.mem_cons_of_mem _ hb,h1⟩
def Ls {l:List At} : ∀ {S:List (List UInt8)} {a:At},a∈l->a.space≠[]->a.space≠l7->a.space∈l.foldl gZ S:=by
 induction l with
 | nil=>intro S a h;cases h
 | cons b l ih =>
  intro S a h h1 h2
  rw[List.foldl_cons]
  rcases List.mem_cons.1 h with e|h
  ·subst e
   refine(lT l (gZ S a)).subset ?_
   unfold gZ
   rw[if_neg (by simpa using h1),if_neg (by simpa using h2)]
   split
   ·rename_i h3;exact List.contains_iff_mem.1 h3
   ·simp
  ·exact ih h h1 h2
def JP {S:List (List UInt8)}{s:List UInt8}(h:s∈S):S[P6 S s]? = some s/\P6 S s<S.length:=by
 unfold P6
 cases hf:S.findIdx? (· == s) with
 | none=>have:=wc hf;rw[List.contains_iff_mem.2 h]at this;cases this
 | some k =>
  obtain⟨hk,h1,_⟩:=List.findIdx?_eq_some_iff_getElem.1 hf
  have e:S[k]=s:=by simpa using h1
  exact⟨by simp only[Option.getD_some];rw[List.getElem?_eq_getElem hk,e],by simpa using hk⟩
def Iz {l:List At} : pp l=true↔l.length<=16/\l.Pairwise (fun b a=>¬(a.space=b.space/\a.name=b.name)) /\ ∀ a∈l,bU a.name=true/\aN a.value=0/\aN a.space=0:=by
 rw[sB]
 refine and_congr_right fun _=>?_
 have hok:∀(p:List At) (a:At),Oh p a=true↔(∀ b∈p,¬(a.space=b.space/\a.name=b.name))/\bU a.name=true/\aN a.value=0/\aN a.space=0:=fun p a=>by
  unfold Oh
  simp only[Bool.and_eq_true,Bool.not_eq_true',decide_eq_true_eq,List.any_eq_false,beq_iff_eq,and_assoc]
 unfold v6
 constructor
 ·intro h
  refine⟨List.pairwise_iff_getElem.2 fun i j hi hj hij=>?_,fun a ha=>?_⟩
  ·have:=((hok _ _).1 (h j l[j] hj (List.getElem?_eq_getElem hj))).1 l[i] (by
    rw[List.mem_take_iff_getElem];exact⟨i,by omega,rfl⟩)
   exact this
  ·obtain⟨i,hi,rfl⟩:=List.getElem_of_mem ha
   exact((hok _ _).1 (h i l[i] hi (List.getElem?_eq_getElem hi))).2
 ·rintro ⟨h1,h2⟩ i a hi ha
  obtain⟨hi',rfl⟩:=List.getElem?_eq_some_iff.1 ha
  refine(hok _ _).2 ⟨fun b hb=>?_,h2 _ (List.getElem_mem hi')⟩
  obtain⟨k,hk,rfl⟩:=List.mem_take_iff_getElem.1 hb
  exact List.pairwise_iff_getElem.1 h1 k i (by omega) hi' (by omega)
def wU {S:List (List UInt8)}{s:List UInt8}(hS:S.length<=16)(h:s=l7\/s∈S):(58:UInt8) ∉ nW S s/\ec (nW S s)=true:=by
 unfold nW
 split
 ·exact⟨by decide,by decide⟩
 ·rename_i hx
  rcases h with e|h
  ·subst e;simp at hx
  ·have:=(JP h).2
   exact⟨C2 _ (by omega),wy _ (by omega)⟩
def LZ {n:Nd}{sp:List UInt8}{K:kF}(hk:n.kind=1)(hm:j9 n=true)(hb:nY n=false)(hK:Se K sp) :
    (jq K true (b7 n sp).attrs).2=true/\Se (jq K true (b7 n sp).attrs).1 n.space/\kZ (jq K true (b7 n sp).attrs).1 (b7 n sp)=(n,true)/\((b7 n sp).attrs.length<=16->j9 (b7 n sp)=true):=by
  obtain⟨ht,hfn,hps,hat⟩:=kY hm hk
  obtain⟨ha16,hpw,hall⟩:=Iz.1 hat
  unfold nY at hb
  simp only[Bool.or_eq_false_iff,List.any_eq_false,hk,decide_true,Bool.true_and,Bool.not_eq_false']at hb
  obtain⟨⟨hname,hgiv⟩,hbad⟩:=hb
  have hba:∀ a∈n.attrs,ec a.name=true/\(a.space=[]->a.name≠[120,109,108,110,115])/\a.space≠vk:=fun a ha=>by
    have h:=hbad a ha
    simp only[zq,Bool.or_eq_true,Bool.and_eq_true,Bool.not_eq_true',beq_iff_eq,not_or,not_and,Bool.not_eq_false]at h
    exact⟨h.1.1,h.1.2,h.2⟩
  generalize hSe:bF n.attrs=S
  have hSl:S.length<=16:=by have:=rC n.attrs;rw[hSe]at this;omega
  have hSin:∀ s∈S,s≠[]/\fD s=false/\aN s=0:=fun s hs=>by
    rw[<- hSe]at hs
    rcases Fa s hs with h|⟨a,ha,e,h1,h2⟩
    · cases h
    · refine⟨h1,?_,by rw[<- e];exact(hall a ha).2.2⟩
      unfold fD
      have:=(hba a ha).2.2
      rw[e]at this
      simp[h2,this]
  have hin:∀ a∈n.attrs,a.space≠[]->a.space=l7\/a.space∈S:=fun a ha h=>by
    by_cases hx:a.space=l7
    · exact .inl hx
    · right;rw[<- hSe];exact Ls ha h hx
  -- no attribute of the element's own declares
  have hrn:∀ a∈n.attrs,fB (jZ S a).name=none:=fun a ha=>by
    obtain⟨q1,q2,_⟩:=hba a ha
    unfold jZ
    by_cases h0:a.space=[]
    · simp only[h0,beq_self_eq_true,if_true]
      exact Ch (lK q1) (q2 h0)
    · have h0':(a.space==[])=false:=by simpa using h0
      simp only[h0',Bool.false_eq_true,if_false]
      unfold nW
      split
      · exact qD (by simp) (by simp)
      · exact qD (by simp) (by simp)
  have hta:(b7 n sp).attrs=Ax n sp++fO S++n.attrs.map (jZ S):=by unfold b7;rw[hSe]
  have hdin:∀ a∈Ax n sp++fO S,∃ p,fB a.name=some p:=fun a ha=>by
    rcases List.mem_append.1 ha with h|h
    · unfold Ax at h
      split at h
      · cases h
      · have:=List.mem_singleton.1 h;subst this;exact⟨_,oF⟩
    · unfold fO at h
      obtain⟨i,hi,rfl⟩:=List.mem_mapIdx.1 h
      exact⟨_,mD _ _⟩
  -- what is known behind the declarations
  obtain⟨K1,hK1,hk1,hk2,hk3⟩:∃ K1,jq K true (Ax n sp)=(K1,true)/\eO [] K1=some n.space/\eO [120,109,108] K1=some l7/\True:=by
    unfold Ax
    by_cases he:n.space=sp
    · refine⟨K,by simp[he,jq],?_,hK.2,trivial⟩
      rw[he];exact hK.1
    · have he':(n.space==sp)=false:=by simpa using he
      have hmay:AW [] n.space=true:=by unfold AW;rw[if_neg (by decide),if_neg (by decide),hgiv];rfl
      refine⟨sv [] n.space K,?_,?_,?_,trivial⟩
      · simp[he',jq,C4,oF,hmay]
      · rw[get_put,if_pos rfl]
      · rw[get_put,if_neg (by decide)];exact hK.2
  obtain⟨d1,d2,d3⟩:=Eo S 0 K1 (by omega) (fun s hs=>⟨(hSin s hs).1,(hSin s hs).2.1⟩)
  rw[Cj]at d1 d2 d3
  have hkn:jq K true (b7 n sp).attrs=jq K1 true (fO S):=by
    rw[hta,EQ,EQ,hK1]
    exact AH fun a ha=>by
      obtain⟨b,hb,rfl⟩:=List.mem_map.1 ha
      exact hrn b hb
  rw[hkn]
  generalize hK2:(jq K1 true (fO S)).1=K2 at d2 d3 ⊢
  have e0:eO [] K2=some n.space:=by rw[d2 [] (fun i _=>by simp),hk1]
  have ex:eO [120,109,108] K2=some l7:=by rw[d2 _ (fun i _=>by simp),hk2]
  -- an attribute told,then resolved
  have hback:∀ a∈n.attrs,ng K2 (jZ S a)=a/\rW K2 (jZ S a)=true:=fun a ha=>by
    obtain⟨q1,q2,_⟩:=hba a ha
    have hval:(jZ S a).value=a.value:=rfl
    by_cases h0:a.space=[]
    · have hn:(jZ S a).name=a.name:=by unfold jZ;simp[h0]
      have hc:=Cd (lK q1)
      unfold ng rW
      rw[hn,hc,hval]
      refine⟨?_,rfl⟩
      simp only[Bool.false_eq_true,if_false]
      cases a;simp only at h0;rw[h0]
    · have h0':(a.space==[])=false:=by simpa using h0
      have hn:(jZ S a).name=nW S a.space++58::a.name:=by unfold jZ;simp only[h0',Bool.false_eq_true,if_false]
      obtain⟨p1,_⟩:=wU hSl (hin a ha h0)
      have hc:(nW S a.space++58::a.name).contains 58=true:=List.contains_iff_mem.2 (by simp)
      have hg:eO (nW S a.space) K2=some a.space:=by
        unfold nW
        by_cases hx:a.space=l7
        · rw[if_pos (by simpa using hx),ex,hx]
        · rw[if_neg (by simpa using hx)]
          have hi:=JP ((hin a ha h0).resolve_left hx)
          have:=d3 _ _ hi.1
          rwa[Nat.zero_add]at this
      unfold ng rW
      rw[hn,hc,LD p1,hval]
      simp only[if_true,hg,Option.getD_some,Option.isSome_some,Bool.or_true,and_true]
  have hnm:BM K2 true (b7 n sp).attrs=(n.attrs,true):=by
    have hskip:∀(l:List At) (s:List At×Bool),(∀ a∈l,∃ p,fB a.name=some p)->l.foldl (Df K2) s=s:=by
      intro l
      induction l with
      | nil=>intro s _;rfl
      | cons a l ih =>
        intro s h
        obtain⟨p,hp⟩:=h a (List.mem_cons_self ..)
        rw[List.foldl_cons,show Df K2 s a=s by unfold Df;rw[hp]]
        exact ih s (fun b hb=>h b (List.mem_cons_of_mem _ hb))
    have hgo:∀(b a:List At),n.attrs=a++b->(b.map (jZ S)).foldl (Df K2) (a,true)=(n.attrs,true):=by
      intro b
      induction b with
      | nil=>intro a h;simp at h;simp[h]
      | cons x b ih =>
        intro a h
        have hx:x∈n.attrs:=by rw[h];simp
        obtain⟨r1,r2⟩:=hback x hx
        have htw:(a.any fun y=>lX y x)=false:=by
          rw[h]at hpw
          have:=(List.pairwise_append.1 hpw).2.2
          refine List.any_eq_false.2 fun y hy=>?_
          have:=this y hy x (List.mem_cons_self ..)
          simp only[lX,Bool.and_eq_true,beq_iff_eq]
          exact fun e=>this ⟨e.1.symm,e.2.symm⟩
        rw[Lc,List.foldl_cons,show Df K2 (a,true) (jZ S x)=(a++[x],true) by
          unfold Df;rw[hrn x hx];simp only[r1,r2,htw,Bool.and_self,Bf]]
        exact ih (a++[x]) (by rw[h];simp)
    unfold BM
    rw[hta,List.foldl_append,hskip _ _ hdin]
    exact hgo n.attrs [] rfl
  refine⟨d1,⟨e0,ex⟩,?_,fun hlen=>?_⟩
  · have hsn:dS (b7 n sp).name=([],n.name):=DT (lK hname)
    unfold kZ
    rw[hsn]
    simp only[e0,Option.isSome_some,Option.getD_some,hnm]
    show((⟨n.kind,n.space,n.name,n.attrs,[],n.many⟩:Nd),true)=_
    rw[<- ht]
  · unfold j9
    rw[if_neg (by show ¬ n.kind=2;omega)]
    have hats:pp (b7 n sp).attrs=true:=by
      refine Iz.2 ⟨hlen,?_,fun a ha=>?_⟩
      · rw [hta]
        refine List.pairwise_append.2 ⟨List.pairwise_append.2 ⟨?_,?_,?_⟩,?_,?_⟩
        · unfold Ax;split<;>simp
        · unfold fO
          refine List.pairwise_iff_getElem.2 fun i j hi hj hij=>?_
          simp only[List.length_mapIdx]at hi hj
          simp only[List.getElem_mapIdx]
          rintro ⟨_,e⟩
          have:=mD j S[j]
          rw[e,mD]at this
          have:=AF _ (by omega) _ (by omega) (List.cons.inj (Option.some.inj this)).2
          omega
        · intro a ha b hb
          unfold Ax at ha
          split at ha
          · cases ha
          · have:=List.mem_singleton.1 ha;subst this
            unfold fO at hb
            obtain⟨i,hi,rfl⟩:=List.mem_mapIdx.1 hb
            rintro ⟨_,e⟩
            have:=mD i S[i]
            rw[e,oF]at this;cases this
        · refine List.pairwise_map.2 (hpw.imp_of_mem fun {a b} ha hb hab=>?_)
          rintro ⟨_,e⟩
          apply hab
          have h1:=(hback a ha).1;have h2:=(hback b hb).1
          unfold ng at h1 h2
          rw[e]at h2
          constructor
          · rw[<- h1,<- h2];split<;>rfl
          · rw[<- h1,<- h2];split<;>rfl
        · intro a ha b hb
          obtain⟨p,hp⟩:=hdin a ha
          obtain⟨c,hc,rfl⟩:=List.mem_map.1 hb
          rintro ⟨_,e⟩
          rw[<- e,hrn c hc]at hp;cases hp
      · rw [hta]at ha
        rcases List.mem_append.1 ha with ha|ha
        · rcases List.mem_append.1 ha with ha|ha
          · unfold Ax at ha
            split at ha
            · cases ha
            · have:=List.mem_singleton.1 ha;subst this
              exact⟨(show bU [120,109,108,110,115]=true by decide),hps,jW⟩
          · unfold fO at ha
            obtain⟨i,hi,rfl⟩:=List.mem_mapIdx.1 ha
            refine⟨?_,(hSin _ (List.getElem_mem hi)).2.2,jW⟩
            show bU ([120,109,108,110,115]++58::(110::ep (i+1)))=true
            rw[EF (by decide),wy _ (by omega)];decide
        · obtain⟨c,hc,rfl⟩:=List.mem_map.1 ha
          obtain⟨q1,q2,_⟩:=hba c hc
          refine⟨?_,(hall c hc).2.1,jW⟩
          unfold jZ
          by_cases h0:c.space=[]
          · simp only[h0,beq_self_eq_true,if_true];exact wq q1
          · have h0':(c.space==[])=false:=by simpa using h0
            simp only[h0',Bool.false_eq_true,if_false]
            obtain⟨p1,p2⟩:=wU hSl (hin c hc h0)
            rw[EF p1,p2,q1];rfl
    have e1:(b7 n sp).text=[]:=rfl
    have e2:(b7 n sp).name=n.name:=rfl
    have e3:(b7 n sp).space=[]:=rfl
    have e4:(b7 n sp).kind=1:=hk
    rw[e1,e2,e3,e4,hats,wq hname,jW];rfl
def Fo.tell:Fo->List UInt8->Fo
 | .nil,_=>.nil
 | .cons n k r,sp=>.cons (if n.kind=2 then n else b7 n sp) (k.tell n.space) (r.tell sp)
def Fo.tell_count:∀(F:Fo) (sp:List UInt8),(F.tell sp).count=F.count
 | .nil,_=>rfl
 | .cons n k r,sp=>by simp[Fo.tell,Fo.count,r.tell_count]
def Fo.tell_size:∀(F:Fo) (sp:List UInt8),(F.tell sp).size=F.size
 | .nil,_=>rfl
 | .cons n k r,sp=>by simp[Fo.tell,Fo.size,k.tell_size,r.tell_size]
def Fo.tell_flat:∀ {F:Fo} {d last:Nat} (sp:List UInt8),F.good d last=true->(F.tell sp).flat=F.bare sp
 | .nil,_,_,_,_=>rfl
 | .cons n k r,d,last,sp,h=>by
  obtain⟨h1,h2,h3,h4,h5,h6⟩:=Fo.good_cons.1 h
  simp only[Fo.tell,Fo.flat,Fo.bare,Fo.tell_flat sp h6]
  by_cases hk:n.kind=2
  ·have:=Fo.text_leaf h hk
   subst this
   simp[hk,Fo.tell,Fo.flat]
  ·simp[hk,Fo.tell_flat n.space h5]
def Fo.tell_good:∀ {F:Fo} {d last:Nat} (sp:List UInt8) (K:kF),F.good d last=true->(∀ x∈F.flat,nY x=false)->(∀ x∈(F.tell sp).flat,x.attrs.length<=16)->Se K sp ->
  (F.tell sp).good d last=true/\(F.tell sp).res K=(F.flat,true)
 | .nil,_,_,_,_,_,_,_,_=>⟨rfl,rfl⟩
 | .cons n k r,d,last,sp,K,h,hb,hw,hK=>by
  obtain⟨h1,h2,h3,h4,h5,h6⟩:=Fo.good_cons.1 h
  simp only[Fo.tell,Fo.flat,Lk,List.mem_append]at hb hw
  obtain⟨r1,r2⟩:=Fo.tell_good (F:=r) sp K h6 (fun x hx=>hb x (.inr (.inr hx))) (fun x hx=>hw x (.inr (.inr hx))) hK
  by_cases hk:n.kind=2
  ·have:=Fo.text_leaf h hk
   subst this
   simp only[Fo.tell,if_pos hk,Fo.res,r2,Fo.flat,List.nil_append]
   exact⟨Fo.good_cons.2 ⟨h1,h2,h3,h4,rfl,r1⟩,trivial⟩
  ·have hk1:n.kind=1:=by rcases jz h1 with e|e;exact e;exact absurd e hk
   obtain⟨t1,t2,t3,t4⟩:=LZ (sp:=sp) hk1 h1 (hb n (.inl rfl)) hK
   obtain⟨k1,k2⟩:=Fo.tell_good (F:=k) n.space (jq K true (b7 n sp).attrs).1 h5 (fun x hx=>hb x (.inr (.inl hx))) (fun x hx=>hw x (.inr (.inl hx))) t2
   have hw0:=hw n
   simp only[Fo.tell,if_neg hk]
   have hkt:¬(b7 n sp).kind=2:=hk
   refine⟨Fo.good_cons.2 ⟨t4 (hw _ (.inl (by rw[if_neg hk]))),by rw[Fo.tell_count];exact h2,h3,h4,k1,?_⟩,?_⟩
   ·show(r.tell sp).good d n.kind=true
    exact r1
   ·simp only[Fo.res,if_neg hkt,t1,t3,k2,r2,Fo.flat,Bool.and_self]
def uV:∀ {F:Fo} {d last:Nat} (sp:List UInt8),F.good d last=true->((F.bare sp).any lh)=false
 | .nil,_,_,_,_=>rfl
 | .cons n k r,d,last,sp,h=>by
  obtain⟨h1,h2,h3,h4,h5,h6⟩:=Fo.good_cons.1 h
  simp only[Fo.bare]
  rw[List.any_append,uV sp h6,Bool.or_false]
  by_cases hk:n.kind=2
  ·obtain⟨_,q1,q2,_⟩:=gF h1 hk
   rw[if_pos hk];simp[lh,q1,q2]
  ·rw[if_neg hk,List.any_cons,uV n.space h5,Bool.or_false]
   unfold lh b7
   simp only[beq_self_eq_true,Bt,Bool.false_or,List.any_append,List.any_map,Bool.or_eq_false_iff,List.any_eq_false]
   refine⟨⟨fun a ha=>?_,fun a ha=>?_⟩,fun a ha=>by simp[uU,jZ]⟩
   ·unfold Ax at ha
    split at ha
    ·cases ha
    ·have:=List.mem_singleton.1 ha;subst this;simp[uU]
   ·unfold fO at ha
    obtain⟨i,hi,rfl⟩:=List.mem_mapIdx.1 ha
    simp[uU,qC]
def qn {v:List Nd}(h:eG v=0):∃ n k,n.kind=1/\v=n::k.flat/\(Fo.cons n k .nil).good 12 0=true/\k.size+1<=512:=by
 unfold eG at h
 cases hb:cL v with
 | none=>rw[hb]at h;cases h
 | some en =>
  obtain⟨n,k,h1,h2,h3,h4,_⟩:=lr.1 hb
  exact⟨n,k,h1,h2,h3,by rw[h2]at h4;simpa [Fo.flat_length] using h4⟩
def qA {n:Nd}{k:Fo}(hk:n.kind=1)(h:(Fo.cons n k .nil).good 12 0=true)(hl:k.size+1<=512):eG (n::k.flat)=0:=by
 unfold eG;rw[v8 (Nat.le_refl _) hk h hl];rfl
def wb {v:List Nd}(h:fk v=0):(∀ x∈v,nY x=false)/\eG v=0:=by
 unfold fk at h
 split at h
 ·cases h
 ·rename_i hb
  refine⟨fun x hx=>?_,h⟩
  cases hx2:nY x with
  | false=>rfl
  | true=>exact absurd (List.any_eq_true.2 ⟨x,hx,hx2⟩) hb
def FI {v:List Nd}(h:(cN v []).2=0):cp (cN v []).1=(v,0):=by
 unfold cN at h ⊢
 split at h
 ·rename_i h1;exact absurd h h1
 ·rename_i h1
  rw[if_neg h1]
  split at h
  ·cases h
  ·rename_i h2
   rw[if_neg h2]
   split at h
   ·cases h
   ·rename_i h3
    rw[if_neg h3]
    obtain⟨hbad,hcb⟩:=wb (Decidable.not_not.1 h1)
    obtain⟨n,k,hk,hv,hg,hl⟩:=qn hcb
    have hvf:v=(Fo.cons n k .nil).flat:=by rw[hv];simp[Fo.flat]
    have hf:oM v = .cons n k .nil:=by rw[hv];exact pK hg
    rw[hf]at h3 ⊢
    have hw:∀ x∈((Fo.cons n k .nil).tell []).flat,x.attrs.length<=16:=fun x hx=>by
     rw[Fo.tell_flat [] hg]at hx
     have:=List.any_eq_false.1 (Bool.not_eq_true _ ▸ h3:qr _=false) x hx
     simpa using this
    obtain⟨g1,g2⟩:=Fo.tell_good [] AJ hg (fun x hx=>hbad x (by rw[hvf];exact hx)) hw ⟨rfl,rfl⟩
    have hfl:=Fo.tell_flat [] hg
    have hsp:=uV [] hg
    rw[<- hfl]at hsp ⊢
    have hk2:¬ n.kind=2:=by omega
    have htl:(Fo.cons n k .nil).tell [] = .cons (b7 n []) (k.tell n.space) .nil:=by simp[Fo.tell,hk2]
    rw[htl]at g1 g2 hsp ⊢
    have hflat:(Fo.cons (b7 n []) (k.tell n.space) .nil).flat=b7 n []::(k.tell n.space).flat:=by simp[Fo.flat]
    unfold cp
    rw[hflat]at hsp ⊢
    rw[qA (n:=b7 n []) hk g1 (by rw[Fo.tell_size];exact hl),if_neg (by decide),if_neg (by rw[hsp];decide),pK g1,g2,if_pos rfl,<- hvf]
end Go.Proofs.YtlnlopnpcmahgaaGreatDoor
