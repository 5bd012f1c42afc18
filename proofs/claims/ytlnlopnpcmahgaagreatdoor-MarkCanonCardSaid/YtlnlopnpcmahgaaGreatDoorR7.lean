/-
 Texts joined: XOl,XOm.
-/
import Derived.Test.YtlnlopnpcmahgaaGreatDoorR2
import Derived.Test.YtlnlopnpcmahgaaGreatDoorQw
import Derived.Test.YtlnlopnpcmahgaaGreatDoorR6
import Derived.Test.YtlnlopnpcmahgaaGreatDoorQs
set_option linter.all false
namespace Go.Proofs.YtlnlopnpcmahgaaGreatDoor
set_option maxRecDepth 100000
set_option maxHeartbeats 32000000
open Go Go.RowKit Vm Go.Lib Tryz
open Vm renaming ba->Ca,bh->Cb
open And renaming intro->Ai
open List renaming length_map->Lm,not_mem_nil->Ln,map_nil->Lo,map_cons->Lc,mem_cons->Lk
open Bool renaming not_false->Bf,not_true->Bt
def xY:∀(f c:Nat) (v:List Nd),(∀ x∈(rV f c v).1.flat,x∈v) /\ ∀ x∈(rV f c v).2,x∈v
 | 0,_,v=>⟨fun x hx=>by simp[rV,Fo.flat]at hx,fun x hx=>by simpa [rV] using hx⟩
 | _+1,0,v=>⟨fun x hx=>by simp[rV,Fo.flat]at hx,fun x hx=>by simpa [rV] using hx⟩
 | _+1,_+1,[]=>⟨fun x hx=>by simp[rV,Fo.flat]at hx,fun x hx=>by simp[rV]at hx⟩
 | f+1,c+1,n::v=>by
  obtain⟨a1,a2⟩:=xY f n.many.toNat v
  obtain⟨b1,b2⟩:=xY f c (rV f n.many.toNat v).2
  simp only[rV,Fo.flat,Lk,List.mem_append]
  refine⟨fun x hx=>?_,fun x hx=>.inr (a2 x (b2 x hx))⟩
  rcases hx with h|h|h
  ·exact .inl h
  ·exact .inr (a1 x h)
  ·exact .inr (a2 x (b1 x h))
def Ae (v:List Nd):∀ x∈(oM v).flat,x∈v:=(xY _ _ v).1
def BP (B:Nat)(K:kF):Prop:=∀ p v,eO p K=some v->v.length<=B
def GP {B:Nat}(hB:100<=B):BP B AJ:=fun p v h=>by
 unfold AJ at h
 simp only[eO]at h
 split at h
 ·cases h;simp
 ·split at h
  ·cases h;exact Nat.le_trans (by decide) hB
  ·cases h
def wA {B:Nat} : ∀(l:List At) (K:kF) (r:Bool),BP B K->(∀ a∈l,a.value.length<=B)->BP B (jq K r l).1
 | [],_,_,h,_=>h
 | a::l,K,r,h,hl=>by
  unfold jq
  rw[List.foldl_cons]
  have hK:BP B (C4 (K,r) a).1:=by
   unfold C4
   cases fB a.name with
   | none=>exact h
   | some p =>
    intro q v hq
    rw[get_put]at hq
    split at hq
    ·cases hq;exact hl a (List.mem_cons_self ..)
    ·exact h q v hq
  exact wA l _ (C4 (K,r) a).2 hK (fun b hb=>hl b (List.mem_cons_of_mem _ hb))
def xb (s:List UInt8):(dS s).2.length<=s.length:=by
 unfold dS
 cases h:eg 58 s with
 | none=>exact Nat.le_refl _
 | some p=>obtain⟨a,b⟩:=p;have:=(eH h).1;rw[this];simp;omega
def Ag {B:Nat}{K:kF}(h:BP B K)(p:List UInt8):((eO p K).getD []).length<=B:=by
 cases hg:eO p K with
 | none=>simp
 | some v=>simpa using h p v hg
def KM {B:Nat}{K:kF}(hK:BP B K):∀(l:List At) (s:List At×Bool),(∀ a∈s.1,a.space.length<=B/\a.name.length<=B/\a.value.length<=B)->(∀ a∈l,a.space.length<=B/\a.name.length<=B/\a.value.length<=B) ->
  ∀ a∈(l.foldl (Df K) s).1,a.space.length<=B/\a.name.length<=B/\a.value.length<=B
 | [],_,hs,_=>hs
 | x::l,s,hs,hl=>by
  rw[List.foldl_cons]
  refine KM hK l _ ?_ (fun b hb=>hl b (List.mem_cons_of_mem _ hb))
  unfold Df
  cases fB x.name with
  | some p=>exact hs
  | none =>
   intro a ha
   rcases List.mem_append.1 ha with h|h
   ·exact hs a h
   ·have:=List.mem_singleton.1 h;subst this
    obtain⟨q1,q2,q3⟩:=hl x (List.mem_cons_self ..)
    unfold ng
    split
    ·exact⟨Ag hK _,Nat.le_trans (xb _) q2,q3⟩
    ·exact⟨by simp,q2,q3⟩
def Fo.res_fit {B:Nat}(hB:100<=B):∀(F:Fo) (K:kF),BP B K->(∀ n∈F.flat,n.okTo B/\n.i64) -> ∀ x∈(F.res K).1,x.okTo B/\x.i64
 | .nil,_,_,_=>fun x hx=>by simp[Fo.res]at hx
 | .cons n k r,K,hK,hok=>by
  simp only[Fo.flat,Lk,List.mem_append]at hok
  have hr:=Fo.res_fit hB r K hK (fun x hx=>hok x (.inr (.inr hx)))
  simp only[Fo.res]
  split
  ·intro x hx
   rcases List.mem_cons.1 hx with e|hx
   ·subst e;exact hok _ (.inl rfl)
   ·exact hr x hx
  ·have hn:=hok n (.inl rfl)
   have hK2:=wA n.attrs K true hK (fun a ha=>(hn.1.2.2.2.2 a ha).2.2)
   have hk:=Fo.res_fit hB k _ hK2 (fun x hx=>hok x (.inr (.inl hx)))
   intro x hx
   rcases List.mem_cons.1 hx with e|hx
   ·subst e
    have hlen:=yv (jq K true n.attrs).1 n.attrs ([],(eO (dS n.name).1 (jq K true n.attrs).1).isSome)
    refine⟨⟨?_,Ag hK2 _,Nat.le_trans (xb _) hn.1.2.2.1,by simp[kZ],fun a ha=>?_⟩,hn.2⟩
    ·have:=hn.1.1
     unfold kZ BM;simp only[List.length_nil]at hlen;simp only;omega
    ·exact KM hK2 n.attrs _ (by simp) (fun a ha=>hn.1.2.2.2.2 a ha) a ha
   ·rcases List.mem_append.1 hx with hx|hx
    ·exact hk x hx
    ·exact hr x hx
def res_fit {v:List Nd}{B:Nat}(hB:100<=B)(hok:∀ n∈v,n.okTo B/\n.i64):∀ x∈(cp v).1,x.okTo B/\x.i64:=by
 unfold cp
 split
 ·intro x hx;cases hx
 ·split
  ·intro x hx;cases hx
  ·split
   ·exact Fo.res_fit hB _ _ (GP hB) (fun x hx=>hok x (Ae v x hx))
   ·intro x hx;cases hx
def AG (n:Nat):(ep n).length<=2:=by unfold ep;split<;>simp
def LY {n:Nd}{sp:List UInt8}{B:Nat}(hok:n.okTo B/\n.i64):(b7 n sp).space=[]/\(b7 n sp).name.length<=B+50/\(b7 n sp).text=[]/\(b7 n sp).i64 /\ ∀ a∈(b7 n sp).attrs,a.space.length<=B+50/\a.name.length<=B+50/\a.value.length<=B+50:=by
 obtain⟨⟨_,h2,h3,_,h5⟩,h6⟩:=hok
 refine⟨rfl,by show n.name.length<=_;omega,rfl,h6,fun a ha=>?_⟩
 unfold b7 at ha
 rcases List.mem_append.1 ha with ha|ha
 ·rcases List.mem_append.1 ha with ha|ha
  ·unfold Ax at ha
   split at ha
   ·cases ha
   ·have:=List.mem_singleton.1 ha;subst this;exact⟨by simp,by simp,by show n.space.length<=_;omega⟩
  ·unfold fO at ha
   obtain⟨i,hi,rfl⟩:=List.mem_mapIdx.1 ha
   have hs:((bF n.attrs)[i]).length<=B:=by
    rcases Fa _ (List.getElem_mem hi) with h|⟨b,hb,e,_⟩
    ·cases h
    ·rw[<- e];exact(h5 b hb).1
   have:=AG (i+1)
   exact⟨by simp[qC],by simp only[qC,List.length_append,List.length_cons,List.length_nil];omega,by simp only[qC];omega⟩
 ·obtain⟨b,hb,rfl⟩:=List.mem_map.1 ha
  obtain⟨q1,q2,q3⟩:=h5 b hb
  refine⟨by simp[jZ],?_,by show b.value.length<=_;omega⟩
  unfold jZ
  split
  ·exact Nat.le_trans q2 (by omega)
  ·have:(nW (bF n.attrs) b.space).length<=3:=by
    unfold nW
    split
    ·simp
    ·have:=AG (P6 (bF n.attrs) b.space+1);simp only[List.length_cons];omega
   simp only[List.length_append,List.length_cons];omega
def Fo.bare_fit {B:Nat} : ∀(F:Fo) (sp:List UInt8),(∀ n∈F.flat,n.okTo B/\n.i64) -> ∀ x∈F.bare sp,x.space.length<=B+50/\x.name.length<=B+50/\x.text.length<=B+50/\x.i64 /\ ∀ a∈x.attrs,a.space.length<=B+50/\a.name.length<=B+50/\a.value.length<=B+50
 | .nil,_,_=>fun x hx=>by simp[Fo.bare]at hx
 | .cons n k r,sp,hok=>by
  simp only[Fo.flat,Lk,List.mem_append]at hok
  have hr:=Fo.bare_fit r sp (fun x hx=>hok x (.inr (.inr hx)))
  have hk:=Fo.bare_fit k n.space (fun x hx=>hok x (.inr (.inl hx)))
  have hn:=hok n (.inl rfl)
  simp only[Fo.bare]
  intro x hx
  rcases List.mem_append.1 hx with hx|hx
  ·split at hx
   ·have:=List.mem_singleton.1 hx;subst this
    obtain⟨⟨_,h2,h3,h4,h5⟩,h6⟩:=hn
    exact⟨by omega,by omega,by omega,h6,fun a ha=>by obtain⟨q1,q2,q3⟩:=h5 a ha;exact⟨by omega,by omega,by omega⟩⟩
   ·rcases List.mem_cons.1 hx with e|hx
    ·subst e
     obtain⟨t1,t2,t3,t4,t5⟩:=LY (sp:=sp) hn
     exact⟨by rw[t1];simp,t2,by rw[t3];simp,t4,t5⟩
    ·exact hk x hx
  ·exact hr x hx
def bare_fit {v:List Nd}{sp:List UInt8}{B:Nat}(hok:∀ n∈v,n.okTo B/\n.i64):∀ x∈(cN v sp).1,x.okTo (B+50)/\x.i64:=by
 unfold cN
 split
 ·intro x hx;cases hx
 ·split
  ·intro x hx;cases hx
  ·split
   ·intro x hx;cases hx
   ·rename_i h3
    intro x hx
    obtain⟨h4,h5,h6,h7,h8⟩:=Fo.bare_fit (oM v) sp (fun x hx=>hok x (Ae v x hx)) x hx
    have h16:=List.any_eq_false.1 (Bool.not_eq_true _ ▸ h3:qr _=false) x hx
    simp only[decide_eq_true_eq]at h16
    exact⟨⟨by omega,h4,h5,h6,h8⟩,h7⟩
def sI:∀(f c:Nat) (v:List Nd),(rV f c v).1.size+(rV f c v).2.length<=v.length
 | 0,_,v=>by simp[rV,Fo.size]
 | _+1,0,v=>by simp[rV,Fo.size]
 | _+1,_+1,[]=>by simp[rV,Fo.size]
 | f+1,c+1,n::v=>by
  have a:=sI f n.many.toNat v
  have b:=sI f c (rV f n.many.toNat v).2
  simp only[rV,Fo.size,List.length_cons]
  omega
def DK (v:List Nd):(cp v).1.length<=v.length:=by
 unfold cp
 split
 ·simp
 ·split
  ·simp
  ·split
   ·have h1:=Fo.res_len (oM v) AJ
    have h2:=sI (v.length+1) 1 v
    unfold oM at h1 ⊢
    simp only;omega
   ·simp
def zt (v:List Nd)(sp:List UInt8):(cN v sp).1.length<=v.length:=by
 unfold cN
 split
 ·simp
 ·split
  ·simp
  ·split
   ·simp
   ·have h1:=Fo.bare_len (oM v) sp
    have h2:=sI (v.length+1) 1 v
    unfold oM at h1 ⊢
    simp only;omega
end Go.Proofs.YtlnlopnpcmahgaaGreatDoor
