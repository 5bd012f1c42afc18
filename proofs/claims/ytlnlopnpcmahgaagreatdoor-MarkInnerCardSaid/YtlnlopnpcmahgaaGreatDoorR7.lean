/-
 Texts joined: XOl,XOm.
-/
import Derived.Test.YtlnlopnpcmahgaaGreatDoorR2
import Derived.Test.YtlnlopnpcmahgaaGreatDoorQw
import Derived.Test.YtlnlopnpcmahgaaGreatDoorR6
import Derived.Test.YtlnlopnpcmahgaaGreatDoorQs
set_option linter.all false
namespace Go.Proofs.YtlnlopnpcmahgaaGreatDoor
set_option maxRecDepth 100000
set_option maxHeartbeats 32000000
open Go Go.RowKit Vm Go.Lib Tryz
open Vm renaming aW->Ca,bf->Cb
open And renaming intro->Ai
open List renaming length_map->Lm,not_mem_nil->Ln,map_nil->Lo,map_cons->Lc,mem_cons->Lk
open Bool renaming not_false->Bf,not_true->Bt
def xN:∀(f c:Nat) (v:List Nd),(∀ x∈(rQ f c v).1.flat,x∈v) /\ ∀ x∈(rQ f c v).2,x∈v
 | 0,_,v=>⟨fun x hx=>by simp[rQ,Fo.flat]at hx,fun x hx=>by simpa [rQ] using hx⟩
 | _+1,0,v=>⟨fun x hx=>by simp[rQ,Fo.flat]at hx,fun x hx=>by simpa [rQ] using hx⟩
 | _+1,_+1,[]=>⟨fun x hx=>by simp[rQ,Fo.flat]at hx,fun x hx=>by simp[rQ]at hx⟩
 | f+1,c+1,n::v=>by
  obtain⟨a1,a2⟩:=xN f n.many.toNat v
  obtain⟨b1,b2⟩:=xN f c (rQ f n.many.toNat v).2
  simp only[rQ,Fo.flat,Lk,List.mem_append]
  refine⟨fun x hx=>?_,fun x hx=>.inr (a2 x (b2 x hx))⟩
  rcases hx with h|h|h
  ·exact .inl h
  ·exact .inr (a1 x h)
  ·exact .inr (a2 x (b1 x h))
def zT (v:List Nd):∀ x∈(kB v).flat,x∈v:=(xN _ _ v).1
def Bv (B:Nat)(K:kw):Prop:=∀ p v,eL p K=some v->v.length<=B
def Gx {B:Nat}(hB:100<=B):Bv B Ar:=fun p v h=>by
 unfold Ar at h
 simp only[eL]at h
 split at h
 ·cases h;simp
 ·split at h
  ·cases h;exact Nat.le_trans (by decide) hB
  ·cases h
def ws {B:Nat} : ∀(l:List At) (K:kw) (r:Bool),Bv B K->(∀ a∈l,a.value.length<=B)->Bv B (jh K r l).1
 | [],_,_,h,_=>h
 | a::l,K,r,h,hl=>by
  unfold jh
  rw[List.foldl_cons]
  have hK:Bv B (CR (K,r) a).1:=by
   unfold CR
   cases fp a.name with
   | none=>exact h
   | some p =>
    intro q v hq
    rw[get_put]at hq
    split at hq
    ·cases hq;exact hl a (List.mem_cons_self ..)
    ·exact h q v hq
  exact ws l _ (CR (K,r) a).2 hK (fun b hb=>hl b (List.mem_cons_of_mem _ hb))
def wT (s:List UInt8):(dO s).2.length<=s.length:=by
 unfold dO
 cases h:ep 58 s with
 | none=>exact Nat.le_refl _
 | some p=>obtain⟨a,b⟩:=p;have:=(fb h).1;rw[this];simp;omega
def zV {B:Nat}{K:kw}(h:Bv B K)(p:List UInt8):((eL p K).getD []).length<=B:=by
 cases hg:eL p K with
 | none=>simp
 | some v=>simpa using h p v hg
def Kw {B:Nat}{K:kw}(hK:Bv B K):∀(l:List At) (s:List At×Bool),(∀ a∈s.1,a.space.length<=B/\a.name.length<=B/\a.value.length<=B)->(∀ a∈l,a.space.length<=B/\a.name.length<=B/\a.value.length<=B) ->
  ∀ a∈(l.foldl (C2 K) s).1,a.space.length<=B/\a.name.length<=B/\a.value.length<=B
 | [],_,hs,_=>hs
 | x::l,s,hs,hl=>by
  rw[List.foldl_cons]
  refine Kw hK l _ ?_ (fun b hb=>hl b (List.mem_cons_of_mem _ hb))
  unfold C2
  cases fp x.name with
  | some p=>exact hs
  | none =>
   intro a ha
   rcases List.mem_append.1 ha with h|h
   ·exact hs a h
   ·have:=List.mem_singleton.1 h;subst this
    obtain⟨q1,q2,q3⟩:=hl x (List.mem_cons_self ..)
    unfold nk
    split
    ·exact⟨zV hK _,Nat.le_trans (wT _) q2,q3⟩
    ·exact⟨by simp,q2,q3⟩
def Fo.res_fit {B:Nat}(hB:100<=B):∀(F:Fo) (K:kw),Bv B K->(∀ n∈F.flat,n.okTo B/\n.i64) -> ∀ x∈(F.res K).1,x.okTo B/\x.i64
 | .nil,_,_,_=>fun x hx=>by simp[Fo.res]at hx
 | .cons n k r,K,hK,hok=>by
  simp only[Fo.flat,Lk,List.mem_append]at hok
  have hr:=Fo.res_fit hB r K hK (fun x hx=>hok x (.inr (.inr hx)))
  simp only[Fo.res]
  split
  ·intro x hx
   rcases List.mem_cons.1 hx with e|hx
   ·subst e;exact hok _ (.inl rfl)
   ·exact hr x hx
  ·have hn:=hok n (.inl rfl)
   have hK2:=ws n.attrs K true hK (fun a ha=>(hn.1.2.2.2.2 a ha).2.2)
   have hk:=Fo.res_fit hB k _ hK2 (fun x hx=>hok x (.inr (.inl hx)))
   intro x hx
   rcases List.mem_cons.1 hx with e|hx
   ·subst e
    have hlen:=yj (jh K true n.attrs).1 n.attrs ([],(eL (dO n.name).1 (jh K true n.attrs).1).isSome)
    refine⟨⟨?_,zV hK2 _,Nat.le_trans (wT _) hn.1.2.2.1,by simp[kU],fun a ha=>?_⟩,hn.2⟩
    ·have:=hn.1.1
     unfold kU Br;simp only[List.length_nil]at hlen;simp only;omega
    ·exact Kw hK2 n.attrs _ (by simp) (fun a ha=>hn.1.2.2.2.2 a ha) a ha
   ·rcases List.mem_append.1 hx with hx|hx
    ·exact hk x hx
    ·exact hr x hx
def res_fit {v:List Nd}{B:Nat}(hB:100<=B)(hok:∀ n∈v,n.okTo B/\n.i64):∀ x∈(cJ v).1,x.okTo B/\x.i64:=by
 unfold cJ
 split
 ·intro x hx;cases hx
 ·split
  ·intro x hx;cases hx
  ·split
   ·exact Fo.res_fit hB _ _ (Gx hB) (fun x hx=>hok x (zT v x hx))
   ·intro x hx;cases hx
def Ap (n:Nat):(eo n).length<=2:=by unfold eo;split<;>simp
def LI {n:Nd}{sp:List UInt8}{B:Nat}(hok:n.okTo B/\n.i64):(bp n sp).space=[]/\(bp n sp).name.length<=B+50/\(bp n sp).text=[]/\(bp n sp).i64 /\ ∀ a∈(bp n sp).attrs,a.space.length<=B+50/\a.name.length<=B+50/\a.value.length<=B+50:=by
 obtain⟨⟨_,h2,h3,_,h5⟩,h6⟩:=hok
 refine⟨rfl,by show n.name.length<=_;omega,rfl,h6,fun a ha=>?_⟩
 unfold bp at ha
 rcases List.mem_append.1 ha with ha|ha
 ·rcases List.mem_append.1 ha with ha|ha
  ·unfold Bq at ha
   split at ha
   ·cases ha
   ·have:=List.mem_singleton.1 ha;subst this;exact⟨by simp,by simp,by show n.space.length<=_;omega⟩
  ·unfold fO at ha
   obtain⟨i,hi,rfl⟩:=List.mem_mapIdx.1 ha
   have hs:((bF n.attrs)[i]).length<=B:=by
    rcases ET _ (List.getElem_mem hi) with h|⟨b,hb,e,_⟩
    ·cases h
    ·rw[<- e];exact(h5 b hb).1
   have:=Ap (i+1)
   exact⟨by simp[sb],by simp only[sb,List.length_append,List.length_cons,List.length_nil];omega,by simp only[sb];omega⟩
 ·obtain⟨b,hb,rfl⟩:=List.mem_map.1 ha
  obtain⟨q1,q2,q3⟩:=h5 b hb
  refine⟨by simp[jZ],?_,by show b.value.length<=_;omega⟩
  unfold jZ
  split
  ·exact Nat.le_trans q2 (by omega)
  ·have:(og (bF n.attrs) b.space).length<=3:=by
    unfold og
    split
    ·simp
    ·have:=Ap (PY (bF n.attrs) b.space+1);simp only[List.length_cons];omega
   simp only[List.length_append,List.length_cons];omega
def Fo.bare_fit {B:Nat} : ∀(F:Fo) (sp:List UInt8),(∀ n∈F.flat,n.okTo B/\n.i64) -> ∀ x∈F.bare sp,x.space.length<=B+50/\x.name.length<=B+50/\x.text.length<=B+50/\x.i64 /\ ∀ a∈x.attrs,a.space.length<=B+50/\a.name.length<=B+50/\a.value.length<=B+50
 | .nil,_,_=>fun x hx=>by simp[Fo.bare]at hx
 | .cons n k r,sp,hok=>by
  simp only[Fo.flat,Lk,List.mem_append]at hok
  have hr:=Fo.bare_fit r sp (fun x hx=>hok x (.inr (.inr hx)))
  have hk:=Fo.bare_fit k n.space (fun x hx=>hok x (.inr (.inl hx)))
  have hn:=hok n (.inl rfl)
  simp only[Fo.bare]
  intro x hx
  rcases List.mem_append.1 hx with hx|hx
  ·split at hx
   ·have:=List.mem_singleton.1 hx;subst this
    obtain⟨⟨_,h2,h3,h4,h5⟩,h6⟩:=hn
    exact⟨by omega,by omega,by omega,h6,fun a ha=>by obtain⟨q1,q2,q3⟩:=h5 a ha;exact⟨by omega,by omega,by omega⟩⟩
   ·rcases List.mem_cons.1 hx with e|hx
    ·subst e
     obtain⟨t1,t2,t3,t4,t5⟩:=LI (sp:=sp) hn
     exact⟨by rw[t1];simp,t2,by rw[t3];simp,t4,t5⟩
    ·exact hk x hx
  ·exact hr x hx
def bare_fit {v:List Nd}{sp:List UInt8}{B:Nat}(hok:∀ n∈v,n.okTo B/\n.i64):∀ x∈(ck v sp).1,x.okTo (B+50)/\x.i64:=by
 unfold ck
 split
 ·intro x hx;cases hx
 ·split
  ·intro x hx;cases hx
  ·split
   ·intro x hx;cases hx
   ·rename_i h3
    intro x hx
    obtain⟨h4,h5,h6,h7,h8⟩:=Fo.bare_fit (kB v) sp (fun x hx=>hok x (zT v x hx)) x hx
    have h16:=List.any_eq_false.1 (Bool.not_eq_true _ ▸ h3:mg _=false) x hx
    simp only[decide_eq_true_eq]at h16
    exact⟨⟨by omega,h4,h5,h6,h8⟩,h7⟩
def sE:∀(f c:Nat) (v:List Nd),(rQ f c v).1.size+(rQ f c v).2.length<=v.length
 | 0,_,v=>by simp[rQ,Fo.size]
 | _+1,0,v=>by simp[rQ,Fo.size]
 | _+1,_+1,[]=>by simp[rQ,Fo.size]
 | f+1,c+1,n::v=>by
  have a:=sE f n.many.toNat v
  have b:=sE f c (rQ f n.many.toNat v).2
  simp only[rQ,Fo.size,List.length_cons]
  omega
def Du (v:List Nd):(cJ v).1.length<=v.length:=by
 unfold cJ
 split
 ·simp
 ·split
  ·simp
  ·split
   ·have h1:=Fo.res_len (kB v) Ar
    have h2:=sE (v.length+1) 1 v
    unfold kB at h1 ⊢
    simp only;omega
   ·simp
def zh (v:List Nd)(sp:List UInt8):(ck v sp).1.length<=v.length:=by
 unfold ck
 split
 ·simp
 ·split
  ·simp
  ·split
   ·simp
   ·have h1:=Fo.bare_len (kB v) sp
    have h2:=sE (v.length+1) 1 v
    unfold kB at h1 ⊢
    simp only;omega
end Go.Proofs.YtlnlopnpcmahgaaGreatDoor
