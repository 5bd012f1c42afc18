/-
 Texts joined: XOl.
-/
import Derived.Test.YtjonibipieofcaaGreatDoorR6
set_option linter.all false
namespace Go.Proofs.YtjonibipieofcaaGreatDoor
set_option maxRecDepth 100000
set_option maxHeartbeats 32000000
open Go Go.RowKit Vm Go.Lib Tryz
open Vm renaming aI->Ca,aP->Cb
open And renaming intro->Ai
open List renaming length_map->Lm,not_mem_nil->Ln,map_nil->Lo,map_cons->Lc,mem_cons->Lk
open Bool renaming not_false->Bf,not_true->Bt
def v8:∀(f c:Nat) (v:List Nd),(∀ x∈(qp f c v).1.flat,x∈v) /\ ∀ x∈(qp f c v).2,x∈v
 | 0,_,v=>⟨fun x hx=>by simp[qp,Fo.flat]at hx,fun x hx=>by simpa [qp] using hx⟩
 | _+1,0,v=>⟨fun x hx=>by simp[qp,Fo.flat]at hx,fun x hx=>by simpa [qp] using hx⟩
 | _+1,_+1,[]=>⟨fun x hx=>by simp[qp,Fo.flat]at hx,fun x hx=>by simp[qp]at hx⟩
 | f+1,c+1,n::v=>by
  obtain⟨a1,a2⟩:=v8 f n.many.toNat v
  obtain⟨b1,b2⟩:=v8 f c (qp f n.many.toNat v).2
  simp only[qp,Fo.flat,Lk,List.mem_append]
  refine⟨fun x hx=>?_,fun x hx=>.inr (a2 x (b2 x hx))⟩
  rcases hx with h|h|h
  ·exact .inl h
  ·exact .inr (a1 x h)
  ·exact .inr (a2 x (b1 x h))
def Gh (v:List Nd):∀ x∈(qH v).flat,x∈v:=(v8 _ _ v).1
def jO (n:Nat):(eB n).length<=2:=by unfold eB;split<;>simp
def H5 {n:Nd}{sp:List UInt8}{B:Nat}(hok:n.okTo B/\n.i64):(dn n sp).space=[]/\(dn n sp).name.length<=B+50/\(dn n sp).text=[]/\(dn n sp).i64 /\ ∀ a∈(dn n sp).attrs,a.space.length<=B+50/\a.name.length<=B+50/\a.value.length<=B+50:=by
 obtain⟨⟨_,h2,h3,_,h5⟩,h6⟩:=hok
 refine⟨rfl,by show n.name.length<=_;omega,rfl,h6,fun a ha=>?_⟩
 unfold dn at ha
 rcases List.mem_append.1 ha with ha|ha
 ·rcases List.mem_append.1 ha with ha|ha
  ·unfold yp at ha
   split at ha
   ·cases ha
   ·have:=List.mem_singleton.1 ha;subst this;exact⟨by simp,by simp,by show n.space.length<=_;omega⟩
  ·unfold bZ at ha
   obtain⟨i,hi,rfl⟩:=List.mem_mapIdx.1 ha
   have hs:((bl n.attrs)[i]).length<=B:=by
    rcases KH _ (List.getElem_mem hi) with h|⟨b,hb,e,_⟩
    ·cases h
    ·rw[<- e];exact(h5 b hb).1
   have:=jO (i+1)
   exact⟨by simp[ng],by simp only[ng,List.length_append,List.length_cons,List.length_nil];omega,by simp only[ng];omega⟩
 ·obtain⟨b,hb,rfl⟩:=List.mem_map.1 ha
  obtain⟨q1,q2,q3⟩:=h5 b hb
  refine⟨by simp[ec],?_,by show b.value.length<=_;omega⟩
  unfold ec
  split
  ·exact Nat.le_trans q2 (by omega)
  ·have:(um (bl n.attrs) b.space).length<=3:=by
    unfold um
    split
    ·simp
    ·have:=jO (zz (bl n.attrs) b.space+1);simp only[List.length_cons];omega
   simp only[List.length_append,List.length_cons];omega
def Fo.bare_fit {B:Nat} : ∀(F:Fo) (sp:List UInt8),(∀ n∈F.flat,n.okTo B/\n.i64) -> ∀ x∈F.bare sp,x.space.length<=B+50/\x.name.length<=B+50/\x.text.length<=B+50/\x.i64 /\ ∀ a∈x.attrs,a.space.length<=B+50/\a.name.length<=B+50/\a.value.length<=B+50
 | .nil,_,_=>fun x hx=>by simp[Fo.bare]at hx
 | .cons n k r,sp,hok=>by
  simp only[Fo.flat,Lk,List.mem_append]at hok
  have hr:=Fo.bare_fit r sp (fun x hx=>hok x (.inr (.inr hx)))
  have hk:=Fo.bare_fit k n.space (fun x hx=>hok x (.inr (.inl hx)))
  have hn:=hok n (.inl rfl)
  simp only[Fo.bare]
  intro x hx
  rcases List.mem_append.1 hx with hx|hx
  ·split at hx
   ·have:=List.mem_singleton.1 hx;subst this
    obtain⟨⟨_,h2,h3,h4,h5⟩,h6⟩:=hn
    exact⟨by omega,by omega,by omega,h6,fun a ha=>by obtain⟨q1,q2,q3⟩:=h5 a ha;exact⟨by omega,by omega,by omega⟩⟩
   ·rcases List.mem_cons.1 hx with e|hx
    ·subst e
     obtain⟨t1,t2,t3,t4,t5⟩:=H5 (sp:=sp) hn
     exact⟨by rw[t1];simp,t2,by rw[t3];simp,t4,t5⟩
    ·exact hk x hx
  ·exact hr x hx
def bare_fit {v:List Nd}{sp:List UInt8}{B:Nat}(hok:∀ n∈v,n.okTo B/\n.i64):∀ x∈(bC v sp).1,x.okTo (B+50)/\x.i64:=by
 unfold bC
 split
 ·intro x hx;cases hx
 ·split
  ·intro x hx;cases hx
  ·split
   ·intro x hx;cases hx
   ·rename_i h3
    intro x hx
    obtain⟨h4,h5,h6,h7,h8⟩:=Fo.bare_fit (qH v) sp (fun x hx=>hok x (Gh v x hx)) x hx
    have h16:=List.any_eq_false.1 (Bool.not_eq_true _ ▸ h3:kZ _=false) x hx
    simp only[decide_eq_true_eq]at h16
    exact⟨⟨by omega,h4,h5,h6,h8⟩,h7⟩
def v7:∀(f c:Nat) (v:List Nd),(qp f c v).1.size+(qp f c v).2.length<=v.length
 | 0,_,v=>by simp[qp,Fo.size]
 | _+1,0,v=>by simp[qp,Fo.size]
 | _+1,_+1,[]=>by simp[qp,Fo.size]
 | f+1,c+1,n::v=>by
  have a:=v7 f n.many.toNat v
  have b:=v7 f c (qp f n.many.toNat v).2
  simp only[qp,Fo.size,List.length_cons]
  omega
def qg (v:List Nd)(sp:List UInt8):(bC v sp).1.length<=v.length:=by
 unfold bC
 split
 ·simp
 ·split
  ·simp
  ·split
   ·simp
   ·have h1:=Fo.bare_len (qH v) sp
    have h2:=v7 (v.length+1) 1 v
    unfold qH at h1 ⊢
    simp only;omega
end Go.Proofs.YtjonibipieofcaaGreatDoor
