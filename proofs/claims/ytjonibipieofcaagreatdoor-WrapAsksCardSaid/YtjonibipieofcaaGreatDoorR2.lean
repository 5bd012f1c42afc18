/-
 Texts joined: XOb,XOc,XOd.
-/
import Derived.Test.YtjonibipieofcaaGreatDoorR1
set_option linter.all false
namespace Go.Proofs.YtjonibipieofcaaGreatDoor
set_option maxRecDepth 100000
set_option maxHeartbeats 32000000
open Go Go.RowKit Vm Go.Lib Tryz
open Vm renaming aI->Ca,aP->Cb
open And renaming intro->Ai
open List renaming length_map->Lm,not_mem_nil->Ln,map_nil->Lo,map_cons->Lc,mem_cons->Lk
open Bool renaming not_false->Bf,not_true->Bt
def KH {l:List At} : ∀ {S:List (List UInt8)},∀ s∈l.foldl gi S,s∈S \/ ∃ a∈l,a.space=s/\s≠[]/\s≠me:=by
 induction l with
 | nil=>intro S s h;exact .inl h
 | cons a l ih =>
  intro S s h
  rw[List.foldl_cons]at h
  rcases ih s h with h|⟨b,hb,h1⟩
  ·unfold gi at h
   split at h
   ·exact .inl h
   ·rename_i h1
    split at h
    ·exact .inl h
    ·rename_i h2
     split at h
     ·exact .inl h
     ·rcases List.mem_append.1 h with h|h
      ·exact .inl h
      ·refine .inr ⟨a,List.mem_cons_self ..,?_⟩
       have:=List.mem_singleton.1 h
       subst this
       exact⟨rfl,by simpa using h1,by simpa using h2⟩
  ·exact .inr ⟨b,List.mem_cons_of_mem _ hb,h1⟩
def HB {l:List At} : ∀ {S:List (List UInt8)} {a:At},a∈l->a.space≠[]->a.space≠me->a.space∈l.foldl gi S:=by
 induction l with
 | nil=>intro S a h;cases h
 | cons b l ih =>
  intro S a h h1 h2
  rw[List.foldl_cons]
  rcases List.mem_cons.1 h with e|h
  ·subst e
   refine(kJ l (gi S a)).subset ?_
   unfold gi
   rw[if_neg (by simpa using h1),if_neg (by simpa using h2)]
   split
   ·rename_i h3;exact List.contains_iff_mem.1 h3
   ·simp
  ·exact ih h h1 h2
def MB {S:List (List UInt8)}{s:List UInt8}(h:s∈S):S[zz S s]? = some s/\zz S s<S.length:=by
 unfold zz
 cases hf:S.findIdx? (· == s) with
 | none=>have:=pn hf;rw[List.contains_iff_mem.2 h]at this;cases this
 | some k =>
  obtain⟨hk,h1,_⟩:=List.findIdx?_eq_some_iff_getElem.1 hf
  have e:S[k]=s:=by simpa using h1
  exact⟨by simp only[Option.getD_some];rw[List.getElem?_eq_getElem hk,e],by simpa using hk⟩
def Fo.tell:Fo->List UInt8->Fo
 | .nil,_=>.nil
 | .cons n k r,sp=>.cons (if n.kind=2 then n else dn n sp) (k.tell n.space) (r.tell sp)
def Fo.tell_size:∀(F:Fo) (sp:List UInt8),(F.tell sp).size=F.size
 | .nil,_=>rfl
 | .cons n k r,sp=>by simp[Fo.tell,Fo.size,k.tell_size,r.tell_size]
def Fo.tell_flat:∀ {F:Fo} {d last:Nat} (sp:List UInt8),F.good d last=true->(F.tell sp).flat=F.bare sp
 | .nil,_,_,_,_=>rfl
 | .cons n k r,d,last,sp,h=>by
  obtain⟨h1,h2,h3,h4,h5,h6⟩:=Fo.good_cons.1 h
  simp only[Fo.tell,Fo.flat,Fo.bare,Fo.tell_flat sp h6]
  by_cases hk:n.kind=2
  ·have:=Fo.text_leaf h hk
   subst this
   simp[hk,Fo.tell,Fo.flat]
  ·simp[hk,Fo.tell_flat n.space h5]
def ma {v:List Nd}(h:cT v=0):∃ n k,n.kind=1/\v=n::k.flat/\(Fo.cons n k .nil).good 12 0=true/\k.size+1<=512:=by
 unfold cT at h
 cases hb:bm v with
 | none=>rw[hb]at h;cases h
 | some en =>
  obtain⟨n,k,h1,h2,h3,h4,_⟩:=gr.1 hb
  exact⟨n,k,h1,h2,h3,by rw[h2]at h4;simpa [Fo.flat_length] using h4⟩
def uA {n:Nd}{k:Fo}(hk:n.kind=1)(h:(Fo.cons n k .nil).good 12 0=true)(hl:k.size+1<=512):cT (n::k.flat)=0:=by
 unfold cT;rw[uz (Nat.le_refl _) hk h hl];rfl
def uC {v:List Nd}(h:cn v=0):(∀ x∈v,jF x=false)/\cT v=0:=by
 unfold cn at h
 split at h
 ·cases h
 ·rename_i hb
  refine⟨fun x hx=>?_,h⟩
  cases hx2:jF x with
  | false=>rfl
  | true=>exact absurd (List.any_eq_true.2 ⟨x,hx,hx2⟩) hb
end Go.Proofs.YtjonibipieofcaaGreatDoor
