/-
 Texts joined: XIb,XId.
-/
import Derived.Test.YtlnlopnpcmahgaaGreatDoorMc
import Derived.Test.YtlnlopnpcmahgaaGreatDoorR2
import Derived.Test.YtlnlopnpcmahgaaGreatDoorR7
import Derived.Test.YtlnlopnpcmahgaaGreatDoorQm
set_option linter.all false
namespace Go.Proofs.YtlnlopnpcmahgaaGreatDoor
open Go Go.RowKit Vm Go.Lib Tryz
open Vm renaming ba->Ca,bh->Cb
open And renaming intro->Ai
open List renaming length_map->Lm,not_mem_nil->Ln,map_nil->Lo,map_cons->Lc,mem_cons->Lk
open Bool renaming not_false->Bf,not_true->Bt
def dv (v:List Nd):List Tk×Int:=if eG v≠0 then ([],8) else if ck v=true then ([],8) else if 512<(oM v).toks.length then ([],4) else ((oM v).toks,0)
def da (s:List UInt8):List Nd×Int:=if (fU s).2≠0 then ([],(fU s).2) else cp (fU s).1
def c8 (v:List Nd)(sp:List UInt8):List UInt8×Int:=if (cN v sp).2≠0 then ([],(cN v sp).2) else if (dv (cN v sp).1).2≠0 then ([],(dv (cN v sp).1).2) else (jf (dv (cN v sp).1).1,fu (dv (cN v sp).1).1)
def bw (s:List UInt8):List UInt8×Int:=if (da s).2≠0 then ([],(da s).2) else c8 (da s).1 []
def u5 {n:Nd}{k:Fo}(hk:n.kind=1)(hg:(Fo.cons n k .nil).good 12 0=true)(hl:k.size+1<=512):dv (n::k.flat)=(xe n k,oo n k):=by
 unfold dv xe oo
 rw[if_neg (by simp[qA hk hg hl]),pK hg]
 split
 ·rfl
 ·split<;>simp
def u4 {v:List Nd}(h:(dv v).2=0):∃ n k,n.kind=1/\v=n::k.flat/\(Fo.cons n k .nil).good 12 0=true/\k.size+1<=512/\ck v=false/\(Fo.cons n k .nil).toks.length<=512/\(dv v).1=(Fo.cons n k .nil).toks:=by
 have hc:eG v=0:=by
  by_cases hc:eG v=0
  ·exact hc
  ·unfold dv at h;rw[if_pos hc]at h;cases h
 obtain⟨n,k,hk,hv,hg,hl⟩:=qn hc
 have ht:=u5 hk hg hl
 rw[<- hv]at ht
 rw[ht]at h ⊢
 simp only at h ⊢
 have hT:xe n k=(Fo.cons n k .nil).toks:=by unfold xe;rw[if_pos h]
 refine⟨n,k,hk,hv,hg,hl,?_⟩
 unfold oo at h
 rw[<- hv]at h
 split at h
 ·cases h
 ·rename_i h1
  split at h
  ·cases h
  ·rename_i h2
   exact⟨by simpa using h1,by omega,hT⟩
def Fj {v:List Nd}(h:(dv v).2≠0):(dv v).1=[]:=by
 unfold dv at h ⊢
 split
 ·rfl
 ·rename_i h1
  rw[if_neg h1]at h
  split
  ·rfl
  ·rename_i h2
   rw[if_neg h2]at h
   split
   ·rfl
   ·rename_i h3
    rw[if_neg h3]at h;exact absurd rfl h
def LX (v:List Nd)(hv:v.length<=be)(hok:∀ n∈v,n.okTo be/\n.i64)(nm:Nat):Ev cx 47 nm [.sl false 6 (v.map aZ)] ap.nil (D1 (dv v).1 (dv v).2) []:=by
 cases hbo:cL v with
 | none =>
  have:dv v=([],8):=by unfold dv eG;rw[hbo];rfl
  rw[this]
  exact Bw v hv hok hbo nm
 | some en =>
  obtain⟨n,k,h1,h2,h3,h4,h5⟩:=OK hbo
  subst h2
  rw[u5 h1 h3 h4]
  exact HZ n k h1 h3 h4 hok nm
def H2 (v:List Nd):(dv v).1.length<=512:=by
 by_cases h:(dv v).2=0
 ·obtain⟨n,k,_,_,_,_,_,h6,h7⟩:=u4 h
  rw[h7];exact h6
 ·rw[Fj h];simp
def H1 {v:List Nd}{K:Nat}(hok:∀ x∈v,x.okTo K):∀ t∈(dv v).1,t.okTo K/\t.attrs.length<=30:=by
 by_cases h:(dv v).2=0
 ·obtain⟨n,k,h1,h2,h3,h4,h5,h6,h7⟩:=u4 h
  rw[h7]
  have hfl:(Fo.cons n k .nil).flat=v:=by rw[h2];simp[Fo.flat]
  refine Fo.toks_fit _ (by
   rw[hfl]
   intro x hx
   have hm:=(Fo.good_all h3 x (by rw[hfl];exact hx)).1
   exact⟨hok x hx,by have:=(lJ hm).1;omega⟩)
 ·rw[Fj h];intro t ht;cases ht
def JT (l:List Tk):(jf l).length<=16384:=by
 by_cases h:fu l=0
 ·obtain⟨_,_,_,h4,h5⟩:=EO h
  rw[h5];exact h4
 ·unfold jf;rw[if_neg h];simp
def xp (v:List Nd)(sp:List UInt8):(c8 v sp).1.length<=16384:=by
 unfold c8
 split
 ·simp
 ·split
  ·simp
  ·exact JT _
def v9 (s:List UInt8):(bw s).1.length<=16384:=by
 unfold bw
 split
 ·simp
 ·exact xp _ _
def A5 {s:List UInt8}(hs:s.length<=16384):(fU s).1.length<=600 /\ ∀ x∈(fU s).1,x.okTo 100000/\x.i64:=by
 unfold fU
 split
 ·exact⟨by simp,fun x hx=>by cases hx⟩
 ·rename_i h
  have h0:(dJ s).2.2=0:=Decidable.not_not.1 h
  exact wP (toks_fit hs h0).1 (fun t ht=>E2 (AP h0 t ht) (by omega))
def A9 {s:List UInt8}(hs:s.length<=16384):(da s).1.length<=600 /\ ∀ x∈(da s).1,x.okTo 100000/\x.i64:=by
 obtain⟨h1,h2⟩:=A5 hs
 unfold da
 split
 ·exact⟨by simp,fun x hx=>by cases hx⟩
 ·exact⟨Nat.le_trans (DK _) h1,res_fit (by decide) h2⟩
def Ou {s:List UInt8}(h:(da s).2≠0):(da s).1=[]:=by
 unfold da at h ⊢
 split
 ·rfl
 ·rename_i h1
  rw[if_neg h1]at h
  unfold cp at h ⊢
  split
  ·rfl
  ·rename_i h2
   rw[if_neg h2]at h
   split
   ·rfl
   ·rename_i h3
    rw[if_neg h3]at h
    split
    ·rename_i h4;rw[if_pos h4]at h;exact absurd rfl h
    ·rfl
def vi {v:List Nd}{sp:List UInt8}(h:(c8 v sp).2≠0):(c8 v sp).1=[]:=by
 unfold c8 at h ⊢
 split
 ·rfl
 ·rename_i h1
  rw[if_neg h1]at h
  split
  ·rfl
  ·rename_i h2
   rw[if_neg h2]at h
   simp only at h ⊢
   unfold jf;rw[if_neg h]
def zB {s:List UInt8}(h:(bw s).2≠0):(bw s).1=[]:=by
 unfold bw at h ⊢
 split
 ·rfl
 ·rename_i h1
  rw[if_neg h1]at h
  exact vi h
def L7 {v:List Nd}{sp:List UInt8}(h:(c8 v sp).2=0):(cN v sp).2=0/\(dv (cN v sp).1).2=0/\fu (dv (cN v sp).1).1=0/\(c8 v sp).1=jf (dv (cN v sp).1).1:=by
 unfold c8 at h ⊢
 by_cases h1:(cN v sp).2=0
 ·rw[if_neg (by simpa using h1)]at h ⊢
  by_cases h2:(dv (cN v sp).1).2=0
  ·rw[if_neg (by simpa using h2)]at h ⊢
   exact⟨h1,h2,h,rfl⟩
  ·rw[if_pos h2]at h;exact absurd h h2
 ·rw[if_pos h1]at h;exact absurd h h1
def vj {v:List Nd}(h:(c8 v []).2=0):da (c8 v []).1=(v,0):=by
 obtain⟨h1,h2,h3,h4⟩:=L7 h
 rw[h4]
 have hb:=FI h1
 obtain⟨n,k,t1,t2,t3,t4,t5,t6,t7⟩:=u4 h2
 obtain⟨p1,p2⟩:=Dr t1 t3 (by rw[<- t2];exact t5) t6
 rw[<- t7]at p1 p2
 have hx:=JZ h3
 have hp:fU (jf (dv (cN v []).1).1)=((cN v []).1,0):=by
  unfold fU
  rw[hx]
  simp only[ne_eq,not_true_eq_false,if_false]
  rw[p1,p2,<- t2]
 unfold da
 rw[hp]
 simp only[ne_eq,not_true_eq_false,if_false]
 exact hb
def tz {s:List UInt8}(h:(bw s).2=0):(da s).2=0/\bw s=c8 (da s).1 []:=by
 unfold bw at h ⊢
 by_cases h1:(da s).2=0
 ·rw[if_neg (by simpa using h1)]
  exact⟨h1,rfl⟩
 ·rw[if_pos h1]at h;exact absurd h h1
def zz {s:List UInt8}(h:(bw s).2=0):da (bw s).1=((da s).1,0)/\bw (bw s).1=((bw s).1,0):=by
 obtain⟨h1,h2⟩:=tz h
 have hr:=vj (v:=(da s).1) (by rw[<- h2];exact h)
 rw[<- h2]at hr
 refine⟨hr,?_⟩
 rw[bw,hr]
 simp only[ne_eq,not_true_eq_false,if_false]
 rw[<- h2,<- h]
end Go.Proofs.YtlnlopnpcmahgaaGreatDoor
