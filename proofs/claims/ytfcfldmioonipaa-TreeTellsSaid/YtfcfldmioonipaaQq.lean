/-
 Texts joined: XSu,XOc,XOd,XOe,XOf,XOi,XOg,XOj,XOh.
-/
import Derived.Test.YtfcfldmioonipaaQp
import Derived.Test.YtfcfldmioonipaaQm
import Derived.Test.YtfcfldmioonipaaQe
import Derived.Test.YtfcfldmioonipaaQj
namespace Go.Proofs.Ytfcfldmioonipaa
set_option maxRecDepth 100000
set_option maxHeartbeats 32000000
set_option linter.unusedSimpArgs false
set_option linter.unusedVariables false
open Go Go.RowKit Vm Go.Lib Try
open Vm renaming cond_bool→Ca,cond_bit→Cb
open And renaming intro→Ai
open List renaming length_map→Lm,not_mem_nil→Ln,map_nil→Lo,map_cons→Lc,mem_cons→Lk
open Bool renaming not_false→Bf,not_true→Bt
theorem pairs_fit {n:Nd}{K:Nat}(h:n.okTo K)(h30:n.attrs.length≤30)(k:Nat):(⟨k,n.name,pairsL n.attrs,[]⟩:Tk).okTo K∧(pairsL n.attrs).length≤30:=by
 obtain⟨h1,h2,h3,h4,h5⟩:=h
 have hl:(pairsL n.attrs).length=n.attrs.length:=by simp[pairsL]
 refine⟨⟨by rw[hl];exact h1,h3,by simp,fun a ha=>?_⟩,by omega⟩
 simp only[pairsL,List.mem_map]at ha
 obtain⟨b,hb,rfl⟩:=ha
 exact⟨(h5 b hb).2.1,(h5 b hb).2.2⟩
theorem Fo.toks_fit {K:Nat} : ∀(F:Fo),(∀ x∈F.flat,x.okTo K∧x.attrs.length≤30) → ∀ t∈F.toks,t.okTo K∧t.attrs.length≤30
 | .nil,_=>fun t ht=>by simp[Fo.toks]at ht
 | .cons n k r,h=>fun t ht=>by
  have hn:=h n (by simp[Fo.flat])
  have hk:=Fo.toks_fit k (fun x hx=>h x (by simp[Fo.flat,hx]))
  have hr:=Fo.toks_fit r (fun x hx=>h x (by simp[Fo.flat,hx]))
  simp only[Fo.toks,List.mem_append]at ht
  rcases ht with ht|ht
  ·split at ht
   ·simp only[List.mem_singleton]at ht
    subst ht
    exact⟨⟨by simp,by simp,hn.1.2.2.2.1,by simp⟩,by simp⟩
   ·split at ht
    ·simp only[List.mem_singleton]at ht
     subst ht
     exact pairs_fit hn.1 hn.2 3
    ·simp only[Lk,List.mem_append,Ln,or_false]at ht
     rcases ht with rfl|ht|rfl
     ·exact pairs_fit hn.1 hn.2 1
     ·exact hk t ht
     ·exact⟨⟨by simp,hn.1.2.2.1,by simp,by simp⟩,by simp⟩
  ·exact hr t ht
theorem tak_at (l:List At):(l.map atC).take l.length=l.map atC:=take_map_len _ _
section
variable {Q:Post} {st:List Frm} {nm:Nat} {e:Env} {M:Mem} {d:Bool} {fs:List (List Nat)} {ops r:List Oper} {dst:Option Tmp} {t:TypeId} {pos:String} {af:Array Edge} {gd:Option (Nat×Bool)} {i:Nat}
end
theorem under {a b0:Nat}(h:a<b0):((a=b0)=False)∧(∀ c,(a=b0+c)=False)∧((b0=a)=False)∧(∀ c,(b0+c=a)=False):=⟨lt_ne h,lt_ne_add h,lt_ne' h,lt_ne_add' h⟩
end Go.Proofs.Ytfcfldmioonipaa
