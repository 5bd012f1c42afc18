/-
 Texts joined: XSt,XSu,XSv.
-/
import Derived.Test.YtlnlopnpcmahgaaGreatDoorQw
import Derived.Test.YtlnlopnpcmahgaaGreatDoorQu
set_option linter.all false
namespace Go.Proofs.YtlnlopnpcmahgaaGreatDoor
set_option maxRecDepth 100000
set_option maxHeartbeats 32000000
open Go Go.RowKit Vm Go.Lib Tryz
open Vm renaming ba->Ca,bh->Cb
open And renaming intro->Ai
open List renaming length_map->Lm,not_mem_nil->Ln,map_nil->Lo,map_cons->Lc,mem_cons->Lk
open Bool renaming not_false->Bf,not_true->Bt
def D1 (T:List Tk)(e:Int):V:=.tup [.sl false 4 (T.map bE),.int .i64 e]
def xe (n:Nd)(k:Fo):List Tk:=if oo n k=0 then (Fo.cons n k .nil).toks else []
def HZ (n:Nd)(k:Fo)(hk1:n.kind=1)(hg:(Fo.cons n k .nil).good 12 0=true)(hl:k.size+1<=512)(hok:∀ x∈n::k.flat,x.okTo be/\x.i64)(nm:Nat):Ev cx 47 nm [.sl false 6 ((n::k.flat).map aZ)] ap.nil (D1 (xe n k) (oo n k)) []:=by
 unfold xe
 by_cases h:oo n k=0
 ·have h3:=u3 n k hk1 hg hl hok _ _ nm (.inr ⟨h,rfl,rfl⟩)
  rw[if_pos h,h]
  generalize (Fo.cons n k .nil).toks=T at h3 ⊢
  have hpl:=aF T
  have htk:(T.map bE).take T.length=T.map bE:=ct _ _
  refine Ev.freeze h3 ?_ ?_
  ·simp only[ak,aj,al,hpl,htk,Lm,ai,seval,ah]<;>omega
  ·unfold D1
   simp only[ak,aj,al,hpl,htk,Lm,ai,seval,ah]
 ·have h3:=u3 n k hk1 hg hl hok _ _ nm (.inl ⟨h,rfl,rfl⟩)
  rw[if_neg h]
  refine Ev.res_le h3 ?_
  unfold D1
  simp only[mZ,eJ,fK,b9,kI,Lo,and_self]
def Bw (v:List Nd)(hv:v.length<=be)(hok:∀ n∈v,n.okTo be/\n.i64)(h:cL v=none)(nm:Nat):Ev cx 47 nm [.sl false 6 (v.map aZ)] ap.nil (D1 [] 8) []:=by
 refine Ev.res_le (H0 v hv hok h nm) ?_
 unfold D1
 simp only[mZ,eJ,fK,b9,kI,Lo,and_self]
def OK {v:List Nd}{en:List Nat}(h:cL v=some en):∃ n k,n.kind=1/\v=n::k.flat/\(Fo.cons n k .nil).good 12 0=true/\k.size+1<=512/\v.length=k.size+1:=by
 obtain⟨n,k,h1,h2,h3,h4,_⟩:=lr.1 h
 have hl:v.length=k.size+1:=by rw[h2];simp[Fo.flat_length]
 exact⟨n,k,h1,h2,h3,by omega,hl⟩
def wO {n:Nd}{K:Nat}(h:n.okTo K)(h30:n.attrs.length<=30)(k:Nat):(⟨k,n.name,bl n.attrs,[]⟩:Tk).okTo K/\(bl n.attrs).length<=30:=by
 obtain⟨h1,h2,h3,h4,h5⟩:=h
 have hl:(bl n.attrs).length=n.attrs.length:=by simp[bl]
 refine⟨⟨by rw[hl];exact h1,h3,by simp,fun a ha=>?_⟩,by omega⟩
 simp only[bl,List.mem_map]at ha
 obtain⟨b,hb,rfl⟩:=ha
 exact⟨(h5 b hb).2.1,(h5 b hb).2.2⟩
def Fo.toks_fit {K:Nat} : ∀(F:Fo),(∀ x∈F.flat,x.okTo K/\x.attrs.length<=30) -> ∀ t∈F.toks,t.okTo K/\t.attrs.length<=30
 | .nil,_=>fun t ht=>by simp[Fo.toks]at ht
 | .cons n k r,h=>fun t ht=>by
  have hn:=h n (by simp[Fo.flat])
  have hk:=Fo.toks_fit k (fun x hx=>h x (by simp[Fo.flat,hx]))
  have hr:=Fo.toks_fit r (fun x hx=>h x (by simp[Fo.flat,hx]))
  simp only[Fo.toks,List.mem_append]at ht
  rcases ht with ht|ht
  ·split at ht
   ·simp only[List.mem_singleton]at ht
    subst ht
    exact⟨⟨by simp,by simp,hn.1.2.2.2.1,by simp⟩,by simp⟩
   ·split at ht
    ·simp only[List.mem_singleton]at ht
     subst ht
     exact wO hn.1 hn.2 3
    ·simp only[Lk,List.mem_append,Ln,or_false]at ht
     rcases ht with rfl|ht|rfl
     ·exact wO hn.1 hn.2 1
     ·exact hk t ht
     ·exact⟨⟨by simp,hn.1.2.2.1,by simp,by simp⟩,by simp⟩
  ·exact hr t ht
def v7 {v:List Nd}(hv:v.length<=be)(hok:∀ x∈v,x.okTo be)(nm:Nat):Ev cx 21 nm [.sl false 6 (v.map aZ),.sl false 6 (v.map aZ)] ap.nil (.bool true) []:=by
 have h:=Lr v v hv hv (fun t ht=>(hok t ht).1) (fun t ht=>(hok t ht).1) nm
 rwa[decide_eq_true rfl]at h
structure Wh where
 D:Fo
 R:Fo
 q:Nat
 i:Nat
def Wh.inv (k:Fo)(x:Wh):Prop:=x.D.app x.R=k/\x.q=1+x.D.size/\x.i=x.D.count
end Go.Proofs.YtlnlopnpcmahgaaGreatDoor
