/-
 Texts joined: XSt,XSu,XSv,XIb.
-/
import Derived.Test.YtlnlopnpcmahgaaGreatDoorQw
import Derived.Test.YtlnlopnpcmahgaaGreatDoorQu
import Derived.Test.YtlnlopnpcmahgaaGreatDoorR2
import Derived.Test.YtlnlopnpcmahgaaGreatDoorR7
import Derived.Test.YtlnlopnpcmahgaaGreatDoorQm
set_option linter.all false
namespace Go.Proofs.YtlnlopnpcmahgaaGreatDoor
set_option maxRecDepth 100000
set_option maxHeartbeats 32000000
open Go Go.RowKit Vm Go.Lib Tryz
open Vm renaming aH->Ca,aL->Cb
open And renaming intro->Ai
open List renaming length_map->Lm,not_mem_nil->Ln,map_nil->Lo,map_cons->Lc,mem_cons->Lk
open Bool renaming not_false->Bf,not_true->Bt
def rY (T:List Tk)(e:Int):V:=.tup [.sl false 4 (T.map bv),.int .i64 e]
def sZ (n:Nd)(k:Fo):List Tk:=if lf n k=0 then (Fo.cons n k .nil).toks else []
def BV (n:Nd)(k:Fo)(hk1:n.kind=1)(hg:(Fo.cons n k .nil).good 12 0=true)(hl:k.size+1<=512)(hok:∀ x∈n::k.flat,x.okTo aS/\x.i64)(nm:Nat):Ev cx 47 nm [.sl false 6 ((n::k.flat).map aG)] am.nil (rY (sZ n k) (lf n k)) []:=by
 unfold sZ
 by_cases h:lf n k=0
 ·have h3:=qW n k hk1 hg hl hok _ _ nm (.inr ⟨h,rfl,rfl⟩)
  rw[if_pos h,h]
  generalize (Fo.cons n k .nil).toks=T at h3 ⊢
  have hpl:=aF T
  have htk:(T.map bv).take T.length=T.map bv:=bF _ _
  refine Ev.freeze h3 ?_ ?_
  ·simp only[aj,ag,ap,hpl,htk,Lm,ai,seval,ah]<;>omega
  ·unfold rY
   simp only[aj,ag,ap,hpl,htk,Lm,ai,seval,ah]
 ·have h3:=qW n k hk1 hg hl hok _ _ nm (.inl ⟨h,rfl,rfl⟩)
  rw[if_neg h]
  refine Ev.res_le h3 ?_
  unfold rY
  simp only[qo,dj,ej,b8,iS,Lo,and_self]
def wA (v:List Nd)(hv:v.length<=aS)(hok:∀ n∈v,n.okTo aS/\n.i64)(h:bJ v=none)(nm:Nat):Ev cx 47 nm [.sl false 6 (v.map aG)] am.nil (rY [] 8) []:=by
 refine Ev.res_le (BW v hv hok h nm) ?_
 unfold rY
 simp only[qo,dj,ej,b8,iS,Lo,and_self]
def G6 {v:List Nd}{en:List Nat}(h:bJ v=some en):∃ n k,n.kind=1/\v=n::k.flat/\(Fo.cons n k .nil).good 12 0=true/\k.size+1<=512/\v.length=k.size+1:=by
 obtain⟨n,k,h1,h2,h3,h4,_⟩:=iJ.1 h
 have hl:v.length=k.size+1:=by rw[h2];simp[Fo.flat_length]
 exact⟨n,k,h1,h2,h3,by omega,hl⟩
def sL {n:Nd}{K:Nat}(h:n.okTo K)(h30:n.attrs.length<=30)(k:Nat):(⟨k,n.name,aO n.attrs,[]⟩:Tk).okTo K/\(aO n.attrs).length<=30:=by
 obtain⟨h1,h2,h3,h4,h5⟩:=h
 have hl:(aO n.attrs).length=n.attrs.length:=by simp[aO]
 refine⟨⟨by rw[hl];exact h1,h3,by simp,fun a ha=>?_⟩,by omega⟩
 simp only[aO,List.mem_map]at ha
 obtain⟨b,hb,rfl⟩:=ha
 exact⟨(h5 b hb).2.1,(h5 b hb).2.2⟩
def Fo.toks_fit {K:Nat} : ∀(F:Fo),(∀ x∈F.flat,x.okTo K/\x.attrs.length<=30) -> ∀ t∈F.toks,t.okTo K/\t.attrs.length<=30
 | .nil,_=>fun t ht=>by simp[Fo.toks]at ht
 | .cons n k r,h=>fun t ht=>by
  have hn:=h n (by simp[Fo.flat])
  have hk:=Fo.toks_fit k (fun x hx=>h x (by simp[Fo.flat,hx]))
  have hr:=Fo.toks_fit r (fun x hx=>h x (by simp[Fo.flat,hx]))
  simp only[Fo.toks,List.mem_append]at ht
  rcases ht with ht|ht
  ·split at ht
   ·simp only[List.mem_singleton]at ht
    subst ht
    exact⟨⟨by simp,by simp,hn.1.2.2.2.1,by simp⟩,by simp⟩
   ·split at ht
    ·simp only[List.mem_singleton]at ht
     subst ht
     exact sL hn.1 hn.2 3
    ·simp only[Lk,List.mem_append,Ln,or_false]at ht
     rcases ht with rfl|ht|rfl
     ·exact sL hn.1 hn.2 1
     ·exact hk t ht
     ·exact⟨⟨by simp,hn.1.2.2.1,by simp,by simp⟩,by simp⟩
  ·exact hr t ht
def Fo.app_assoc:∀(F G H:Fo),(F.app G).app H=F.app (G.app H)
 | .nil,_,_=>rfl
 | .cons n k r,g,h=>by simp[Fo.app,r.app_assoc]
def HD {α:Type}{a b:List α}{x:α}{i:Nat}(h:i=a.length):(a++x::b)[i]? = some x:=by subst h;simp
structure Wh where
 D:Fo
 R:Fo
 q:Nat
 i:Nat
def Wh.inv (k:Fo)(x:Wh):Prop:=x.D.app x.R=k/\x.q=1+x.D.size/\x.i=x.D.count
def DN {l:List Nat}{i q:Nat}(h:l[i]? = some q):(l.map ff)[i]? = some (ff q)/\i<l.length:=by
 refine⟨by rw[List.getElem?_map,h];rfl,(List.getElem?_eq_some_iff.1 h).1⟩
def bU (v:List Nd):List Tk×Int:=if ez v≠0 then ([],8) else if bD v=true then ([],8) else if 512<(oM v).toks.length then ([],4) else ((oM v).toks,0)
def dW (v:List Nd)(sp:List UInt8):List UInt8×Int:=if (bi v sp).2≠0 then ([],(bi v sp).2) else if (bU (bi v sp).1).2≠0 then ([],(bU (bi v sp).1).2) else (jY (bU (bi v sp).1).1,ed (bU (bi v sp).1).1)
def qX {n:Nd}{k:Fo}(hk:n.kind=1)(hg:(Fo.cons n k .nil).good 12 0=true)(hl:k.size+1<=512):bU (n::k.flat)=(sZ n k,lf n k):=by
 unfold bU sZ lf
 rw[if_neg (by simp[sa hk hg hl]),pe hg]
 split
 ·rfl
 ·split<;>simp
def wB {v:List Nd}(h:(bU v).2=0):∃ n k,n.kind=1/\v=n::k.flat/\(Fo.cons n k .nil).good 12 0=true/\k.size+1<=512/\bD v=false/\(Fo.cons n k .nil).toks.length<=512/\(bU v).1=(Fo.cons n k .nil).toks:=by
 have hc:ez v=0:=by
  by_cases hc:ez v=0
  ·exact hc
  ·unfold bU at h;rw[if_pos hc]at h;cases h
 obtain⟨n,k,hk,hv,hg,hl⟩:=ko hc
 have ht:=qX hk hg hl
 rw[<- hv]at ht
 rw[ht]at h ⊢
 simp only at h ⊢
 have hT:sZ n k=(Fo.cons n k .nil).toks:=by unfold sZ;rw[if_pos h]
 refine⟨n,k,hk,hv,hg,hl,?_⟩
 unfold lf at h
 rw[<- hv]at h
 split at h
 ·cases h
 ·rename_i h1
  split at h
  ·cases h
  ·rename_i h2
   exact⟨by simpa using h1,by omega,hT⟩
def zx {v:List Nd}(h:(bU v).2≠0):(bU v).1=[]:=by
 unfold bU at h ⊢
 split
 ·rfl
 ·rename_i h1
  rw[if_neg h1]at h
  split
  ·rfl
  ·rename_i h2
   rw[if_neg h2]at h
   split
   ·rfl
   ·rename_i h3
    rw[if_neg h3]at h;exact absurd rfl h
def EM (v:List Nd)(hv:v.length<=aS)(hok:∀ n∈v,n.okTo aS/\n.i64)(nm:Nat):Ev cx 47 nm [.sl false 6 (v.map aG)] am.nil (rY (bU v).1 (bU v).2) []:=by
 cases hbo:bJ v with
 | none =>
  have:bU v=([],8):=by unfold bU ez;rw[hbo];rfl
  rw[this]
  exact wA v hv hok hbo nm
 | some en =>
  obtain⟨n,k,h1,h2,h3,h4,h5⟩:=G6 hbo
  subst h2
  rw[qX h1 h3 h4]
  exact BV n k h1 h3 h4 hok nm
def s5 (v:List Nd):(bU v).1.length<=512:=by
 by_cases h:(bU v).2=0
 ·obtain⟨n,k,_,_,_,_,_,h6,h7⟩:=wB h
  rw[h7];exact h6
 ·rw[zx h];simp
def s4 {v:List Nd}{K:Nat}(hok:∀ x∈v,x.okTo K):∀ t∈(bU v).1,t.okTo K/\t.attrs.length<=30:=by
 by_cases h:(bU v).2=0
 ·obtain⟨n,k,h1,h2,h3,h4,h5,h6,h7⟩:=wB h
  rw[h7]
  have hfl:(Fo.cons n k .nil).flat=v:=by rw[h2];simp[Fo.flat]
  refine Fo.toks_fit _ (by
   rw[hfl]
   intro x hx
   have hm:=(Fo.good_all h3 x (by rw[hfl];exact hx)).1
   exact⟨hok x hx,by have:=(gD hm).1;omega⟩)
 ·rw[zx h];intro t ht;cases ht
def EY {v:List Nd}{sp:List UInt8}(h:(dW v sp).2≠0):(dW v sp).1=[]:=by
 unfold dW at h ⊢
 split
 ·rfl
 ·rename_i h1
  rw[if_neg h1]at h
  split
  ·rfl
  ·rename_i h2
   rw[if_neg h2]at h
   simp only at h ⊢
   unfold jY;rw[if_neg h]
end Go.Proofs.YtlnlopnpcmahgaaGreatDoor
