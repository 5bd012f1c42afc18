/-
 Texts joined: XSt,XSu,XSv,XIb.
-/
import Derived.Test.YtjonibipieofcaaGreatDoorR7
set_option linter.all false
namespace Go.Proofs.YtjonibipieofcaaGreatDoor
set_option maxRecDepth 100000
set_option maxHeartbeats 32000000
open Go Go.RowKit Vm Go.Lib Tryz
open Vm renaming aI->Ca,aP->Cb
open And renaming intro->Ai
open List renaming length_map->Lm,not_mem_nil->Ln,map_nil->Lo,map_cons->Lc,mem_cons->Lk
open Bool renaming not_false->Bf,not_true->Bt
def ur (T:List Tk)(e:Int):V:=.tup [.sl false 4 (T.map bQ),.int .i64 e]
def vt (n:Nd)(k:Fo):List Tk:=if m7 n k=0 then (Fo.cons n k .nil).toks else []
def EU (n:Nd)(k:Fo)(hk1:n.kind=1)(hg:(Fo.cons n k .nil).good 12 0=true)(hl:k.size+1<=512)(hok:∀ x∈n::k.flat,x.okTo aT/\x.i64)(nm:Nat):Ev cx 92 nm [.sl false 6 ((n::k.flat).map aD)] ao.nil (ur (vt n k) (m7 n k)) []:=by
 unfold vt
 by_cases h:m7 n k=0
 ·have h3:=tu n k hk1 hg hl hok _ _ nm (.inr ⟨h,rfl,rfl⟩)
  rw[if_pos h,h]
  generalize (Fo.cons n k .nil).toks=T at h3 ⊢
  have hpl:=aM T
  have htk:(T.map bQ).take T.length=T.map bQ:=ba _ _
  refine Ev.freeze h3 ?_ ?_
  ·simp only[au,ap,am,hpl,htk,Lm,aj,ai,seval]<;>omega
  ·unfold ur
   simp only[au,ap,am,hpl,htk,Lm,aj,ai,seval]
 ·have h3:=tu n k hk1 hg hl hok _ _ nm (.inl ⟨h,rfl,rfl⟩)
  rw[if_neg h]
  refine Ev.res_le h3 ?_
  unfold ur
  simp only[pI,dO,eU,ct,jx,Lo,and_self]
def zi (v:List Nd)(hv:v.length<=aT)(hok:∀ n∈v,n.okTo aT/\n.i64)(h:bm v=none)(nm:Nat):Ev cx 92 nm [.sl false 6 (v.map aD)] ao.nil (ur [] 8) []:=by
 refine Ev.res_le (EV v hv hok h nm) ?_
 unfold ur
 simp only[pI,dO,eU,ct,jx,Lo,and_self]
def KN {v:List Nd}{en:List Nat}(h:bm v=some en):∃ n k,n.kind=1/\v=n::k.flat/\(Fo.cons n k .nil).good 12 0=true/\k.size+1<=512/\v.length=k.size+1:=by
 obtain⟨n,k,h1,h2,h3,h4,_⟩:=gr.1 h
 have hl:v.length=k.size+1:=by rw[h2];simp[Fo.flat_length]
 exact⟨n,k,h1,h2,h3,by omega,hl⟩
def va {n:Nd}{K:Nat}(h:n.okTo K)(h30:n.attrs.length<=30)(k:Nat):(⟨k,n.name,aW n.attrs,[]⟩:Tk).okTo K/\(aW n.attrs).length<=30:=by
 obtain⟨h1,h2,h3,h4,h5⟩:=h
 have hl:(aW n.attrs).length=n.attrs.length:=by simp[aW]
 refine⟨⟨by rw[hl];exact h1,h3,by simp,fun a ha=>?_⟩,by omega⟩
 simp only[aW,List.mem_map]at ha
 obtain⟨b,hb,rfl⟩:=ha
 exact⟨(h5 b hb).2.1,(h5 b hb).2.2⟩
def Fo.toks_fit {K:Nat} : ∀(F:Fo),(∀ x∈F.flat,x.okTo K/\x.attrs.length<=30) -> ∀ t∈F.toks,t.okTo K/\t.attrs.length<=30
 | .nil,_=>fun t ht=>by simp[Fo.toks]at ht
 | .cons n k r,h=>fun t ht=>by
  have hn:=h n (by simp[Fo.flat])
  have hk:=Fo.toks_fit k (fun x hx=>h x (by simp[Fo.flat,hx]))
  have hr:=Fo.toks_fit r (fun x hx=>h x (by simp[Fo.flat,hx]))
  simp only[Fo.toks,List.mem_append]at ht
  rcases ht with ht|ht
  ·split at ht
   ·simp only[List.mem_singleton]at ht
    subst ht
    exact⟨⟨by simp,by simp,hn.1.2.2.2.1,by simp⟩,by simp⟩
   ·split at ht
    ·simp only[List.mem_singleton]at ht
     subst ht
     exact va hn.1 hn.2 3
    ·simp only[Lk,List.mem_append,Ln,or_false]at ht
     rcases ht with rfl|ht|rfl
     ·exact va hn.1 hn.2 1
     ·exact hk t ht
     ·exact⟨⟨by simp,hn.1.2.2.1,by simp,by simp⟩,by simp⟩
  ·exact hr t ht
def Fo.app_assoc:∀(F G H:Fo),(F.app G).app H=F.app (G.app H)
 | .nil,_,_=>rfl
 | .cons n k r,g,h=>by simp[Fo.app,r.app_assoc]
def Lz {α:Type}{a b:List α}{x:α}{i:Nat}(h:i=a.length):(a++x::b)[i]? = some x:=by subst h;simp
structure Wh where
 D:Fo
 R:Fo
 q:Nat
 i:Nat
def Wh.inv (k:Fo)(x:Wh):Prop:=x.D.app x.R=k/\x.q=1+x.D.size/\x.i=x.D.count
def G1 {l:List Nat}{i q:Nat}(h:l[i]? = some q):(l.map gn)[i]? = some (gn q)/\i<l.length:=by
 refine⟨by rw[List.getElem?_map,h];rfl,(List.getElem?_eq_some_iff.1 h).1⟩
def cD (v:List Nd):List Tk×Int:=if cT v≠0 then ([],8) else if bV v=true then ([],8) else if 512<(qH v).toks.length then ([],4) else ((qH v).toks,0)
def eR (v:List Nd)(sp:List UInt8):List UInt8×Int:=if (bC v sp).2≠0 then ([],(bC v sp).2) else if (cD (bC v sp).1).2≠0 then ([],(cD (bC v sp).1).2) else (lN (cD (bC v sp).1).1,fh (cD (bC v sp).1).1)
def tv {n:Nd}{k:Fo}(hk:n.kind=1)(hg:(Fo.cons n k .nil).good 12 0=true)(hl:k.size+1<=512):cD (n::k.flat)=(vt n k,m7 n k):=by
 unfold cD vt m7
 rw[if_neg (by simp[uA hk hg hl]),re hg]
 split
 ·rfl
 ·split<;>simp
def zj {v:List Nd}(h:(cD v).2=0):∃ n k,n.kind=1/\v=n::k.flat/\(Fo.cons n k .nil).good 12 0=true/\k.size+1<=512/\bV v=false/\(Fo.cons n k .nil).toks.length<=512/\(cD v).1=(Fo.cons n k .nil).toks:=by
 have hc:cT v=0:=by
  by_cases hc:cT v=0
  ·exact hc
  ·unfold cD at h;rw[if_pos hc]at h;cases h
 obtain⟨n,k,hk,hv,hg,hl⟩:=ma hc
 have ht:=tv hk hg hl
 rw[<- hv]at ht
 rw[ht]at h ⊢
 simp only at h ⊢
 have hT:vt n k=(Fo.cons n k .nil).toks:=by unfold vt;rw[if_pos h]
 refine⟨n,k,hk,hv,hg,hl,?_⟩
 unfold m7 at h
 rw[<- hv]at h
 split at h
 ·cases h
 ·rename_i h1
  split at h
  ·cases h
  ·rename_i h2
   exact⟨by simpa using h1,by omega,hT⟩
def Ct {v:List Nd}(h:(cD v).2≠0):(cD v).1=[]:=by
 unfold cD at h ⊢
 split
 ·rfl
 ·rename_i h1
  rw[if_neg h1]at h
  split
  ·rfl
  ·rename_i h2
   rw[if_neg h2]at h
   split
   ·rfl
   ·rename_i h3
    rw[if_neg h3]at h;exact absurd rfl h
def H3 (v:List Nd)(hv:v.length<=aT)(hok:∀ n∈v,n.okTo aT/\n.i64)(nm:Nat):Ev cx 92 nm [.sl false 6 (v.map aD)] ao.nil (ur (cD v).1 (cD v).2) []:=by
 cases hbo:bm v with
 | none =>
  have:cD v=([],8):=by unfold cD cT;rw[hbo];rfl
  rw[this]
  exact zi v hv hok hbo nm
 | some en =>
  obtain⟨n,k,h1,h2,h3,h4,h5⟩:=KN hbo
  subst h2
  rw[tv h1 h3 h4]
  exact EU n k h1 h3 h4 hok nm
def vv (v:List Nd):(cD v).1.length<=512:=by
 by_cases h:(cD v).2=0
 ·obtain⟨n,k,_,_,_,_,_,h6,h7⟩:=zj h
  rw[h7];exact h6
 ·rw[Ct h];simp
def vu {v:List Nd}{K:Nat}(hok:∀ x∈v,x.okTo K):∀ t∈(cD v).1,t.okTo K/\t.attrs.length<=30:=by
 by_cases h:(cD v).2=0
 ·obtain⟨n,k,h1,h2,h3,h4,h5,h6,h7⟩:=zj h
  rw[h7]
  have hfl:(Fo.cons n k .nil).flat=v:=by rw[h2];simp[Fo.flat]
  refine Fo.toks_fit _ (by
   rw[hfl]
   intro x hx
   have hm:=(Fo.good_all h3 x (by rw[hfl];exact hx)).1
   exact⟨hok x hx,by have:=(fD hm).1;omega⟩)
 ·rw[Ct h];intro t ht;cases ht
def Ij {v:List Nd}{sp:List UInt8}(h:(eR v sp).2≠0):(eR v sp).1=[]:=by
 unfold eR at h ⊢
 split
 ·rfl
 ·rename_i h1
  rw[if_neg h1]at h
  split
  ·rfl
  ·rename_i h2
   rw[if_neg h2]at h
   simp only at h ⊢
   unfold lN;rw[if_neg h]
end Go.Proofs.YtjonibipieofcaaGreatDoor
