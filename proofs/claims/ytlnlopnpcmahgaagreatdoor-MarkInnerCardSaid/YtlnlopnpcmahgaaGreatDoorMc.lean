/-
 Texts joined: XSt,XSu,XSv.
-/
import Derived.Test.YtlnlopnpcmahgaaGreatDoorQw
import Derived.Test.YtlnlopnpcmahgaaGreatDoorQu
set_option linter.all false
namespace Go.Proofs.YtlnlopnpcmahgaaGreatDoor
set_option maxRecDepth 100000
set_option maxHeartbeats 32000000
open Go Go.RowKit Vm Go.Lib Tryz
open Vm renaming aW->Ca,bf->Cb
open And renaming intro->Ai
open List renaming length_map->Lm,not_mem_nil->Ln,map_nil->Lo,map_cons->Lc,mem_cons->Lk
open Bool renaming not_false->Bf,not_true->Bt
def DM (T:List Tk)(e:Int):V:=.tup [.sl false 4 (T.map bE),.int .i64 e]
def qo (n:Nd)(k:Fo):List Tk:=if lg n k=0 then (Fo.cons n k .nil).toks else []
def HI (n:Nd)(k:Fo)(hk1:n.kind=1)(hg:(Fo.cons n k .nil).good 12 0=true)(hl:k.size+1<=512)(hok:∀ x∈n::k.flat,x.okTo bc/\x.i64)(nm:Nat):Ev cx 47 nm [.sl false 6 ((n::k.flat).map aV)] am.nil (DM (qo n k) (lg n k)) []:=by
 unfold qo
 by_cases h:lg n k=0
 ·have h3:=uU n k hk1 hg hl hok _ _ nm (.inr ⟨h,rfl,rfl⟩)
  rw[if_pos h,h]
  generalize (Fo.cons n k .nil).toks=T at h3 ⊢
  have hpl:=aE T
  have htk:(T.map bE).take T.length=T.map bE:=bz _ _
  refine Ev.freeze h3 ?_ ?_
  ·simp only[ak,ag,al,hpl,htk,Lm,ai,seval,ah]<;>omega
  ·unfold DM
   simp only[ak,ag,al,hpl,htk,Lm,ai,seval,ah]
 ·have h3:=uU n k hk1 hg hl hok _ _ nm (.inl ⟨h,rfl,rfl⟩)
  rw[if_neg h]
  refine Ev.res_le h3 ?_
  unfold DM
  simp only[lI,dZ,fj,bL,jG,Lo,and_self]
def A8 (v:List Nd)(hv:v.length<=bc)(hok:∀ n∈v,n.okTo bc/\n.i64)(h:bu v=none)(nm:Nat):Ev cx 47 nm [.sl false 6 (v.map aV)] am.nil (DM [] 8) []:=by
 refine Ev.res_le (HJ v hv hok h nm) ?_
 unfold DM
 simp only[lI,dZ,fj,bL,jG,Lo,and_self]
def Ox {v:List Nd}{en:List Nat}(h:bu v=some en):∃ n k,n.kind=1/\v=n::k.flat/\(Fo.cons n k .nil).good 12 0=true/\k.size+1<=512/\v.length=k.size+1:=by
 obtain⟨n,k,h1,h2,h3,h4,_⟩:=jw.1 h
 have hl:v.length=k.size+1:=by rw[h2];simp[Fo.flat_length]
 exact⟨n,k,h1,h2,h3,by omega,hl⟩
def wF {n:Nd}{K:Nat}(h:n.okTo K)(h30:n.attrs.length<=30)(k:Nat):(⟨k,n.name,br n.attrs,[]⟩:Tk).okTo K/\(br n.attrs).length<=30:=by
 obtain⟨h1,h2,h3,h4,h5⟩:=h
 have hl:(br n.attrs).length=n.attrs.length:=by simp[br]
 refine⟨⟨by rw[hl];exact h1,h3,by simp,fun a ha=>?_⟩,by omega⟩
 simp only[br,List.mem_map]at ha
 obtain⟨b,hb,rfl⟩:=ha
 exact⟨(h5 b hb).2.1,(h5 b hb).2.2⟩
def Fo.toks_fit {K:Nat} : ∀(F:Fo),(∀ x∈F.flat,x.okTo K/\x.attrs.length<=30) -> ∀ t∈F.toks,t.okTo K/\t.attrs.length<=30
 | .nil,_=>fun t ht=>by simp[Fo.toks]at ht
 | .cons n k r,h=>fun t ht=>by
  have hn:=h n (by simp[Fo.flat])
  have hk:=Fo.toks_fit k (fun x hx=>h x (by simp[Fo.flat,hx]))
  have hr:=Fo.toks_fit r (fun x hx=>h x (by simp[Fo.flat,hx]))
  simp only[Fo.toks,List.mem_append]at ht
  rcases ht with ht|ht
  ·split at ht
   ·simp only[List.mem_singleton]at ht
    subst ht
    exact⟨⟨by simp,by simp,hn.1.2.2.2.1,by simp⟩,by simp⟩
   ·split at ht
    ·simp only[List.mem_singleton]at ht
     subst ht
     exact wF hn.1 hn.2 3
    ·simp only[Lk,List.mem_append,Ln,or_false]at ht
     rcases ht with rfl|ht|rfl
     ·exact wF hn.1 hn.2 1
     ·exact hk t ht
     ·exact⟨⟨by simp,hn.1.2.2.1,by simp,by simp⟩,by simp⟩
  ·exact hr t ht
def Fo.ends_app:∀(F G:Fo) (b:Nat),(F.app G).ends b=F.ends b++G.ends (b+F.size)
 | .nil,_,_=>rfl
 | .cons n k r,g,b=>by simp only[Fo.app,Fo.ends,Fo.size,r.ends_app,List.cons_append,List.append_assoc];rw[show b+1+k.size+r.size=b+(k.size+r.size+1) by omega]
def Fo.app_assoc:∀(F G H:Fo),(F.app G).app H=F.app (G.app H)
 | .nil,_,_=>rfl
 | .cons n k r,g,h=>by simp[Fo.app,r.app_assoc]
def BG {α:Type}{a b:List α}{x:α}{i:Nat}(h:i=a.length):(a++x::b)[i]? = some x:=by subst h;simp
def Lz {α:Type}(a b:List α){i:Nat}(h:i=a.length):(a++b).take i=a:=by subst h;simp
structure Wh where
 D:Fo
 R:Fo
 q:Nat
 i:Nat
def Wh.inv (k:Fo)(x:Wh):Prop:=x.D.app x.R=k/\x.q=1+x.D.size/\x.i=x.D.count
def Ql {l:List Nat}{i q:Nat}(h:l[i]? = some q):(l.map cQ)[i]? = some (cQ q)/\i<l.length:=by
 refine⟨by rw[List.getElem?_map,h];rfl,(List.getElem?_eq_some_iff.1 h).1⟩
def Ey (v:List Nd)(hv:v.length<=bc)(hok:∀ n∈v,n.okTo bc/\n.i64){en:List Nat}(hbo:bu v=some en)(p e:Nat)(hp:p<v.length)(hep:en[p]? = some e)(nm:Nat):Ev cx 22 nm [.sl false 6 (v.map aV),.int .i64 p] am.nil (.tup [.sl false 1 ((od en e (p+1)).map cQ),.int .i64 0]) []:=by
 have h3:=JF v hv hok hbo p e hp hep nm
 have hll:(od en e (p+1)).length<=512:=by
  have h1:=Ah (en:=en) (stop:=e) (e-(p+1)) (p+1)
  obtain⟨_,_,h512,hup⟩:=jd hbo
  have:=hup p e hep
  unfold od;omega
 generalize od en e (p+1)=T at h3 hll ⊢
 have hpl:=aH T
 have htk:(T.map cQ).take T.length=T.map cQ:=bz _ _
 refine Ev.freeze h3 ?_ ?_
 ·simp only[ak,ag,al,hpl,htk,Lm,ai,seval,ah]<;>omega
 ·simp only[ak,ag,al,hpl,htk,Lm,ai,seval,ah]
def Qy (v:List Nd)(hv:v.length<=bc)(hok:∀ n∈v,n.okTo bc/\n.i64){en:List Nat}(hbo:bu v=some en)(p e:Nat){x:Nd}(hx:v[p]? = some x)(hk:x.kind≠2)(hep:en[p]? = some e){X:List Nd}(hX:(v.drop p).take (e-p)=X)(nm:Nat):Ev cx 23 nm [.sl false 6 (v.map aV),.int .i64 p] am.nil (.tup [.sl false 6 (X.map aV),.int .i64 0]) []:=by
 have h3:=Om v hv hok hbo p e hx hk hep nm
 rw[hX]at h3
 have hll:X.length<=512:=by
  obtain⟨_,_,h512,hup⟩:=jd hbo
  have h1:X.length<=v.length:=by rw[<- hX,List.length_take,List.length_drop];omega
  omega
 have hpl:=ad X
 have htk:(X.map aV).take X.length=X.map aV:=bz _ _
 refine Ev.freeze h3 ?_ ?_
 ·simp only[ak,ag,al,hpl,htk,Lm,ai,seval,ah]<;>omega
 ·simp only[ak,ag,al,hpl,htk,Lm,ai,seval,ah]
def Fo.count_size:∀(F:Fo),F.count<=F.size
 | .nil=>Nat.le_refl _
 | .cons n k r=>by have:=r.count_size;simp only[Fo.count,Fo.size];omega
end Go.Proofs.YtlnlopnpcmahgaaGreatDoor
