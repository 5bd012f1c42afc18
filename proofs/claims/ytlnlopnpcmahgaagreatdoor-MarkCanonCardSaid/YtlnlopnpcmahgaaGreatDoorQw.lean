/-
 Texts joined: XSr,XSs.
-/
import Derived.Test.YtlnlopnpcmahgaaGreatDoorQu
import Derived.Test.YtlnlopnpcmahgaaGreatDoorQv
import Derived.Test.YtlnlopnpcmahgaaGreatDoorQs
import Derived.Test.YtlnlopnpcmahgaaGreatDoorQn
import Derived.Test.YtlnlopnpcmahgaaGreatDoorQr
set_option linter.all false
namespace Go.Proofs.YtlnlopnpcmahgaaGreatDoor
set_option maxRecDepth 100000
set_option maxHeartbeats 32000000
open Go Go.RowKit Vm Go.Lib Tryz
open Vm renaming ba->Ca,bh->Cb
open And renaming intro->Ai
open List renaming length_map->Lm,not_mem_nil->Ln,map_nil->Lo,map_cons->Lc,mem_cons->Lk
open Bool renaming not_false->Bf,not_true->Bt
def fU (s:List UInt8):List Nd×Int:=if (dJ s).2.2≠0 then ([],(dJ s).2.2) else (dy (dJ s).1,cB (dJ s).1)
def toks_fit {s:List UInt8}(hs:s.length<=16384)(h:(dJ s).2.2=0):(dJ s).1.length<=600 /\ ∀ t∈(dJ s).1,t.okTo 1000000/\t.attrs.length<=30:=by
 obtain⟨h1,_,h3,_⟩:=(ER s).1 h
 refine⟨by omega,fun t ht=>⟨E2 (AP h t ht) (by omega),?_⟩⟩
 have:=Bv (h1 t ht)
 omega
def NI {v:List Nd}{o:List Nat}{K:Nat}(h:∀ x∈v,x.okTo K):∀ x∈lF v o,x.okTo K:=by
 intro x hx
 unfold lF at hx
 split at hx
 ·rename_i k _
  obtain⟨i,hi⟩:=List.mem_iff_getElem?.1 hx
  rw[List.getElem?_modify]at hi
  cases hv:v[i]? with
  | none=>rw[hv]at hi;simp at hi
  | some y =>
   rw[hv]at hi
   have:=h y (List.mem_of_getElem? hv)
   split at hi
   ·simp at hi;subst hi;exact this
   ·simp at hi;subst hi;exact this
 ·exact h x hx
def Eh {g:Gr}{K:Nat}(h:∀ x∈g.v,x.okTo K){x:Nd}(hx:x.okTo K):∀ y∈jj g x,y.okTo K:=by
 intro y hy
 rcases List.mem_append.1 hy with hy|hy
 ·exact NI h y hy
 ·simp at hy;subst hy;exact hx
def LS {t:Tk}{K:Nat}(h:t.okTo K):(iY t.text).okTo K:=⟨by simp[iY],by simp[iY],by simp[iY],h.2.2.1,fun a ha=>by simp[iY]at ha⟩
def IZ {t:Tk}{K:Nat}(h:t.okTo K):(fP t).okTo K:=⟨by simp[fP,co];exact h.1,by simp[fP],h.2.1,by simp[fP],fun a ha=>by
 simp only[fP,co,List.mem_map]at ha
 obtain⟨b,hb,rfl⟩:=ha
 exact⟨by simp,h.2.2.2 b hb⟩⟩
def LH {g:Gr}{K:Nat}(h:∀ x∈g.v,x.okTo K){t:Tk}(ht:t.okTo K)(txt:Bool):∀ x∈(stepG g t txt).1.v,x.okTo K:=by
 unfold stepG
 split
 ·split
  ·exact h
  ·split
   ·exact h
   ·exact Eh h (LS ht)
 ·split
  ·split<;>exact h
  ·split
   ·exact h
   ·split
    ·exact h
    ·exact Eh h (IZ ht)
def JC {K:Nat} : ∀(l:List Tk) (g:Gr) (txt:Bool) (n:Nat),(∀ x∈g.v,x.okTo K)->g.Ok n->(∀ t∈l,t.okTo K)->(∀ x∈(qR g txt l).1.v,x.okTo K)/\(qR g txt l).1.Ok (n+l.length)
 | [],g,txt,n,h,hg,_=>⟨h,by simpa [qR] using hg⟩
 | t::r,g,txt,n,h,hg,hl=>by
  have h1:=LH h (hl t (.head _)) txt
  have h2:=Ff hg t txt
  rw[qR]
  split
  ·obtain⟨h3,h4⟩:=JC r (stepG g t txt).1 (t.kind==4) (n+1) h1 h2 (fun u hu=>hl u (.tail _ hu))
   exact⟨h3,by rw[show n+(t::r).length=n+1+r.length by simp;omega];exact h4⟩
  ·refine⟨h1,h2.in_,h2.deep,fun x hx=>?_,?_⟩
   ·have:=h2.many x hx;simp only[List.length_cons];omega
   ·have:=h2.len;simp only[List.length_cons];omega
def wP {l:List Tk}{K:Nat}(hl:l.length<=600)(h:∀ t∈l,t.okTo K):(dy l).length<=600 /\ ∀ x∈dy l,x.okTo K/\x.i64:=by
 obtain⟨h1,h2⟩:=JC l ⟨[],[]⟩ false 0 (fun x hx=>by simp at hx) Bn h
 unfold dy
 split
 ·refine⟨by have:=h2.len;omega,fun x hx=>⟨h1 x hx,?_⟩⟩
  have:=h2.many x hx
  unfold Nd.i64;omega
 ·exact⟨by simp,fun x hx=>by simp at hx⟩
def Dp {s:List UInt8}(hs:s.length<=16384):(fU s).1.length<=600 /\ ∀ x∈(fU s).1,x.okTo 1000000/\x.i64:=by
 unfold fU
 split
 ·exact⟨by simp,fun x hx=>by simp at hx⟩
 ·rename_i h
  obtain⟨f1,f2⟩:=toks_fit hs (by simpa using h)
  exact wP f1 (fun t ht=>(f2 t ht).1)
def iD {n:Nd}{a b:Nat}(h:n.okTo a)(hab:a<=b):n.okTo b:=by
 obtain⟨h1,h2,h3,h4,h5⟩:=h
 exact⟨by omega,by omega,by omega,by omega,fun x hx=>by obtain⟨a1,a2,a3⟩:=h5 x hx;exact⟨by omega,by omega,by omega⟩⟩
def At.fits (a:At):Prop:=a.space.length<=be/\a.name.length<=be/\a.value.length<=be
def Ix {n:Nat}{vs:List V}(h:Shape cx.P n 51 vs):∃ x:At,vs=bN x/\x.fits:=by
 obtain⟨n',h⟩:=qk NN h
 obtain⟨_,_,rfl,h1,_,_,rfl,h2,_,_,rfl,h3,h7⟩:=h
 obtain⟨a1,rfl,r1⟩:=iq mW h1
 obtain⟨a2,rfl,r2⟩:=iq mW h2
 obtain⟨a3,rfl,r3⟩:=iq mW h3
 obtain rfl:=uS h7
 exact⟨⟨a1,a2,a3⟩,rfl,Nat.le_trans r1 (by decide),Nat.le_trans r2 (by decide),Nat.le_trans r3 (by decide)⟩
def Kx {n:Nat}{vs:List V}(h:Shape cx.P n 43 vs):∃ x:Nd,vs=aZ x/\(x.okTo be/\x.i64):=by
 obtain⟨n',h⟩:=qk NM h
 obtain⟨_,_,rfl,h1,_,_,rfl,h2,_,_,rfl,h3,_,_,rfl,h4,_,_,rfl,h5,_,_,rfl,h6,h7⟩:=h
 obtain⟨a1,rfl,r1,_⟩:=w9 P8 h1
 obtain⟨a2,rfl,r2⟩:=iq mW h2
 obtain⟨a3,rfl,r3⟩:=iq mW h3
 obtain⟨_,rs,rfl,l1,m1,g1⟩:=sb NL h4
 obtain⟨a5,rfl,r5⟩:=iq mW h5
 obtain⟨a6,rfl,r6,r6'⟩:=w9 P7 h6
 obtain rfl:=uS h7
 obtain⟨x1,rfl,f1⟩:=uL bN At.fits (fun r hr=>Ix (g1 r hr))
 rw[Lm]at m1
 have r1':(0:Int)<=a1:=r1
 obtain⟨b1,rfl⟩:∃ b:Nat,a1=b:=⟨a1.toNat,by omega⟩
 exact⟨⟨b1,a2,a3,x1,a5,a6⟩,rfl,⟨by show x1.length<=be;unfold be;omega,Nat.le_trans r2 (by decide),Nat.le_trans r3 (by decide),Nat.le_trans r5 (by decide),f1⟩,r6,r6'⟩
def G5 {n:Nat}{vs:List V}(h:Shape cx.P n 22 vs):∃ l:List Nd,vs=[.sl false 6 (l.map aZ)]/\l.length<=be /\ ∀ x∈l,x.okTo be/\x.i64:=by
 obtain⟨_,rs,rfl,l1,m1,g1⟩:=sb EP h
 obtain⟨x1,rfl,f1⟩:=uL aZ (fun x=>x.okTo be/\x.i64) (fun r hr=>Kx (g1 r hr))
 rw[Lm]at m1
 exact⟨x1,rfl,by unfold be;omega,f1⟩
end Go.Proofs.YtlnlopnpcmahgaaGreatDoor
