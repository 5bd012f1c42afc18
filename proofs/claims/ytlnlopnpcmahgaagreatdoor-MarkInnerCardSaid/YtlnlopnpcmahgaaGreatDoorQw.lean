/-
 Texts joined: XSr,XSs.
-/
import Derived.Test.YtlnlopnpcmahgaaGreatDoorQu
import Derived.Test.YtlnlopnpcmahgaaGreatDoorQv
import Derived.Test.YtlnlopnpcmahgaaGreatDoorQs
import Derived.Test.YtlnlopnpcmahgaaGreatDoorQn
import Derived.Test.YtlnlopnpcmahgaaGreatDoorQr
set_option linter.all false
namespace Go.Proofs.YtlnlopnpcmahgaaGreatDoor
set_option maxRecDepth 100000
set_option maxHeartbeats 32000000
open Go Go.RowKit Vm Go.Lib Tryz
open Vm renaming aW->Ca,bf->Cb
open And renaming intro->Ai
open List renaming length_map->Lm,not_mem_nil->Ln,map_nil->Lo,map_cons->Lc,mem_cons->Lk
open Bool renaming not_false->Bf,not_true->Bt
def Rh:(∀ M t s r v,pF M (.sl t s r) v=(V.sl t s r=v))/\(∀ M t s r,n0 M (.sl t s r)=(plainLL r=true))/\(∀ M k n v,pF M (.int k n) v=(V.int k n=v))/\(∀ M k n,n0 M (.int k n)=True) :=
 ⟨fun M t s r v=>by simp only[pF,V.fin],fun M t s r=>by simp only[n0,V.finOk],fun M k n v=>by simp only[pF,V.fin],fun M k n=>by simp only[n0,V.finOk]⟩
def gN (s:List UInt8):List Nd×Int:=if (dS s).2.2≠0 then ([],(dS s).2.2) else (dJ (dS s).1,cR (dS s).1)
def toks_fit {s:List UInt8}(hs:s.length<=16384)(h:(dS s).2.2=0):(dS s).1.length<=600 /\ ∀ t∈(dS s).1,t.okTo 1000000/\t.attrs.length<=30:=by
 obtain⟨h1,_,h3,_⟩:=(EB s).1 h
 refine⟨by omega,fun t ht=>⟨EM (Ay h t ht) (by omega),?_⟩⟩
 have:=A7 (h1 t ht)
 omega
def Ns {v:List Nd}{o:List Nat}{K:Nat}(h:∀ x∈v,x.okTo K):∀ x∈mY v o,x.okTo K:=by
 intro x hx
 unfold mY at hx
 split at hx
 ·rename_i k _
  obtain⟨i,hi⟩:=List.mem_iff_getElem?.1 hx
  rw[List.getElem?_modify]at hi
  cases hv:v[i]? with
  | none=>rw[hv]at hi;simp at hi
  | some y =>
   rw[hv]at hi
   have:=h y (List.mem_of_getElem? hv)
   split at hi
   ·simp at hi;subst hi;exact this
   ·simp at hi;subst hi;exact this
 ·exact h x hx
def D1 {g:Gr}{K:Nat}(h:∀ x∈g.v,x.okTo K){x:Nd}(hx:x.okTo K):∀ y∈ll g x,y.okTo K:=by
 intro y hy
 rcases List.mem_append.1 hy with hy|hy
 ·exact Ns h y hy
 ·simp at hy;subst hy;exact hx
def LC {t:Tk}{K:Nat}(h:t.okTo K):(jU t.text).okTo K:=⟨by simp[jU],by simp[jU],by simp[jU],h.2.2.1,fun a ha=>by simp[jU]at ha⟩
def IH {t:Tk}{K:Nat}(h:t.okTo K):(gT t).okTo K:=⟨by simp[gT,dh];exact h.1,by simp[gT],h.2.1,by simp[gT],fun a ha=>by
 simp only[gT,dh,List.mem_map]at ha
 obtain⟨b,hb,rfl⟩:=ha
 exact⟨by simp,h.2.2.2 b hb⟩⟩
def Lp {g:Gr}{K:Nat}(h:∀ x∈g.v,x.okTo K){t:Tk}(ht:t.okTo K)(txt:Bool):∀ x∈(stepG g t txt).1.v,x.okTo K:=by
 unfold stepG
 split
 ·split
  ·exact h
  ·split
   ·exact h
   ·exact D1 h (LC ht)
 ·split
  ·split<;>exact h
  ·split
   ·exact h
   ·split
    ·exact h
    ·exact D1 h (IH ht)
def Jm {K:Nat} : ∀(l:List Tk) (g:Gr) (txt:Bool) (n:Nat),(∀ x∈g.v,x.okTo K)->g.Ok n->(∀ t∈l,t.okTo K)->(∀ x∈(vb g txt l).1.v,x.okTo K)/\(vb g txt l).1.Ok (n+l.length)
 | [],g,txt,n,h,hg,_=>⟨h,by simpa [vb] using hg⟩
 | t::r,g,txt,n,h,hg,hl=>by
  have h1:=Lp h (hl t (.head _)) txt
  have h2:=EY hg t txt
  rw[vb]
  split
  ·obtain⟨h3,h4⟩:=Jm r (stepG g t txt).1 (t.kind==4) (n+1) h1 h2 (fun u hu=>hl u (.tail _ hu))
   exact⟨h3,by rw[show n+(t::r).length=n+1+r.length by simp;omega];exact h4⟩
  ·refine⟨h1,h2.in_,h2.deep,fun x hx=>?_,?_⟩
   ·have:=h2.many x hx;simp only[List.length_cons];omega
   ·have:=h2.len;simp only[List.length_cons];omega
def wG {l:List Tk}{K:Nat}(hl:l.length<=600)(h:∀ t∈l,t.okTo K):(dJ l).length<=600 /\ ∀ x∈dJ l,x.okTo K/\x.i64:=by
 obtain⟨h1,h2⟩:=Jm l ⟨[],[]⟩ false 0 (fun x hx=>by simp at hx) A1 h
 unfold dJ
 split
 ·refine⟨by have:=h2.len;omega,fun x hx=>⟨h1 x hx,?_⟩⟩
  have:=h2.many x hx
  unfold Nd.i64;omega
 ·exact⟨by simp,fun x hx=>by simp at hx⟩
def Dc {s:List UInt8}(hs:s.length<=16384):(gN s).1.length<=600 /\ ∀ x∈(gN s).1,x.okTo 1000000/\x.i64:=by
 unfold gN
 split
 ·exact⟨by simp,fun x hx=>by simp at hx⟩
 ·rename_i h
  obtain⟨f1,f2⟩:=toks_fit hs (by simpa using h)
  exact wG f1 (fun t ht=>(f2 t ht).1)
def jj {n:Nd}{a b:Nat}(h:n.okTo a)(hab:a<=b):n.okTo b:=by
 obtain⟨h1,h2,h3,h4,h5⟩:=h
 exact⟨by omega,by omega,by omega,by omega,fun x hx=>by obtain⟨a1,a2,a3⟩:=h5 x hx;exact⟨by omega,by omega,by omega⟩⟩
def At.fits (a:At):Prop:=a.space.length<=bc/\a.name.length<=bc/\a.value.length<=bc
def Ib {n:Nat}{vs:List V}(h:Shape cx.P n 51 vs):∃ x:At,vs=b9 x/\x.fits:=by
 obtain⟨n',h⟩:=ql NA h
 obtain⟨_,_,rfl,h1,_,_,rfl,h2,_,_,rfl,h3,h7⟩:=h
 obtain⟨a1,rfl,r1⟩:=js qZ h1
 obtain⟨a2,rfl,r2⟩:=js qZ h2
 obtain⟨a3,rfl,r3⟩:=js qZ h3
 obtain rfl:=uL h7
 exact⟨⟨a1,a2,a3⟩,rfl,Nat.le_trans r1 (by decide),Nat.le_trans r2 (by decide),Nat.le_trans r3 (by decide)⟩
def JY {n:Nat}{vs:List V}(h:Shape cx.P n 43 vs):∃ x:Nd,vs=aV x/\(x.okTo bc/\x.i64):=by
 obtain⟨n',h⟩:=ql Nz h
 obtain⟨_,_,rfl,h1,_,_,rfl,h2,_,_,rfl,h3,_,_,rfl,h4,_,_,rfl,h5,_,_,rfl,h6,h7⟩:=h
 obtain⟨a1,rfl,r1,_⟩:=wR P0 h1
 obtain⟨a2,rfl,r2⟩:=js qZ h2
 obtain⟨a3,rfl,r3⟩:=js qZ h3
 obtain⟨_,rs,rfl,l1,m1,g1⟩:=rY Ny h4
 obtain⟨a5,rfl,r5⟩:=js qZ h5
 obtain⟨a6,rfl,r6,r6'⟩:=wR PZ h6
 obtain rfl:=uL h7
 obtain⟨x1,rfl,f1⟩:=uF b9 At.fits (fun r hr=>Ib (g1 r hr))
 rw[Lm]at m1
 have r1':(0:Int)<=a1:=r1
 obtain⟨b1,rfl⟩:∃ b:Nat,a1=b:=⟨a1.toNat,by omega⟩
 exact⟨⟨b1,a2,a3,x1,a5,a6⟩,rfl,⟨by show x1.length<=bc;unfold bc;omega,Nat.le_trans r2 (by decide),Nat.le_trans r3 (by decide),Nat.le_trans r5 (by decide),f1⟩,r6,r6'⟩
def GO {n:Nat}{vs:List V}(h:Shape cx.P n 22 vs):∃ l:List Nd,vs=[.sl false 6 (l.map aV)]/\l.length<=bc /\ ∀ x∈l,x.okTo bc/\x.i64:=by
 obtain⟨_,rs,rfl,l1,m1,g1⟩:=rY Ez h
 obtain⟨x1,rfl,f1⟩:=uF aV (fun x=>x.okTo bc/\x.i64) (fun r hr=>JY (g1 r hr))
 rw[Lm]at m1
 exact⟨x1,rfl,by unfold bc;omega,f1⟩
end Go.Proofs.YtlnlopnpcmahgaaGreatDoor
