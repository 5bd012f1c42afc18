/-
 Texts joined: XSr,XSs.
-/
import Derived.Test.YtidmkaalhmeflaaGreatDoorQu
import Derived.Test.YtidmkaalhmeflaaGreatDoorQv
import Derived.Test.YtidmkaalhmeflaaGreatDoorQs
import Derived.Test.YtidmkaalhmeflaaGreatDoorQn
import Derived.Test.YtidmkaalhmeflaaGreatDoorQr
namespace Go.Proofs.YtidmkaalhmeflaaGreatDoor
set_option maxRecDepth 100000
set_option maxHeartbeats 32000000
set_option linter.unusedSimpArgs false
set_option linter.unusedVariables false
open Go Go.RowKit Vm Go.Lib Tryz
open Vm renaming aZ→Ca,bj→Cb
open And renaming intro→Ai
open List renaming length_map→Lm,not_mem_nil→Ln,map_nil→Lo,map_cons→Lc,mem_cons→Lk
open Bool renaming not_false→Bf,not_true→Bt
theorem xP:(∀ M t s r v,o9 M (.sl t s r) v=(V.sl t s r=v))∧(∀ M t s r,mM M (.sl t s r)=(plainLL r=true))∧(∀ M k n v,o9 M (.int k n) v=(V.int k n=v))∧(∀ M k n,mM M (.int k n)=True) :=
 ⟨fun M t s r v=>by simp only[o9,V.fin],fun M t s r=>by simp only[mM,V.finOk],fun M k n v=>by simp only[o9,V.fin],fun M k n=>by simp only[mM,V.finOk]⟩
def bF (s:List UInt8):List Nd×Int:=if (eO s).2.2≠0 then ([],(eO s).2.2) else (dn (eO s).1,cP (eO s).1)
theorem zS {s:List UInt8}(hs:s.length≤16384)(h:(eO s).2.2=0):(eO s).1.length≤600 ∧ ∀ t∈(eO s).1,t.okTo 1000000∧t.attrs.length≤30:=by
 obtain⟨h1,_,h3,_⟩:=(wb s).1 h
 refine⟨by omega,fun t ht=>⟨KD (GN h t ht) (by omega),?_⟩⟩
 have:=zd (h1 t ht)
 omega
theorem K5 {v:List Nd}{o:List Nat}{K:Nat}(h:∀ x∈v,x.okTo K):∀ x∈lF v o,x.okTo K:=by
 intro x hx
 unfold lF at hx
 split at hx
 ·rename_i k _
  obtain⟨i,hi⟩:=List.mem_iff_getElem?.1 hx
  rw[List.getElem?_modify]at hi
  cases hv:v[i]? with
  | none=>rw[hv]at hi;simp at hi
  | some y =>
   rw[hv]at hi
   have:=h y (List.mem_of_getElem? hv)
   split at hi
   ·simp at hi;subst hi;exact this
   ·simp at hi;subst hi;exact this
 ·exact h x hx
theorem CK {g:Gr}{K:Nat}(h:∀ x∈g.v,x.okTo K){x:Nd}(hx:x.okTo K):∀ y∈kw g x,y.okTo K:=by
 intro y hy
 rcases List.mem_append.1 hy with hy|hy
 ·exact K5 h y hy
 ·simp at hy;subst hy;exact hx
theorem HL {t:Tk}{K:Nat}(h:t.okTo K):(iQ t.text).okTo K:=⟨by simp[iQ],by simp[iQ],by simp[iQ],h.2.2.1,fun a ha=>by simp[iQ]at ha⟩
theorem IM {t:Tk}{K:Nat}(h:t.okTo K):(gq t).okTo K:=⟨by simp[gq,cR];exact h.1,by simp[gq],h.2.1,by simp[gq],fun a ha=>by
 simp only[gq,cR,List.mem_map]at ha
 obtain⟨b,hb,rfl⟩:=ha
 exact⟨by simp,h.2.2.2 b hb⟩⟩
theorem IQ {g:Gr}{K:Nat}(h:∀ x∈g.v,x.okTo K){t:Tk}(ht:t.okTo K)(txt:Bool):∀ x∈(stepG g t txt).1.v,x.okTo K:=by
 unfold stepG
 split
 ·split
  ·exact h
  ·split
   ·exact h
   ·exact CK h (HL ht)
 ·split
  ·split<;>exact h
  ·split
   ·exact h
   ·split
    ·exact h
    ·exact CK h (IM ht)
theorem Ge {K:Nat} : ∀(l:List Tk) (g:Gr) (txt:Bool) (n:Nat),(∀ x∈g.v,x.okTo K)→g.Ok n→(∀ t∈l,t.okTo K)→(∀ x∈(uh g txt l).1.v,x.okTo K)∧(uh g txt l).1.Ok (n+l.length)
 | [],g,txt,n,h,hg,_=>⟨h,by simpa [uh] using hg⟩
 | t::r,g,txt,n,h,hg,hl=>by
  have h1:=IQ h (hl t (.head _)) txt
  have h2:=B9 hg t txt
  rw[uh]
  split
  ·obtain⟨h3,h4⟩:=Ge r (stepG g t txt).1 (t.kind==4) (n+1) h1 h2 (fun u hu=>hl u (.tail _ hu))
   exact⟨h3,by rw[show n+(t::r).length=n+1+r.length by simp;omega];exact h4⟩
  ·refine⟨h1,h2.in_,h2.deep,fun x hx=>?_,?_⟩
   ·have:=h2.many x hx;simp only[List.length_cons];omega
   ·have:=h2.len;simp only[List.length_cons];omega
theorem DL {l:List Tk}{K:Nat}(hl:l.length≤600)(h:∀ t∈l,t.okTo K):(dn l).length≤600 ∧ ∀ x∈dn l,x.okTo K∧x.i64:=by
 obtain⟨h1,h2⟩:=Ge l ⟨[],[]⟩ false 0 (fun x hx=>by simp at hx) yN h
 unfold dn
 split
 ·refine⟨by have:=h2.len;omega,fun x hx=>⟨h1 x hx,?_⟩⟩
  have:=h2.many x hx
  unfold Nd.i64;omega
 ·exact⟨by simp,fun x hx=>by simp at hx⟩
theorem nw {s:List UInt8}(hs:s.length≤16384):(bF s).1.length≤600 ∧ ∀ x∈(bF s).1,x.okTo 1000000∧x.i64:=by
 unfold bF
 split
 ·exact⟨by simp,fun x hx=>by simp at hx⟩
 ·rename_i h
  obtain⟨f1,f2⟩:=zS hs (by simpa using h)
  exact DL f1 (fun t ht=>(f2 t ht).1)
theorem kG {n:Nd}{a b:Nat}(h:n.okTo a)(hab:a≤b):n.okTo b:=by
 obtain⟨h1,h2,h3,h4,h5⟩:=h
 exact⟨by omega,by omega,by omega,by omega,fun x hx=>by obtain⟨a1,a2,a3⟩:=h5 x hx;exact⟨by omega,by omega,by omega⟩⟩
def At.fits (a:At):Prop:=a.space.length≤bh∧a.name.length≤bh∧a.value.length≤bh
theorem F7 {n:Nat}{vs:List V}(h:Shape cx.P n 44 vs):∃ x:At,vs=bG x∧x.fits:=by
 obtain⟨n',h⟩:=oE I4 h
 obtain⟨_,_,rfl,h1,_,_,rfl,h2,_,_,rfl,h3,h7⟩:=h
 obtain⟨a1,rfl,r1⟩:=fV jJ h1
 obtain⟨a2,rfl,r2⟩:=fV jJ h2
 obtain⟨a3,rfl,r3⟩:=fV jJ h3
 obtain rfl:=tZ h7
 exact⟨⟨a1,a2,a3⟩,rfl,Nat.le_trans r1 (by decide),Nat.le_trans r2 (by decide),Nat.le_trans r3 (by decide)⟩
theorem GF {n:Nat}{vs:List V}(h:Shape cx.P n 47 vs):∃ x:Nd,vs=ba x∧(x.okTo bh∧x.i64):=by
 obtain⟨n',h⟩:=oE Lp h
 obtain⟨_,_,rfl,h1,_,_,rfl,h2,_,_,rfl,h3,_,_,rfl,h4,_,_,rfl,h5,_,_,rfl,h6,h7⟩:=h
 obtain⟨a1,rfl,r1,_⟩:=u5 Nk h1
 obtain⟨a2,rfl,r2⟩:=fV jJ h2
 obtain⟨a3,rfl,r3⟩:=fV jJ h3
 obtain⟨_,rs,rfl,l1,m1,g1⟩:=qG JE h4
 obtain⟨a5,rfl,r5⟩:=fV jJ h5
 obtain⟨a6,rfl,r6,r6'⟩:=u5 Nb h6
 obtain rfl:=tZ h7
 obtain⟨x1,rfl,f1⟩:=sC bG At.fits (fun r hr=>F7 (g1 r hr))
 rw[Lm]at m1
 have r1':(0:Int)≤a1:=r1
 obtain⟨b1,rfl⟩:∃ b:Nat,a1=b:=⟨a1.toNat,by omega⟩
 exact⟨⟨b1,a2,a3,x1,a5,a6⟩,rfl,⟨by show x1.length≤bh;unfold bh;omega,Nat.le_trans r2 (by decide),Nat.le_trans r3 (by decide),Nat.le_trans r5 (by decide),f1⟩,r6,r6'⟩
theorem pn {n:Nat}{vs:List V}(h:Shape cx.P n 22 vs):∃ l:List Nd,vs=[.sl false 6 (l.map ba)]∧l.length≤bh ∧ ∀ x∈l,x.okTo bh∧x.i64:=by
 obtain⟨_,rs,rfl,l1,m1,g1⟩:=qG rl h
 obtain⟨x1,rfl,f1⟩:=sC ba (fun x=>x.okTo bh∧x.i64) (fun r hr=>GF (g1 r hr))
 rw[Lm]at m1
 exact⟨x1,rfl,by unfold bh;omega,f1⟩
end Go.Proofs.YtidmkaalhmeflaaGreatDoor
