/-
 Texts joined: XSr,XSs.
-/
import Derived.Test.YtcllbjanalhjgaaGreatDoorQu
import Derived.Test.YtcllbjanalhjgaaGreatDoorQv
import Derived.Test.YtcllbjanalhjgaaGreatDoorQs
import Derived.Test.YtcllbjanalhjgaaGreatDoorQn
import Derived.Test.YtcllbjanalhjgaaGreatDoorQr
namespace Go.Proofs.YtcllbjanalhjgaaGreatDoor
set_option maxRecDepth 100000
set_option maxHeartbeats 32000000
set_option linter.unusedSimpArgs false
set_option linter.unusedVariables false
open Go Go.RowKit Vm Go.Lib Tryz
open Vm renaming be→Ca,bo→Cb
open And renaming intro→Ai
open List renaming length_map→Lm,not_mem_nil→Ln,map_nil→Lo,map_cons→Lc,mem_cons→Lk
open Bool renaming not_false→Bf,not_true→Bt
theorem Mq:(∀ M t s r v,nG M (.sl t s r) v=(V.sl t s r=v))∧(∀ M t s r,mi M (.sl t s r)=(plainLL r=true))∧(∀ M k n v,nG M (.int k n) v=(V.int k n=v))∧(∀ M k n,mi M (.int k n)=True) :=
 ⟨fun M t s r v=>by simp only[nG,V.fin],fun M t s r=>by simp only[mi,V.finOk],fun M k n v=>by simp only[nG,V.fin],fun M k n=>by simp only[mi,V.finOk]⟩
def cg (s:List UInt8):List Nd×Int:=if (eB s).2.2≠0 then ([],(eB s).2.2) else (dy (eB s).1,cS (eB s).1)
theorem yN {s:List UInt8}(hs:s.length≤16384)(h:(eB s).2.2=0):(eB s).1.length≤600 ∧ ∀ t∈(eB s).1,t.okTo 1000000∧t.attrs.length≤30:=by
 obtain⟨h1,_,h3,_⟩:=(vV s).1 h
 refine⟨by omega,fun t ht=>⟨Jd (F5 h t ht) (by omega),?_⟩⟩
 have:=yM (h1 t ht)
 omega
theorem IE {v:List Nd}{o:List Nat}{K:Nat}(h:∀ x∈v,x.okTo K):∀ x∈lp v o,x.okTo K:=by
 intro x hx
 unfold lp at hx
 split at hx
 ·rename_i k _
  obtain⟨i,hi⟩:=List.mem_iff_getElem?.1 hx
  rw[List.getElem?_modify]at hi
  cases hv:v[i]? with
  | none=>rw[hv]at hi;simp at hi
  | some y =>
   rw[hv]at hi
   have:=h y (List.mem_of_getElem? hv)
   split at hi
   ·simp at hi;subst hi;exact this
   ·simp at hi;subst hi;exact this
 ·exact h x hx
theorem Be {g:Gr}{K:Nat}(h:∀ x∈g.v,x.okTo K){x:Nd}(hx:x.okTo K):∀ y∈jW g x,y.okTo K:=by
 intro y hy
 rcases List.mem_append.1 hy with hy|hy
 ·exact IE h y hy
 ·simp at hy;subst hy;exact hx
theorem Hh {t:Tk}{K:Nat}(h:t.okTo K):(iS t.text).okTo K:=⟨by simp[iS],by simp[iS],by simp[iS],h.2.2.1,fun a ha=>by simp[iS]at ha⟩
theorem Fi {t:Tk}{K:Nat}(h:t.okTo K):(fW t).okTo K:=⟨by simp[fW,cK];exact h.1,by simp[fW],h.2.1,by simp[fW],fun a ha=>by
 simp only[fW,cK,List.mem_map]at ha
 obtain⟨b,hb,rfl⟩:=ha
 exact⟨by simp,h.2.2.2 b hb⟩⟩
theorem G7 {g:Gr}{K:Nat}(h:∀ x∈g.v,x.okTo K){t:Tk}(ht:t.okTo K)(txt:Bool):∀ x∈(stepG g t txt).1.v,x.okTo K:=by
 unfold stepG
 split
 ·split
  ·exact h
  ·split
   ·exact h
   ·exact Be h (Hh ht)
 ·split
  ·split<;>exact h
  ·split
   ·exact h
   ·split
    ·exact h
    ·exact Be h (Fi ht)
theorem FL {K:Nat} : ∀(l:List Tk) (g:Gr) (txt:Bool) (n:Nat),(∀ x∈g.v,x.okTo K)→g.Ok n→(∀ t∈l,t.okTo K)→(∀ x∈(sZ g txt l).1.v,x.okTo K)∧(sZ g txt l).1.Ok (n+l.length)
 | [],g,txt,n,h,hg,_=>⟨h,by simpa [sZ] using hg⟩
 | t::r,g,txt,n,h,hg,hl=>by
  have h1:=G7 h (hl t (.head _)) txt
  have h2:=B0 hg t txt
  rw[sZ]
  split
  ·obtain⟨h3,h4⟩:=FL r (stepG g t txt).1 (t.kind==4) (n+1) h1 h2 (fun u hu=>hl u (.tail _ hu))
   exact⟨h3,by rw[show n+(t::r).length=n+1+r.length by simp;omega];exact h4⟩
  ·refine⟨h1,h2.in_,h2.deep,fun x hx=>?_,?_⟩
   ·have:=h2.many x hx;simp only[List.length_cons];omega
   ·have:=h2.len;simp only[List.length_cons];omega
theorem DU {l:List Tk}{K:Nat}(hl:l.length≤600)(h:∀ t∈l,t.okTo K):(dy l).length≤600 ∧ ∀ x∈dy l,x.okTo K∧x.i64:=by
 obtain⟨h1,h2⟩:=FL l ⟨[],[]⟩ false 0 (fun x hx=>by simp at hx) yH h
 unfold dy
 split
 ·refine⟨by have:=h2.len;omega,fun x hx=>⟨h1 x hx,?_⟩⟩
  have:=h2.many x hx
  unfold Nd.i64;omega
 ·exact⟨by simp,fun x hx=>by simp at hx⟩
theorem sk {s:List UInt8}(hs:s.length≤16384):(cg s).1.length≤600 ∧ ∀ x∈(cg s).1,x.okTo 1000000∧x.i64:=by
 unfold cg
 split
 ·exact⟨by simp,fun x hx=>by simp at hx⟩
 ·rename_i h
  obtain⟨f1,f2⟩:=yN hs (by simpa using h)
  exact DU f1 (fun t ht=>(f2 t ht).1)
theorem qD {n:Nd}{a b:Nat}(h:n.okTo a)(hab:a≤b):n.okTo b:=by
 obtain⟨h1,h2,h3,h4,h5⟩:=h
 exact⟨by omega,by omega,by omega,by omega,fun x hx=>by obtain⟨a1,a2,a3⟩:=h5 x hx;exact⟨by omega,by omega,by omega⟩⟩
end Go.Proofs.YtcllbjanalhjgaaGreatDoor
