/-
 Texts joined: XNq,XNr,XPe,XLo,XLj,XPd,XPf.
-/
import Derived.Test.YtlnlopnpcmahgaaGreatDoorQm
import Derived.Test.YtlnlopnpcmahgaaGreatDoorQe
import Derived.Test.YtlnlopnpcmahgaaGreatDoorQk
import Derived.Test.YtlnlopnpcmahgaaGreatDoorQo
set_option linter.all false
namespace Go.Proofs.YtlnlopnpcmahgaaGreatDoor
set_option maxRecDepth 100000
set_option maxHeartbeats 32000000
open Go Go.RowKit Vm Go.Lib Tryz
open Vm renaming aH->Ca,aL->Cb
open And renaming intro->Ai
open List renaming length_map->Lm,not_mem_nil->Ln,map_nil->Lo,map_cons->Lc,mem_cons->Lk
open Bool renaming not_false->Bf,not_true->Bt
section
variable {cx:Cx} {Q:Post} {st:List Frm} {nm:Nat} {e:Env} {M:am} {d:Bool} {fs:List (List Nat)} {ops r:List Oper} {dst:Option Tmp} {t:TypeId} {pos:String} {af:Array Edge} {gd:Option (Nat×Bool)} {i:Nat}
end
end Go.Proofs.YtlnlopnpcmahgaaGreatDoor
namespace Go.Proofs.YtlnlopnpcmahgaaGreatDoor
set_option maxRecDepth 100000
set_option maxHeartbeats 32000000
open Go Go.RowKit Go.Lib
end Go.Proofs.YtlnlopnpcmahgaaGreatDoor
namespace Go.Proofs.YtlnlopnpcmahgaaGreatDoor
set_option maxRecDepth 100000
set_option maxHeartbeats 32000000
open Go Go.RowKit Vm Go.Lib Tryz
open Vm renaming aH->Ca,aL->Cb
open And renaming intro->Ai
open List renaming length_map->Lm,not_mem_nil->Ln,map_nil->Lo,map_cons->Lc,mem_cons->Lk
open Bool renaming not_false->Bf,not_true->Bt
def qM {α:Type}(a b:List α)(k:Nat):Prop:=∀ i,i<k->a[i]? = b[i]?
def wo {α:Type}{a b:List α}(hl:a.length=b.length)(h:qM a b a.length):a=b:=by
 refine List.ext_getElem? fun i=>?_
 by_cases hi:i<a.length
 ·exact h i hi
 ·rw[List.getElem?_eq_none (by omega),List.getElem?_eq_none (by omega)]
def oD {α:Type}{a b:List α}{k:Nat}{x:α}(h:qM a b k)(ha:a[k]? = some x)(hb:b[k]? = some x):qM a b (k+1):=by
 intro i hi
 by_cases e:i=k
 ·subst e;rw[ha,hb]
 ·exact h i (by omega)
def zm {α:Type}{a b:List α}{k:Nat}{x y:α}(ha:a[k]? = some x)(hb:b[k]? = some y)(h:x≠y):a≠b:=by
 rintro rfl
 rw[ha]at hb;cases hb;exact h rfl
def Gy (n m:Nat):((n:Int)==(m:Int))=decide (n=m):=by
 rw[Bool.eq_iff_iff,beq_iff_eq,decide_eq_true_iff];omega
def qp {n m:Nat}(h:n=m):((n:Int) !=(m:Int))=false:=by subst h;simp
def qq {n m:Nat}(h:n≠m):((n:Int) !=(m:Int))=true:=by rw[bne_iff_ne];omega
def wT {l:List Pr}{a:Pr}(h:a∈l):(jC a).length<=(cX l).length:=by
 unfold cX
 rw[List.length_flatMap]
 exact qS (f:=fun x=>(jC x).length) h
def BX {l:List Tk}{t:Tk}(h:t∈l):(c9 t).length<=(bI l).length:=by
 unfold bI
 rw[List.length_flatMap]
 exact qS (f:=fun x=>(c9 x).length) h
def EL {t:Tk}(ht:dN t=true){n:Nat}(hn:(c9 t).length<=n):t.okTo (n+16):=by
 obtain⟨k,m,l,x⟩:=t
 unfold dN at ht
 dsimp only at ht
 unfold c9 at hn
 dsimp only at hn
 have hx:=(bm false x).1
 split at ht
 ·rename_i hk
  rw[if_neg (show ¬ k=4 by omega),if_neg (show ¬ k=2 by omega)]at hn
  simp only[Bool.and_eq_true,List.isEmpty_iff]at ht
  obtain⟨⟨_,h2⟩,rfl⟩:=ht
  have h16:=(dO.1 h2).1
  simp only[List.length_append,List.length_cons,List.length_nil]at hn
  refine⟨by show l.length<=n+16;omega,by show m.length<=n+16;omega,by simp,fun a ha=>?_⟩
  have h3:=wT ha
  have h4:=(bm true a.value).1
  simp only[jC,List.length_append,List.length_cons,List.length_nil]at h3
  omega
 ·split at ht
  ·rename_i hk
   subst hk
   rw[if_neg (by decide),if_pos rfl]at hn
   simp only[Bool.and_eq_true,List.isEmpty_iff]at ht
   obtain⟨⟨_,rfl⟩,rfl⟩:=ht
   simp only[List.length_append,List.length_cons,List.length_nil]at hn
   exact⟨by simp,by show m.length<=n+16;omega,by simp,fun a ha=>by simp at ha⟩
  ·split at ht
   ·rename_i hk
    subst hk
    rw[if_pos rfl]at hn
    simp only[Bool.and_eq_true,List.isEmpty_iff]at ht
    obtain⟨⟨⟨rfl,rfl⟩,_⟩,_⟩:=ht
    exact⟨by simp,by simp,by show x.length<=n+16;omega,fun a ha=>by simp at ha⟩
   ·cases ht
def GP {t:Tk}{a b:Nat}(h:t.okTo a)(hab:a<=b):t.okTo b:=by
 obtain⟨h1,h2,h3,h4⟩:=h
 exact⟨by omega,by omega,by omega,fun x hx=>by have:=h4 x hx;omega⟩
def Dr {s:List UInt8}(h:(jw s).2.2=0):∀ t∈(jw s).1,t.okTo (6*s.length+16):=by
 obtain⟨h1,_,_,_,_,h6⟩:=(y6 s).1 h
 intro t ht
 exact EL (h1 t ht) (Nat.le_trans (BX ht) h6)
def wz {t:Tk}(ht:dN t=true):t.attrs.length<=16:=by
 unfold dN at ht
 split at ht
 ·simp only[Bool.and_eq_true]at ht
  exact(dO.1 ht.1.2).1
 ·split at ht
  ·simp only[Bool.and_eq_true,List.isEmpty_iff]at ht
   rw[ht.1.2];simp
  ·split at ht
   ·simp only[Bool.and_eq_true,List.isEmpty_iff]at ht
    rw[ht.1.1.2];simp
   ·cases ht
end Go.Proofs.YtlnlopnpcmahgaaGreatDoor
