/-
 Texts joined: XNq,XNr,XPe,XLo,XLj,XPd,XPf.
-/
import Derived.Test.YtjonibipieofcaaGreatDoorQm
import Derived.Test.YtjonibipieofcaaGreatDoorQo
set_option linter.all false
namespace Go.Proofs.YtjonibipieofcaaGreatDoor
set_option maxRecDepth 100000
set_option maxHeartbeats 32000000
open Go Go.RowKit Vm Go.Lib Tryz
open Vm renaming aI->Ca,aP->Cb
open And renaming intro->Ai
open List renaming length_map->Lm,not_mem_nil->Ln,map_nil->Lo,map_cons->Lc,mem_cons->Lk
open Bool renaming not_false->Bf,not_true->Bt
section
variable {cx:Cx} {Q:Post} {st:List Frm} {nm:Nat} {e:Env} {M:ao} {d:Bool} {fs:List (List Nat)} {ops r:List Oper} {dst:Option Tmp} {t:TypeId} {pos:String} {af:Array Edge} {gd:Option (Nat×Bool)} {i:Nat}
end
set_option maxRecDepth 100000
set_option maxHeartbeats 32000000
open Go Go.RowKit Go.Lib
set_option maxRecDepth 100000
set_option maxHeartbeats 32000000
open Go Go.RowKit Vm Go.Lib Tryz
open Vm renaming aI->Ca,aP->Cb
open And renaming intro->Ai
open List renaming length_map->Lm,not_mem_nil->Ln,map_nil->Lo,map_cons->Lc,mem_cons->Lk
open Bool renaming not_false->Bf,not_true->Bt
def kI {α:Type}(a b:List α)(k:Nat):Prop:=∀ i,i<k->a[i]? = b[i]?
def j5 {α:Type}{a b:List α}(hl:a.length=b.length)(h:kI a b a.length):a=b:=by
 refine List.ext_getElem? fun i=>?_
 by_cases hi:i<a.length
 ·exact h i hi
 ·rw[List.getElem?_eq_none (by omega),List.getElem?_eq_none (by omega)]
def fR {α:Type}{a b:List α}{k:Nat}{x:α}(h:kI a b k)(ha:a[k]? = some x)(hb:b[k]? = some x):kI a b (k+1):=by
 intro i hi
 by_cases e:i=k
 ·subst e;rw[ha,hb]
 ·exact h i (by omega)
def mD {α:Type}{a b:List α}{k:Nat}{x y:α}(ha:a[k]? = some x)(hb:b[k]? = some y)(h:x≠y):a≠b:=by
 rintro rfl
 rw[ha]at hb;cases hb;exact h rfl
def JM (n m:Nat):((n:Int)==(m:Int))=decide (n=m):=by
 rw[Bool.eq_iff_iff,beq_iff_eq,decide_eq_true_iff];omega
def gC {n m:Nat}(h:n=m):((n:Int) !=(m:Int))=false:=by subst h;simp
def gD {n m:Nat}(h:n≠m):((n:Int) !=(m:Int))=true:=by rw[bne_iff_ne];omega
def zJ {l:List Pr}{a:Pr}(h:a∈l):(ls a).length<=(dK l).length:=by
 unfold dK
 rw[List.length_flatMap]
 exact tm (f:=fun x=>(ls x).length) h
def EW {l:List Tk}{t:Tk}(h:t∈l):(dR t).length<=(cj l).length:=by
 unfold cj
 rw[List.length_flatMap]
 exact tm (f:=fun x=>(dR x).length) h
def H2 {t:Tk}(ht:eQ t=true){n:Nat}(hn:(dR t).length<=n):t.okTo (n+16):=by
 obtain⟨k,m,l,x⟩:=t
 unfold eQ at ht
 dsimp only at ht
 unfold dR at hn
 dsimp only at hn
 have hx:=(bG false x).1
 split at ht
 ·rename_i hk
  rw[if_neg (show ¬ k=4 by omega),if_neg (show ¬ k=2 by omega)]at hn
  simp only[Bool.and_eq_true,List.isEmpty_iff]at ht
  obtain⟨⟨_,h2⟩,rfl⟩:=ht
  have h16:=(eS.1 h2).1
  simp only[List.length_append,List.length_cons,List.length_nil]at hn
  refine⟨by show l.length<=n+16;omega,by show m.length<=n+16;omega,by simp,fun a ha=>?_⟩
  have h3:=zJ ha
  have h4:=(bG true a.value).1
  simp only[ls,List.length_append,List.length_cons,List.length_nil]at h3
  omega
 ·split at ht
  ·rename_i hk
   subst hk
   rw[if_neg (by decide),if_pos rfl]at hn
   simp only[Bool.and_eq_true,List.isEmpty_iff]at ht
   obtain⟨⟨_,rfl⟩,rfl⟩:=ht
   simp only[List.length_append,List.length_cons,List.length_nil]at hn
   exact⟨by simp,by show m.length<=n+16;omega,by simp,fun a ha=>by simp at ha⟩
  ·split at ht
   ·rename_i hk
    subst hk
    rw[if_pos rfl]at hn
    simp only[Bool.and_eq_true,List.isEmpty_iff]at ht
    obtain⟨⟨⟨rfl,rfl⟩,_⟩,_⟩:=ht
    exact⟨by simp,by simp,by show x.length<=n+16;omega,fun a ha=>by simp at ha⟩
   ·cases ht
def J7 {t:Tk}{a b:Nat}(h:t.okTo a)(hab:a<=b):t.okTo b:=by
 obtain⟨h1,h2,h3,h4⟩:=h
 exact⟨by omega,by omega,by omega,fun x hx=>by have:=h4 x hx;omega⟩
def GG {s:List UInt8}(h:(lg s).2.2=0):∀ t∈(lg s).1,t.okTo (6*s.length+16):=by
 obtain⟨h1,_,_,_,_,h6⟩:=(B5 s).1 h
 intro t ht
 exact H2 (h1 t ht) (Nat.le_trans (EW ht) h6)
def zh {t:Tk}(ht:eQ t=true):t.attrs.length<=16:=by
 unfold eQ at ht
 split at ht
 ·simp only[Bool.and_eq_true]at ht
  exact(eS.1 ht.1.2).1
 ·split at ht
  ·simp only[Bool.and_eq_true,List.isEmpty_iff]at ht
   rw[ht.1.2];simp
  ·split at ht
   ·simp only[Bool.and_eq_true,List.isEmpty_iff]at ht
    rw[ht.1.1.2];simp
   ·cases ht
end Go.Proofs.YtjonibipieofcaaGreatDoor
