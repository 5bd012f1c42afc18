/-
 Texts joined: XUb,XUc,XUd.
-/
import Derived.Test.YtjonibipieofcaaGreatDoorQo
set_option linter.all false
namespace Go.Proofs.YtjonibipieofcaaGreatDoor
set_option maxRecDepth 100000
set_option maxHeartbeats 32000000
open Go Go.RowKit Vm Go.Lib Tryz
open Vm renaming aI->Ca,aP->Cb
open And renaming intro->Ai
open List renaming length_map->Lm,not_mem_nil->Ln,map_nil->Lo,map_cons->Lc,mem_cons->Lk
open Bool renaming not_false->Bf,not_true->Bt
def bf (a:At):List V:=[.str a.space,.str a.name,.str a.value]
def aD (n:Nd):List V:=[.int .u8 n.kind,.str n.space,.str n.name,.sl false 3 (n.attrs.map bf),.str n.text,.int .i64 n.many]
def gn (k:Nat):List V:=[.int .i64 k]
def dS {l:List Nd}{k:Nat}{a:Nd}(h:l[k]? = some a):(l.map aD)[k]? = some (aD a):=by rw[List.getElem?_map,h];rfl
def iu {l:List At}{k:Nat}{a:At}(h:l[k]? = some a):(l.map bf)[k]? = some (bf a):=by rw[List.getElem?_map,h];rfl
def ab (l:List At):plainLL (l.map bf)=true:=ce _ (fun _=>rfl) l
def ae (l:List Nd):plainLL (l.map aD)=true:=ce _ (fun t=>by simp[aD,plainL,V.plain,ab]) l
def aJ (l:List Nat):plainLL (l.map gn)=true:=ce _ (fun _=>rfl) l
def En (σ:List (Nat×Nat))(l:List Nd):(l.map aD).all (renOkL σ)=true:=by
 rw[List.all_eq_true]
 intro r hr
 obtain⟨n,_,rfl⟩:=List.mem_map.1 hr
 simp[aD,renOkL,V.renOk,ab]
def w7 (l:List Nd):(l.map aD).take l.length=l.map aD:=List.take_of_length_le (by simp)
def DI (a:List (List V))(r s:List V):il (a++[r]) (a++[s])=leL r s:=by
 apply propext
 induction a with
 | nil=>simp[il]
 | cons x a ih =>
  simp only[List.cons_append,il,ih]
  exact⟨fun h=>h.2,fun h=>⟨leL_refl x,h⟩⟩
end Go.Proofs.YtjonibipieofcaaGreatDoor
