/-
 Texts joined: XUb,XUc,XUd.
-/
import Derived.Test.YtlnlopnpcmahgaaGreatDoorQo
import Derived.Test.YtlnlopnpcmahgaaGreatDoorQf
import Derived.Test.YtlnlopnpcmahgaaGreatDoorQi
set_option linter.all false
namespace Go.Proofs.YtlnlopnpcmahgaaGreatDoor
set_option maxRecDepth 100000
set_option maxHeartbeats 32000000
open Go Go.RowKit Vm Go.Lib Tryz
open Vm renaming aH->Ca,aL->Cb
open And renaming intro->Ai
open List renaming length_map->Lm,not_mem_nil->Ln,map_nil->Lo,map_cons->Lc,mem_cons->Lk
open Bool renaming not_false->Bf,not_true->Bt
def bh (a:At):List V:=[.str a.space,.str a.name,.str a.value]
def aG (n:Nd):List V:=[.int .u8 n.kind,.str n.space,.str n.name,.sl false 3 (n.attrs.map bh),.str n.text,.int .i64 n.many]
def ff (k:Nat):List V:=[.int .i64 k]
def dG {l:List Nd}{k:Nat}{a:Nd}(h:l[k]? = some a):(l.map aG)[k]? = some (aG a):=by rw[List.getElem?_map,h];rfl
def gN {l:List At}{k:Nat}{a:At}(h:l[k]? = some a):(l.map bh)[k]? = some (bh a):=by rw[List.getElem?_map,h];rfl
def ae (l:List At):plainLL (l.map bh)=true:=bR _ (fun _=>rfl) l
def ad (l:List Nd):plainLL (l.map aG)=true:=bR _ (fun t=>by simp[aG,plainL,V.plain,ae]) l
def aC (l:List Nat):plainLL (l.map ff)=true:=bR _ (fun _=>rfl) l
def uA (l:List Nd):(l.map aG).take l.length=l.map aG:=List.take_of_length_le (by simp)
def AM (a:List (List V))(r s:List V):fX (a++[r]) (a++[s])=leL r s:=by
 apply propext
 induction a with
 | nil=>simp[fX]
 | cons x a ih =>
  simp only[List.cons_append,fX,ih]
  exact⟨fun h=>h.2,fun h=>⟨leL_refl x,h⟩⟩
end Go.Proofs.YtlnlopnpcmahgaaGreatDoor
