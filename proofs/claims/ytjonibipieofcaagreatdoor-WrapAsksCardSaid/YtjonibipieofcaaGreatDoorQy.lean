/-
 Texts joined: XDi,XDj,XRe.
-/
import Derived.Test.YtjonibipieofcaaGreatDoorCards
import Derived.Test.YtjonibipieofcaaGreatDoorTie
import Derived.Lib.LaidIn
import Derived.Deep.DeepWitnessRowRef
import Derived.ProofKit
import Derived.ShutString
import Derived.LaidHandle
import Derived.LaidSub
import Derived.ChangeVars
import Derived.JoinedCond
import Derived.Test.YtjonibipieofcaaGreatDoorQf
set_option linter.all false
namespace Go.Proofs.YtjonibipieofcaaGreatDoor
set_option maxRecDepth 100000
set_option maxHeartbeats 32000000
open Go Go.RowKit Go.Lib
def own:ownKnob Tryz.prog.godebug=none:=by kernel_rfl
def w6:DataW Unit->List Value
 | .agg l=>l.filterMap fun | .lit (.int k n)=>some (.int k n)|_=>none
 | _=>[]
noncomputable def gy (os:Os):World :=
 let w0:=World.holding Tryz.prog os ⟨#[],#[],[]⟩
 let put (h:Array Obj) (g:Nat) (cs:Array Value):Array Obj:=h.modify g fun
  | .cells _ t frozen=>.cells cs t frozen
  | o=>o
 let h3:=put w0.heap 3 (w6 Rows.laid_math_bits_deBruijn32tab).toArray
 let h4:=put h3 4 (w6 Rows.laid_math_bits_deBruijn64tab).toArray
 let h5:=put h4 2 (w6 Rows.laid_internal_strconv_uint64pow10).toArray
 let h8:=put h5 0 #[.iface 181 (.agg #[.pointer (some ⟨5,108,none⟩)])]
 { w0 with heap:=h8 }
def Gz (os : Os) (args : Array Value) : laidMetH Tryz.prog [("math/bits.deBruijn32tab", Rows.laid_math_bits_deBruijn32tab), ("math/bits.deBruijn64tab", Rows.laid_math_bits_deBruijn64tab), ("internal/strconv.uint64pow10", Rows.laid_internal_strconv_uint64pow10), ("errors.errorType", Rows.laid_errors_errorType)] ((gy os).forCall (fun _ _ => 0) ⟨#[], args, []⟩).memory := by
 refine laidMetH_of_parts ?_ (by kernel_rfl)
 rw [show (([("math/bits.deBruijn32tab", Rows.laid_math_bits_deBruijn32tab), ("math/bits.deBruijn64tab", Rows.laid_math_bits_deBruijn64tab), ("internal/strconv.uint64pow10", Rows.laid_internal_strconv_uint64pow10), ("errors.errorType", Rows.laid_errors_errorType)] : List (String × DataW Unit)).filter fun x => x.2.handleName?.isNone) = [("math/bits.deBruijn32tab", Rows.laid_math_bits_deBruijn32tab), ("math/bits.deBruijn64tab", Rows.laid_math_bits_deBruijn64tab), ("internal/strconv.uint64pow10", Rows.laid_internal_strconv_uint64pow10)] from rfl]
 exact (LaidIn.of_run (l := [("math/bits.deBruijn32tab", Rows.laid_math_bits_deBruijn32tab), ("math/bits.deBruijn64tab", Rows.laid_math_bits_deBruijn64tab), ("internal/strconv.uint64pow10", Rows.laid_internal_strconv_uint64pow10)]) (((gy os).heap.size) :: ((gy os).heap.size + 1) :: ((gy os).heap.size - 1) :: ((gy os).heap.size - 2) :: [3, 4, 2]) 8 (by kernel_rfl) (by kernel_rfl) (by kernel_rfl) (by kernel_rfl)).met
set_option maxRecDepth 100000
set_option maxHeartbeats 32000000
open Go Go.RowKit Vm Go.Lib Tryz
open Vm renaming aI->Ca,aP->Cb
open And renaming intro->Ai
open List renaming length_map->Lm,not_mem_nil->Ln,map_nil->Lo,map_cons->Lc,mem_cons->Lk
open Bool renaming not_false->Bf,not_true->Bt
def y7 {w:World}{g:Nat}{cells:List V}(cv:Nat->Value)(hb:g<w.heap.size)(hc:∀(j:Nat) (u:V),cells[j]? = some u->w.cell? ⟨g,j,none⟩=some (cv j))(hu:∀(j:Nat) (u:V),cells[j]? = some u->Is (fun _=>none) (fun _=>False) w u (cv j)):Is (fun _=>none) (fun _=>False) w (.rp cells) (.pointer (some ⟨g,0,none⟩)) :=
 .rp (o:=0) cv (fun h=>h) hb (fun j u hj=>by rw[Nat.zero_add];exact hc j u hj) hu
def H9 {P:Program}{w:World}{n:String}{g:Nat}{cs:Array Value}(hg:P.globalNamed n=some g)(hv:w.var? P n=some cs):g<w.heap.size:=by
 unfold World.var? at hv
 rw[hg]at hv
 simp only[Option.bind_some]at hv
 by_cases h:g<w.heap.size
 ·exact h
 ·exfalso
  have:w.heap[g]? = none:=Array.getElem?_eq_none (by omega)
  rw[this]at hv
  simp at hv
def M5 {P:Program}{w:World}{n:String}{g:Nat}{k:IntKind}{zs:List Int}{cs:Array Value}(hg:P.globalNamed n=some g)(hv:w.var? P n=some cs)(hcs:cs.toList=zs.map fun z=>Value.int k z):Is (fun _=>none) (fun _=>False) w (.rp (zs.map fun z=>.int k z)) (.pointer (some ⟨g,0,none⟩)):=by
 refine y7 (fun j=>.int k (zs.getD j 0)) (H9 hg hv) (fun j u hj=>?_) (fun j u hj=>?_)
 ·rw[List.getElem?_map]at hj
  obtain⟨z,hz,rfl⟩:=Option.map_eq_some_iff.1 hj
  rw[World.var?_cell hg hv j,<- Array.getElem?_toList,hcs,List.getElem?_map,hz,List.getD_eq_getElem?_getD,hz]
  rfl
 ·rw[List.getElem?_map]at hj
  obtain⟨z,hz,rfl⟩:=Option.map_eq_some_iff.1 hj
  rw[List.getD_eq_getElem?_getD,hz]
  exact .int _ _
def KL {W : World} (h : VarReads Tryz.prog W "internal/strconv.uint64pow10" Rows.laid_internal_strconv_uint64pow10) : Is (fun _ => none) (fun _ => False) W zg (.pointer (some ⟨2, 0, none⟩)) := by
 have e:(Rows.laid_internal_strconv_uint64pow10:DataW Unit)=tabData .u64 pow10Tab:=by kernel_rfl
 rw[e]at h
 obtain⟨g,t,cs,fuel,p,hg,ht,hv,hd⟩:=h
 obtain rfl := Option.some.inj ((show Tryz.prog.globalNamed "internal/strconv.uint64pow10" = some 2 by kernel_rfl).symm.trans hg)
 obtain rfl:=Option.some.inj ((show(Tryz.prog.globals[2]?).map (·.type)=some 231 by kernel_rfl).symm.trans ht)
 have hcs:=cells_of_tab (show Tryz.prog.underlying 231=some (.array 20 221) by kernel_rfl) (show Tryz.prog.underlying 221=some (.int .u64) by kernel_rfl) (by kernel_rfl) (by kernel_rfl) hd
 exact M5 hg hv hcs
def xT : Tryz.prog.globalNamed "errors.errorType" = some 0 := by kernel_rfl
def MZ : (Tryz.prog.cutTypes.find? (·.1 == "internal/reflectlite.rtype")).map (·.2) = some 181 := by kernel_rfl
def Jn:((List.range Tryz.prog.types.size).filter fun t=>Tryz.prog.rowNamed t [101,114,114,111,114])=[108]:=by kernel_rfl
def Jo {W : World} {l : List (String × DataW Unit)} (h : handlesMet Tryz.prog l W) (hm : ("errors.errorType", (Rows.laid_errors_errorType : DataW Unit)) ∈ l) : Is (fun _ => none) (fun _ => False) W xQ (.pointer (some ⟨0, 0, none⟩)) := by
 obtain⟨name,u,ty,e1,e2,e3,e4,e5⟩:=h _ hm
 have en:name=[101,114,114,111,114]:=(Option.some.inj e1).symm
 subst en
 obtain rfl:=Option.some.inj (MZ.symm.trans e2)
 have hm:ty∈(List.range Tryz.prog.types.size).filter fun t=>Tryz.prog.rowNamed t [101,114,114,111,114]:=List.mem_filter.2 ⟨List.mem_range.2 e3,e4⟩
 rw[Jn]at hm
 obtain rfl:=List.mem_singleton.1 hm
 have hh:typeHandle Tryz.prog 108 = .pointer (some ⟨5,108,none⟩):=by kernel_rfl
 rw[hh]at e5
 have hc:=World.var?_cell xT e5 0
 refine y7 (fun _=>.iface 181 (.agg #[.pointer (some ⟨5,108,none⟩)])) (H9 xT e5) (fun j u hj=>?_) (fun j u hj=>?_)
 ·cases j with
  | zero=>simpa using hc
  | succ j=>simp at hj
 ·cases j with
  | zero =>
   cases hj
   refine .iface (.agg rfl fun i u cv hi hc=>?_)
   cases i with
   | zero=>cases hi;cases hc;exact .val _
   | succ i=>simp at hi
  | succ j=>simp at hj
def HT (W : World) (h : laidMetH Tryz.prog [("math/bits.deBruijn32tab", Rows.laid_math_bits_deBruijn32tab), ("math/bits.deBruijn64tab", Rows.laid_math_bits_deBruijn64tab), ("internal/strconv.uint64pow10", Rows.laid_internal_strconv_uint64pow10), ("errors.errorType", Rows.laid_errors_errorType)] W) (g : Nat) : Is (fun _ => none) (fun _ => False) W (cx.G g) (.pointer (some ⟨g, 0, none⟩)) := by
 obtain⟨h,hx⟩:=laidMetH_iff.1 h
 have r4:=Jo hx (List.mem_filter.2 ⟨.tail _ (.tail _ (.tail _ (.head _))),rfl⟩)
 rw [show (([("math/bits.deBruijn32tab", Rows.laid_math_bits_deBruijn32tab), ("math/bits.deBruijn64tab", Rows.laid_math_bits_deBruijn64tab), ("internal/strconv.uint64pow10", Rows.laid_internal_strconv_uint64pow10), ("errors.errorType", Rows.laid_errors_errorType)] : List (String × DataW Unit)).filter fun x => x.2.handleName?.isNone) = [("math/bits.deBruijn32tab", Rows.laid_math_bits_deBruijn32tab), ("math/bits.deBruijn64tab", Rows.laid_math_bits_deBruijn64tab), ("internal/strconv.uint64pow10", Rows.laid_internal_strconv_uint64pow10)] from rfl] at h
 have r3 := Go.Lib.laidMet.reads h (n := "internal/strconv.uint64pow10") (d := Rows.laid_internal_strconv_uint64pow10) (.tail _ (.tail _ (.head _)))
 show Is _ _ W (zd g) _
 unfold zd
 split
 ·rename_i e;rw[e];exact KL r3
 ·split
  ·rename_i e;rw[e];exact r4
  ·exact .any _
end Go.Proofs.YtjonibipieofcaaGreatDoor
namespace Go.Proofs.YtjonibipieofcaaGreatDoor.Vm
set_option maxRecDepth 100000
set_option maxHeartbeats 32000000
open Go
def joined_of {P:Program}{f:FuncId}{fn:Func}{s:ChangeSpec}{c:OpenClaim}(h1:laidOutB P=true)(h2:mapsRowed P=true)(h3:(c.inPlace==P.inPlace f)=true)(h4:(c.unfollowed==P.unfollowed f)=true)(h5:(c.recurses==P.recurses f)=true)(h6:(c.named==P.varsNamed f)=true)
  (h7:(c.plainKeys==P.plainKeys)=true) (h8:P.stopsHeard=true) (h9:P.mayEnter=true) (h10:(c.lifted==P.liftsFinal)=true)
  (h11:(c.wf (OpenSpec.ofChange s)&&fn.params.all (P.readableRec ·)&&namedTie P c.named s.vars&&(c.stops==[])&&(P.stops==[])&&(c.knobs==[])&&(P.stopKnobs==[]) &&
   (c.maps==(fn.params.toList++s.plain.varTypes P).any (P.mapsRec ·))&&(c.ifaces==(fn.params.toList++s.plain.varTypes P).any (P.ifacesRec ·))&&(c.mapsOut==P.mapsAmong fn.resultTypes.toList) &&
   (c.loops==(fn.params.toList++s.plain.varTypes P).any (P.loopsFrom ·))&&(c.wideKeys==(fn.params.toList++s.plain.varTypes P++fn.resultTypes.toList).any (P.wideKeysFrom ·)) &&
   s.vars.all (P.varReadable ·)&&fn.resultTypes.all (fun t=>P.readableRec t&&decide (t<P.types.size))&&(c.ifacesOut==fn.resultTypes.toList.any (P.ifacesRec ·))&&(c.loopsOut==fn.resultTypes.toList.any (P.loopsFrom ·))&&c.shortTexts.isNone&&(P.make==some c.make) &&
   (c.kinds==(if c.domain.isEmpty then [] else fn.params.toList.map fun t=>match P.underlying t with|some (.int k)=>some k|_=>none))&&(c.pinned==c.pinnedBy) &&
   (c.veiled==(fn.params.toList++s.plain.varTypes P++fn.resultTypes.toList).any (P.veiledRec ·))&&c.veiledFits P fn.params.toList (fn.params.toList++s.plain.varTypes P++fn.resultTypes.toList))=true):joinedFacts P f fn s c=true:=by
 unfold joinedFacts
 rw[h1,h2,h3,h4,h5,h6,h7,h8,h9,h10]
 simp only[Bool.and_true]at h11 ⊢
 exact h11
end Go.Proofs.YtjonibipieofcaaGreatDoor.Vm
