/-
 Texts joined: XDg,XDh,XRe.
-/
import Derived.Test.YtlnlopnpcmahgaaGreatDoorCards
import Derived.Test.YtlnlopnpcmahgaaGreatDoorTie
import Derived.Lib.LaidIn
import Derived.Lib.LaidU8
import Derived.Deep.DeepHandedRow
import Derived.Deep.DeepWitnessRowRef
import Derived.ProofKit
import Derived.OpenShut
import Derived.ShutString
import Derived.ChangeOld
import Derived.LaidHandle
import Derived.LaidSub
import Derived.ChangeVars
import Derived.Lib.ItoaNum
import Derived.JoinedCond
import Derived.Test.YtlnlopnpcmahgaaGreatDoorQd
import Derived.Test.YtlnlopnpcmahgaaGreatDoorQf
set_option linter.all false
namespace Go.Proofs.YtlnlopnpcmahgaaGreatDoor
set_option maxRecDepth 100000
set_option maxHeartbeats 32000000
open Go Go.RowKit Go.Lib
def own:ownKnob Tryz.prog.godebug=none:=by kernel_rfl
def vQ:(Rows.laid_unicode_utf8_acceptRanges:DataW Unit)=Lib.acceptData:=by kernel_rfl
def zR:Rows.laid_unicode_utf8_first=Lib.firstData:=by kernel_rfl
def yJ:DataW Unit->List Value
 | .agg l=>l.filterMap fun | .lit (.int k n)=>some (.int k n)|_=>none
 | _=>[]
def Eg:DataW Unit->List UInt8
 | .iface _ (.ptr (.agg [.lit (.string s)]))=>s
 | _=>[]
noncomputable def fE (os:Os):World :=
 let w0:=World.holding Tryz.prog os ⟨#[],#[],[]⟩
 let put (h:Array Obj) (g:Nat) (cs:Array Value):Array Obj:=h.modify g fun
  | .cells _ t frozen=>.cells cs t frozen
  | o=>o
 let h1:=put w0.heap 3 (Lib.firstTab.map fun z=>Value.int .u8 z).toArray
 let h2:=put h1 4 ((List.range 16).flatMap fun i=>[Value.int .u8 (Lib.accLo i),Value.int .u8 (Lib.accHi i)]).toArray
 let h3:=put h2 5 (yJ Rows.laid_math_bits_deBruijn32tab).toArray
 let h4:=put h3 6 (yJ Rows.laid_math_bits_deBruijn64tab).toArray
 let h5:=put h4 2 (yJ Rows.laid_internal_strconv_uint64pow10).toArray
 let n:=h5.size
 let h6:=put h5 8 #[.iface 298 (.pointer (some ⟨n,0,none⟩))]
 let h7:=put h6 7 #[.iface 298 (.pointer (some ⟨n+1,0,none⟩))]
 let h8:=put h7 0 #[.iface 167 (.agg #[.pointer (some ⟨9,73,none⟩)])]
 { w0 with heap:=(h8.push (.cells #[.string ⟨(Eg Rows.laid_strconv_ErrRange).toArray⟩] 300 (0,0))).push (.cells #[.string ⟨(Eg Rows.laid_strconv_ErrSyntax).toArray⟩] 300 (0,0)) }
def Au (os : Os) (args : Array Value) : laidMetH Tryz.prog [("math/bits.deBruijn32tab", Rows.laid_math_bits_deBruijn32tab), ("math/bits.deBruijn64tab", Rows.laid_math_bits_deBruijn64tab), ("internal/strconv.uint64pow10", Rows.laid_internal_strconv_uint64pow10), ("unicode/utf8.acceptRanges", Rows.laid_unicode_utf8_acceptRanges), ("errors.errorType", Rows.laid_errors_errorType), ("strconv.ErrRange", Rows.laid_strconv_ErrRange), ("strconv.ErrSyntax", Rows.laid_strconv_ErrSyntax), ("unicode/utf8.first", Rows.laid_unicode_utf8_first)] ((fE os).forCall (fun _ _ => 0) ⟨#[], args, []⟩).memory := by
 refine laidMetH_of_parts ?_ (by kernel_rfl)
 rw [show (([("math/bits.deBruijn32tab", Rows.laid_math_bits_deBruijn32tab), ("math/bits.deBruijn64tab", Rows.laid_math_bits_deBruijn64tab), ("internal/strconv.uint64pow10", Rows.laid_internal_strconv_uint64pow10), ("unicode/utf8.acceptRanges", Rows.laid_unicode_utf8_acceptRanges), ("errors.errorType", Rows.laid_errors_errorType), ("strconv.ErrRange", Rows.laid_strconv_ErrRange), ("strconv.ErrSyntax", Rows.laid_strconv_ErrSyntax), ("unicode/utf8.first", Rows.laid_unicode_utf8_first)] : List (String × DataW Unit)).filter fun x => x.2.handleName?.isNone) = [("math/bits.deBruijn32tab", Rows.laid_math_bits_deBruijn32tab), ("math/bits.deBruijn64tab", Rows.laid_math_bits_deBruijn64tab), ("internal/strconv.uint64pow10", Rows.laid_internal_strconv_uint64pow10), ("unicode/utf8.acceptRanges", Rows.laid_unicode_utf8_acceptRanges), ("strconv.ErrRange", Rows.laid_strconv_ErrRange), ("strconv.ErrSyntax", Rows.laid_strconv_ErrSyntax), ("unicode/utf8.first", Rows.laid_unicode_utf8_first)] from rfl]
 rw[vQ,zR]
 exact (LaidIn.of_run (l := [("math/bits.deBruijn32tab", Rows.laid_math_bits_deBruijn32tab), ("math/bits.deBruijn64tab", Rows.laid_math_bits_deBruijn64tab), ("internal/strconv.uint64pow10", Rows.laid_internal_strconv_uint64pow10), ("unicode/utf8.acceptRanges", Lib.acceptData), ("strconv.ErrRange", Rows.laid_strconv_ErrRange), ("strconv.ErrSyntax", Rows.laid_strconv_ErrSyntax), ("unicode/utf8.first", Lib.firstData)]) (((fE os).heap.size) :: ((fE os).heap.size + 1) :: ((fE os).heap.size - 1) :: ((fE os).heap.size - 2) :: [5, 6, 2, 4, 8, 7, 3]) 8 (by kernel_rfl) (by kernel_rfl) (by kernel_rfl) (by kernel_rfl)).met
end Go.Proofs.YtlnlopnpcmahgaaGreatDoor
namespace Go.Proofs.YtlnlopnpcmahgaaGreatDoor
set_option maxRecDepth 100000
set_option maxHeartbeats 32000000
open Go Go.RowKit Vm Go.Lib Tryz
open Vm renaming aW->Ca,bf->Cb
open And renaming intro->Ai
open List renaming length_map->Lm,not_mem_nil->Ln,map_nil->Lo,map_cons->Lc,mem_cons->Lk
open Bool renaming not_false->Bf,not_true->Bt
def uG {w:World}{g:Nat}{cells:List V}(cv:Nat->Value)(hb:g<w.heap.size)(hc:∀(j:Nat) (u:V),cells[j]? = some u->w.cell? ⟨g,j,none⟩=some (cv j))(hu:∀(j:Nat) (u:V),cells[j]? = some u->Is (fun _=>none) (fun _=>False) w u (cv j)):Is (fun _=>none) (fun _=>False) w (.rp cells) (.pointer (some ⟨g,0,none⟩)) :=
 .rp (o:=0) cv (fun h=>h) hb (fun j u hj=>by rw[Nat.zero_add];exact hc j u hj) hu
def DR {P:Program}{w:World}{n:String}{g:Nat}{cs:Array Value}(hg:P.globalNamed n=some g)(hv:w.var? P n=some cs):g<w.heap.size:=by
 unfold World.var? at hv
 rw[hg]at hv
 simp only[Option.bind_some]at hv
 by_cases h:g<w.heap.size
 ·exact h
 ·exfalso
  have:w.heap[g]? = none:=Array.getElem?_eq_none (by omega)
  rw[this]at hv
  simp at hv
def Lu {P:Program}{w:World}{n:String}{g:Nat}{k:IntKind}{zs:List Int}{cs:Array Value}(hg:P.globalNamed n=some g)(hv:w.var? P n=some cs)(hcs:cs.toList=zs.map fun z=>Value.int k z):Is (fun _=>none) (fun _=>False) w (.rp (zs.map fun z=>.int k z)) (.pointer (some ⟨g,0,none⟩)):=by
 refine uG (fun j=>.int k (zs.getD j 0)) (DR hg hv) (fun j u hj=>?_) (fun j u hj=>?_)
 ·rw[List.getElem?_map]at hj
  obtain⟨z,hz,rfl⟩:=Option.map_eq_some_iff.1 hj
  rw[World.var?_cell hg hv j,<- Array.getElem?_toList,hcs,List.getElem?_map,hz,List.getD_eq_getElem?_getD,hz]
  rfl
 ·rw[List.getElem?_map]at hj
  obtain⟨z,hz,rfl⟩:=Option.map_eq_some_iff.1 hj
  rw[List.getD_eq_getElem?_getD,hz]
  exact .int _ _
def IV {W : World} (h : VarReads Tryz.prog W "unicode/utf8.first" Rows.laid_unicode_utf8_first) : Is (fun _ => none) (fun _ => False) W Cn (.pointer (some ⟨3, 0, none⟩)) := by
 rw[zR]at h
 obtain⟨g,t,cs,fuel,p,hg,ht,hv,hd⟩:=h
 obtain rfl := Option.some.inj ((show Tryz.prog.globalNamed "unicode/utf8.first" = some 3 by kernel_rfl).symm.trans hg)
 obtain rfl:=Option.some.inj ((show(Tryz.prog.globals[3]?).map (·.type)=some 280 by kernel_rfl).symm.trans ht)
 have hcs:=cells_of_tab (show Tryz.prog.underlying 280=some (.array 256 5) by kernel_rfl) (show Tryz.prog.underlying 5=some (.int .u8) by kernel_rfl) (by kernel_rfl) (by kernel_rfl) hd
 exact Lu hg hv hcs
def Ou {W : World} (h : VarReads Tryz.prog W "internal/strconv.uint64pow10" Rows.laid_internal_strconv_uint64pow10) : Is (fun _ => none) (fun _ => False) W LA (.pointer (some ⟨2, 0, none⟩)) := by
 have e:(Rows.laid_internal_strconv_uint64pow10:DataW Unit)=tabData .u64 pow10Tab:=by kernel_rfl
 rw[e]at h
 obtain⟨g,t,cs,fuel,p,hg,ht,hv,hd⟩:=h
 obtain rfl := Option.some.inj ((show Tryz.prog.globalNamed "internal/strconv.uint64pow10" = some 2 by kernel_rfl).symm.trans hg)
 obtain rfl:=Option.some.inj ((show(Tryz.prog.globals[2]?).map (·.type)=some 275 by kernel_rfl).symm.trans ht)
 have hcs:=cells_of_tab (show Tryz.prog.underlying 275=some (.array 20 258) by kernel_rfl) (show Tryz.prog.underlying 258=some (.int .u64) by kernel_rfl) (by kernel_rfl) (by kernel_rfl) hd
 exact Lu hg hv hcs
noncomputable def HX:Array Field:=match Tryz.prog.underlying 282 with
 | some (.struct fs)=>fs
 | _=>#[]
def HY:Tryz.prog.underlying 282=some (.struct HX):=by kernel_rfl
def Bw:HX.size=2:=by kernel_rfl
def E8:(HX.toList.zipIdx.all fun p=>decide (p.1.type=5)&&decide (p.1.offset=p.2))=true:=by kernel_rfl
def Bx (j:Nat):Int:=if j % 2=0 then (accLo (j / 2):Int) else (accHi (j / 2):Int)
def Pb {W : World} (h : VarReads Tryz.prog W "unicode/utf8.acceptRanges" Rows.laid_unicode_utf8_acceptRanges) : Is (fun _ => none) (fun _ => False) W Pa (.pointer (some ⟨4, 0, none⟩)) := by
 rw[vQ]at h
 obtain⟨g,t,cs,fuel,p,hg,ht,hv,hd⟩:=h
 obtain rfl := Option.some.inj ((show Tryz.prog.globalNamed "unicode/utf8.acceptRanges" = some 4 by kernel_rfl).symm.trans hg)
 obtain rfl:=Option.some.inj ((show(Tryz.prog.globals[4]?).map (·.type)=some 283 by kernel_rfl).symm.trans ht)
 have c2:Tryz.prog.cellsOf 282=2:=by kernel_rfl
 have c1:Tryz.prog.cellsOf 5=1:=by kernel_rfl
 have hat:∀ i,i<16->W.cell? ⟨4,2*i,none⟩=some (.int .u8 (accLo i))/\W.cell? ⟨4,2*i+1,none⟩=some (.int .u8 (accHi i)):=by
  intro i hi
  obtain⟨fuel',d,q,hdi,he⟩:=array_elem (show Tryz.prog.underlying 283=some (.array 16 282) by kernel_rfl) hd i hi
  simp only[List.getElem?_map,List.getElem?_range hi,Option.map_some,Option.some.injEq]at hdi
  subst hdi
  rw[c2]at he
  have hcs:=ints_of_struct HY (k:=.u8) (fun j f hj=>by
   have h1:=E8
   rw[List.all_eq_true]at h1
   have h2:=h1 (f,j) (by rw[List.mem_zipIdx_iff_getElem?];simpa using hj)
   simp only[Bool.and_eq_true,decide_eq_true_eq]at h2
   rw[h2.1]
   exact⟨by kernel_rfl,h2.2,c1⟩) (by rw[c2,Bw]) he
  have e0:=congrArg (·[0]?) hcs
  have e1:=congrArg (·[1]?) hcs
  simp only[List.getElem?_take,List.getElem?_drop]at e0 e1
  constructor
  ·rw[World.var?_cell hg hv (2*i),<- Array.getElem?_toList]
   simpa [Nat.mul_comm] using e0
  ·rw[World.var?_cell hg hv (2*i+1),<- Array.getElem?_toList]
   simpa [Nat.mul_comm] using e1
 have hlen:∀(j:Nat) (u:V),((List.range 16).flatMap fun i=>[V.int .u8 (accLo i),.int .u8 (accHi i)])[j]? = some u->j<32/\u = .int .u8 (Bx j):=by
  intro j u hj
  have hlt:j<32:=(List.getElem?_eq_some_iff.1 hj).1
  refine⟨hlt,?_⟩
  have key:∀ j:Fin 32,((List.range 16).flatMap fun i=>[(accLo i:Int),(accHi i:Int)])[j.val]? = some (Bx j.val):=by decide +kernel
  have hm:((List.range 16).flatMap fun i=>[V.int .u8 (accLo i),.int .u8 (accHi i)])=((List.range 16).flatMap fun i=>[(accLo i:Int),(accHi i:Int)]).map fun z=>V.int .u8 z:=by
   rw[List.map_flatMap];rfl
  rw[hm,List.getElem?_map,key ⟨j,hlt⟩]at hj
  simp only[Option.map_some,Option.some.injEq]at hj
  exact hj.symm
 refine uG (fun j=>.int .u8 (Bx j)) (DR hg hv) (fun j u hj=>?_) (fun j u hj=>?_)
 ·obtain⟨h1,_⟩:=hlen j u hj
  obtain⟨k1,k2⟩:=hat (j / 2) (by omega)
  by_cases hm:j % 2=0
  ·have e:Bx j=(accLo (j / 2):Int):=by unfold Bx;rw[if_pos hm]
   have ej:j=2*(j / 2):=by omega
   rw[e,<- k1,<- ej]
  ·have e:Bx j=(accHi (j / 2):Int):=by unfold Bx;rw[if_neg hm]
   have ej:j=2*(j / 2)+1:=by omega
   rw[e,<- k2,<- ej]
 ·obtain⟨_,rfl⟩:=hlen j u hj
  exact .int _ _
def zK : Tryz.prog.globalNamed "errors.errorType" = some 0 := by kernel_rfl
def Qu : (Tryz.prog.cutTypes.find? (·.1 == "internal/reflectlite.rtype")).map (·.2) = some 167 := by kernel_rfl
def M8:((List.range Tryz.prog.types.size).filter fun t=>Tryz.prog.rowNamed t [101,114,114,111,114])=[73]:=by kernel_rfl
def M9 {W : World} {l : List (String × DataW Unit)} (h : handlesMet Tryz.prog l W) (hm : ("errors.errorType", (Rows.laid_errors_errorType : DataW Unit)) ∈ l) : Is (fun _ => none) (fun _ => False) W zG (.pointer (some ⟨0, 0, none⟩)) := by
 obtain⟨name,u,ty,e1,e2,e3,e4,e5⟩:=h _ hm
 have en:name=[101,114,114,111,114]:=(Option.some.inj e1).symm
 subst en
 obtain rfl:=Option.some.inj (Qu.symm.trans e2)
 have hm:ty∈(List.range Tryz.prog.types.size).filter fun t=>Tryz.prog.rowNamed t [101,114,114,111,114]:=List.mem_filter.2 ⟨List.mem_range.2 e3,e4⟩
 rw[M8]at hm
 obtain rfl:=List.mem_singleton.1 hm
 have hh:typeHandle Tryz.prog 73 = .pointer (some ⟨9,73,none⟩):=by kernel_rfl
 rw[hh]at e5
 have hc:=World.var?_cell zK e5 0
 refine uG (fun _=>.iface 167 (.agg #[.pointer (some ⟨9,73,none⟩)])) (DR zK e5) (fun j u hj=>?_) (fun j u hj=>?_)
 ·cases j with
  | zero=>simpa using hc
  | succ j=>simp at hj
 ·cases j with
  | zero =>
   cases hj
   refine .iface (.agg rfl fun i u cv hi hc=>?_)
   cases i with
   | zero=>cases hi;cases hc;exact .val _
   | succ i=>simp at hi
  | succ j=>simp at hj
def A4 (W : World) (h : laidMetH Tryz.prog [("math/bits.deBruijn32tab", Rows.laid_math_bits_deBruijn32tab), ("math/bits.deBruijn64tab", Rows.laid_math_bits_deBruijn64tab), ("internal/strconv.uint64pow10", Rows.laid_internal_strconv_uint64pow10), ("unicode/utf8.acceptRanges", Rows.laid_unicode_utf8_acceptRanges), ("errors.errorType", Rows.laid_errors_errorType), ("strconv.ErrRange", Rows.laid_strconv_ErrRange), ("strconv.ErrSyntax", Rows.laid_strconv_ErrSyntax), ("unicode/utf8.first", Rows.laid_unicode_utf8_first)] W) (g : Nat) : Is (fun _ => none) (fun _ => False) W (cx.G g) (.pointer (some ⟨g, 0, none⟩)) := by
 obtain⟨h,hx⟩:=laidMetH_iff.1 h
 have r4:=M9 hx (List.mem_filter.2 ⟨.tail _ (.tail _ (.tail _ (.tail _ (.head _)))),rfl⟩)
 rw [show (([("math/bits.deBruijn32tab", Rows.laid_math_bits_deBruijn32tab), ("math/bits.deBruijn64tab", Rows.laid_math_bits_deBruijn64tab), ("internal/strconv.uint64pow10", Rows.laid_internal_strconv_uint64pow10), ("unicode/utf8.acceptRanges", Rows.laid_unicode_utf8_acceptRanges), ("errors.errorType", Rows.laid_errors_errorType), ("strconv.ErrRange", Rows.laid_strconv_ErrRange), ("strconv.ErrSyntax", Rows.laid_strconv_ErrSyntax), ("unicode/utf8.first", Rows.laid_unicode_utf8_first)] : List (String × DataW Unit)).filter fun x => x.2.handleName?.isNone) = [("math/bits.deBruijn32tab", Rows.laid_math_bits_deBruijn32tab), ("math/bits.deBruijn64tab", Rows.laid_math_bits_deBruijn64tab), ("internal/strconv.uint64pow10", Rows.laid_internal_strconv_uint64pow10), ("unicode/utf8.acceptRanges", Rows.laid_unicode_utf8_acceptRanges), ("strconv.ErrRange", Rows.laid_strconv_ErrRange), ("strconv.ErrSyntax", Rows.laid_strconv_ErrSyntax), ("unicode/utf8.first", Rows.laid_unicode_utf8_first)] from rfl] at h
 have r1 := Go.Lib.laidMet.reads h (n := "unicode/utf8.first") (d := Rows.laid_unicode_utf8_first) (.tail _ (.tail _ (.tail _ (.tail _ (.tail _ (.tail _ (.head _)))))))
 have r2 := Go.Lib.laidMet.reads h (n := "unicode/utf8.acceptRanges") (d := Rows.laid_unicode_utf8_acceptRanges) (.tail _ (.tail _ (.tail _ (.head _))))
 have r3 := Go.Lib.laidMet.reads h (n := "internal/strconv.uint64pow10") (d := Rows.laid_internal_strconv_uint64pow10) (.tail _ (.tail _ (.head _)))
 show Is _ _ W (qn g) _
 unfold qn
 split
 ·rename_i e;rw[e];exact IV r1
 ·split
  ·rename_i e;rw[e];exact Pb r2
  ·split
   ·rename_i e;rw[e];exact Ou r3
   ·split
    ·rename_i e;rw[e];exact r4
    ·exact .any _
end Go.Proofs.YtlnlopnpcmahgaaGreatDoor
namespace Go.Proofs.YtlnlopnpcmahgaaGreatDoor.Vm
set_option maxRecDepth 100000
set_option maxHeartbeats 32000000
open Go
def joined_of {P:Program}{f:FuncId}{fn:Func}{s:ChangeSpec}{c:OpenClaim}(h1:laidOutB P=true)(h2:mapsRowed P=true)(h3:(c.inPlace==P.inPlace f)=true)(h4:(c.unfollowed==P.unfollowed f)=true)(h5:(c.recurses==P.recurses f)=true)(h6:(c.named==P.varsNamed f)=true)
  (h7:(c.plainKeys==P.plainKeys)=true) (h8:P.stopsHeard=true) (h9:P.mayEnter=true) (h10:(c.lifted==P.liftsFinal)=true)
  (h11:(c.wf (OpenSpec.ofChange s)&&fn.params.all (P.readableRec ·)&&namedTie P c.named s.vars&&(c.stops==[])&&(P.stops==[])&&(c.knobs==[])&&(P.stopKnobs==[]) &&
   (c.maps==(fn.params.toList++s.plain.varTypes P).any (P.mapsRec ·))&&(c.ifaces==(fn.params.toList++s.plain.varTypes P).any (P.ifacesRec ·))&&(c.mapsOut==P.mapsAmong fn.resultTypes.toList) &&
   (c.loops==(fn.params.toList++s.plain.varTypes P).any (P.loopsFrom ·))&&(c.wideKeys==(fn.params.toList++s.plain.varTypes P++fn.resultTypes.toList).any (P.wideKeysFrom ·)) &&
   s.vars.all (P.varReadable ·)&&fn.resultTypes.all (fun t=>P.readableRec t&&decide (t<P.types.size))&&(c.ifacesOut==fn.resultTypes.toList.any (P.ifacesRec ·))&&(c.loopsOut==fn.resultTypes.toList.any (P.loopsFrom ·))&&c.shortTexts.isNone&&(P.make==some c.make) &&
   (c.kinds==(if c.domain.isEmpty then [] else fn.params.toList.map fun t=>match P.underlying t with|some (.int k)=>some k|_=>none))&&(c.pinned==c.pinnedBy) &&
   (c.veiled==(fn.params.toList++s.plain.varTypes P++fn.resultTypes.toList).any (P.veiledRec ·))&&c.veiledFits P fn.params.toList (fn.params.toList++s.plain.varTypes P++fn.resultTypes.toList))=true):joinedFacts P f fn s c=true:=by
 unfold joinedFacts
 rw[h1,h2,h3,h4,h5,h6,h7,h8,h9,h10]
 simp only[Bool.and_true]at h11 ⊢
 exact h11
end Go.Proofs.YtlnlopnpcmahgaaGreatDoor.Vm
