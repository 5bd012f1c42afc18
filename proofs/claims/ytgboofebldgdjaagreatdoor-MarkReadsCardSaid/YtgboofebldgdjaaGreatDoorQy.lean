/-
 Texts joined: XDg,XDh,XRe.
-/
import Derived.Test.YtgboofebldgdjaaGreatDoorCards
import Derived.Test.YtgboofebldgdjaaGreatDoorTie
import Derived.Lib.LaidIn
import Derived.Deep.DeepWitnessRowRef
import Derived.ProofKit
import Derived.ShutString
import Derived.LaidHandle
import Derived.LaidSub
import Derived.ChangeVars
import Derived.JoinedCond
import Derived.Test.YtgboofebldgdjaaGreatDoorQf
set_option linter.all false
namespace Go.Proofs.YtgboofebldgdjaaGreatDoor
set_option maxRecDepth 100000
set_option maxHeartbeats 32000000
open Go Go.RowKit Go.Lib
def own:ownKnob Tryz.prog.godebug=none:=Y7
def yq:(Rows.laid_unicode_utf8_acceptRanges:DataW Unit)=Lib.acceptData:=Y7
def CF:Rows.laid_unicode_utf8_first=Lib.firstData:=Y7
def Bw:DataW Unit->List Value
 | .agg l=>l.filterMap fun | .lit (.int k n)=>some (.int k n)|_=>none
 | _=>[]
def Hb:DataW Unit->ZA
 | .iface _ (.ptr (.agg [.lit (.string s)]))=>s
 | _=>[]
noncomputable def jg (os:Os):World :=
 let w0:=World.holding Tryz.prog os ⟨#[],#[],[]⟩
 let put (h:Array Obj) (g:Nat) (cs:ZG):Array Obj:=h.modify g fun
  | .cells _ t frozen=>.cells cs t frozen
  | o=>o
 let h1:=put w0.heap 2 (Lib.firstTab.map fun z=>Value.int .u8 z).toArray
 let h2:=put h1 3 ((List.range 16).flatMap fun i=>[Value.int .u8 (Lib.accLo i),Value.int .u8 (Lib.accHi i)]).toArray
 let h3:=put h2 7 (Bw Rows.laid_math_bits_deBruijn32tab).toArray
 let h4:=put h3 8 (Bw Rows.laid_math_bits_deBruijn64tab).toArray
 let h5:=put h4 4 (Bw Rows.laid_internal_strconv_uint64pow10).toArray
 let n:=h5.size
 let h6:=put h5 6 #[.iface 286 (.pointer (some ⟨n,0,none⟩))]
 let h7:=put h6 5 #[.iface 286 (.pointer (some ⟨n+1,0,none⟩))]
 let h8:=put h7 0 #[.iface 150 (.agg #[.pointer (some ⟨9,51,none⟩)])]
 { w0 with heap:=(h8.push (.cells #[.string ⟨(Hb Rows.laid_strconv_ErrRange).toArray⟩] 288 (0,0))).push (.cells #[.string ⟨(Hb Rows.laid_strconv_ErrSyntax).toArray⟩] 288 (0,0)) }
def MR (os : Os) (args : ZG) : laidMetH Tryz.prog [("math/bits.deBruijn32tab", Rows.laid_math_bits_deBruijn32tab), ("math/bits.deBruijn64tab", Rows.laid_math_bits_deBruijn64tab), ("internal/strconv.uint64pow10", Rows.laid_internal_strconv_uint64pow10), ("unicode/utf8.acceptRanges", Rows.laid_unicode_utf8_acceptRanges), ("errors.errorType", Rows.laid_errors_errorType), ("strconv.ErrRange", Rows.laid_strconv_ErrRange), ("strconv.ErrSyntax", Rows.laid_strconv_ErrSyntax), ("unicode/utf8.first", Rows.laid_unicode_utf8_first)] ((jg os).forCall (fun _ _ => 0) ⟨#[], args, []⟩).memory := by
 refine laidMetH_of_parts ?_ (by kernel_rfl)
 rw [show (([("math/bits.deBruijn32tab", Rows.laid_math_bits_deBruijn32tab), ("math/bits.deBruijn64tab", Rows.laid_math_bits_deBruijn64tab), ("internal/strconv.uint64pow10", Rows.laid_internal_strconv_uint64pow10), ("unicode/utf8.acceptRanges", Rows.laid_unicode_utf8_acceptRanges), ("errors.errorType", Rows.laid_errors_errorType), ("strconv.ErrRange", Rows.laid_strconv_ErrRange), ("strconv.ErrSyntax", Rows.laid_strconv_ErrSyntax), ("unicode/utf8.first", Rows.laid_unicode_utf8_first)] : List (String × DataW Unit)).filter fun x => x.2.handleName?.isNone) = [("math/bits.deBruijn32tab", Rows.laid_math_bits_deBruijn32tab), ("math/bits.deBruijn64tab", Rows.laid_math_bits_deBruijn64tab), ("internal/strconv.uint64pow10", Rows.laid_internal_strconv_uint64pow10), ("unicode/utf8.acceptRanges", Rows.laid_unicode_utf8_acceptRanges), ("strconv.ErrRange", Rows.laid_strconv_ErrRange), ("strconv.ErrSyntax", Rows.laid_strconv_ErrSyntax), ("unicode/utf8.first", Rows.laid_unicode_utf8_first)] from rfl]
 rw[yq,CF]
 exact (LaidIn.of_run (l := [("math/bits.deBruijn32tab", Rows.laid_math_bits_deBruijn32tab), ("math/bits.deBruijn64tab", Rows.laid_math_bits_deBruijn64tab), ("internal/strconv.uint64pow10", Rows.laid_internal_strconv_uint64pow10), ("unicode/utf8.acceptRanges", Lib.acceptData), ("strconv.ErrRange", Rows.laid_strconv_ErrRange), ("strconv.ErrSyntax", Rows.laid_strconv_ErrSyntax), ("unicode/utf8.first", Lib.firstData)]) (((jg os).heap.size) :: ((jg os).heap.size + 1) :: ((jg os).heap.size - 1) :: ((jg os).heap.size - 2) :: [7, 8, 4, 3, 6, 5, 2]) 8 (by kernel_rfl) (by kernel_rfl) (by kernel_rfl) (by kernel_rfl)).met
set_option maxRecDepth 100000
set_option maxHeartbeats 32000000
open Go Go.RowKit Vm Go.Lib Tryz
def wP {w:World}{g:Nat}{cells:List V}(cv:Nat->Value)(hb:g<w.heap.size)(hc:∀(j:Nat) (u:V),cells[j]? = some u->w.cell? ⟨g,j,none⟩=some (cv j))(hu:∀(j:Nat) (u:V),cells[j]? = some u->Is (fun _=>none) (fun _=>False) w u (cv j)):Is (fun _=>none) (fun _=>False) w (.rp cells) (.pointer (some ⟨g,0,none⟩)) :=
 .rp (o:=0) cv (fun h=>h) hb (fun j u hj=>by rw[We];exact hc j u hj) hu
def GP {P:Program}{w:World}{n:String}{g:Nat}{cs:ZG}(hg:P.globalNamed n=some g)(hv:w.var? P n=some cs):g<w.heap.size:=by
 unfold World.var? at hv
 rw[hg]at hv
 simp only[Option.bind_some]at hv
 by_cases h:g<w.heap.size
 ·exact h
 ·exfalso
  have:w.heap[g]? = none:=Ys Y6
  rw[this]at hv
  simp at hv
def OD {P:Program}{w:World}{n:String}{g:Nat}{k:IntKind}{zs:List Int}{cs:ZG}(hg:P.globalNamed n=some g)(hv:w.var? P n=some cs)(hcs:cs.toList=zs.map fun z=>Value.int k z):Is (fun _=>none) (fun _=>False) w (.rp (zs.map fun z=>.int k z)) (.pointer (some ⟨g,0,none⟩)):=by
 refine wP (fun j=>.int k (zs.getD j 0)) (GP hg hv) (fun j u hj=>?_) (fun j u hj=>?_)
 ·rw[WG]at hj
  obtain⟨z,hz,rfl⟩:=BY.1 hj
  rw[World.var?_cell hg hv j,<- XE,hcs,WG,hz,XB,hz]
  rfl
 ·rw[WG]at hj
  obtain⟨z,hz,rfl⟩:=BY.1 hj
  rw[XB,hz]
  exact .int _ _
def Ma {W : World} (h : VarReads Tryz.prog W "unicode/utf8.first" Rows.laid_unicode_utf8_first) : Is (fun _ => none) (fun _ => False) W Fj (.pointer (some ⟨2, 0, none⟩)) := by
 rw[CF]at h
 obtain⟨g,t,cs,fuel,p,hg,ht,hv,hd⟩:=h
 obtain rfl := Ww ((show Tryz.prog.globalNamed "unicode/utf8.first" = some 2 by kernel_rfl).symm.trans hg)
 obtain rfl:=Ww ((show(Tryz.prog.globals[2]?).map (·.type)=some 264 by kernel_rfl).symm.trans ht)
 have hcs:=cells_of_tab (show Tryz.prog.underlying 264=some (.array 256 5) by kernel_rfl) (show Tryz.prog.underlying 5=some (.int .u8) by kernel_rfl) (by kernel_rfl) (by kernel_rfl) hd
 exact OD hg hv hcs
def Ry {W : World} (h : VarReads Tryz.prog W "internal/strconv.uint64pow10" Rows.laid_internal_strconv_uint64pow10) : Is (fun _ => none) (fun _ => False) W OK (.pointer (some ⟨4, 0, none⟩)) := by
 have e:(Rows.laid_internal_strconv_uint64pow10:DataW Unit)=tabData .u64 pow10Tab:=Y7
 rw[e]at h
 obtain⟨g,t,cs,fuel,p,hg,ht,hv,hd⟩:=h
 obtain rfl := Ww ((show Tryz.prog.globalNamed "internal/strconv.uint64pow10" = some 4 by kernel_rfl).symm.trans hg)
 obtain rfl:=Ww ((show(Tryz.prog.globals[4]?).map (·.type)=some 271 by kernel_rfl).symm.trans ht)
 have hcs:=cells_of_tab (show Tryz.prog.underlying 271=some (.array 20 248) by kernel_rfl) (show Tryz.prog.underlying 248=some (.int .u64) by kernel_rfl) (by kernel_rfl) (by kernel_rfl) hd
 exact OD hg hv hcs
noncomputable def Lj:Array Field:=match Tryz.prog.underlying 266 with
 | some (.struct fs)=>fs
 | _=>#[]
def Ll:Tryz.prog.underlying 266=some (.struct Lj):=Y7
def Eu:Lj.size=2:=Y7
def HS:(Lj.toList.zipIdx.all fun p=>decide (p.1.type=5)&&decide (p.1.offset=p.2))=true:=Y7
def Ew (j:Nat):Int:=if j % 2=0 then (accLo (j / 2):Int) else (accHi (j / 2):Int)
def Se {W : World} (h : VarReads Tryz.prog W "unicode/utf8.acceptRanges" Rows.laid_unicode_utf8_acceptRanges) : Is (fun _ => none) (fun _ => False) W Sd (.pointer (some ⟨3, 0, none⟩)) := by
 rw[yq]at h
 obtain⟨g,t,cs,fuel,p,hg,ht,hv,hd⟩:=h
 obtain rfl := Ww ((show Tryz.prog.globalNamed "unicode/utf8.acceptRanges" = some 3 by kernel_rfl).symm.trans hg)
 obtain rfl:=Ww ((show(Tryz.prog.globals[3]?).map (·.type)=some 267 by kernel_rfl).symm.trans ht)
 have c2:Tryz.prog.cellsOf 266=2:=Y7
 have c1:Tryz.prog.cellsOf 5=1:=Y7
 have hat:∀ i,i<16->W.cell? ⟨3,2*i,none⟩=some (.int .u8 (accLo i))/\W.cell? ⟨3,2*i+1,none⟩=some (.int .u8 (accHi i)):=by
  intro i hi
  obtain⟨fuel',d,q,hdi,he⟩:=array_elem (show Tryz.prog.underlying 267=some (.array 16 266) by kernel_rfl) hd i hi
  simp only[WG,YY hi,Option.map_some,WO]at hdi
  subst hdi
  rw[c2]at he
  have hcs:=ints_of_struct Ll (k:=.u8) (fun j f hj=>by
   have h1:=HS
   rw[WI]at h1
   have h2:=h1 (f,j) (by rw[Xn];simpa using hj)
   simp only[In,WD]at h2
   rw[h2.1]
   exact⟨by kernel_rfl,h2.2,c1⟩) (by rw[c2,Eu]) he
  have e0:=congrArg (·[0]?) hcs
  have e1:=congrArg (·[1]?) hcs
  simp only[XI,Wr]at e0 e1
  constructor
  ·rw[World.var?_cell hg hv (2*i),<- XE]
   simpa [YC] using e0
  ·rw[World.var?_cell hg hv (2*i+1),<- XE]
   simpa [YC] using e1
 have hlen:∀(j:Nat) (u:V),((List.range 16).flatMap fun i=>[V.int .u8 (accLo i),.int .u8 (accHi i)])[j]? = some u->j<32/\u = .int .u8 (Ew j):=by
  intro j u hj
  have hlt:j<32:=(AS.1 hj).1
  refine⟨hlt,?_⟩
  have key:∀ j:Fin 32,((List.range 16).flatMap fun i=>[(accLo i:Int),(accHi i:Int)])[j.val]? = some (Ew j.val):=ZJ
  have hm:((List.range 16).flatMap fun i=>[V.int .u8 (accLo i),.int .u8 (accHi i)])=((List.range 16).flatMap fun i=>[(accLo i:Int),(accHi i:Int)]).map fun z=>V.int .u8 z:=by
   rw[List.map_flatMap];rfl
  rw[hm,WG,key ⟨j,hlt⟩]at hj
  simp only[Option.map_some,WO]at hj
  exact hj.symm
 refine wP (fun j=>.int .u8 (Ew j)) (GP hg hv) (fun j u hj=>?_) (fun j u hj=>?_)
 ·obtain⟨h1,_⟩:=hlen j u hj
  obtain⟨k1,k2⟩:=hat (j / 2) Y6
  by_cases hm:j % 2=0
  ·have e:Ew j=(accLo (j / 2):Int):=by unfold Ew;rw[if_pos hm]
   have ej:j=2*(j / 2):=Y6
   rw[e,<- k1,<- ej]
  ·have e:Ew j=(accHi (j / 2):Int):=by unfold Ew;rw[if_neg hm]
   have ej:j=2*(j / 2)+1:=Y6
   rw[e,<- k2,<- ej]
 ·obtain⟨_,rfl⟩:=hlen j u hj
  exact .int _ _
def Cy : Tryz.prog.globalNamed "errors.errorType" = some 0 := by kernel_rfl
def Tz : (Tryz.prog.cutTypes.find? (·.1 == "internal/reflectlite.rtype")).map (·.2) = some 150 := by kernel_rfl
def Qk:((List.range Tryz.prog.types.size).filter fun t=>Tryz.prog.rowNamed t [101,114,114,111,114])=[51]:=Y7
def Ql {W : World} {l : List (String × DataW Unit)} (h : handlesMet Tryz.prog l W) (hm : ("errors.errorType", (Rows.laid_errors_errorType : DataW Unit)) ∈ l) : Is (fun _ => none) (fun _ => False) W Cu (.pointer (some ⟨0, 0, none⟩)) := by
 obtain⟨name,u,ty,e1,e2,e3,e4,e5⟩:=h _ hm
 have en:name=[101,114,114,111,114]:=(Ww e1).symm
 subst en
 obtain rfl:=Ww (Tz.symm.trans e2)
 have hm:ty∈(List.range Tryz.prog.types.size).filter fun t=>Tryz.prog.rowNamed t [101,114,114,111,114]:=YM.2 ⟨List.mem_range.2 e3,e4⟩
 rw[Qk]at hm
 obtain rfl:=WW.1 hm
 have hh:typeHandle Tryz.prog 51 = .pointer (some ⟨9,51,none⟩):=Y7
 rw[hh]at e5
 have hc:=World.var?_cell Cy e5 0
 refine wP (fun _=>.iface 150 (.agg #[.pointer (some ⟨9,51,none⟩)])) (GP Cy e5) (fun j u hj=>?_) (fun j u hj=>?_)
 ·cases j with
  | zero=>simpa using hc
  | succ j=>simp at hj
 ·cases j with
  | zero =>
   cases hj
   refine .iface (.agg rfl fun i u cv hi hc=>?_)
   cases i with
   | zero=>cases hi;cases hc;exact .val _
   | succ i=>simp at hi
  | succ j=>simp at hj
def OE (W : World) (h : laidMetH Tryz.prog [("math/bits.deBruijn32tab", Rows.laid_math_bits_deBruijn32tab), ("math/bits.deBruijn64tab", Rows.laid_math_bits_deBruijn64tab), ("internal/strconv.uint64pow10", Rows.laid_internal_strconv_uint64pow10), ("unicode/utf8.acceptRanges", Rows.laid_unicode_utf8_acceptRanges), ("errors.errorType", Rows.laid_errors_errorType), ("strconv.ErrRange", Rows.laid_strconv_ErrRange), ("strconv.ErrSyntax", Rows.laid_strconv_ErrSyntax), ("unicode/utf8.first", Rows.laid_unicode_utf8_first)] W) (g : Nat) : Is (fun _ => none) (fun _ => False) W (cx.G g) (.pointer (some ⟨g, 0, none⟩)) := by
 obtain⟨h,hx⟩:=laidMetH_iff.1 h
 have r4:=Ql hx (YM.2 ⟨.tail _ (.tail _ (.tail _ (.tail _ (.head _)))),rfl⟩)
 rw [show (([("math/bits.deBruijn32tab", Rows.laid_math_bits_deBruijn32tab), ("math/bits.deBruijn64tab", Rows.laid_math_bits_deBruijn64tab), ("internal/strconv.uint64pow10", Rows.laid_internal_strconv_uint64pow10), ("unicode/utf8.acceptRanges", Rows.laid_unicode_utf8_acceptRanges), ("errors.errorType", Rows.laid_errors_errorType), ("strconv.ErrRange", Rows.laid_strconv_ErrRange), ("strconv.ErrSyntax", Rows.laid_strconv_ErrSyntax), ("unicode/utf8.first", Rows.laid_unicode_utf8_first)] : List (String × DataW Unit)).filter fun x => x.2.handleName?.isNone) = [("math/bits.deBruijn32tab", Rows.laid_math_bits_deBruijn32tab), ("math/bits.deBruijn64tab", Rows.laid_math_bits_deBruijn64tab), ("internal/strconv.uint64pow10", Rows.laid_internal_strconv_uint64pow10), ("unicode/utf8.acceptRanges", Rows.laid_unicode_utf8_acceptRanges), ("strconv.ErrRange", Rows.laid_strconv_ErrRange), ("strconv.ErrSyntax", Rows.laid_strconv_ErrSyntax), ("unicode/utf8.first", Rows.laid_unicode_utf8_first)] from rfl] at h
 have r1 := Go.Lib.laidMet.reads h (n := "unicode/utf8.first") (d := Rows.laid_unicode_utf8_first) (.tail _ (.tail _ (.tail _ (.tail _ (.tail _ (.tail _ (.head _)))))))
 have r2 := Go.Lib.laidMet.reads h (n := "unicode/utf8.acceptRanges") (d := Rows.laid_unicode_utf8_acceptRanges) (.tail _ (.tail _ (.tail _ (.head _))))
 have r3 := Go.Lib.laidMet.reads h (n := "internal/strconv.uint64pow10") (d := Rows.laid_internal_strconv_uint64pow10) (.tail _ (.tail _ (.head _)))
 show Is _ _ W (rX g) _
 unfold rX
 split
 ·rename_i e;rw[e];exact Ma r1
 ·split
  ·rename_i e;rw[e];exact Se r2
  ·split
   ·rename_i e;rw[e];exact Ry r3
   ·split
    ·rename_i e;rw[e];exact r4
    ·exact .any _
end Go.Proofs.YtgboofebldgdjaaGreatDoor
namespace Go.Proofs.YtgboofebldgdjaaGreatDoor.Vm
set_option maxRecDepth 100000
set_option maxHeartbeats 32000000
open Go
def joined_of {P:Program}{f:FuncId}{fn:Func}{s:ChangeSpec}{c:OpenClaim}(h1:laidOutB P=true)(h2:mapsRowed P=true)(h3:(c.inPlace==P.inPlace f)=true)(h4:(c.unfollowed==P.unfollowed f)=true)(h5:(c.recurses==P.recurses f)=true)(h6:(c.named==P.varsNamed f)=true)
  (h7:(c.plainKeys==P.plainKeys)=true) (h8:P.stopsHeard=true) (h9:P.mayEnter=true) (h10:(c.lifted==P.liftsFinal)=true)
  (h11:(c.wf (OpenSpec.ofChange s)&&fn.params.all (P.readableRec ·)&&namedTie P c.named s.vars&&(c.stops==[])&&(P.stops==[])&&(c.knobs==[])&&(P.stopKnobs==[]) &&
   (c.maps==(fn.params.toList++s.plain.varTypes P).any (P.mapsRec ·))&&(c.ifaces==(fn.params.toList++s.plain.varTypes P).any (P.ifacesRec ·))&&(c.mapsOut==P.mapsAmong fn.resultTypes.toList) &&
   (c.loops==(fn.params.toList++s.plain.varTypes P).any (P.loopsFrom ·))&&(c.wideKeys==(fn.params.toList++s.plain.varTypes P++fn.resultTypes.toList).any (P.wideKeysFrom ·)) &&
   s.vars.all (P.varReadable ·)&&fn.resultTypes.all (fun t=>P.readableRec t&&decide (t<P.types.size))&&(c.ifacesOut==fn.resultTypes.toList.any (P.ifacesRec ·))&&(c.loopsOut==fn.resultTypes.toList.any (P.loopsFrom ·))&&c.shortTexts.isNone&&(P.make==some c.make) &&
   (c.kinds==(if c.domain.isEmpty then [] else fn.params.toList.map fun t=>match P.underlying t with|some (.int k)=>some k|_=>none))&&(c.pinned==c.pinnedBy) &&
   (c.veiled==(fn.params.toList++s.plain.varTypes P++fn.resultTypes.toList).any (P.veiledRec ·))&&c.veiledFits P fn.params.toList (fn.params.toList++s.plain.varTypes P++fn.resultTypes.toList))=true):joinedFacts P f fn s c=true:=by
 unfold joinedFacts
 rw[h1,h2,h3,h4,h5,h6,h7,h8,h9,h10]
 simp only[Wz]at h11 ⊢
 exact h11
end Go.Proofs.YtgboofebldgdjaaGreatDoor.Vm
