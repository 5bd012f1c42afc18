/-
  Texts joined: XDe.
-/
import Derived.Lib.LaidU8
import Derived.Lib.ItoaNum
import Derived.Test.YtoaclokiggoeiaaGreatDoorJ3
import Derived.Test.YtoaclokiggoeiaaGreatDoorJd
import Derived.Test.YtoaclokiggoeiaaGreatDoorJf
namespace Go.Proofs.YtoaclokiggoeiaaGreatDoor
set_option linter.unusedSimpArgs false
set_option linter.unusedVariables false
open Go Go.RowKit Go.Lib Go.Proofs.YtoaclokiggoeiaaGreatDoor.Vm
theorem rp_cells {w : World} {g : Nat} {cells : List V} (cv : Nat → Value) (hb : g < w.heap.size) (hc : ∀ (j : Nat) (u : V), cells[j]? = some u → w.cell? ⟨g, j, none⟩ = some (cv j)) (hu : ∀ (j : Nat) (u : V), cells[j]? = some u → Is (fun _ => none) (fun _ => False) w u (cv j)) : Is (fun _ => none) (fun _ => False) w (.rp cells) (.pointer (some ⟨g, 0, none⟩)) :=
  .rp (o := 0) cv (fun h => h) hb (fun j u hj => by rw [Nat.zero_add]; exact hc j u hj) hu
theorem var_lt {P : Program} {w : World} {n : String} {g : Nat} {cs : Array Value} (hg : P.globalNamed n = some g) (hv : w.var? P n = some cs) : g < w.heap.size := by
  unfold World.var? at hv
  rw [hg] at hv
  simp only [Option.bind_some] at hv
  by_cases h : g < w.heap.size
  · exact h
  · exfalso
    have : w.heap[g]? = none := Array.getElem?_eq_none (by omega)
    rw [this] at hv
    simp at hv
theorem tab_is {P : Program} {w : World} {n : String} {g : Nat} {k : IntKind} {zs : List Int} {cs : Array Value} (hg : P.globalNamed n = some g) (hv : w.var? P n = some cs) (hcs : cs.toList = zs.map fun z => Value.int k z) : Is (fun _ => none) (fun _ => False) w (.rp (zs.map fun z => .int k z)) (.pointer (some ⟨g, 0, none⟩)) := by
  refine rp_cells (fun j => .int k (zs.getD j 0)) (var_lt hg hv) (fun j u hj => ?_) (fun j u hj => ?_)
  · rw [List.getElem?_map] at hj
    obtain ⟨z, hz, rfl⟩ := Option.map_eq_some_iff.1 hj
    rw [World.var?_cell hg hv j, ← Array.getElem?_toList, hcs, List.getElem?_map, hz, List.getD_eq_getElem?_getD, hz]
    rfl
  · rw [List.getElem?_map] at hj
    obtain ⟨z, hz, rfl⟩ := Option.map_eq_some_iff.1 hj
    rw [List.getD_eq_getElem?_getD, hz]
    exact .int _ _
theorem first_is {W : World} (h : VarReads Tryz.prog W "unicode/utf8.first" Rows.laid_unicode_utf8_first) : Is (fun _ => none) (fun _ => False) W firstV (.pointer (some ⟨1, 0, none⟩)) := by
  rw [first_eq] at h
  obtain ⟨g, t, cs, fuel, p, hg, ht, hv, hd⟩ := h
  obtain rfl := Option.some.inj ((show Tryz.prog.globalNamed "unicode/utf8.first" = some 1 by kernel_rfl).symm.trans hg)
  obtain rfl := Option.some.inj ((show (Tryz.prog.globals[1]?).map (·.type) = some 157 by kernel_rfl).symm.trans ht)
  have hcs := cells_of_tab (show Tryz.prog.underlying 157 = some (.array 256 5) by kernel_rfl) (show Tryz.prog.underlying 5 = some (.int .u8) by kernel_rfl) (by kernel_rfl) (by kernel_rfl) hd
  exact tab_is hg hv hcs
theorem tens_is {W : World} (h : VarReads Tryz.prog W "internal/strconv.uint64pow10" Rows.laid_internal_strconv_uint64pow10) : Is (fun _ => none) (fun _ => False) W tensV (.pointer (some ⟨5, 0, none⟩)) := by
  have e : (Rows.laid_internal_strconv_uint64pow10 : DataW Unit) = tabData .u64 pow10Tab := by kernel_rfl
  rw [e] at h
  obtain ⟨g, t, cs, fuel, p, hg, ht, hv, hd⟩ := h
  obtain rfl := Option.some.inj ((show Tryz.prog.globalNamed "internal/strconv.uint64pow10" = some 5 by kernel_rfl).symm.trans hg)
  obtain rfl := Option.some.inj ((show (Tryz.prog.globals[5]?).map (·.type) = some 180 by kernel_rfl).symm.trans ht)
  have hcs := cells_of_tab (show Tryz.prog.underlying 180 = some (.array 20 143) by kernel_rfl) (show Tryz.prog.underlying 143 = some (.int .u64) by kernel_rfl) (by kernel_rfl) (by kernel_rfl) hd
  exact tab_is hg hv hcs
noncomputable def accFs : Array Field := match Tryz.prog.underlying 159 with
  | some (.struct fs) => fs
  | _ => #[]
theorem accFs_is : Tryz.prog.underlying 159 = some (.struct accFs) := by kernel_rfl
theorem accFs_size : accFs.size = 2 := by kernel_rfl
theorem accFs_all : (accFs.toList.zipIdx.all fun p => decide (p.1.type = 5) && decide (p.1.offset = p.2)) = true := by kernel_rfl
def accZ (j : Nat) : Int := if j % 2 = 0 then (accLo (j / 2) : Int) else (accHi (j / 2) : Int)
theorem acc_is {W : World} (h : VarReads Tryz.prog W "unicode/utf8.acceptRanges" Rows.laid_unicode_utf8_acceptRanges) : Is (fun _ => none) (fun _ => False) W accV (.pointer (some ⟨2, 0, none⟩)) := by
  rw [accept_eq] at h
  obtain ⟨g, t, cs, fuel, p, hg, ht, hv, hd⟩ := h
  obtain rfl := Option.some.inj ((show Tryz.prog.globalNamed "unicode/utf8.acceptRanges" = some 2 by kernel_rfl).symm.trans hg)
  obtain rfl := Option.some.inj ((show (Tryz.prog.globals[2]?).map (·.type) = some 160 by kernel_rfl).symm.trans ht)
  have c2 : Tryz.prog.cellsOf 159 = 2 := by kernel_rfl
  have c1 : Tryz.prog.cellsOf 5 = 1 := by kernel_rfl
  have hat : ∀ i, i < 16 → W.cell? ⟨2, 2 * i, none⟩ = some (.int .u8 (accLo i)) ∧ W.cell? ⟨2, 2 * i + 1, none⟩ = some (.int .u8 (accHi i)) := by
    intro i hi
    obtain ⟨fuel', d, q, hdi, he⟩ := array_elem (show Tryz.prog.underlying 160 = some (.array 16 159) by kernel_rfl) hd i hi
    simp only [List.getElem?_map,List.getElem?_range hi,Option.map_some,Option.some.injEq] at hdi
    subst hdi
    rw [c2] at he
    have hcs := ints_of_struct accFs_is (k := .u8) (fun j f hj => by
      have h1 := accFs_all
      rw [List.all_eq_true] at h1
      have h2 := h1 (f, j) (by rw [List.mem_zipIdx_iff_getElem?]; simpa using hj)
      simp only [Bool.and_eq_true,decide_eq_true_eq] at h2
      rw [h2.1]
      exact ⟨by kernel_rfl, h2.2, c1⟩) (by rw [c2, accFs_size]) he
    have e0 := congrArg (·[0]?) hcs
    have e1 := congrArg (·[1]?) hcs
    simp only [List.getElem?_take,List.getElem?_drop] at e0 e1
    constructor
    · rw [World.var?_cell hg hv (2 * i), ← Array.getElem?_toList]
      simpa [Nat.mul_comm] using e0
    · rw [World.var?_cell hg hv (2 * i + 1), ← Array.getElem?_toList]
      simpa [Nat.mul_comm] using e1
  have hlen : ∀ (j : Nat) (u : V), ((List.range 16).flatMap fun i => [V.int .u8 (accLo i), .int .u8 (accHi i)])[j]? = some u → j < 32 ∧ u = .int .u8 (accZ j) := by
    intro j u hj
    have hlt : j < 32 := (List.getElem?_eq_some_iff.1 hj).1
    refine ⟨hlt, ?_⟩
    have key : ∀ j : Fin 32, ((List.range 16).flatMap fun i => [(accLo i : Int), (accHi i : Int)])[j.val]? = some (accZ j.val) := by decide +kernel
    have hm : ((List.range 16).flatMap fun i => [V.int .u8 (accLo i), .int .u8 (accHi i)]) = ((List.range 16).flatMap fun i => [(accLo i : Int), (accHi i : Int)]).map fun z => V.int .u8 z := by
      rw [List.map_flatMap]; rfl
    rw [hm, List.getElem?_map, key ⟨j, hlt⟩] at hj
    simp only [Option.map_some,Option.some.injEq] at hj
    exact hj.symm
  refine rp_cells (fun j => .int .u8 (accZ j)) (var_lt hg hv) (fun j u hj => ?_) (fun j u hj => ?_)
  · obtain ⟨h1, _⟩ := hlen j u hj
    obtain ⟨k1, k2⟩ := hat (j / 2) (by omega)
    by_cases hm : j % 2 = 0
    · have e : accZ j = (accLo (j / 2) : Int) := by unfold accZ; rw [if_pos hm]
      have ej : j = 2 * (j / 2) := by omega
      rw [e, ← k1, ← ej]
    · have e : accZ j = (accHi (j / 2) : Int) := by unfold accZ; rw [if_neg hm]
      have ej : j = 2 * (j / 2) + 1 := by omega
      rw [e, ← k2, ← ej]
  · obtain ⟨_, rfl⟩ := hlen j u hj
    exact .int _ _
theorem tabs_met (W : World) (h : laidMetH Tryz.prog [("math/bits.deBruijn32tab", Rows.laid_math_bits_deBruijn32tab), ("math/bits.deBruijn64tab", Rows.laid_math_bits_deBruijn64tab), ("internal/strconv.uint64pow10", Rows.laid_internal_strconv_uint64pow10), ("unicode/utf8.acceptRanges", Rows.laid_unicode_utf8_acceptRanges), ("strconv.ErrRange", Rows.laid_strconv_ErrRange), ("strconv.ErrSyntax", Rows.laid_strconv_ErrSyntax), ("unicode/utf8.first", Rows.laid_unicode_utf8_first)] W) (g : Nat) : Is (fun _ => none) (fun _ => False) W (cx.G g) (.pointer (some ⟨g, 0, none⟩)) := by
  rw [MakeChecks.laidMetH_plain _ _ _ (by kernel_rfl)] at h
  have r1 := Go.Lib.laidMet.reads h (n := "unicode/utf8.first") (d := Rows.laid_unicode_utf8_first) (.tail _ (.tail _ (.tail _ (.tail _ (.tail _ (.tail _ (.head _)))))))
  have r2 := Go.Lib.laidMet.reads h (n := "unicode/utf8.acceptRanges") (d := Rows.laid_unicode_utf8_acceptRanges) (.tail _ (.tail _ (.tail _ (.head _))))
  have r3 := Go.Lib.laidMet.reads h (n := "internal/strconv.uint64pow10") (d := Rows.laid_internal_strconv_uint64pow10) (.tail _ (.tail _ (.head _)))
  show Is _ _ W (tabsG g) _
  unfold tabsG
  split
  · rename_i e; rw [e]; exact first_is r1
  · split
    · rename_i e; rw [e]; exact acc_is r2
    · split
      · rename_i e; rw [e]; exact tens_is r3
      · exact .any _
end Go.Proofs.YtoaclokiggoeiaaGreatDoor
