/-
  Texts joined: XDb, XDe, XPc.
-/
import Derived.Test.YtoaclokiggoeiaaGreatDoorCards
import Derived.Test.YtoaclokiggoeiaaGreatDoorTie
import Derived.Lib.LaidIn
import Derived.Lib.LaidU8
import Derived.Deep.DeepHandedRow
import Derived.Deep.DeepWitnessRowRef
import Derived.ProofKit
import Derived.OpenShut
import Derived.ShutString
import Derived.ChangeOld
import Derived.Lib.ItoaNum
import Derived.Test.YtoaclokiggoeiaaGreatDoorMl
namespace Go.Proofs.YtoaclokiggoeiaaGreatDoor
set_option maxRecDepth 100000
set_option maxHeartbeats 32000000
set_option linter.unusedSimpArgs false
set_option linter.unusedVariables false
open Go Go.RowKit Go.Lib
theorem own : ownKnob Tryz.prog.godebug = none := by kernel_rfl
theorem accept_eq : (Rows.laid_unicode_utf8_acceptRanges : DataW Unit) = Lib.acceptData := by kernel_rfl
theorem first_eq : Rows.laid_unicode_utf8_first = Lib.firstData := by kernel_rfl
def tabVals : DataW Unit → List Value
  | .agg l => l.filterMap fun | .lit (.int k n) => some (.int k n) | _ => none
  | _ => []
def errText : DataW Unit → List UInt8
  | .iface _ (.ptr (.agg [.lit (.string s)])) => s
  | _ => []
noncomputable def laidWorld (os : Os) : World :=
  let w0 := World.holding Tryz.prog os ⟨#[], #[], []⟩
  let put (h : Array Obj) (g : Nat) (cs : Array Value) : Array Obj := h.modify g fun
    | .cells _ t frozen => .cells cs t frozen
    | o => o
  let h1 := put w0.heap 1 (Lib.firstTab.map fun z => Value.int .u8 z).toArray
  let h2 := put h1 2 ((List.range 16).flatMap fun i => [Value.int .u8 (Lib.accLo i), Value.int .u8 (Lib.accHi i)]).toArray
  let h3 := put h2 6 (tabVals Rows.laid_math_bits_deBruijn32tab).toArray
  let h4 := put h3 7 (tabVals Rows.laid_math_bits_deBruijn64tab).toArray
  let h5 := put h4 5 (tabVals Rows.laid_internal_strconv_uint64pow10).toArray
  let n := h5.size
  let h6 := put h5 4 #[.iface 170 (.pointer (some ⟨n, 0, none⟩))]
  let h7 := put h6 3 #[.iface 170 (.pointer (some ⟨n + 1, 0, none⟩))]
  { w0 with heap := (h7.push (.cells #[.string ⟨(errText Rows.laid_strconv_ErrRange).toArray⟩] 172 (0, 0))).push (.cells #[.string ⟨(errText Rows.laid_strconv_ErrSyntax).toArray⟩] 172 (0, 0)) }
theorem laid_met (os : Os) (args : Array Value) : laidMet Tryz.prog [("math/bits.deBruijn32tab", Rows.laid_math_bits_deBruijn32tab), ("math/bits.deBruijn64tab", Rows.laid_math_bits_deBruijn64tab), ("internal/strconv.uint64pow10", Rows.laid_internal_strconv_uint64pow10), ("unicode/utf8.acceptRanges", Rows.laid_unicode_utf8_acceptRanges), ("strconv.ErrRange", Rows.laid_strconv_ErrRange), ("strconv.ErrSyntax", Rows.laid_strconv_ErrSyntax), ("unicode/utf8.first", Rows.laid_unicode_utf8_first)] ((laidWorld os).forCall (fun _ _ => 0) ⟨#[], args, []⟩).memory := by
  rw [accept_eq, first_eq]
  exact (LaidIn.of_run (l := [("math/bits.deBruijn32tab", Rows.laid_math_bits_deBruijn32tab), ("math/bits.deBruijn64tab", Rows.laid_math_bits_deBruijn64tab), ("internal/strconv.uint64pow10", Rows.laid_internal_strconv_uint64pow10), ("unicode/utf8.acceptRanges", Lib.acceptData), ("strconv.ErrRange", Rows.laid_strconv_ErrRange), ("strconv.ErrSyntax", Rows.laid_strconv_ErrSyntax), ("unicode/utf8.first", Lib.firstData)]) (((laidWorld os).heap.size) :: ((laidWorld os).heap.size + 1) :: ((laidWorld os).heap.size - 1) :: ((laidWorld os).heap.size - 2) :: [6, 7, 5, 2, 4, 3, 1]) 8 (by kernel_rfl) (by kernel_rfl) (by kernel_rfl) (by kernel_rfl)).met
end Go.Proofs.YtoaclokiggoeiaaGreatDoor
namespace Go.Proofs.YtoaclokiggoeiaaGreatDoor
set_option maxRecDepth 100000
set_option maxHeartbeats 32000000
set_option linter.unusedSimpArgs false
set_option linter.unusedVariables false
open Go Go.RowKit Go.Lib Go.Proofs.YtoaclokiggoeiaaGreatDoor.Vm
theorem rp_cells {w : World} {g : Nat} {cells : List V} (cv : Nat → Value) (hb : g < w.heap.size) (hc : ∀ (j : Nat) (u : V), cells[j]? = some u → w.cell? ⟨g, j, none⟩ = some (cv j)) (hu : ∀ (j : Nat) (u : V), cells[j]? = some u → Is (fun _ => none) (fun _ => False) w u (cv j)) : Is (fun _ => none) (fun _ => False) w (.rp cells) (.pointer (some ⟨g, 0, none⟩)) :=
  .rp (o := 0) cv (fun h => h) hb (fun j u hj => by rw [Nat.zero_add]; exact hc j u hj) hu
theorem var_lt {P : Program} {w : World} {n : String} {g : Nat} {cs : Array Value} (hg : P.globalNamed n = some g) (hv : w.var? P n = some cs) : g < w.heap.size := by
  unfold World.var? at hv
  rw [hg] at hv
  simp only [Option.bind_some] at hv
  by_cases h : g < w.heap.size
  · exact h
  · exfalso
    have : w.heap[g]? = none := Array.getElem?_eq_none (by omega)
    rw [this] at hv
    simp at hv
theorem tab_is {P : Program} {w : World} {n : String} {g : Nat} {k : IntKind} {zs : List Int} {cs : Array Value} (hg : P.globalNamed n = some g) (hv : w.var? P n = some cs) (hcs : cs.toList = zs.map fun z => Value.int k z) : Is (fun _ => none) (fun _ => False) w (.rp (zs.map fun z => .int k z)) (.pointer (some ⟨g, 0, none⟩)) := by
  refine rp_cells (fun j => .int k (zs.getD j 0)) (var_lt hg hv) (fun j u hj => ?_) (fun j u hj => ?_)
  · rw [List.getElem?_map] at hj
    obtain ⟨z, hz, rfl⟩ := Option.map_eq_some_iff.1 hj
    rw [World.var?_cell hg hv j, ← Array.getElem?_toList, hcs, List.getElem?_map, hz, List.getD_eq_getElem?_getD, hz]
    rfl
  · rw [List.getElem?_map] at hj
    obtain ⟨z, hz, rfl⟩ := Option.map_eq_some_iff.1 hj
    rw [List.getD_eq_getElem?_getD, hz]
    exact .int _ _
theorem first_is {W : World} (h : VarReads Tryz.prog W "unicode/utf8.first" Rows.laid_unicode_utf8_first) : Is (fun _ => none) (fun _ => False) W firstV (.pointer (some ⟨1, 0, none⟩)) := by
  rw [first_eq] at h
  obtain ⟨g, t, cs, fuel, p, hg, ht, hv, hd⟩ := h
  obtain rfl := Option.some.inj ((show Tryz.prog.globalNamed "unicode/utf8.first" = some 1 by kernel_rfl).symm.trans hg)
  obtain rfl := Option.some.inj ((show (Tryz.prog.globals[1]?).map (·.type) = some 157 by kernel_rfl).symm.trans ht)
  have hcs := cells_of_tab (show Tryz.prog.underlying 157 = some (.array 256 5) by kernel_rfl) (show Tryz.prog.underlying 5 = some (.int .u8) by kernel_rfl) (by kernel_rfl) (by kernel_rfl) hd
  exact tab_is hg hv hcs
theorem tens_is {W : World} (h : VarReads Tryz.prog W "internal/strconv.uint64pow10" Rows.laid_internal_strconv_uint64pow10) : Is (fun _ => none) (fun _ => False) W tensV (.pointer (some ⟨5, 0, none⟩)) := by
  have e : (Rows.laid_internal_strconv_uint64pow10 : DataW Unit) = tabData .u64 pow10Tab := by kernel_rfl
  rw [e] at h
  obtain ⟨g, t, cs, fuel, p, hg, ht, hv, hd⟩ := h
  obtain rfl := Option.some.inj ((show Tryz.prog.globalNamed "internal/strconv.uint64pow10" = some 5 by kernel_rfl).symm.trans hg)
  obtain rfl := Option.some.inj ((show (Tryz.prog.globals[5]?).map (·.type) = some 180 by kernel_rfl).symm.trans ht)
  have hcs := cells_of_tab (show Tryz.prog.underlying 180 = some (.array 20 143) by kernel_rfl) (show Tryz.prog.underlying 143 = some (.int .u64) by kernel_rfl) (by kernel_rfl) (by kernel_rfl) hd
  exact tab_is hg hv hcs
noncomputable def accFs : Array Field := match Tryz.prog.underlying 159 with
  | some (.struct fs) => fs
  | _ => #[]
theorem accFs_is : Tryz.prog.underlying 159 = some (.struct accFs) := by kernel_rfl
theorem accFs_size : accFs.size = 2 := by kernel_rfl
theorem accFs_all : (accFs.toList.zipIdx.all fun p => decide (p.1.type = 5) && decide (p.1.offset = p.2)) = true := by kernel_rfl
def accZ (j : Nat) : Int := if j % 2 = 0 then (accLo (j / 2) : Int) else (accHi (j / 2) : Int)
theorem acc_is {W : World} (h : VarReads Tryz.prog W "unicode/utf8.acceptRanges" Rows.laid_unicode_utf8_acceptRanges) : Is (fun _ => none) (fun _ => False) W accV (.pointer (some ⟨2, 0, none⟩)) := by
  rw [accept_eq] at h
  obtain ⟨g, t, cs, fuel, p, hg, ht, hv, hd⟩ := h
  obtain rfl := Option.some.inj ((show Tryz.prog.globalNamed "unicode/utf8.acceptRanges" = some 2 by kernel_rfl).symm.trans hg)
  obtain rfl := Option.some.inj ((show (Tryz.prog.globals[2]?).map (·.type) = some 160 by kernel_rfl).symm.trans ht)
  have c2 : Tryz.prog.cellsOf 159 = 2 := by kernel_rfl
  have c1 : Tryz.prog.cellsOf 5 = 1 := by kernel_rfl
  have hat : ∀ i, i < 16 → W.cell? ⟨2, 2 * i, none⟩ = some (.int .u8 (accLo i)) ∧ W.cell? ⟨2, 2 * i + 1, none⟩ = some (.int .u8 (accHi i)) := by
    intro i hi
    obtain ⟨fuel', d, q, hdi, he⟩ := array_elem (show Tryz.prog.underlying 160 = some (.array 16 159) by kernel_rfl) hd i hi
    simp only [List.getElem?_map,List.getElem?_range hi,Option.map_some,Option.some.injEq] at hdi
    subst hdi
    rw [c2] at he
    have hcs := ints_of_struct accFs_is (k := .u8) (fun j f hj => by
      have h1 := accFs_all
      rw [List.all_eq_true] at h1
      have h2 := h1 (f, j) (by rw [List.mem_zipIdx_iff_getElem?]; simpa using hj)
      simp only [Bool.and_eq_true,decide_eq_true_eq] at h2
      rw [h2.1]
      exact ⟨by kernel_rfl, h2.2, c1⟩) (by rw [c2, accFs_size]) he
    have e0 := congrArg (·[0]?) hcs
    have e1 := congrArg (·[1]?) hcs
    simp only [List.getElem?_take,List.getElem?_drop] at e0 e1
    constructor
    · rw [World.var?_cell hg hv (2 * i), ← Array.getElem?_toList]
      simpa [Nat.mul_comm] using e0
    · rw [World.var?_cell hg hv (2 * i + 1), ← Array.getElem?_toList]
      simpa [Nat.mul_comm] using e1
  have hlen : ∀ (j : Nat) (u : V), ((List.range 16).flatMap fun i => [V.int .u8 (accLo i), .int .u8 (accHi i)])[j]? = some u → j < 32 ∧ u = .int .u8 (accZ j) := by
    intro j u hj
    have hlt : j < 32 := (List.getElem?_eq_some_iff.1 hj).1
    refine ⟨hlt, ?_⟩
    have key : ∀ j : Fin 32, ((List.range 16).flatMap fun i => [(accLo i : Int), (accHi i : Int)])[j.val]? = some (accZ j.val) := by decide +kernel
    have hm : ((List.range 16).flatMap fun i => [V.int .u8 (accLo i), .int .u8 (accHi i)]) = ((List.range 16).flatMap fun i => [(accLo i : Int), (accHi i : Int)]).map fun z => V.int .u8 z := by
      rw [List.map_flatMap]; rfl
    rw [hm, List.getElem?_map, key ⟨j, hlt⟩] at hj
    simp only [Option.map_some,Option.some.injEq] at hj
    exact hj.symm
  refine rp_cells (fun j => .int .u8 (accZ j)) (var_lt hg hv) (fun j u hj => ?_) (fun j u hj => ?_)
  · obtain ⟨h1, _⟩ := hlen j u hj
    obtain ⟨k1, k2⟩ := hat (j / 2) (by omega)
    by_cases hm : j % 2 = 0
    · have e : accZ j = (accLo (j / 2) : Int) := by unfold accZ; rw [if_pos hm]
      have ej : j = 2 * (j / 2) := by omega
      rw [e, ← k1, ← ej]
    · have e : accZ j = (accHi (j / 2) : Int) := by unfold accZ; rw [if_neg hm]
      have ej : j = 2 * (j / 2) + 1 := by omega
      rw [e, ← k2, ← ej]
  · obtain ⟨_, rfl⟩ := hlen j u hj
    exact .int _ _
theorem tabs_met (W : World) (h : laidMetH Tryz.prog [("math/bits.deBruijn32tab", Rows.laid_math_bits_deBruijn32tab), ("math/bits.deBruijn64tab", Rows.laid_math_bits_deBruijn64tab), ("internal/strconv.uint64pow10", Rows.laid_internal_strconv_uint64pow10), ("unicode/utf8.acceptRanges", Rows.laid_unicode_utf8_acceptRanges), ("strconv.ErrRange", Rows.laid_strconv_ErrRange), ("strconv.ErrSyntax", Rows.laid_strconv_ErrSyntax), ("unicode/utf8.first", Rows.laid_unicode_utf8_first)] W) (g : Nat) : Is (fun _ => none) (fun _ => False) W (cx.G g) (.pointer (some ⟨g, 0, none⟩)) := by
  rw [MakeChecks.laidMetH_plain _ _ _ (by kernel_rfl)] at h
  have r1 := Go.Lib.laidMet.reads h (n := "unicode/utf8.first") (d := Rows.laid_unicode_utf8_first) (.tail _ (.tail _ (.tail _ (.tail _ (.tail _ (.tail _ (.head _)))))))
  have r2 := Go.Lib.laidMet.reads h (n := "unicode/utf8.acceptRanges") (d := Rows.laid_unicode_utf8_acceptRanges) (.tail _ (.tail _ (.tail _ (.head _))))
  have r3 := Go.Lib.laidMet.reads h (n := "internal/strconv.uint64pow10") (d := Rows.laid_internal_strconv_uint64pow10) (.tail _ (.tail _ (.head _)))
  show Is _ _ W (tabsG g) _
  unfold tabsG
  split
  · rename_i e; rw [e]; exact first_is r1
  · split
    · rename_i e; rw [e]; exact acc_is r2
    · split
      · rename_i e; rw [e]; exact tens_is r3
      · exact .any _
end Go.Proofs.YtoaclokiggoeiaaGreatDoor
namespace Go.Proofs.YtoaclokiggoeiaaGreatDoor
set_option maxRecDepth 100000
set_option maxHeartbeats 32000000
set_option linter.unusedSimpArgs false
set_option linter.unusedVariables false
open Nat renaming reduceAdd → Ka, reduceMul → Kb, reduceEqDiff → Kc, reduceLeDiff → Kd, reduceSub → Ke, reduceLT → Kf, reduceBEq → Kr, reduceBNe → Ks, reducePow → Kt
open Int renaming reduceToNat → Kg, reduceLE → Kh, reduceLT → Ki, reduceAdd → Kj, reduceSub → Kk, reduceMul → Kl, reduceNeg → Km, reduceBEq → Kn, reduceBNe → Ko, reduceEq → Kp, reduceNe → Kq
open Go Go.RowKit Go.Proofs.YtoaclokiggoeiaaGreatDoor.Vm Go.Lib
theorem tok_attrs {t : Tk} (ht : tokL t = true) : t.attrs.length ≤ 16 := by
  unfold tokL at ht
  split at ht
  · simp only [Bool.and_eq_true] at ht
    exact (attrs_iff.1 ht.1.2).1
  · split at ht
    · simp only [Bool.and_eq_true,List.isEmpty_iff] at ht
      rw [ht.1.2]; simp
    · split at ht
      · simp only [Bool.and_eq_true,List.isEmpty_iff] at ht
        rw [ht.1.1.2]; simp
      · cases ht
theorem lex_small (s : List UInt8) : (lexA s).1.length ≤ 512 ∧ ∀ t ∈ (lexA s).1, t.attrs.length ≤ 16 := by
  by_cases h : (lexA s).2.2 = 0
  · obtain ⟨h1, _, h3, _⟩ := (lex_may s).1 h
    exact ⟨h3, fun t ht => tok_attrs (h1 t ht)⟩
  · obtain ⟨h1, _⟩ := (lex_may s).2 h
    rw [h1]
    exact ⟨by simp, fun t ht => by simp at ht⟩
theorem lexTells_main (s : List UInt8) (hs : s.length ≤ lim) (nm : Nat) : Ev cx 3 nm [.str s] Mem.nil (.bool true) [] := by
  have hp := lex_ev s hs
  have hr := rLex_ev s hs
  obtain ⟨b1, b2⟩ := lex_small s
  have hsm := sameTk_ev (lexA s).1 (lexA s).1 (by unfold lim; omega) (by unfold lim; omega) (fun t ht => by have := b2 t ht; unfold lim; omega) (fun t ht => by have := b2 t ht; unfold lim; omega)
  rw [decide_eq_true rfl] at hsm
  have hn1 := name_ev s hs
  have hn2 := rName_ev s hs
  have hf1 := full_ev s hs
  have hf2 := rFull_ev s hs
  unfold lexV at hp hr
  generalize (lexA s).1 = L at hp hr hsm
  generalize (lexA s).2.1 = A at hp hr
  generalize (lexA s).2.2 = E at hp hr
  have q1 : ((A : Int) == (A : Int)) = true := by simp
  have q1' : (A == A) = true := by simp
  have q2 : (E == E) = true := by simp
  have q3 : (nameL s == nameL s) = true := by simp
  have q4 : (fullL s == fullL s) = true := by simp
  by_cases h1 : 2000 < s.length
  · have d1 : decide ((2000 : Int) < (s.length : Int)) = true := decide_eq_true (by omega)
    by_cases h2 : s.length < 2500
    · have d2 : decide ((s.length : Int) < 2500) = true := decide_eq_true (by omega)
      refine ev_go rfl (fun cargs w => Tryz.call3 cargs w) Tryz.func3 rfl mixed (by kernel_rfl) rfl ?_; intro b0 hb0
      (repeat' first | simp only [fins,mems,Tryz.results3,Tryz.ntmps3,Kt,wks,d1,d2,vcs,Ka,Kb,Kc,Kd,Ke,Kf,Kg,Kh,Ki,Kj,Kk,Kl,Km,reduceCtorEq,reduceIte,Kn,Ko,Kp,Kq,Kr,Ks,tys] | exact rfl | refine call_off (v := .any) ?_ | ((first | apply cond_bool | apply cond_bit) <;> intro hb) | refine And.intro (by omega) ?_ | refine And.intro (fun hb => ?_) (fun hb => ?_) | refine Fin.pure ?_ ?_ ?_ | simp only [injs])
    · have d2 : decide ((s.length : Int) < 2500) = false := decide_eq_false (by omega)
      by_cases h3 : 17000 < s.length
      · have d3 : decide ((17000 : Int) < (s.length : Int)) = true := decide_eq_true (by omega)
        refine ev_go rfl (fun cargs w => Tryz.call3 cargs w) Tryz.func3 rfl mixed (by kernel_rfl) rfl ?_; intro b0 hb0
        (repeat' first | simp only [fins,mems,Tryz.results3,Tryz.ntmps3,Kt,wks,d1,d2,d3,vcs,Ka,Kb,Kc,Kd,Ke,Kf,Kg,Kh,Ki,Kj,Kk,Kl,Km,reduceCtorEq,reduceIte,Kn,Ko,Kp,Kq,Kr,Ks,tys] | exact rfl | refine call_off (v := .any) ?_ | ((first | apply cond_bool | apply cond_bit) <;> intro hb) | refine And.intro (by omega) ?_ | refine And.intro (fun hb => ?_) (fun hb => ?_) | refine Fin.pure ?_ ?_ ?_ | simp only [injs])
      · have d3 : decide ((17000 : Int) < (s.length : Int)) = false := decide_eq_false (by omega)
        refine ev_go rfl (fun cargs w => Tryz.call3 cargs w) Tryz.func3 rfl mixed (by kernel_rfl) rfl ?_; intro b0 hb0
        (repeat' first | simp only [fins,mems,Tryz.results3,Tryz.ntmps3,Kt,wks,plain_tk,d1,d2,d3,q1,q1',q2,q3,q4,vcs,Ka,Kb,Kc,Kd,Ke,Kf,Kg,Kh,Ki,Kj,Kk,Kl,Km,reduceCtorEq,reduceIte,Kn,Ko,Kp,Kq,Kr,Ks,tys] | exact rfl | refine call_off (v := .any) ?_ | ((first | (refine call_fn ?_ (hn1 _) ?_) | (refine call_fn_g ?_ (fun _ => hn1 _) ?_) | (refine call_fn ?_ (hf1 _) ?_) | (refine call_fn_g ?_ (fun _ => hf1 _) ?_)); (focus (simp only [Tryz.results3,Tryz.ntmps3,Kt,wks,plain_tk,d1,d2,d3,q1,q1',q2,q3,q4,vcs,Ka,Kb,Kc,Kd,Ke,Kf,Kg,Kh,Ki,Kj,Kk,Kl,Km,reduceCtorEq,reduceIte,Kn,Ko,Kp,Kq,Kr,Ks,tys] <;> exact rfl))) | ((first | (refine call_fn ?_ (hn2 _) ?_) | (refine call_fn_g ?_ (fun _ => hn2 _) ?_) | (refine call_fn ?_ (hf2 _) ?_) | (refine call_fn_g ?_ (fun _ => hf2 _) ?_)); (focus (simp only [Tryz.results3,Tryz.ntmps3,Kt,wks,plain_tk,d1,d2,d3,q1,q1',q2,q3,q4,vcs,Ka,Kb,Kc,Kd,Ke,Kf,Kg,Kh,Ki,Kj,Kk,Kl,Km,reduceCtorEq,reduceIte,Kn,Ko,Kp,Kq,Kr,Ks,tys] <;> exact rfl))) | (first | (refine call_fn ?_ (hp _) ?_) | (refine call_fn_g ?_ (fun _ => hp _) ?_) | (refine call_fn ?_ (hr _) ?_) | (refine call_fn_g ?_ (fun _ => hr _) ?_) | (refine call_fn ?_ (hsm _) ?_) | (refine call_fn_g ?_ (fun _ => hsm _) ?_)) | ((first | apply cond_bool | apply cond_bit) <;> intro hb) | refine And.intro (by omega) ?_ | refine And.intro (fun hb => ?_) (fun hb => ?_) | refine Fin.pure ?_ ?_ ?_ | simp only [injs])
  · have d1 : decide ((2000 : Int) < (s.length : Int)) = false := decide_eq_false (by omega)
    have d3 : decide ((17000 : Int) < (s.length : Int)) = false := decide_eq_false (by omega)
    refine ev_go rfl (fun cargs w => Tryz.call3 cargs w) Tryz.func3 rfl mixed (by kernel_rfl) rfl ?_; intro b0 hb0
    (repeat' first | simp only [fins,mems,Tryz.results3,Tryz.ntmps3,Kt,wks,plain_tk,d1,d3,q1,q1',q2,q3,q4,vcs,Ka,Kb,Kc,Kd,Ke,Kf,Kg,Kh,Ki,Kj,Kk,Kl,Km,reduceCtorEq,reduceIte,Kn,Ko,Kp,Kq,Kr,Ks,tys] | exact rfl | refine call_off (v := .any) ?_ | ((first | (refine call_fn ?_ (hn1 _) ?_) | (refine call_fn_g ?_ (fun _ => hn1 _) ?_) | (refine call_fn ?_ (hf1 _) ?_) | (refine call_fn_g ?_ (fun _ => hf1 _) ?_)); (focus (simp only [Tryz.results3,Tryz.ntmps3,Kt,wks,plain_tk,d1,d3,q1,q1',q2,q3,q4,vcs,Ka,Kb,Kc,Kd,Ke,Kf,Kg,Kh,Ki,Kj,Kk,Kl,Km,reduceCtorEq,reduceIte,Kn,Ko,Kp,Kq,Kr,Ks,tys] <;> exact rfl))) | ((first | (refine call_fn ?_ (hn2 _) ?_) | (refine call_fn_g ?_ (fun _ => hn2 _) ?_) | (refine call_fn ?_ (hf2 _) ?_) | (refine call_fn_g ?_ (fun _ => hf2 _) ?_)); (focus (simp only [Tryz.results3,Tryz.ntmps3,Kt,wks,plain_tk,d1,d3,q1,q1',q2,q3,q4,vcs,Ka,Kb,Kc,Kd,Ke,Kf,Kg,Kh,Ki,Kj,Kk,Kl,Km,reduceCtorEq,reduceIte,Kn,Ko,Kp,Kq,Kr,Ks,tys] <;> exact rfl))) | (first | (refine call_fn ?_ (hp _) ?_) | (refine call_fn_g ?_ (fun _ => hp _) ?_) | (refine call_fn ?_ (hr _) ?_) | (refine call_fn_g ?_ (fun _ => hr _) ?_) | (refine call_fn ?_ (hsm _) ?_) | (refine call_fn_g ?_ (fun _ => hsm _) ?_)) | ((first | apply cond_bool | apply cond_bit) <;> intro hb) | refine And.intro (by omega) ?_ | refine And.intro (fun hb => ?_) (fun hb => ?_) | refine Fin.pure ?_ ?_ ?_ | simp only [injs])
theorem lexTells_args (xs : List V) (h : ShapeArgs cx.P Tryz.f3.params.toList xs) : Ev cx 3 0 xs Mem.nil (.bool true) [] := by
  rw [Tryz.params3] at h
  obtain ⟨_, v1, _, rfl, h1, h3⟩ := h
  obtain rfl := args_nil h3
  obtain ⟨s, rfl, hs⟩ := shape_str kind_9 h1
  rw [argV_one kind_9 (by simp)]
  exact lexTells_main s (by unfold lim; omega) 0
end Go.Proofs.YtoaclokiggoeiaaGreatDoor
