/-
  Texts joined: XSi,XSj,XSk.
-/
import Derived.Test.YtjdjclecdfhciaaGreatDoorQs
import Derived.Test.YtjdjclecdfhciaaGreatDoorQh
namespace Go.Proofs.YtjdjclecdfhciaaGreatDoor
set_option maxRecDepth 100000
set_option maxHeartbeats 32000000
set_option linter.unusedSimpArgs false
set_option linter.unusedVariables false
open Go Go.RowKit Vm Go.Lib Tryz
open Vm renaming cond_bool → Ca,cond_bit → Cb
open And renaming intro → Ai
open List renaming length_map → Lm,not_mem_nil → Ln,map_nil → Lo,map_cons → Lc,mem_cons → Lk
open Bool renaming not_false → Bf,not_true → Bt
def checkB (v : List Nd) : Int := if (behindO v).isNone = true then 8 else 0
theorem ends_ok {v : List Nd} {en : List Nat} (h : behindO v = some en) : en.length = v.length ∧ 0 < v.length ∧ v.length ≤ 512 ∧ ∀ i e,en[i]? = some e → i < e ∧ e ≤ v.length := by
  obtain ⟨n,k,h1,h2,h3,h4,h5⟩ := behind_iff.1 h
  have hl : v.length = k.size + 1 := by rw [h2]; simp [Fo.flat_length]
  have he : en = (Fo.cons n k .nil).ends 0 := by rw [h5]; simp [Fo.ends]
  refine ⟨by rw [h5]; simp [Fo.ends_length,hl],by omega,h4,fun i e hi => ?_⟩
  rw [he] at hi
  have := ends_up _ _ _ _ hi
  simp only [Fo.size] at this
  omega
theorem checkT_ev (v : List Nd) (hv : v.length ≤ lim) (hok : ∀ n ∈ v,n.okTo lim ∧ n.i64) (nm : Nat) : Ev cx 26 nm [.sl false 6 (v.map ndC)] Mem.nil (.int .i64 (checkB v)) [] := by
  unfold checkB
  cases h : behindO v with
  | none =>
    have hb := behind_none_ev v hv hok h
    refine ev_go rfl (fun cargs w => call26 cargs w) func26 rfl mixed (by kernel_rfl) rfl ?_; intro b0 hb0
    (repeat' first | simp only [fins,mems,results26,ntmps26,wks,Option.isNone_none,if_true,plain_nd,vcs,seval,tys] | exact rfl | refine call_off (v := .any) ?_ | (first | (refine call_fn ?_ (hb _) ?_) | (refine call_fn_g ?_ (fun _ => hb _) ?_)) | ((first | apply Ca | apply Cb) <;> intro hb) | refine Ai (by omega) ?_ | (apply Ai <;> intro hb) | refine Fin.pure ?_ ?_ ?_ | simp only [injs])
  | some en =>
    have hb := behind_some_ev v hv hok h
    have h0 : decide (v.length = 0) = false := decide_eq_false (by have := (ends_ok h).2.1; omega)
    refine ev_go rfl (fun cargs w => call26 cargs w) func26 rfl mixed (by kernel_rfl) rfl ?_; intro b0 hb0
    repeat' first | simp only [fins,mems,results26,ntmps26,wks,Option.isNone_some,Bool.false_eq_true,if_false,plain_nd,plain_no,h0,vcs,seval,tys] | exact rfl | refine call_off (v := .any) ?_ | (refine call_fn_new ?_ (hb _) ?_ ?_) | omega | ((first | apply Ca | apply Cb) <;> intro hb) | refine Ai (by omega) ?_ | (apply Ai <;> intro hb)
    all_goals (first | (cases hb; done) | ((refine Fin.pure ?_ ?_ ?_ <;> simp only [Option.isNone_some,Bool.false_eq_true,if_false,plain_nd,results26,ntmps26,vcs,seval,tys])))
theorem mayN_attrs {n : Nd} (h : mayN n = true) : n.attrs.length ≤ 16 ∧ n.text.length ≤ 16384 := by
  rcases mayN_kind h with hk | hk
  · obtain ⟨h1, _, _, h4⟩ := mayN_elem h hk
    exact ⟨(ats_iff.1 h4).1,by rw [h1]; simp⟩
  · obtain ⟨_, _, h3, _, _, h6⟩ := mayN_text h hk
    exact ⟨by rw [h3]; simp,ptsErr_len h6⟩
end Go.Proofs.YtjdjclecdfhciaaGreatDoor
