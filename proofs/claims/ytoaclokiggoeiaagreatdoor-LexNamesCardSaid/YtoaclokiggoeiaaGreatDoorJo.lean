/-
  Texts joined: XEk.
-/
import Derived.Test.YtoaclokiggoeiaaGreatDoorJh
import Derived.Test.YtoaclokiggoeiaaGreatDoorJf
namespace Go.Proofs.YtoaclokiggoeiaaGreatDoor
set_option maxRecDepth 100000
set_option maxHeartbeats 32000000
set_option linter.unusedSimpArgs false
set_option linter.unusedVariables false
open Nat renaming reduceAdd → Ka, reduceMul → Kb, reduceEqDiff → Kc, reduceLeDiff → Kd, reduceSub → Ke, reduceLT → Kf, reduceBEq → Kr, reduceBNe → Ks, reducePow → Kt
open Int renaming reduceToNat → Kg, reduceLE → Kh, reduceLT → Ki, reduceAdd → Kj, reduceSub → Kk, reduceMul → Kl, reduceNeg → Km, reduceBEq → Kn, reduceBNe → Ko, reduceEq → Kp, reduceNe → Kq
open Go Go.RowKit Go.Proofs.YtoaclokiggoeiaaGreatDoor.Vm Go.Lib
theorem orO : ∀ n : Nat, n < 256 → (decide (97 ≤ IntKind.u8.wrap ((BitVec.ofInt IntKind.u8.bits (n : Int) ||| BitVec.ofInt IntKind.u8.bits 32).toNat : Int)) && decide (IntKind.u8.wrap ((BitVec.ofInt IntKind.u8.bits (n : Int) ||| BitVec.ofInt IntKind.u8.bits 32).toNat : Int) ≤ 122)) = ((decide (97 ≤ n) && decide (n ≤ 122)) || (decide (65 ≤ n) && decide (n ≤ 90))) := by decide +kernel
theorem part_leaves : ∀ p1 p2 p5 f p6 p7 p8 p9 : Bool, (p1 = true ∧ p2 = true) ∨ (p1 = true ∧ p2 = false ∧ p5 = true) ∨ (p1 = false ∧ p5 = true) ∨ (p1 = true ∧ p2 = false ∧ p5 = false ∧ f = true) ∨ (p1 = false ∧ p5 = false ∧ f = true) ∨
    (p1 = true ∧ p2 = false ∧ p5 = false ∧ f = false ∧ p6 = true ∧ p7 = true) ∨ (p1 = true ∧ p2 = false ∧ p5 = false ∧ f = false ∧ p6 = true ∧ p7 = false ∧ p8 = true) ∨ (p1 = true ∧ p2 = false ∧ p5 = false ∧ f = false ∧ p6 = true ∧ p7 = false ∧ p8 = false) ∨
    (p1 = true ∧ p2 = false ∧ p5 = false ∧ f = false ∧ p6 = false ∧ p8 = true) ∨ (p1 = true ∧ p2 = false ∧ p5 = false ∧ f = false ∧ p6 = false ∧ p8 = false) ∨
    (p1 = false ∧ p5 = false ∧ f = false ∧ p6 = true ∧ p7 = true) ∨ (p1 = false ∧ p5 = false ∧ f = false ∧ p6 = true ∧ p7 = false ∧ p8 = true) ∨ (p1 = false ∧ p5 = false ∧ f = false ∧ p6 = true ∧ p7 = false ∧ p8 = false) ∨
    (p1 = false ∧ p5 = false ∧ f = false ∧ p6 = false ∧ p8 = true) ∨ (p1 = false ∧ p5 = false ∧ f = false ∧ p6 = false ∧ p8 = false) := by
  intro p1 p2 p5 f p6 p7 p8 p9; cases p1 <;> cases p2 <;> cases p5 <;> cases f <;> cases p6 <;> cases p7 <;> cases p8 <;> simp
theorem partB_eq {c : UInt8} {f p1 p2 p5 p6 p7 p8 p9 : Bool} (h1 : decide (97 ≤ IntKind.u8.wrap ((BitVec.ofInt IntKind.u8.bits (c.toNat : Int) ||| BitVec.ofInt IntKind.u8.bits 32).toNat : Int)) = p1) (h2 : decide (IntKind.u8.wrap ((BitVec.ofInt IntKind.u8.bits (c.toNat : Int) ||| BitVec.ofInt IntKind.u8.bits 32).toNat : Int) ≤ 122) = p2)
    (h5 : decide (c = 95) = p5) (h6 : decide ((48 : Int) ≤ c.toNat) = p6) (h7 : decide ((c.toNat : Int) ≤ 57) = p7) (h8 : decide (c = 46) = p8) (h9 : decide (c = 45) = p9) : partB f c = ((p1 && p2) || p5 || (!f && ((p6 && p7) || p8 || p9))) := by
  have e := orO c.toNat c.toNat_lt
  rw [h1, h2] at e
  unfold partB letB
  rw [← e, ← h5, ← h6, ← h7, ← h8, ← h9]
  have e1 : ((48 : Int) ≤ c.toNat) = (48 ≤ c.toNat) := propext (by omega)
  have e2 : ((c.toNat : Int) ≤ 57) = (c.toNat ≤ 57) := propext (by omega)
  simp only [e1,e2]
theorem part_ev (c : UInt8) (f : Bool) (nm : Nat) : Ev cx 27 nm [.int .u8 c.toNat, .bool f] Mem.nil (.bool (partB f c)) [] := by
  have q5 : ((c.toNat : Int) == 95) = decide (c = 95) := beq_byte c 95
  have q8 : ((c.toNat : Int) == 46) = decide (c = 46) := beq_byte c 46
  have q9 : ((c.toNat : Int) == 45) = decide (c = 45) := beq_byte c 45
  generalize h1 : decide (97 ≤ IntKind.u8.wrap ((BitVec.ofInt IntKind.u8.bits (c.toNat : Int) ||| BitVec.ofInt IntKind.u8.bits 32).toNat : Int)) = p1
  generalize h2 : decide (IntKind.u8.wrap ((BitVec.ofInt IntKind.u8.bits (c.toNat : Int) ||| BitVec.ofInt IntKind.u8.bits 32).toNat : Int) ≤ 122) = p2
  generalize h5 : decide (c = 95) = p5
  generalize h6 : decide ((48 : Int) ≤ c.toNat) = p6
  generalize h7 : decide ((c.toNat : Int) ≤ 57) = p7
  generalize h8 : decide (c = 46) = p8
  generalize h9 : decide (c = 45) = p9
  have he := partB_eq (f := f) h1 h2 h5 h6 h7 h8 h9
  rcases part_leaves p1 p2 p5 f p6 p7 p8 p9 with ⟨rfl, rfl⟩ | ⟨rfl, rfl, rfl⟩ | ⟨rfl, rfl⟩ | ⟨rfl, rfl, rfl, rfl⟩ | ⟨rfl, rfl, rfl⟩ | ⟨rfl, rfl, rfl, rfl, rfl, rfl⟩ | ⟨rfl, rfl, rfl, rfl, rfl, rfl, rfl⟩ | ⟨rfl, rfl, rfl, rfl, rfl, rfl, rfl⟩ | ⟨rfl, rfl, rfl, rfl, rfl, rfl⟩ | ⟨rfl, rfl, rfl, rfl, rfl, rfl⟩ | ⟨rfl, rfl, rfl, rfl, rfl⟩ | ⟨rfl, rfl, rfl, rfl, rfl, rfl⟩ | ⟨rfl, rfl, rfl, rfl, rfl, rfl⟩ | ⟨rfl, rfl, rfl, rfl, rfl⟩ | ⟨rfl, rfl, rfl, rfl, rfl⟩
  all_goals simp only [Bool.true_and,Bool.false_and,Bool.and_false,Bool.true_or,Bool.or_true,Bool.false_or,Bool.or_false,Bool.and_true,Bool.not_true,Bool.not_false] at he
  all_goals (
    refine ev_go rfl (fun cargs w => Tryz.call27 cargs w) Tryz.func27 rfl mixed (by kernel_rfl) rfl ?_; intro b0 hb0
    (repeat' first | simp only [fins,mems,Tryz.results27,Tryz.ntmps27,Kt,wks,q5,q8,q9,h1,h2,h5,h6,h7,h8,h9,he,vcs,Ka,Kb,Kc,Kd,Ke,Kf,Kg,Kh,Ki,Kj,Kk,Kl,Km,reduceCtorEq,reduceIte,Kn,Ko,Kp,Kq,Kr,Ks,tys] | exact rfl | refine call_off (v := .any) ?_ | ((first | apply cond_bool | apply cond_bit) <;> intro hb) | refine And.intro (by omega) ?_ | refine And.intro (fun hb => ?_) (fun hb => ?_) | refine Fin.pure ?_ ?_ ?_ | simp only [injs]))
end Go.Proofs.YtoaclokiggoeiaaGreatDoor
