/-
  The machine of plain values: loops that go up to a number. No program in sight.
-/
import Derived.Test.YtdbbnhmnlgfjoaaVv
import Derived.IntWalk
namespace Go.Proofs.Ytdbbnhmnlgfjoaa.Vm
set_option linter.unusedSimpArgs false
set_option linter.unusedVariables false
open Go Go.RowKit

theorem lt_ne {a b : Nat} (h : a < b) : (a = b) = False := eq_false (by omega)
theorem lt_ne' {a b : Nat} (h : a < b) : (b = a) = False := eq_false (by omega)
theorem lt_ne_add {a b : Nat} (h : a < b) (c : Nat) : (a = b + c) = False := eq_false (by omega)
theorem lt_ne_add' {a b : Nat} (h : a < b) (c : Nat) : (b + c = a) = False := eq_false (by omega)
theorem wrap_in {n : Int} (h1 : -9223372036854775808 ≤ n) (h2 : n ≤ 9223372036854775807) : IntKind.i64.wrap n = n := IntWalk.i64_in _ ⟨h1, h2⟩
theorem wrap_up {k n : Nat} (h : k < n) (hn : n ≤ 4611686018427387904) : IntKind.i64.wrap ((k : Int) + 1) = ((k + 1 : Nat) : Int) := by
  rw [wrap_in (by omega) (by omega)]; push_cast; rfl
/-- Names from nm on are none of those below b + n. -/
theorem far {b n nm : Nat} (h : b + n ≤ nm) (h0 : 0 < n) : (∀ c, (b = nm + c) = False) ∧ (b = nm) = False ∧ (∀ j c, j < n → (b + j = nm + c) = False) ∧ ∀ j, j < n → (b + j = nm) = False :=
  ⟨fun c => eq_false (by omega), eq_false (by omega), fun j c hj => eq_false (by omega), fun j hj => eq_false (by omega)⟩
/-- Round k of n. -/
def upJ (n : Nat) (J : Nat → Nat → Env → Mem → Prop) (g nm : Nat) (e : Env) (M : Mem) : Prop := ∃ k, k ≤ n ∧ g = n - k ∧ J k nm e M
section
variable {cx : Cx} {Q : Post} {st : List Frm} {nm : Nat} {e : Env} {M : Mem}
theorem loop_up {c : Code} (n : Nat) (J : Nat → Nat → Env → Mem → Prop) (h0 : J 0 nm e M) (hr : ∀ k nm e M, k ≤ n → J k nm e M → go cx Q (.again (upJ n J) (n - k) :: st) nm e M c) : goLoop cx Q st nm e M c :=
  loop_by (upJ n J) n ⟨0, Nat.zero_le _, rfl, h0⟩ (by rintro g nm e M ⟨k, hk, rfl, hj⟩; exact hr k nm e M hk hj)
theorem again_up {n k : Nat} {J : Nat → Nat → Env → Mem → Prop} (hk : k < n) (h : J (k + 1) nm e M) : goEx cx Q (.again (upJ n J) (n - k) :: st) nm e M .normal :=
  again_by (n - (k + 1)) (by omega) ⟨k + 1, by omega, rfl, h⟩
end
end Go.Proofs.Ytdbbnhmnlgfjoaa.Vm
