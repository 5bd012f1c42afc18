/-
  Plain laws of layer 5: the document's own way to cut bytes into code points is layer 5's. No program in sight.
-/
import Derived.Test.YtocoajmhdobagaaDoorTq
namespace Go.Proofs.YtocoajmhdobagaaDoor
open Go Go.RowKit Go.Lib

def headS (c : Int) : Int := if c < 128 then 1 else if 192 ≤ c ∧ c < 224 then 2 else if 224 ≤ c ∧ c < 240 then 3 else if 240 ≤ c ∧ c < 248 then 4 else 0
def headN (c : Int) : Int := if c < 128 then c else if 192 ≤ c ∧ c < 224 then c - 192 else if 224 ≤ c ∧ c < 240 then c - 224 else if 240 ≤ c ∧ c < 248 then c - 240 else 0
def contN (n : Int) (l : List UInt8) : Int := l.foldl (fun n b => 64 * n + (b.toNat : Int) % 64) n
def oneZ (l : List UInt8) : Int := match one l with | some (z, _) => z | none => 0
def oneK (l : List UInt8) : Int := match one l with | some (_, k) => (k : Int) | none => 0

theorem headS_range (c : Int) : 0 ≤ headS c ∧ headS c ≤ 4 := by
  unfold headS; repeat' split
  all_goals omega
theorem headN_range {c : Int} (h : 0 ≤ c ∧ c < 256) : 0 ≤ headN c ∧ headN c ≤ 127 ∧ (headS c ≠ 1 → headN c ≤ 31) := by
  unfold headN headS; repeat' split
  all_goals omega
theorem contN_snoc (n : Int) (l : List UInt8) (b : UInt8) : contN n (l ++ [b]) = 64 * contN n l + (b.toNat : Int) % 64 := by simp [contN]

/-- What is written as a code point that may be, is read so from its head. -/
theorem head_enc {z : Int} (hm : may z = true) : ∃ b rest, encodeRune z = b :: rest ∧ headS (b.toNat : Int) = ((encodeRune z).length : Nat) ∧ contN (headN (b.toNat : Int)) rest = z := by
  have hmz := (may_iff z).1 hm
  by_cases c1 : 0 ≤ z ∧ z ≤ 127
  · have e : encodeRune z = [z.toNat.toUInt8] := by simp [encodeRune, encodeRuneZ_one c1.1 c1.2]
    have a := mod64 (x := z) (by omega) (by omega)
    refine ⟨_, _, e, ?_, ?_⟩
    · rw [e, a]; unfold headS; rw [if_pos (by omega)]; rfl
    · rw [a]; unfold headN; rw [if_pos (by omega)]; simp [contN]; omega
  · by_cases c2 : 128 ≤ z ∧ z ≤ 2047
    · have e : encodeRune z = [(192 + z / 64).toNat.toUInt8, (128 + z % 64).toNat.toUInt8] := by simp [encodeRune, encodeRuneZ_two c2.1 c2.2]
      have a := mod64 (x := 192 + z / 64) (by omega) (by omega)
      have b := mod64 (x := 128 + z % 64) (by omega) (by omega)
      refine ⟨_, _, e, ?_, ?_⟩
      · rw [e, a]; unfold headS; rw [if_neg (by omega), if_pos (by omega)]; rfl
      · rw [a]; unfold headN; rw [if_neg (by omega), if_pos (by omega)]; simp only [contN, List.foldl_cons, List.foldl_nil, b]; omega
    · by_cases c3 : z ≤ 65535
      · have e : encodeRune z = [(224 + z / 4096).toNat.toUInt8, (128 + z / 64 % 64).toNat.toUInt8, (128 + z % 64).toNat.toUInt8] := by simp [encodeRune, encodeRuneZ_three (r := z) (by omega)]
        have a := mod64 (x := 224 + z / 4096) (by omega) (by omega)
        have b := mod64 (x := 128 + z / 64 % 64) (by omega) (by omega)
        have c := mod64 (x := 128 + z % 64) (by omega) (by omega)
        refine ⟨_, _, e, ?_, ?_⟩
        · rw [e, a]; unfold headS; rw [if_neg (by omega), if_neg (by omega), if_pos (by omega)]; rfl
        · rw [a]; unfold headN; rw [if_neg (by omega), if_neg (by omega), if_pos (by omega)]; simp only [contN, List.foldl_cons, List.foldl_nil, b, c]; omega
      · have e : encodeRune z = [(240 + z / 262144).toNat.toUInt8, (128 + z / 4096 % 64).toNat.toUInt8, (128 + z / 64 % 64).toNat.toUInt8, (128 + z % 64).toNat.toUInt8] := by simp [encodeRune, encodeRuneZ_four (r := z) (by omega) (by omega)]
        have a := mod64 (x := 240 + z / 262144) (by omega) (by omega)
        have b := mod64 (x := 128 + z / 4096 % 64) (by omega) (by omega)
        have c := mod64 (x := 128 + z / 64 % 64) (by omega) (by omega)
        have d := mod64 (x := 128 + z % 64) (by omega) (by omega)
        refine ⟨_, _, e, ?_, ?_⟩
        · rw [e, a]; unfold headS; rw [if_neg (by omega), if_neg (by omega), if_neg (by omega), if_pos (by omega)]; rfl
        · rw [a]; unfold headN; rw [if_neg (by omega), if_neg (by omega), if_neg (by omega), if_pos (by omega)]; simp only [contN, List.foldl_cons, List.foldl_nil, b, c, d]; omega

/-- The document's way: yes. -/
theorem one_yes {l : List UInt8} {n : Int} {k : Nat} (hm : may n = true) (he : encodeRune n = l.take k) (hk : k ≤ l.length) : one l = some (n, k) := by
  have h := one_enc hm (l.drop k)
  have hlen : (encodeRune n).length = k := by rw [he, List.length_take]; omega
  rw [hlen, he, List.take_append_drop] at h
  exact h
/-- The document's way: no. -/
theorem one_no {b : UInt8} {l : List UInt8} {k : Nat} (hs : headS (b.toNat : Int) = k) (hno : k = 0 ∨ (b :: l).length < k ∨ (k ≤ (b :: l).length ∧ ∀ n, n = contN (headN (b.toNat : Int)) (l.take (k - 1)) → may n = true → encodeRune n ≠ (b :: l).take k)) : one (b :: l) = none := by
  cases h : one (b :: l) with
  | none => rfl
  | some p =>
    obtain ⟨z, j⟩ := p
    obtain ⟨_, hm, he, hj1, hj2⟩ := one_some h
    obtain ⟨b', rest, e1, e2, e3⟩ := head_enc hm
    have hlen : (encodeRune z).length = j := by rw [he, List.length_take]; omega
    obtain ⟨j', rfl⟩ : ∃ j', j = j' + 1 := ⟨j - 1, by omega⟩
    rw [he, List.take_succ_cons] at e1
    obtain ⟨e4, e5⟩ := List.cons.inj e1
    subst e4
    rw [hlen] at e2
    have hkj : k = j' + 1 := by rw [hs] at e2; exact Int.ofNat.inj e2
    subst hkj
    rcases hno with h0 | h0 | ⟨_, h0⟩
    · omega
    · omega
    · refine absurd he (h0 z ?_ hm)
      rw [← e3, ← e5]; rfl
end Go.Proofs.YtocoajmhdobagaaDoor
