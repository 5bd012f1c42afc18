/-
  Texts joined: XEd, XEh, XEt, XEi.
-/
import Derived.Test.YtoaclokiggoeiaaGreatDoorJg
namespace Go.Proofs.YtoaclokiggoeiaaGreatDoor
set_option maxRecDepth 100000
set_option maxHeartbeats 32000000
set_option linter.unusedSimpArgs false
set_option linter.unusedVariables false
open Nat renaming reduceAdd → Ka, reduceMul → Kb, reduceEqDiff → Kc, reduceLeDiff → Kd, reduceSub → Ke, reduceLT → Kf, reduceBEq → Kr, reduceBNe → Ks, reducePow → Kt
open Int renaming reduceToNat → Kg, reduceLE → Kh, reduceLT → Ki, reduceAdd → Kj, reduceSub → Kk, reduceMul → Kl, reduceNeg → Km, reduceBEq → Kn, reduceBNe → Ko, reduceEq → Kp, reduceNe → Kq
open Go Go.RowKit Go.Proofs.YtoaclokiggoeiaaGreatDoor.Vm
end Go.Proofs.YtoaclokiggoeiaaGreatDoor
namespace Go.Proofs.YtoaclokiggoeiaaGreatDoor
set_option maxRecDepth 100000
set_option maxHeartbeats 32000000
set_option linter.unusedSimpArgs false
set_option linter.unusedVariables false
open Nat renaming reduceAdd → Ka, reduceMul → Kb, reduceEqDiff → Kc, reduceLeDiff → Kd, reduceSub → Ke, reduceLT → Kf, reduceBEq → Kr, reduceBNe → Ks, reducePow → Kt
open Int renaming reduceToNat → Kg, reduceLE → Kh, reduceLT → Ki, reduceAdd → Kj, reduceSub → Kk, reduceMul → Kl, reduceNeg → Km, reduceBEq → Kn, reduceBNe → Ko, reduceEq → Kp, reduceNe → Kq
open Go Go.RowKit Go.Proofs.YtoaclokiggoeiaaGreatDoor.Vm Go.Lib
theorem enc_rows {z : Int} (h0 : 0 ≤ z) (h1 : z < 256) : byteRow (z.toNat.toUInt8) = [V.int .u8 z] := by
  have := mod64 h0 h1
  unfold byteRow
  rw [this]
  congr 2; omega
theorem enc1 {z : Int} (h0 : 0 ≤ z) (h1 : z ≤ 127) : (encodeRune z).map byteRow = [[V.int .u8 z]] := by
  simp only [encodeRune,encodeRuneZ_one h0 h1,List.map_cons,List.map_nil]
  rw [enc_rows (by omega) (by omega)]
theorem enc2 {z : Int} (h0 : 128 ≤ z) (h1 : z ≤ 2047) : (encodeRune z).map byteRow = [[V.int .u8 (192 + z / 64)], [V.int .u8 (128 + z % 64)]] := by
  simp only [encodeRune,encodeRuneZ_two h0 h1,List.map_cons,List.map_nil]
  rw [enc_rows (by omega) (by omega), enc_rows (by omega) (by omega)]
theorem enc3 {z : Int} (h0 : (2048 ≤ z ∧ z < 55296) ∨ (57343 < z ∧ z ≤ 65535)) : (encodeRune z).map byteRow = [[V.int .u8 (224 + z / 4096)], [V.int .u8 (128 + z / 64 % 64)], [V.int .u8 (128 + z % 64)]] := by
  simp only [encodeRune,encodeRuneZ_three h0,List.map_cons,List.map_nil]
  rw [enc_rows (by omega) (by omega), enc_rows (by omega) (by omega), enc_rows (by omega) (by omega)]
theorem enc4 {z : Int} (h0 : 65536 ≤ z) (h1 : z ≤ 1114111) : (encodeRune z).map byteRow = [[V.int .u8 (240 + z / 262144)], [V.int .u8 (128 + z / 4096 % 64)], [V.int .u8 (128 + z / 64 % 64)], [V.int .u8 (128 + z % 64)]] := by
  simp only [encodeRune,encodeRuneZ_four h0 h1,List.map_cons,List.map_nil]
  rw [enc_rows (by omega) (by omega), enc_rows (by omega) (by omega), enc_rows (by omega) (by omega), enc_rows (by omega) (by omega)]
end Go.Proofs.YtoaclokiggoeiaaGreatDoor
namespace Go.Proofs.YtoaclokiggoeiaaGreatDoor
set_option maxRecDepth 100000
set_option maxHeartbeats 32000000
set_option linter.unusedSimpArgs false
set_option linter.unusedVariables false
open Go Go.RowKit Go.Proofs.YtoaclokiggoeiaaGreatDoor.Vm Go.Lib
theorem one_bsI (bs : List UInt8) : ((bs.map byteRow).all fun r => r.all V.one) = true := by
  rw [List.all_eq_true]
  intro r hr
  obtain ⟨c, _, rfl⟩ := List.mem_map.1 hr
  rfl
theorem isRow_typed (t : TypeId) : (Ob.typed t).isRow = true := rfl
theorem tyT (s : Nat) (r : List (List V)) (t : TypeId) : Blk.ty (@Blk.mk s r (.typed t)) = some t := rfl
theorem ren_bytesI (σ : List (Nat × Nat)) (bs : List UInt8) (t : TypeId) : Blk.ren σ (@Blk.mk 1 (bs.map byteRow) (.typed t)) = @Blk.mk 1 (bs.map byteRow) (.typed t) := by
  have h : plainLL (bs.map byteRow) = true := plainLL_map _ (fun _ => rfl) bs
  simp only [Blk.ren,renLL,h,if_true]
theorem renOk_bytesI (σ : List (Nat × Nat)) (bs : List UInt8) (t : TypeId) : Blk.renOk σ (@Blk.mk 1 (bs.map byteRow) (.typed t)) = true := by
  have h : plainLL (bs.map byteRow) = true := plainLL_map _ (fun _ => rfl) bs
  simp only [Blk.renOk,renOkLL,h,Bool.true_or,Bool.true_and]
  rfl
end Go.Proofs.YtoaclokiggoeiaaGreatDoor
namespace Go.Proofs.YtoaclokiggoeiaaGreatDoor
set_option maxRecDepth 100000
set_option maxHeartbeats 32000000
set_option linter.unusedSimpArgs false
set_option linter.unusedVariables false
open Nat renaming reduceAdd → Ka, reduceMul → Kb, reduceEqDiff → Kc, reduceLeDiff → Kd, reduceSub → Ke, reduceLT → Kf, reduceBEq → Kr, reduceBNe → Ks, reducePow → Kt
open Int renaming reduceToNat → Kg, reduceLE → Kh, reduceLT → Ki, reduceAdd → Kj, reduceSub → Kk, reduceMul → Kl, reduceNeg → Km, reduceBEq → Kn, reduceBNe → Ko, reduceEq → Kp, reduceNe → Kq
open Go Go.RowKit Go.Proofs.YtoaclokiggoeiaaGreatDoor.Vm Go.Lib
end Go.Proofs.YtoaclokiggoeiaaGreatDoor
